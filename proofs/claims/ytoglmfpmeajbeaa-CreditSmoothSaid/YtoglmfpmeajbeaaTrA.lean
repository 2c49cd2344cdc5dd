/- Traces: plain words, and a slice of arrivals in memory. -/
import Derived.Test.YtoglmfpmeajbeaaBkW
namespace Go.Proofs.Ytoglmfpmeajbeaa
set_option linter.unusedSimpArgs false
set_option linter.unusedVariables false
open Go.RowKit
namespace Tr
/-- The slice with address A reads as this trace. -/
def Arr (w : World) (B : Nat) (A : Option Addr) (l : List (Int × Int)) : Prop :=
  ∀ (i : Nat) (x : Int × Int), l[i]? = some x → ∃ ad, A = some ad ∧ ad.block < B ∧ w.cell? (ad.add (i * 2)) = some (.int .i64 x.1) ∧ w.cell? ⟨(ad.add (i * 2)).block, (ad.add (i * 2)).off + 1, none⟩ = some (.int .i64 x.2)
theorem block_add (a : Addr) (n : Nat) : (a.add n).block = a.block := by unfold Addr.add; split <;> rfl
theorem add_add (a : Addr) (i j : Nat) : (a.add i).add j = a.add (i + j) := by
  unfold Addr.add
  by_cases hi : i = 0 <;> by_cases hj : j = 0 <;> simp [hi, hj, Nat.add_assoc]
theorem Arr.keep {w w' : World} {B : Nat} {A : Option Addr} {l : List (Int × Int)} (h : Arr w B A l) (hk : ∀ p : Addr, p.block < B → w'.cell? p = w.cell? p) : Arr w' B A l := fun i x hx => by
  obtain ⟨ad, e, hb, h1, h2⟩ := h i x hx
  exact ⟨ad, e, hb, (hk _ (by rw [block_add]; exact hb)).trans h1, (hk _ (by show (ad.add (i * 2)).block < B; rw [block_add]; exact hb)).trans h2⟩
theorem Arr.below {w w' : World} {B : Nat} {A : Option Addr} {l : List (Int × Int)} (h : Arr w B A l) (hb : Below B w w') : Arr w' B A l := h.keep fun _ hp => hb.cell hp
theorem Arr.of_lt {w : World} {B B' : Nat} {A : Option Addr} {l : List (Int × Int)} (h : Arr w B A l) (hB : B ≤ B') : Arr w B' A l := fun i x hx => by
  obtain ⟨ad, e, hb, h1, h2⟩ := h i x hx
  exact ⟨ad, e, by omega, h1, h2⟩
def stepOk (last : Int) (x : Int × Int) : Bool := decide (last ≤ x.1 ∧ x.1 ≤ 1099511627776) && decide (1 ≤ x.2 ∧ x.2 ≤ 1048576)
def okFrom (last : Int) : List (Int × Int) → Bool
  | [] => true
  | x :: l => stepOk last x && okFrom x.1 l
def ok (l : List (Int × Int)) : Bool := decide (l.length ≤ 200) && okFrom 0 l
def chk (l : List (Int × Int)) : Int := if ok l then 0 else 131
end Tr
namespace Tr
theorem okFrom_step {last : Int} {x : Int × Int} {l : List (Int × Int)} {k : Nat} (hx : l[k]? = some x) : okFrom last (l.drop k) = (stepOk last x && okFrom x.1 (l.drop (k + 1))) := by
  obtain ⟨hk, rfl⟩ := List.getElem?_eq_some_iff.1 hx
  rw [List.drop_eq_getElem_cons hk]; rfl
end Tr
namespace BkW
set_option maxHeartbeats 1000000 in
theorem CheckTrace_any (A : Option Addr) (l : List (Int × Int)) (cap : Nat) (w : World) (hA : Tr.Arr w w.heap.size A l) (hl : l.length ≤ 100000) :
    Calls Try.prog 30 #[.slice A l.length cap] w fun e w' => e = .returned (.int .i64 (Tr.chk l)) ∧ Below w.heap.size w w' := by
  go_enter Try.func30, Try.ntmps30
  by_cases h200 : l.length ≤ 200
  · go_wp2_with fail
    go_loopw [11, 3] (fun i s wr => ∃ k : Nat, k ≤ l.length ∧ i = .int .i64 k ∧ (∃ last : Int, s = .int .i64 last ∧ (Tr.ok l = Tr.okFrom last (l.drop k))) ∧ Below w.heap.size w wr) (fun i _ _ => l.length - (intOf i).toNat)
    case atStart => exact ⟨0, by omega, rfl, ⟨0, rfl, by unfold Tr.ok; rw [decide_eq_true h200]; rfl⟩, Below.refl _ _⟩
    case round =>
      obtain ⟨k, hk, rfl, ⟨last, rfl, he⟩, hb⟩ := hrel
      by_cases hlt : k < l.length
      · obtain ⟨x, hx⟩ : ∃ x, l[k]? = some x := ⟨l[k], List.getElem?_eq_getElem hlt⟩
        obtain ⟨ad, rfl, hbk, hc0, hc1⟩ := (hA.below hb) k x hx
        have hs := Tr.okFrom_step (last := last) hx
        have HB := Lib.hid hb
        have HE := Lib.hid (he.trans hs)
        clear hs he hx hA hb
        go_wp2_with fail
        refine (between_any _ _ _ _).mono ?_
        rintro e w1 ⟨rfl, rfl⟩
        refine stop ?_
        cases h1 : decide (last ≤ x.1 ∧ x.1 ≤ 1099511627776)
        · refine Stopped.mk ?_
          have HN : Hid (Tr.ok l = false) := by rw [HE.out]; unfold Tr.stepOk; rw [h1]; rfl
          clear h1
          go_wp2_with fail
          go_ret
          exact ⟨ret_int (by unfold Tr.chk; rw [HN.out]; rfl), Below.alloc HB.out HB.out.size _⟩
        · refine Stopped.mk ?_
          go_wp2_with fail
          refine (between_any _ _ _ _).mono ?_
          rintro e w1 ⟨rfl, rfl⟩
          refine stop ?_
          cases h2 : decide (1 ≤ x.2 ∧ x.2 ≤ 1048576)
          · refine Stopped.mk ?_
            have HN : Hid (Tr.ok l = false) := by rw [HE.out]; unfold Tr.stepOk; rw [h1, h2]; rfl
            clear h1 h2
            go_wp2_with fail
            go_ret
            exact ⟨ret_int (by unfold Tr.chk; rw [HN.out]; rfl), Below.alloc HB.out HB.out.size _⟩
          · refine Stopped.mk ?_
            have HN : Hid (Tr.ok l = Tr.okFrom x.1 (l.drop (k + 1))) := by rw [HE.out]; unfold Tr.stepOk; rw [h1, h2]; rfl
            clear h1 h2
            go_wp2_with fail
            go_roundw
            case rel => exact ⟨k + 1, by omega, by go_num, ⟨_, rfl, HN.out⟩, Below.alloc HB.out HB.out.size _⟩
            case measure => simp [intOf]; omega
      · have HE : Hid (Tr.ok l = true) := by rw [he, List.drop_eq_nil_of_le (by omega)]; rfl
        clear he
        go_wp2_with fail
        go_ret
        exact ⟨ret_int (by unfold Tr.chk; rw [HE.out]; rfl), hb⟩
  · have HE : Hid (Tr.ok l = false) := by unfold Tr.ok; rw [decide_eq_false h200]; rfl
    go_wp2_with fail
    go_ret
    exact ⟨ret_int (by unfold Tr.chk; rw [HE.out]; rfl), Below.refl _ _⟩
end BkW
end Go.Proofs.Ytoglmfpmeajbeaa
