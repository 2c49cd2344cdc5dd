/- Equality of slices of integers. -/
import Derived.Test.YtoglmfpmeajbeaaMem
namespace Go.Proofs.Ytoglmfpmeajbeaa
set_option linter.unusedSimpArgs false
set_option linter.unusedVariables false
open Go.RowKit
namespace Tr
/-- The slice with address A reads as these integers. -/
def Ints (w : World) (B : Nat) (A : Option Addr) (l : List Int) : Prop :=
  ∀ (i : Nat) (x : Int), l[i]? = some x → ∃ ad, A = some ad ∧ ad.block < B ∧ w.cell? (ad.add i) = some (.int .i64 x)
theorem Ints.keep {w w' : World} {B : Nat} {A : Option Addr} {l : List Int} (h : Ints w B A l) (hk : ∀ p : Addr, p.block < B → w'.cell? p = w.cell? p) : Ints w' B A l := fun i x hx => by
  obtain ⟨ad, e, hb, h1⟩ := h i x hx
  exact ⟨ad, e, hb, (hk _ (by rw [block_add]; exact hb)).trans h1⟩
theorem Ints.below {w w' : World} {B : Nat} {A : Option Addr} {l : List Int} (h : Ints w B A l) (hb : Below B w w') : Ints w' B A l := h.keep fun _ hp => hb.cell hp
theorem Ints.of_lt {w : World} {B B' : Nat} {A : Option Addr} {l : List Int} (h : Ints w B A l) (hB : B ≤ B') : Ints w B' A l := fun i x hx => by
  obtain ⟨ad, e, hb, h1⟩ := h i x hx
  exact ⟨ad, e, by omega, h1⟩
theorem same_step {a b : List Int} {k : Nat} {x y : Int} (hl : a.length = b.length) (hx : a[k]? = some x) (hy : b[k]? = some y) (h : a.take k = b.take k) : (x ≠ y → a ≠ b) ∧ (x = y → a.take (k + 1) = b.take (k + 1)) := by
  constructor
  · rintro hne rfl; rw [hx] at hy; injection hy with e; exact hne e
  · rintro rfl
    rw [List.take_add_one, List.take_add_one, hx, hy, h]
end Tr
namespace SmW
set_option maxHeartbeats 1000000 in
theorem Same_any (A : Option Addr) (a : List Int) (ca : Nat) (B : Option Addr) (b : List Int) (cb : Nat) (w : World) (hA : Tr.Ints w w.heap.size A a) (hB : Tr.Ints w w.heap.size B b) (la : a.length ≤ 100000) :
    Calls Try.prog 31 #[.slice A a.length ca, .slice B b.length cb] w fun e w' => e = .returned (.bool (decide (a = b))) ∧ Below w.heap.size w w' := by
  go_enter Try.func31, Try.ntmps31
  by_cases hab : a.length = b.length
  · have hab' : (a.length : Int) = (b.length : Int) := by omega
    go_wp2_with fail
    go_loopw [5] (fun i wr => ∃ k : Nat, k ≤ a.length ∧ i = .int .i64 k ∧ a.take k = b.take k ∧ Below w.heap.size w wr) (fun i _ => a.length - (intOf i).toNat)
    case atStart => exact ⟨0, by omega, rfl, rfl, Below.refl _ _⟩
    case round =>
      obtain ⟨k, hk, rfl, he, hb⟩ := hrel
      by_cases hlt : k < a.length
      · have hlt2 : k < b.length := by omega
        obtain ⟨x, hx⟩ : ∃ x, a[k]? = some x := ⟨a[k], List.getElem?_eq_getElem hlt⟩
        obtain ⟨y, hy⟩ : ∃ x, b[k]? = some x := ⟨b[k], List.getElem?_eq_getElem hlt2⟩
        obtain ⟨ad, rfl, _, hc0⟩ := (hA.below hb) k x hx
        obtain ⟨bd, rfl, _, hc1⟩ := (hB.below hb) k y hy
        have HS := Lib.hid (Tr.same_step hab hx hy he)
        have HB := Lib.hid hb
        clear hA hB hb hx hy he
        by_cases hxy : x = y
        · have HT := Lib.hid (HS.out.2 hxy)
          subst hxy
          clear HS
          go_wp2_with fail
          go_region
          go_wp2_with fail
          go_roundw
          case rel => exact ⟨k + 1, by omega, by go_num, HT.out, HB.out.drew⟩
          case measure => simp [intOf]; omega
        · have hne : (x == y) = false := by rw [beq_eq_false_iff_ne]; exact hxy
          have HN := Lib.hid (HS.out.1 hxy)
          clear hxy
          go_wp2_with fail
          go_region
          go_wp2_with fail
          go_ret
          exact ⟨ret_bool (decide_eq_false HN.out).symm, HB.out.drew⟩
      · have hkl : k = a.length := by omega
        subst hkl
        have HE : Hid (a = b) := by
          have := he
          rw [List.take_of_length_le (Nat.le_refl _), List.take_of_length_le (by omega)] at this; exact this
        clear he
        go_wp2_with fail
        go_ret
        exact ⟨ret_bool (decide_eq_true HE.out).symm, hb⟩
  · have hab' : ((a.length : Int) == (b.length : Int)) = false := by rw [beq_eq_false_iff_ne]; omega
    have HN : Hid (a ≠ b) := fun h => hab (by rw [h])
    go_wp2_with fail
    go_ret
    exact ⟨ret_bool (decide_eq_false HN.out).symm, Below.refl _ _⟩
theorem own_slice {w : World} {base n : Nat} {e : TypeId} {v : Value} {l : List Int} (h : w.ownsRow base e 1 v n (Mem.ints l)) : ∃ A cap, v = .slice A n cap ∧ Tr.Ints w w.heap.size A l := by
  have hlen : l.length = n := by have := h.1; simp [Mem.ints] at this; exact this
  rcases h.2 with ⟨rfl, rfl⟩ | ⟨q, cap, cur, rfl, hq, hh, hnc, hcm, hsz, htk⟩
  · refine ⟨none, 0, rfl, ?_⟩
    intro i x hx
    have := List.length_eq_zero_iff.1 hlen
    subst this; simp at hx
  · refine ⟨_, cap, rfl, fun i x hx => ⟨_, rfl, ?_, ?_⟩⟩
    · rcases Nat.lt_or_ge q w.heap.size with hlt | hge
      · exact hlt
      · rw [Array.getElem?_eq_none hge] at hh; cases hh
    · have e1 : (⟨q, 0, none⟩ : Addr).add i = ⟨q, i, none⟩ := by
        unfold Addr.add; by_cases hi : i = 0
        · subst hi; rfl
        · simp [hi]
      rw [e1, cell_of_row w q i cur e (0, 0) hh]
      have e2 : (Mem.ints l)[i]? = some (.int .i64 x) := by simp [Mem.ints, hx]
      rw [← htk] at e2
      rw [List.getElem?_take] at e2
      split at e2
      · simpa using e2
      · cases e2
end SmW
end Go.Proofs.Ytoglmfpmeajbeaa
