/- Credit-based shapers: the chapter's examples. -/
import Derived.Test.YtoglmfpmeajbeaaMem
import Derived.Test.YtoglmfpmeajbeaaStq
import Derived.Deep.DeepCutAuto
namespace Go.Proofs.Ytoglmfpmeajbeaa
set_option linter.unusedSimpArgs false
set_option linter.unusedVariables false
open Go.RowKit
namespace CrW
set_option maxRecDepth 100000
set_option maxHeartbeats 4000000
theorem trace_any (A : Option Addr) (xs : List (Int × Int)) (cap : Nat) (hl : xs.length ≤ 100000) (w : World) (hA : Mem.Row w w.heap.size A (Mem.arrs xs)) :
    Calls Try.prog 19 #[.slice A (xs.length * 2) cap] w fun e w' => (∃ A' cap', e = .returned (.slice A' xs.length cap') ∧ Tr.Arr w' w'.heap.size A' xs) ∧ Below w.heap.size w w' := by
  obtain ⟨ia, ha0, ha1, ha2, ha3⟩ := info_parts Mem.arr_info
  have IA := Lib.hid (And.intro ha0 (And.intro ha1 (And.intro ha2 ha3)))
  clear ha0 ha1 ha2 ha3
  have HA := Lib.hid hA
  clear hA
  go_enter Try.func19, Try.ntmps19
  go_wp2_with fail
  go_loopw [4, 3] (fun i v wr => ∃ (k j : Nat), k ≤ xs.length ∧ j = 2 * k ∧ i = .int .i64 j ∧ wr.ownsRow w.heap.size 49 2 v k (Mem.arrs (xs.take k)) ∧ Below w.heap.size w wr) (fun i _ _ => xs.length * 2 - (intOf i).toNat)
  case atStart => exact ⟨0, 0, by omega, rfl, rfl, ⟨rfl, .inl ⟨rfl, rfl⟩⟩, Below.refl _ _⟩
  case round =>
    obtain ⟨k, j, hk, hj, rfl, hown, hbr⟩ := hrel
    obtain ⟨wo, rfl⟩ : ∃ wo : World, wo = wr := ⟨_, rfl⟩
    have qo := hbr.size
    have HO := Lib.hid hown
    have HB := Lib.hid hbr
    clear hown
    have q0 : IntKind.i64.wrap ((j : Int) + 1) = (j : Int) + 1 := IntWalk.i64_in _ (by omega)
    by_cases hlt : k < xs.length
    · obtain ⟨⟨x1, x2⟩, hx⟩ : ∃ x, xs[k]? = some x := ⟨xs[k], List.getElem?_eq_getElem hlt⟩
      have hr := (HA.out.below hbr)
      obtain ⟨ad, rfl, hbk, h0⟩ := hr j (.int .i64 x1) (by rw [hj, Nat.mul_comm, Mem.arrs_even, hx]; rfl)
      obtain ⟨ad', ha', _, h1⟩ := hr (j + 1) (.int .i64 x2) (by rw [hj, Nat.mul_comm, Mem.arrs_odd, hx]; rfl)
      injection ha' with ha'
      subst ha'
      have h2 : wo.cell? ⟨ad.block, ad.off + (j + 1), none⟩ = some (.int .i64 x2) := by simpa [Addr.add] using h1
      have htk : xs.take (k + 1) = xs.take k ++ [(x1, x2)] := by rw [List.take_add_one, hx]; simp
      have HTK := Lib.hid htk
      clear hr htk hx hbr
      have q1 : (0 : Int) ≤ (j : Int) + 1 := by omega
      have q2 : ((j : Int) + 1).toNat = j + 1 := by omega
      have q3 : (j : Int) + 1 < (xs.length : Int) * 2 := by omega
      have q4 : (j : Int) < (xs.length : Int) * 2 := by omega
      have q5 : (0 : Int) ≤ (j : Int) := by omega
      have q6 : IntKind.i64.wrap ((j : Int) + 2) = (j : Int) + 2 := IntWalk.i64_in _ (by omega)
      have HJ := Lib.hid hj
      clear hj
      go_upto_region 5 with fail
      have HSx : Hid (∀ w', Below w.heap.size wo w' → (Below w.heap.size wo w' ∧ w'.cell? (ad.add j) = some (.int .i64 x1) ∧ w'.cell? ⟨ad.block, ad.off + (j + 1), none⟩ = some (.int .i64 x2))) := Lib.hid (fun w' h => ⟨h, (h.cell (by rw [Tr.block_add]; omega)).trans h0, (h.cell (by show ad.block < _; omega)).trans h2⟩)
      go_region_held3 (fun w' => Below w.heap.size wo w' ∧ w'.cell? (ad.add j) = some (.int .i64 x1) ∧ w'.cell? ⟨ad.block, ad.off + (j + 1), none⟩ = some (.int .i64 x2))
        ((refine HSx.out _ ?_; first | assumption | (repeat' (first | (with_reducible exact Below.refl _ _) | (with_reducible refine Below.alloc ?_ ?_ _) | (with_reducible refine Below.setCell ?_ ?_ _) | (with_reducible refine Below.drew ?_) | (with_reducible assumption) | omega | (simp; done) | (simp; omega)))))
        (first
          | (refine Mem.step_append _ (by rfl) (.tmp 12) (.tmp 23) _ (by rfl) w.heap.size 49 ia _ 2 16 Try.underlying45 IA.out.1 IA.out.2.1 IA.out.2.2.1 IA.out.2.2.2 rfl (by omega) _ k (Mem.arrs (xs.take k)) (by rfl) ((HO.out.alloc _).drew) (wo.heap.size + 1) (some ⟨wo.heap.size, 0, none⟩) 1 1 [.int .i64 x1, .int .i64 x2] (by rfl) rfl (Mem.Row.new wo #[.int .i64 x1, .int .i64 x2] _) (Mem.arrs_oneCell [(x1, x2)]) (by unfold maxLen; omega) (by omega) (by simp; omega) ?_
             intro v1 w1 hown1 hg1 hat1 hlt1
             have HO1 := Lib.hid hown1
             have HB1 : Hid (Below w.heap.size w w1) := Lib.hid (Below.grown (by have hb := HB.out; (repeat' (first | (with_reducible exact Below.refl _ _) | (with_reducible refine Below.alloc ?_ ?_ _) | (with_reducible refine Below.setCell ?_ ?_ _) | (with_reducible refine Below.drew ?_) | (with_reducible assumption) | omega | (simp; done) | (simp; omega)))) hg1 (by simp; omega) (fun k hk => (hlt1 k hk).1))
             have hBo : Below w.heap.size wo w1 := Below.grown (by (repeat' (first | (with_reducible exact Below.refl _ _) | (with_reducible refine Below.alloc ?_ ?_ _) | (with_reducible refine Below.setCell ?_ ?_ _) | (with_reducible refine Below.drew ?_) | (with_reducible assumption) | omega | (simp; done) | (simp; omega)))) hg1 (by simp; omega) (fun k hk => (hlt1 k hk).1)
             clear hown1 hg1 hat1 hlt1))
      go_wp2_with fail
      go_roundw
      case rel => exact ⟨k + 1, j + 2, by omega, by have := HJ.out; omega, by go_num, by rw [HTK.out, Mem.arrs_append, Mem.arrs_one]; exact HO1.out, HB1.out⟩
      case measure => have := HJ.out; simp [intOf]; omega
    · have ekl : k = xs.length := by omega
      have q3 : ¬ (j : Int) + 1 < (xs.length : Int) * 2 := by omega
      clear hj
      have hO := HO.out
      rw [List.take_of_length_le (show xs.length ≤ k by omega)] at hO
      obtain ⟨_, A', cap', rfl, hR⟩ := Mem.own_arr hO
      have HR := Lib.hid hR
      clear hO hR HO
      go_wp2_with fail
      go_ret
      exact ⟨⟨A', ⟨cap', rfl⟩, HR.out⟩, HB.out⟩
theorem chapter_any (w : World) : Calls Try.prog 18 #[] w fun e w' => e = .returned (.agg #[.int .i64 131072, .int .i64 2]) ∧ Below w.heap.size w w' := by
  go_enter Try.func18, Try.ntmps18
  go_wp2_with fail
  exact bodyPost_ret (v := .agg #[.int .i64 131072, .int .i64 2]) (by simp [results, Try.results18, go_sem]) rfl ⟨rfl, by (repeat' (first | (with_reducible exact Below.refl _ _) | (with_reducible refine Below.alloc ?_ ?_ _) | (with_reducible refine Below.setCell ?_ ?_ _) | (with_reducible refine Below.drew ?_) | (with_reducible assumption) | omega | (simp; done) | (simp; omega)))⟩
end CrW
end Go.Proofs.Ytoglmfpmeajbeaa
