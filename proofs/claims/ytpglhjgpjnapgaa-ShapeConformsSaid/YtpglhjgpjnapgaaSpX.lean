/- Shaping: the walks of step and Eligible. -/
import Derived.Test.YtpglhjgpjnapgaaSpW
namespace Go.Proofs.Ytpglhjgpjnapgaa
set_option linter.unusedSimpArgs false
set_option linter.unusedVariables false
open Go.RowKit
namespace SpW
set_option maxHeartbeats 1000000 in
theorem step_any (b r l v a z : Int) (h : Sp.St b r l v) (a0 : 0 ≤ a) (a1 : a ≤ 1099511627776) (z0 : 1 ≤ z) (z1 : z ≤ 1048576) (w : World) :
    Calls Try.prog 25 #[.agg #[.int .i64 b, .int .i64 r], .agg #[.int .i64 l, .int .i64 v], .agg #[.int .i64 a, .int .i64 z]] w fun e w' => e = .returned (.tuple #[.int .i64 (Sp.time b r l v a z), .agg #[.int .i64 (Sp.time b r l v a z), .int .i64 (Sp.left b r l v a z)]]) ∧ Below w.heap.size w w' := by
  obtain ⟨b0, b1, r0, r1, l0, l1, v0, v1⟩ := h
  have hst : Sp.St b r l v := ⟨b0, b1, r0, r1, l0, l1, v0, v1⟩
  have hv : v ≤ 1099511627776 := by omega
  have L1 := fun gb gs W c0 c1 c2 c3 => level_any b r l v (max a l) gb gs W b0 b1 r0 r1 v0 hv (by omega) (by omega) c0 c1 c2 c3
  have tg := Sp.time_ge (b := b) (r := r) (l := l) (v := v) (a := a) (z := z) r0
  have tl := Sp.time_le (a := a) hst z0
  have L2 := fun gb gs W c0 c1 c2 c3 => level_any b r l v (Sp.time b r l v a z) gb gs W b0 b1 r0 r1 v0 hv (by omega) (by omega) c0 c1 c2 c3
  have n1 := Sp.lev_nonneg (t := max a l) hst (by omega)
  have n2 := Sp.lev_le (b := b) (r := r) (l := l) (v := v) (t := max a l)
  have n3 := Sp.lev_nonneg (t := Sp.time b r l v a z) hst (by omega)
  have n4 := Sp.lev_le (b := b) (r := r) (l := l) (v := v) (t := Sp.time b r l v a z)
  have hT : Sp.time b r l v a z = if 0 < Sp.miss b r l v a z then max a l + (Sp.miss b r l v a z + r - 1) / r else max a l := rfl
  have hL : Sp.left b r l v a z = Sp.lev b r l v (Sp.time b r l v a z) - z * 1048576 := rfl
  have hm : Sp.miss b r l v a z = z * 1048576 - Sp.lev b r l v (max a l) := rfl
  have hc := fun hn => Sp.ceil_bd (n := Sp.miss b r l v a z) r0 hn
  rw [hL]
  generalize Sp.time b r l v a z = T at *
  generalize Sp.miss b r l v a z = m at *
  generalize Sp.lev b r l v (max a l) = X at *
  generalize Sp.lev b r l v T = Y at *
  have HL1 := Lib.hid L1
  have HL2 := Lib.hid L2
  have HT := Lib.hid hT
  have HM := Lib.hid hm
  have HC := Lib.hid hc
  clear L1 L2 hT hL hm hc hst
  go_enter Try.func25, Try.ntmps25
  go_wp2_with fail
  refine (HL1.out w.heap.size (w.heap.size + 1) _ (by simp [go_sem]) (by simp [go_sem]) (by simp [go_sem]) (by simp [go_sem])).mono ?_
  rintro e w1 ⟨rfl, rfl⟩
  by_cases hp : 0 < z * 1048576 - X
  · have hm := HM.out
    have hc := HC.out (by omega)
    have hT := HT.out
    rw [if_pos (by omega)] at hT
    rw [hm] at hc hT
    have q1 : IntKind.i64.wrap (z * 1048576 - X + r) = z * 1048576 - X + r := IntWalk.i64_in _ (by omega)
    have q2 : IntKind.i64.wrap (z * 1048576 - X + r - 1) = z * 1048576 - X + r - 1 := IntWalk.i64_in _ (by omega)
    have q4 : (z * 1048576 - X + r - 1).tdiv r = (z * 1048576 - X + r - 1) / r := Int.tdiv_eq_ediv_of_nonneg (by omega)
    have HTT := Lib.hid hT
    have c1 := hc.2.2.1
    have c2 := hc.2.2.2
    have hrn : r ≠ 0 := by omega
    clear hm hc hT
    go_wp2_with fail
    rw [← HTT.out]
    refine (HL2.out w.heap.size (w.heap.size + 1) _ (by simp [go_sem]) (by simp [go_sem]) (by simp [go_sem]) (by simp [go_sem])).mono ?_
    rintro e w1 ⟨rfl, rfl⟩
    go_wp2_with fail
    exact bodyPost_ret (v := .tuple #[.int .i64 T, .agg #[.int .i64 T, .int .i64 (Y - z * 1048576)]]) (by simp [results, Try.results25, go_sem]) rfl ⟨rfl, by (repeat' (first | (with_reducible exact Below.refl _ _) | (with_reducible refine Below.alloc ?_ ?_ _) | (with_reducible refine Below.setCell ?_ ?_ _) | (with_reducible refine Below.drew ?_) | (with_reducible assumption) | omega | (simp; done) | (simp; omega)))⟩
  · have hm := HM.out
    have hT := HT.out
    rw [if_neg (by omega)] at hT
    subst hT
    go_wp2_with fail
    refine (HL2.out w.heap.size (w.heap.size + 1) _ (by simp [go_sem]) (by simp [go_sem]) (by simp [go_sem]) (by simp [go_sem])).mono ?_
    rintro e w1 ⟨rfl, rfl⟩
    go_wp2_with fail
    exact bodyPost_ret (v := .tuple #[.int .i64 (max a l), .agg #[.int .i64 (max a l), .int .i64 (Y - z * 1048576)]]) (by simp [results, Try.results25, go_sem]) rfl ⟨rfl, by (repeat' (first | (with_reducible exact Below.refl _ _) | (with_reducible refine Below.alloc ?_ ?_ _) | (with_reducible refine Below.setCell ?_ ?_ _) | (with_reducible refine Below.drew ?_) | (with_reducible assumption) | omega | (simp; done) | (simp; omega)))⟩
end SpW
end Go.Proofs.Ytpglhjgpjnapgaa
