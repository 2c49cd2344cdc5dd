/- Meters: the reference's Mark. -/
import Derived.Test.YtgpknoakkkkapaaMtM
namespace Go.Proofs.Ytgpknoakkkkapaa
set_option linter.unusedSimpArgs false
set_option linter.unusedVariables false
open Go.RowKit
namespace MtW
theorem ref_Mark_bad (b r b2 r2 l c p at_ size : Int) (h : Mt.chkE b r b2 r2 l c p ≠ 0) (w : World) :
    Calls Try.prog 16 #[.agg #[.int .i64 b, .int .i64 r], .agg #[.int .i64 b2, .int .i64 r2], .agg #[.int .i64 l, .int .i64 c, .int .i64 p], .int .i64 at_, .int .i64 size] w fun e w' => e = .returned (.tuple #[.int .i64 0, .agg #[.int .i64 0, .int .i64 0, .int .i64 0], .int .i64 (Mt.chkE b r b2 r2 l c p)]) ∧ Below w.heap.size w w' := by
  have C1 := Lib.hid (ref_Check_any b r b2 r2 l c p)
  generalize Mt.chkE b r b2 r2 l c p = x at *
  go_enter Try.func16, Try.ntmps16
  go_wp2_with fail
  refine (C1.out _).mono ?_
  rintro e w1 ⟨rfl, hb⟩
  obtain ⟨hc, hz⟩ := bcell hb
  have hsz := hb.size
  simp at hsz
  have n0 : w.heap.size < w1.heap.size := by omega
  have n1 : w.heap.size + 1 < w1.heap.size := by omega
  have n2 : w.heap.size + 1 + 1 < w1.heap.size := by omega
  have n3 : w.heap.size + 1 + 1 + 1 < w1.heap.size := by omega
  clear hsz C1
  have HB := Lib.hid hb
  clear hb
  go_wp2_with fail
  exact bodyPost_ret (v := .tuple #[.int .i64 0, .agg #[.int .i64 0, .int .i64 0, .int .i64 0], .int .i64 x]) (by simp [results, Try.results16, go_sem, hc]) rfl ⟨rfl, by
    have hb := Below.trans (a := w) (by (repeat' (first | (with_reducible exact Below.refl _ _) | (with_reducible refine Below.alloc ?_ ?_ _) | (with_reducible refine Below.setCell ?_ ?_ _) | (with_reducible refine Below.drew ?_) | (with_reducible assumption) | omega | (simp; done) | (simp; omega)))) (HB.out.mono (B' := w.heap.size) (by simp; omega))
    (repeat' (first | (with_reducible exact Below.refl _ _) | (with_reducible refine Below.alloc ?_ ?_ _) | (with_reducible refine Below.setCell ?_ ?_ _) | (with_reducible refine Below.drew ?_) | (with_reducible assumption) | omega | (simp; done) | (simp; omega)))⟩
theorem ref_Mark_arg (b r b2 r2 l c p at_ size : Int) (h : Mt.chkE b r b2 r2 l c p = 0) (h2 : at_ < l ∨ 1099511627776 < at_ ∨ size < 1 ∨ 1048576 < size) (w : World) :
    Calls Try.prog 16 #[.agg #[.int .i64 b, .int .i64 r], .agg #[.int .i64 b2, .int .i64 r2], .agg #[.int .i64 l, .int .i64 c, .int .i64 p], .int .i64 at_, .int .i64 size] w fun e w' => e = .returned (.tuple #[.int .i64 0, .agg #[.int .i64 0, .int .i64 0, .int .i64 0], .int .i64 2]) ∧ Below w.heap.size w w' := by
  have c1 := ref_Check_any b r b2 r2 l c p
  rw [h] at c1
  have C1 := Lib.hid c1
  have i1 := in_any at_ l 1099511627776
  have i2 := in_any size 1 1048576
  have hd : (decide (l ≤ at_ ∧ at_ ≤ 1099511627776) = false) ∨ (decide (l ≤ at_ ∧ at_ ≤ 1099511627776) = true ∧ decide (1 ≤ size ∧ size ≤ 1048576) = false) := by
    simp only [decide_eq_true_iff, decide_eq_false_iff_not]; omega
  clear c1 h h2
  rcases hd with d1 | ⟨d1, d2⟩
  all_goals
    first | (rw [d1] at i1; rw [d2] at i2) | (rw [d1] at i1; clear i2)
    have I1 := Lib.hid i1
    clear i1 d1
    first | (have I2 := Lib.hid i2; clear i2 d2) | skip
    go_enter Try.func16, Try.ntmps16
    go_wp2_with fail
    refine (C1.out _).mono ?_
    rintro e w1 ⟨rfl, hb⟩
    obtain ⟨hc, hz⟩ := bcell hb
    have hsz := hb.size
    simp at hsz
    have n0 : w.heap.size < w1.heap.size := by omega
    have n1 : w.heap.size + 1 < w1.heap.size := by omega
    have n2 : w.heap.size + 1 + 1 < w1.heap.size := by omega
    have n3 : w.heap.size + 1 + 1 + 1 < w1.heap.size := by omega
    clear hsz C1
    have HB := Lib.hid hb
    clear hb
    go_wp2_with fail
    refine (I1.out _).mono ?_
    rintro e w2 ⟨rfl, rfl⟩
    go_wp2_with fail
    first | (refine (I2.out _).mono ?_; rintro e w2 ⟨rfl, rfl⟩; go_wp2_with fail) | skip
    exact bodyPost_ret (v := .tuple #[.int .i64 0, .agg #[.int .i64 0, .int .i64 0, .int .i64 0], .int .i64 2]) (by simp [results, Try.results16, go_sem, hc]) rfl ⟨rfl, by
      have hb := Below.trans (a := w) (by (repeat' (first | (with_reducible exact Below.refl _ _) | (with_reducible refine Below.alloc ?_ ?_ _) | (with_reducible refine Below.setCell ?_ ?_ _) | (with_reducible refine Below.drew ?_) | (with_reducible assumption) | omega | (simp; done) | (simp; omega)))) (HB.out.mono (B' := w.heap.size) (by simp; omega))
      (repeat' (first | (with_reducible exact Below.refl _ _) | (with_reducible refine Below.alloc ?_ ?_ _) | (with_reducible refine Below.setCell ?_ ?_ _) | (with_reducible refine Below.drew ?_) | (with_reducible assumption) | omega | (simp; done) | (simp; omega)))⟩
set_option maxHeartbeats 4000000 in
theorem ref_Mark_good (b r b2 r2 l c p at_ size C P need : Int) (h : Mt.chkE b r b2 r2 l c p = 0) (h1 : l ≤ at_) (h2 : at_ ≤ 1099511627776) (h3 : 1 ≤ size) (h4 : size ≤ 1048576)
    (hC : min (b * 1048576) (c + r * (at_ - l)) = C) (hP : min (b2 * 1048576) (p + r2 * (at_ - l)) = P) (hn : size * 1048576 = need) (w : World) :
    Calls Try.prog 16 #[.agg #[.int .i64 b, .int .i64 r], .agg #[.int .i64 b2, .int .i64 r2], .agg #[.int .i64 l, .int .i64 c, .int .i64 p], .int .i64 at_, .int .i64 size] w fun e w' => e = .returned (.tuple #[.int .i64 (Mt.color C P need), .agg #[.int .i64 at_, .int .i64 (Mt.takeC C P need), .int .i64 (Mt.takeP P need)], .int .i64 0]) ∧ Below w.heap.size w w' := by
  have c1 := ref_Check_any b r b2 r2 l c p
  rw [h] at c1
  have C1 := Lib.hid c1
  obtain ⟨o1, o2, o3⟩ := Mt.chk_zero h
  obtain ⟨K1, K2⟩ : 0 ≤ r * (at_ - l) ∧ r * (at_ - l) ≤ 2305843009213693952 := Mt.gain o1.2.2.1 o1.2.2.2 (by omega) (by omega)
  obtain ⟨K3, K4⟩ : 0 ≤ r2 * (at_ - l) ∧ r2 * (at_ - l) ≤ 2305843009213693952 := Mt.gain o2.2.2.1 o2.2.2.2 (by omega) (by omega)
  obtain ⟨o11, o12, _, _⟩ := o1
  obtain ⟨o21, o22, _, _⟩ := o2
  obtain ⟨o31, o32, o33, o34, o35, o36⟩ := o3
  have i1 := in_any at_ l 1099511627776
  have i2 := in_any size 1 1048576
  rw [decide_eq_true ⟨h1, h2⟩] at i1
  rw [decide_eq_true ⟨h3, h4⟩] at i2
  have I1 := Lib.hid i1
  have I2 := Lib.hid i2
  obtain ⟨t, ht⟩ : ∃ t, at_ - l = t := ⟨_, rfl⟩
  rw [ht] at hC hP K1 K2 K3 K4
  obtain ⟨k1, hk1⟩ : ∃ t', r * t = t' := ⟨_, rfl⟩
  obtain ⟨k2, hk2⟩ : ∃ t', r2 * t = t' := ⟨_, rfl⟩
  rw [hk1] at hC K1 K2
  rw [hk2] at hP K3 K4
  have C2 : 0 ≤ C := by omega
  have C3 : C ≤ 1099511627776 := by omega
  have P2 : 0 ≤ P := by omega
  have P3 : P ≤ 1099511627776 := by omega
  have N2 : 0 ≤ need := by omega
  have N3 : need ≤ 1099511627776 := by omega
  clear i1 i2 c1 h
  unfold Mt.color Mt.takeC Mt.takeP
  have hk : (P < need) ∨ (need ≤ P ∧ C < need) ∨ (need ≤ P ∧ need ≤ C) := by omega
  rcases hk with hp | ⟨hp, hq⟩ | ⟨hp, hq⟩
  · rw [if_pos hp, if_pos hp, if_pos hp]
    go_enter Try.func16, Try.ntmps16
    go_wp2_with fail
    refine (C1.out _).mono ?_
    rintro e w1 ⟨rfl, hb⟩
    obtain ⟨hc, hz⟩ := bcell hb
    have hsz := hb.size
    simp at hsz
    have n0 : w.heap.size < w1.heap.size := by omega
    have n1 : w.heap.size + 1 < w1.heap.size := by omega
    have n2 : w.heap.size + 1 + 1 < w1.heap.size := by omega
    have n3 : w.heap.size + 1 + 1 + 1 < w1.heap.size := by omega
    clear hsz C1
    have HB := Lib.hid hb
    clear hb
    go_wp2_with fail
    refine (I1.out _).mono ?_
    rintro e w2 ⟨rfl, rfl⟩
    go_wp2_with fail
    refine (I2.out _).mono ?_
    rintro e w2 ⟨rfl, rfl⟩
    go_wp2_with fail
    go_region
    go_wp2_with fail
    exact bodyPost_ret (v := .tuple #[.int .i64 2, .agg #[.int .i64 at_, .int .i64 C, .int .i64 P], .int .i64 0]) (by simp [results, Try.results16, go_sem, hc, n3]) rfl ⟨rfl, by
      have hb := Below.trans (a := w) (by (repeat' (first | (with_reducible exact Below.refl _ _) | (with_reducible refine Below.alloc ?_ ?_ _) | (with_reducible refine Below.setCell ?_ ?_ _) | (with_reducible refine Below.drew ?_) | (with_reducible assumption) | omega | (simp; done) | (simp; omega)))) (HB.out.mono (B' := w.heap.size) (by simp; omega))
      (repeat' (first | (with_reducible exact Below.refl _ _) | (with_reducible refine Below.alloc ?_ ?_ _) | (with_reducible refine Below.setCell ?_ ?_ _) | (with_reducible refine Below.drew ?_) | (with_reducible assumption) | omega | (simp; done) | (simp; omega)))⟩
  · simp only [if_neg (show ¬ P < need by omega), if_pos hq]
    go_enter Try.func16, Try.ntmps16
    go_wp2_with fail
    refine (C1.out _).mono ?_
    rintro e w1 ⟨rfl, hb⟩
    obtain ⟨hc, hz⟩ := bcell hb
    have hsz := hb.size
    simp at hsz
    have n0 : w.heap.size < w1.heap.size := by omega
    have n1 : w.heap.size + 1 < w1.heap.size := by omega
    have n2 : w.heap.size + 1 + 1 < w1.heap.size := by omega
    have n3 : w.heap.size + 1 + 1 + 1 < w1.heap.size := by omega
    clear hsz C1
    have HB := Lib.hid hb
    clear hb
    go_wp2_with fail
    refine (I1.out _).mono ?_
    rintro e w2 ⟨rfl, rfl⟩
    go_wp2_with fail
    refine (I2.out _).mono ?_
    rintro e w2 ⟨rfl, rfl⟩
    go_wp2_with fail
    go_region
    go_wp2_with fail
    exact bodyPost_ret (v := .tuple #[.int .i64 1, .agg #[.int .i64 at_, .int .i64 C, .int .i64 (P - need)], .int .i64 0]) (by simp [results, Try.results16, go_sem, hc, n3]) rfl ⟨rfl, by
      have hb := Below.trans (a := w) (by (repeat' (first | (with_reducible exact Below.refl _ _) | (with_reducible refine Below.alloc ?_ ?_ _) | (with_reducible refine Below.setCell ?_ ?_ _) | (with_reducible refine Below.drew ?_) | (with_reducible assumption) | omega | (simp; done) | (simp; omega)))) (HB.out.mono (B' := w.heap.size) (by simp; omega))
      (repeat' (first | (with_reducible exact Below.refl _ _) | (with_reducible refine Below.alloc ?_ ?_ _) | (with_reducible refine Below.setCell ?_ ?_ _) | (with_reducible refine Below.drew ?_) | (with_reducible assumption) | omega | (simp; done) | (simp; omega)))⟩
  · simp only [if_neg (show ¬ P < need by omega), if_neg (show ¬ C < need by omega)]
    go_enter Try.func16, Try.ntmps16
    go_wp2_with fail
    refine (C1.out _).mono ?_
    rintro e w1 ⟨rfl, hb⟩
    obtain ⟨hc, hz⟩ := bcell hb
    have hsz := hb.size
    simp at hsz
    have n0 : w.heap.size < w1.heap.size := by omega
    have n1 : w.heap.size + 1 < w1.heap.size := by omega
    have n2 : w.heap.size + 1 + 1 < w1.heap.size := by omega
    have n3 : w.heap.size + 1 + 1 + 1 < w1.heap.size := by omega
    clear hsz C1
    have HB := Lib.hid hb
    clear hb
    go_wp2_with fail
    refine (I1.out _).mono ?_
    rintro e w2 ⟨rfl, rfl⟩
    go_wp2_with fail
    refine (I2.out _).mono ?_
    rintro e w2 ⟨rfl, rfl⟩
    go_wp2_with fail
    go_region
    go_wp2_with fail
    exact bodyPost_ret (v := .tuple #[.int .i64 0, .agg #[.int .i64 at_, .int .i64 (C - need), .int .i64 (P - need)], .int .i64 0]) (by simp [results, Try.results16, go_sem, hc, n3]) rfl ⟨rfl, by
      have hb := Below.trans (a := w) (by (repeat' (first | (with_reducible exact Below.refl _ _) | (with_reducible refine Below.alloc ?_ ?_ _) | (with_reducible refine Below.setCell ?_ ?_ _) | (with_reducible refine Below.drew ?_) | (with_reducible assumption) | omega | (simp; done) | (simp; omega)))) (HB.out.mono (B' := w.heap.size) (by simp; omega))
      (repeat' (first | (with_reducible exact Below.refl _ _) | (with_reducible refine Below.alloc ?_ ?_ _) | (with_reducible refine Below.setCell ?_ ?_ _) | (with_reducible refine Below.drew ?_) | (with_reducible assumption) | omega | (simp; done) | (simp; omega)))⟩
end MtW
end Go.Proofs.Ytgpknoakkkkapaa
