/- Meters: Mark. -/
import Derived.Test.YtgpknoakkkkapaaMtF
import Derived.Test.YtgpknoakkkkapaaMtS
namespace Go.Proofs.Ytgpknoakkkkapaa
set_option linter.unusedSimpArgs false
set_option linter.unusedVariables false
open Go.RowKit
namespace MtW
theorem Only.cell {g : Nat} {w w' : World} (h : Only g w w') {b i : Nat} (hb : b < w.heap.size) (hg : b ≠ g) : w'.cell? ⟨b, i, none⟩ = w.cell? ⟨b, i, none⟩ := World.cell?_of_block (w := w) (h.block b hb hg)
theorem Only.frozen {g : Nat} {w w' : World} (h : Only g w w') {b i : Nat} (hb : b < w.heap.size) (hg : b ≠ g) : w'.frozen? ⟨b, i, none⟩ = w.frozen? ⟨b, i, none⟩ := World.frozen?_of_block (w := w) (h.block b hb hg)
theorem Mark_bad (b r b2 r2 l c p at_ size : Int) (h : Mt.chkE b r b2 r2 l c p ≠ 0) (w : World) :
    Calls Try.prog 15 #[.agg #[.int .i64 b, .int .i64 r], .agg #[.int .i64 b2, .int .i64 r2], .agg #[.int .i64 l, .int .i64 c, .int .i64 p], .int .i64 at_, .int .i64 size] w fun e w' => e = .returned (.tuple #[.int .i64 0, .agg #[.int .i64 0, .int .i64 0, .int .i64 0], .int .i64 (Mt.chkE b r b2 r2 l c p)]) ∧ Below w.heap.size w w' := by
  have C1 := Lib.hid (Check_any b r b2 r2 l c p)
  generalize Mt.chkE b r b2 r2 l c p = x at *
  go_enter Try.func15, Try.ntmps15
  go_wp2_with fail
  refine (C1.out _).mono ?_
  rintro e w1 ⟨rfl, hb⟩
  obtain ⟨hc, hz⟩ := bcell hb
  have hsz := hb.size
  simp at hsz
  have n0 : w.heap.size < w1.heap.size := by omega
  have n1 : w.heap.size + 1 < w1.heap.size := by omega
  have n2 : w.heap.size + 1 + 1 < w1.heap.size := by omega
  have n3 : w.heap.size + 1 + 1 + 1 < w1.heap.size := by omega
  clear hsz C1
  have HB := Lib.hid hb
  clear hb
  go_wp2_with fail
  go_region
  go_wp2_with fail
  exact bodyPost_ret (v := .tuple #[.int .i64 0, .agg #[.int .i64 0, .int .i64 0, .int .i64 0], .int .i64 x]) (by simp [results, Try.results15, go_sem, hc]) rfl ⟨rfl, by
    have hb := Below.trans (a := w) (by (repeat' (first | (with_reducible exact Below.refl _ _) | (with_reducible refine Below.alloc ?_ ?_ _) | (with_reducible refine Below.setCell ?_ ?_ _) | (with_reducible refine Below.drew ?_) | (with_reducible assumption) | omega | (simp; done) | (simp; omega)))) (HB.out.mono (B' := w.heap.size) (by simp; omega))
    (repeat' (first | (with_reducible exact Below.refl _ _) | (with_reducible refine Below.alloc ?_ ?_ _) | (with_reducible refine Below.setCell ?_ ?_ _) | (with_reducible refine Below.drew ?_) | (with_reducible assumption) | omega | (simp; done) | (simp; omega)))⟩
theorem Mark_arg (b r b2 r2 l c p at_ size : Int) (h : Mt.chkE b r b2 r2 l c p = 0) (h2 : at_ < l ∨ 1099511627776 < at_ ∨ size < 1 ∨ 1048576 < size) (w : World) :
    Calls Try.prog 15 #[.agg #[.int .i64 b, .int .i64 r], .agg #[.int .i64 b2, .int .i64 r2], .agg #[.int .i64 l, .int .i64 c, .int .i64 p], .int .i64 at_, .int .i64 size] w fun e w' => e = .returned (.tuple #[.int .i64 0, .agg #[.int .i64 0, .int .i64 0, .int .i64 0], .int .i64 2]) ∧ Below w.heap.size w w' := by
  have c1 := Check_any b r b2 r2 l c p
  rw [h] at c1
  have C1 := Lib.hid c1
  have hd : (decide (at_ < l) = true) ∨ (decide (at_ < l) = false ∧ decide (1099511627776 < at_) = true) ∨ (decide (at_ < l) = false ∧ decide (1099511627776 < at_) = false ∧ decide (size < 1) = true) ∨ (decide (at_ < l) = false ∧ decide (1099511627776 < at_) = false ∧ decide (size < 1) = false ∧ decide (1048576 < size) = true) := by
    simp only [decide_eq_true_iff, decide_eq_false_iff_not]; omega
  clear c1 h h2
  rcases hd with d1 | ⟨d1, d2⟩ | ⟨d1, d2, d3⟩ | ⟨d1, d2, d3, d4⟩
  all_goals
    go_enter Try.func15, Try.ntmps15
    go_wp2_with fail
    refine (C1.out _).mono ?_
    rintro e w1 ⟨rfl, hb⟩
    obtain ⟨hc, hz⟩ := bcell hb
    have hsz := hb.size
    simp at hsz
    have n0 : w.heap.size < w1.heap.size := by omega
    have n1 : w.heap.size + 1 < w1.heap.size := by omega
    have n2 : w.heap.size + 1 + 1 < w1.heap.size := by omega
    have n3 : w.heap.size + 1 + 1 + 1 < w1.heap.size := by omega
    clear hsz C1
    have HB := Lib.hid hb
    clear hb
    go_wp2_with fail
    go_region
    go_wp2_with fail
    exact bodyPost_ret (v := .tuple #[.int .i64 0, .agg #[.int .i64 0, .int .i64 0, .int .i64 0], .int .i64 2]) (by simp [results, Try.results15, go_sem, hc]) rfl ⟨rfl, by
      have hb := Below.trans (a := w) (by (repeat' (first | (with_reducible exact Below.refl _ _) | (with_reducible refine Below.alloc ?_ ?_ _) | (with_reducible refine Below.setCell ?_ ?_ _) | (with_reducible refine Below.drew ?_) | (with_reducible assumption) | omega | (simp; done) | (simp; omega)))) (HB.out.mono (B' := w.heap.size) (by simp; omega))
      (repeat' (first | (with_reducible exact Below.refl _ _) | (with_reducible refine Below.alloc ?_ ?_ _) | (with_reducible refine Below.setCell ?_ ?_ _) | (with_reducible refine Below.drew ?_) | (with_reducible assumption) | omega | (simp; done) | (simp; omega)))⟩
set_option maxHeartbeats 1000000 in
theorem Mark_good (b r b2 r2 l c p at_ size C P need : Int) (h : Mt.chkE b r b2 r2 l c p = 0) (h1 : l ≤ at_) (h2 : at_ ≤ 1099511627776) (h3 : 1 ≤ size) (h4 : size ≤ 1048576)
    (hC : min (b * 1048576) (c + r * (at_ - l)) = C) (hP : min (b2 * 1048576) (p + r2 * (at_ - l)) = P) (hn : size * 1048576 = need) (w : World) :
    Calls Try.prog 15 #[.agg #[.int .i64 b, .int .i64 r], .agg #[.int .i64 b2, .int .i64 r2], .agg #[.int .i64 l, .int .i64 c, .int .i64 p], .int .i64 at_, .int .i64 size] w fun e w' => e = .returned (.tuple #[.int .i64 (Mt.color C P need), .agg #[.int .i64 at_, .int .i64 (Mt.takeC C P need), .int .i64 (Mt.takeP P need)], .int .i64 0]) ∧ Below w.heap.size w w' := by
  have c1 := Check_any b r b2 r2 l c p
  rw [h] at c1
  have C1 := Lib.hid c1
  obtain ⟨o1, o2, o3⟩ := Mt.chk_zero h
  have K1 : 0 ≤ r * (at_ - l) ∧ r * (at_ - l) ≤ 2305843009213693952 := Mt.gain o1.2.2.1 o1.2.2.2 (by omega) (by omega)
  have K2 : 0 ≤ r2 * (at_ - l) ∧ r2 * (at_ - l) ≤ 2305843009213693952 := Mt.gain o2.2.2.1 o2.2.2.2 (by omega) (by omega)
  have mk := fun g W M => mark_any g l c p b r b2 r2 at_ size (at_ - l) (r * (at_ - l)) (r2 * (at_ - l)) C P need W M rfl rfl rfl o3.1 h2 (by omega) o1.1 o1.2.1 o2.1 o2.2.1 (by omega) (by omega) (by omega) (by omega) K1.1 K1.2 K2.1 K2.2 h3 h4 hC hP hn
  have MK := Lib.hid mk
  have d1 : decide (at_ < l) = false := decide_eq_false (by omega)
  have d2 : decide (1099511627776 < at_) = false := decide_eq_false (by omega)
  have d3 : decide (size < 1) = false := decide_eq_false (by omega)
  have d4 : decide (1048576 < size) = false := decide_eq_false (by omega)
  clear c1 h mk o1 o2 o3 K1 K2 hC hP hn h1 h2 h3 h4
  generalize Mt.color C P need = x1 at *
  generalize Mt.takeC C P need = x2 at *
  generalize Mt.takeP P need = x3 at *
  go_enter Try.func15, Try.ntmps15
  go_wp2_with fail
  refine (C1.out _).mono ?_
  rintro e w1 ⟨rfl, hb⟩
  obtain ⟨hc, hz⟩ := bcell hb
  have hsz := hb.size
  simp at hsz
  have n0 : w.heap.size < w1.heap.size := by omega
  have n1 : w.heap.size + 1 < w1.heap.size := by omega
  have n2 : w.heap.size + 1 + 1 < w1.heap.size := by omega
  have n3 : w.heap.size + 1 + 1 + 1 < w1.heap.size := by omega
  clear hsz C1
  have HB := Lib.hid hb
  clear hb
  go_wp2_with fail
  refine (MK.out _ _ ⟨by simp, ?_, ?_, ?_, ?_, ?_, ?_, ?_, ?_, ?_, ?_⟩).mono ?_
  all_goals try (simp [go_sem]; done)
  rintro e w2 ⟨rfl, ho, M2⟩
  have hc3 : ∀ i, w2.cell? ⟨w.heap.size + 1 + 1 + 1, i, none⟩ = (w1.alloc (.cells #[.int .i64 l, .int .i64 c, .int .i64 p, .int .i64 b, .int .i64 r, .int .i64 b2, .int .i64 r2] 71)).cell? ⟨w.heap.size + 1 + 1 + 1, i, none⟩ := fun i => Only.cell ho (by simp; omega) (by omega)
  have hz3 : ∀ i, w2.frozen? ⟨w.heap.size + 1 + 1 + 1, i, none⟩ = (w1.alloc (.cells #[.int .i64 l, .int .i64 c, .int .i64 p, .int .i64 b, .int .i64 r, .int .i64 b2, .int .i64 r2] 71)).frozen? ⟨w.heap.size + 1 + 1 + 1, i, none⟩ := fun i => Only.frozen ho (by simp; omega) (by omega)
  have hb2 : Below w.heap.size w w2 := by
    have hb := Below.trans (a := w) (by (repeat' (first | (with_reducible exact Below.refl _ _) | (with_reducible refine Below.alloc ?_ ?_ _) | (with_reducible refine Below.setCell ?_ ?_ _) | (with_reducible refine Below.drew ?_) | (with_reducible assumption) | omega | (simp; done) | (simp; omega)))) (HB.out.mono (B' := w.heap.size) (by simp; omega))
    exact hb.trans ((Below.refl _ _).alloc (by omega) _) |>.trans (ho.below (by omega) (by simp; omega))
  obtain ⟨hlt, g0, g1, g2, _, _, _, _, z0, z1, z2⟩ := M2
  clear HB MK ho
  go_wp2_with fail
  go_region
  go_wp2_with fail
  exact bodyPost_ret (v := .tuple #[.int .i64 x1, .agg #[.int .i64 at_, .int .i64 x2, .int .i64 x3], .int .i64 0]) (by simp [results, Try.results15, go_sem, hc3, hc, n3]) rfl ⟨rfl, by (repeat' (first | (with_reducible exact Below.refl _ _) | (with_reducible refine Below.alloc ?_ ?_ _) | (with_reducible refine Below.setCell ?_ ?_ _) | (with_reducible refine Below.drew ?_) | (with_reducible assumption) | omega | (simp; done) | (simp; omega)))⟩
end MtW
end Go.Proofs.Ytgpknoakkkkapaa
