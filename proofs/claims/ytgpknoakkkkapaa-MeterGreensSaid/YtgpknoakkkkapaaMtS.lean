/- Meters: the reference's Check. -/
import Derived.Test.YtgpknoakkkkapaaMtR
namespace Go.Proofs.Ytgpknoakkkkapaa
set_option linter.unusedSimpArgs false
set_option linter.unusedVariables false
open Go.RowKit
namespace MtW
theorem ref_Check_no (b r b2 r2 l c p : Int) (hn : Mt.newE b r b2 r2 ≠ 0) (w : World) :
    Calls Try.prog 14 #[.agg #[.int .i64 b, .int .i64 r], .agg #[.int .i64 b2, .int .i64 r2], .agg #[.int .i64 l, .int .i64 c, .int .i64 p]] w fun e w' => e = .returned (.int .i64 (Mt.chkE b r b2 r2 l c p)) ∧ Below w.heap.size w w' := by
  have e0 : Mt.chkE b r b2 r2 l c p = Mt.newE b r b2 r2 := if_neg hn
  have C1 := Lib.hid (ref_New b r b2 r2)
  rw [e0]
  clear e0
  generalize Mt.newE b r b2 r2 = x at *
  go_enter Try.func14, Try.ntmps14
  go_wp2_with fail
  refine (C1.out _).mono ?_
  rintro e w1 ⟨rfl, hb⟩
  go_wp2_with fail
  go_ret
  refine ⟨rfl, Below.alloc (Below.trans (by (repeat' (first | (with_reducible exact Below.refl _ _) | (with_reducible refine Below.alloc ?_ ?_ _) | (with_reducible refine Below.setCell ?_ ?_ _) | (with_reducible refine Below.drew ?_) | (with_reducible assumption) | omega | (simp; done) | (simp; omega)))) (hb.mono (by simp; omega))) (by have := hb.size; simp at this; omega) _⟩
set_option maxHeartbeats 4000000 in
theorem ref_Check_yes (b r b2 r2 l c p : Int) (hn : Mt.newE b r b2 r2 = 0) (w : World) :
    Calls Try.prog 14 #[.agg #[.int .i64 b, .int .i64 r], .agg #[.int .i64 b2, .int .i64 r2], .agg #[.int .i64 l, .int .i64 c, .int .i64 p]] w fun e w' => e = .returned (.int .i64 (Mt.chkE b r b2 r2 l c p)) ∧ Below w.heap.size w w' := by
  have c1 := ref_New b r b2 r2
  have e0 : Mt.chkE b r b2 r2 l c p = (if l < 0 ∨ 1099511627776 < l ∨ c < 0 ∨ b * 1048576 < c ∨ p < 0 ∨ b2 * 1048576 < p then 420 else 0) := if_pos hn
  rw [hn] at c1
  simp only [Mt.newT, if_pos] at c1
  have C1 := Lib.hid c1
  have E0 := Lib.hid e0
  clear c1 e0 hn
  go_enter Try.func14, Try.ntmps14
  go_wp2_with fail
  refine (C1.out _).mono ?_
  rintro e w1 ⟨rfl, hb⟩
  obtain ⟨hc, hz⟩ := bcell hb
  have hsz := hb.size
  simp at hsz
  have n0 : w.heap.size < w1.heap.size := by omega
  have n1 : w.heap.size + 1 < w1.heap.size := by omega
  have n2 : w.heap.size + 1 + 1 < w1.heap.size := by omega
  clear hsz C1
  go_wp2_with fail
  have HB := Lib.hid hb
  clear hb
  refine (in_any l 0 1099511627776 _).mono ?_
  rintro e w2 ⟨rfl, rfl⟩
  refine stop ?_
  cases h1 : decide (0 ≤ l ∧ l ≤ 1099511627776)
  · have H1 := Lib.hid (decide_eq_false_iff_not.1 h1)
    refine Stopped.mk ?_
    clear h1
    go_wp2_with fail
    go_ret
    refine ⟨ret_int ?_, Below.alloc (Below.trans (by (repeat' (first | (with_reducible exact Below.refl _ _) | (with_reducible refine Below.alloc ?_ ?_ _) | (with_reducible refine Below.setCell ?_ ?_ _) | (with_reducible refine Below.drew ?_) | (with_reducible assumption) | omega | (simp; done) | (simp; omega)))) (HB.out.mono (by simp; omega))) (by omega) _⟩
    have h1 := H1.out
    rw [E0.out, if_pos (by omega)]
  · have H1 := Lib.hid (decide_eq_true_iff.1 h1)
    refine Stopped.mk ?_
    clear h1
    go_wp2_with fail
    refine (in_any c 0 (b * 1048576) _).mono ?_
    rintro e w2 ⟨rfl, rfl⟩
    refine stop ?_
    cases h1 : decide (0 ≤ c ∧ c ≤ b * 1048576)
    · have H2 := Lib.hid (decide_eq_false_iff_not.1 h1)
      refine Stopped.mk ?_
      clear h1
      go_wp2_with fail
      go_ret
      refine ⟨ret_int ?_, Below.alloc (Below.trans (by (repeat' (first | (with_reducible exact Below.refl _ _) | (with_reducible refine Below.alloc ?_ ?_ _) | (with_reducible refine Below.setCell ?_ ?_ _) | (with_reducible refine Below.drew ?_) | (with_reducible assumption) | omega | (simp; done) | (simp; omega)))) (HB.out.mono (by simp; omega))) (by omega) _⟩
      have h1 := H1.out
      have h2 := H2.out
      rw [E0.out, if_pos (by omega)]
    · have H2 := Lib.hid (decide_eq_true_iff.1 h1)
      refine Stopped.mk ?_
      clear h1
      go_wp2_with fail
      refine (in_any p 0 (b2 * 1048576) _).mono ?_
      rintro e w2 ⟨rfl, rfl⟩
      refine stop ?_
      cases h1 : decide (0 ≤ p ∧ p ≤ b2 * 1048576)
      · have H3 := Lib.hid (decide_eq_false_iff_not.1 h1)
        refine Stopped.mk ?_
        clear h1
        go_wp2_with fail
        go_ret
        refine ⟨ret_int ?_, Below.alloc (Below.trans (by (repeat' (first | (with_reducible exact Below.refl _ _) | (with_reducible refine Below.alloc ?_ ?_ _) | (with_reducible refine Below.setCell ?_ ?_ _) | (with_reducible refine Below.drew ?_) | (with_reducible assumption) | omega | (simp; done) | (simp; omega)))) (HB.out.mono (by simp; omega))) (by omega) _⟩
        have h1 := H1.out
        have h2 := H2.out
        have h3 := H3.out
        rw [E0.out, if_pos (by omega)]
      · have H3 := Lib.hid (decide_eq_true_iff.1 h1)
        refine Stopped.mk ?_
        clear h1
        go_wp2_with fail
        go_ret
        refine ⟨ret_int ?_, Below.alloc (Below.trans (by (repeat' (first | (with_reducible exact Below.refl _ _) | (with_reducible refine Below.alloc ?_ ?_ _) | (with_reducible refine Below.setCell ?_ ?_ _) | (with_reducible refine Below.drew ?_) | (with_reducible assumption) | omega | (simp; done) | (simp; omega)))) (HB.out.mono (by simp; omega))) (by omega) _⟩
        have h1 := H1.out
        have h2 := H2.out
        have h3 := H3.out
        rw [E0.out, if_neg (by omega)]
theorem ref_Check_any (b r b2 r2 l c p : Int) (w : World) :
    Calls Try.prog 14 #[.agg #[.int .i64 b, .int .i64 r], .agg #[.int .i64 b2, .int .i64 r2], .agg #[.int .i64 l, .int .i64 c, .int .i64 p]] w fun e w' => e = .returned (.int .i64 (Mt.chkE b r b2 r2 l c p)) ∧ Below w.heap.size w w' :=
  if h : Mt.newE b r b2 r2 = 0 then ref_Check_yes b r b2 r2 l c p h w else ref_Check_no b r b2 r2 l c p h w
end MtW
end Go.Proofs.Ytgpknoakkkkapaa
