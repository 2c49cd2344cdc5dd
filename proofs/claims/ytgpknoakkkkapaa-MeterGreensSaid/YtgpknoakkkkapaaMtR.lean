/- Meters: the reference's New and in, both Checks. -/
import Derived.Test.YtgpknoakkkkapaaMtW
namespace Go.Proofs.Ytgpknoakkkkapaa
set_option linter.unusedSimpArgs false
set_option linter.unusedVariables false
open Go.RowKit
namespace MtW
set_option maxHeartbeats 1000000 in
theorem ref_New (b r b2 r2 : Int) (w : World) :
    Calls Try.prog 12 #[.agg #[.int .i64 b, .int .i64 r], .agg #[.int .i64 b2, .int .i64 r2]] w fun e w' => e = .returned (.tuple #[.agg #[.int .i64 0, .int .i64 (Mt.newT (Mt.newE b r b2 r2) b), .int .i64 (Mt.newT (Mt.newE b r b2 r2) b2)], .int .i64 (Mt.newE b r b2 r2)]) ∧ Below w.heap.size w w' := by
  have c1 := BkW.Right_any b r
  have c2 := BkW.Right_any b2 r2
  rcases Mt.newE_cases b r b2 r2 with ⟨en, h1, h2, h3⟩ | ⟨en, h1, h2, h3⟩ | ⟨en, h⟩
  · rw [h1] at c1; rw [h2] at c2
    have o1 := Bk.ok_iff.1 h1
    have o2 := Bk.ok_iff.1 h2
    have C1 := Lib.hid c1
    have C2 := Lib.hid c2
    clear c1 c2
    go_enter Try.func12, Try.ntmps12
    go_wp2_with fail
    refine (C1.out _).mono ?_
    rintro e w1 ⟨rfl, rfl⟩
    go_wp2_with fail
    refine (C2.out _).mono ?_
    rintro e w1 ⟨rfl, rfl⟩
    go_wp2_with fail
    exact bodyPost_ret (v := .tuple #[.agg #[.int .i64 0, .int .i64 (b * 1048576), .int .i64 (b2 * 1048576)], .int .i64 0]) (by simp [results, Try.results12, go_sem]) rfl ⟨by rw [en]; simp [Mt.newT], by (repeat' (first | (with_reducible exact Below.refl _ _) | (with_reducible refine Below.alloc ?_ ?_ _) | (with_reducible refine Below.setCell ?_ ?_ _) | (with_reducible refine Below.drew ?_) | (with_reducible assumption) | omega | (simp; done) | (simp; omega)))⟩
  · rw [h1] at c1; rw [h2] at c2
    have C1 := Lib.hid c1
    have C2 := Lib.hid c2
    clear c1 c2
    go_enter Try.func12, Try.ntmps12
    go_wp2_with fail
    refine (C1.out _).mono ?_
    rintro e w1 ⟨rfl, rfl⟩
    go_wp2_with fail
    refine (C2.out _).mono ?_
    rintro e w1 ⟨rfl, rfl⟩
    go_wp2_with fail
    exact bodyPost_ret (v := .tuple #[.agg #[.int .i64 0, .int .i64 0, .int .i64 0], .int .i64 2]) (by simp [results, Try.results12, go_sem]) rfl ⟨by rw [en]; simp [Mt.newT], by (repeat' (first | (with_reducible exact Below.refl _ _) | (with_reducible refine Below.alloc ?_ ?_ _) | (with_reducible refine Below.setCell ?_ ?_ _) | (with_reducible refine Below.drew ?_) | (with_reducible assumption) | omega | (simp; done) | (simp; omega)))⟩
  · cases ho : Bk.ok b r
    · rw [ho] at c1
      have C1 := Lib.hid c1
      clear c1 c2
      go_enter Try.func12, Try.ntmps12
      go_wp2_with fail
      refine (C1.out _).mono ?_
      rintro e w1 ⟨rfl, rfl⟩
      go_wp2_with fail
      exact bodyPost_ret (v := .tuple #[.agg #[.int .i64 0, .int .i64 0, .int .i64 0], .int .i64 130]) (by simp [results, Try.results12, go_sem]) rfl ⟨by rw [en]; simp [Mt.newT], by (repeat' (first | (with_reducible exact Below.refl _ _) | (with_reducible refine Below.alloc ?_ ?_ _) | (with_reducible refine Below.setCell ?_ ?_ _) | (with_reducible refine Below.drew ?_) | (with_reducible assumption) | omega | (simp; done) | (simp; omega)))⟩
    · have h2 : Bk.ok b2 r2 = false := by rw [ho] at h; simpa using h
      rw [ho] at c1; rw [h2] at c2
      have C1 := Lib.hid c1
      have C2 := Lib.hid c2
      clear c1 c2
      go_enter Try.func12, Try.ntmps12
      go_wp2_with fail
      refine (C1.out _).mono ?_
      rintro e w1 ⟨rfl, rfl⟩
      go_wp2_with fail
      refine (C2.out _).mono ?_
      rintro e w1 ⟨rfl, rfl⟩
      go_wp2_with fail
      exact bodyPost_ret (v := .tuple #[.agg #[.int .i64 0, .int .i64 0, .int .i64 0], .int .i64 130]) (by simp [results, Try.results12, go_sem]) rfl ⟨by rw [en]; simp [Mt.newT], by (repeat' (first | (with_reducible exact Below.refl _ _) | (with_reducible refine Below.alloc ?_ ?_ _) | (with_reducible refine Below.setCell ?_ ?_ _) | (with_reducible refine Below.drew ?_) | (with_reducible assumption) | omega | (simp; done) | (simp; omega)))⟩
theorem in_any (x lo hi : Int) (w : World) :
    Calls Try.prog 29 #[.int .i64 x, .int .i64 lo, .int .i64 hi] w fun e w' => e = .returned (.bool (decide (lo ≤ x ∧ x ≤ hi))) ∧ w = w' := by
  go_enter Try.func29, Try.ntmps29
  by_cases h1 : lo ≤ x <;> by_cases h2 : x ≤ hi
  all_goals
    go_wp2_with fail
    go_ret
    exact ⟨ret_bool (by simp [h1, h2]), rfl⟩
/-- Check, where New has an error. -/
theorem Check_no (b r b2 r2 l c p : Int) (hn : Mt.newE b r b2 r2 ≠ 0) (w : World) :
    Calls Try.prog 13 #[.agg #[.int .i64 b, .int .i64 r], .agg #[.int .i64 b2, .int .i64 r2], .agg #[.int .i64 l, .int .i64 c, .int .i64 p]] w fun e w' => e = .returned (.int .i64 (Mt.chkE b r b2 r2 l c p)) ∧ Below w.heap.size w w' := by
  have e0 : Mt.chkE b r b2 r2 l c p = Mt.newE b r b2 r2 := if_neg hn
  have C1 := Lib.hid (New_any b r b2 r2)
  rw [e0]
  clear e0
  generalize Mt.newE b r b2 r2 = x at *
  go_enter Try.func13, Try.ntmps13
  go_wp2_with fail
  refine (C1.out _).mono ?_
  rintro e w1 ⟨rfl, hb⟩
  go_wp2_with fail
  go_ret
  refine ⟨rfl, Below.alloc (Below.trans (by (repeat' (first | (with_reducible exact Below.refl _ _) | (with_reducible refine Below.alloc ?_ ?_ _) | (with_reducible refine Below.setCell ?_ ?_ _) | (with_reducible refine Below.drew ?_) | (with_reducible assumption) | omega | (simp; done) | (simp; omega)))) (hb.mono (by simp; omega))) (by have := hb.size; simp at this; omega) _⟩
set_option maxHeartbeats 2000000 in
theorem Check_yes (b r b2 r2 l c p : Int) (hn : Mt.newE b r b2 r2 = 0) (w : World) :
    Calls Try.prog 13 #[.agg #[.int .i64 b, .int .i64 r], .agg #[.int .i64 b2, .int .i64 r2], .agg #[.int .i64 l, .int .i64 c, .int .i64 p]] w fun e w' => e = .returned (.int .i64 (Mt.chkE b r b2 r2 l c p)) ∧ Below w.heap.size w w' := by
  have c1 := New_any b r b2 r2
  have e0 : Mt.chkE b r b2 r2 l c p = (if l < 0 ∨ 1099511627776 < l ∨ c < 0 ∨ b * 1048576 < c ∨ p < 0 ∨ b2 * 1048576 < p then 420 else 0) := if_pos hn
  rw [hn] at c1
  simp only [Mt.newT, if_pos] at c1
  have C1 := Lib.hid c1
  have E0 := Lib.hid e0
  clear c1 e0 hn
  go_enter Try.func13, Try.ntmps13
  go_wp2_with fail
  refine (C1.out _).mono ?_
  rintro e w1 ⟨rfl, hb⟩
  obtain ⟨hc, hz⟩ := bcell hb
  have hsz := hb.size
  simp at hsz
  have n0 : w.heap.size < w1.heap.size := by omega
  have n1 : w.heap.size + 1 < w1.heap.size := by omega
  have n2 : w.heap.size + 1 + 1 < w1.heap.size := by omega
  clear hsz
  go_wp2_with fail
  all_goals
    go_ret
    refine ⟨ret_int ?_, Below.alloc (Below.trans (by (repeat' (first | (with_reducible exact Below.refl _ _) | (with_reducible refine Below.alloc ?_ ?_ _) | (with_reducible refine Below.setCell ?_ ?_ _) | (with_reducible refine Below.drew ?_) | (with_reducible assumption) | omega | (simp; done) | (simp; omega)))) (hb.mono (by simp; omega))) (by omega) _⟩
    rw [E0.out]
    first | rw [if_pos (by omega)] | rw [if_neg (by omega)]
theorem Check_any (b r b2 r2 l c p : Int) (w : World) :
    Calls Try.prog 13 #[.agg #[.int .i64 b, .int .i64 r], .agg #[.int .i64 b2, .int .i64 r2], .agg #[.int .i64 l, .int .i64 c, .int .i64 p]] w fun e w' => e = .returned (.int .i64 (Mt.chkE b r b2 r2 l c p)) ∧ Below w.heap.size w w' :=
  if h : Mt.newE b r b2 r2 = 0 then Check_yes b r b2 r2 l c p h w else Check_no b r b2 r2 l c p h w
end MtW
end Go.Proofs.Ytgpknoakkkkapaa
