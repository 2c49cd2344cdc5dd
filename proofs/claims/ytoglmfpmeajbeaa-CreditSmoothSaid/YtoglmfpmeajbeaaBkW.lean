/- Buckets: the walks. -/
import Derived.Test.YtoglmfpmeajbeaaBkKit
import Derived.Test.YtoglmfpmeajbeaaBkA
namespace Go.Proofs.Ytoglmfpmeajbeaa
set_option linter.unusedSimpArgs false
set_option linter.unusedVariables false
open Go.RowKit
namespace BkW
theorem between_any (x lo hi : Int) (w : World) :
    Calls Try.prog 36 #[.int .i64 x, .int .i64 lo, .int .i64 hi] w fun e w' => e = .returned (.bool (decide (lo ≤ x ∧ x ≤ hi))) ∧ w = w' := by
  go_enter Try.func36, Try.ntmps36
  by_cases h1 : lo ≤ x <;> by_cases h2 : x ≤ hi
  all_goals
    go_wp2_with fail
    go_ret
    exact ⟨ret_bool (by simp [h1, h2]), rfl⟩
theorem Check_any (b r : Int) (w : World) :
    Calls Try.prog 37 #[.agg #[.int .i64 b, .int .i64 r]] w fun e w' => e = .returned (.int .i64 (Bk.chk b r)) ∧ w' = w.alloc (.cells #[.int .i64 b, .int .i64 r] 60) := by
  go_enter Try.func37, Try.ntmps37
  cases hd1 : decide (1 ≤ b ∧ b ≤ 1048576) <;> cases hd2 : decide (1 ≤ r ∧ r ≤ 2097152)
  all_goals
    have B1 := between_any b 1 1048576
    have B2 := between_any r 1 2097152
    rw [hd1] at B1
    rw [hd2] at B2
    go_wp2_with (first | (go_at_call_of 36 (Value.int .i64 b); refine (B1 _).mono ?_; rintro e w1 ⟨rfl, rfl⟩) | (go_at_call_of 36 (Value.int .i64 r); refine (B2 _).mono ?_; rintro e w1 ⟨rfl, rfl⟩))
    go_ret
    exact ⟨ret_int (by simp only [decide_eq_true_iff, decide_eq_false_iff_not] at hd1 hd2; unfold Bk.chk; first | (rw [if_pos (Bk.ok_iff.2 (by omega))]) | (rw [if_neg (by rw [Bk.ok_iff]; omega)])), rfl⟩
end BkW
end Go.Proofs.Ytoglmfpmeajbeaa
