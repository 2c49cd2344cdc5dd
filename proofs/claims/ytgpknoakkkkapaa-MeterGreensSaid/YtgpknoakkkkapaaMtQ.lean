/- Meters: near. -/
import Derived.Test.YtgpknoakkkkapaaMtP
namespace Go.Proofs.Ytgpknoakkkkapaa
set_option linter.unusedSimpArgs false
set_option linter.unusedVariables false
open Go.RowKit
namespace MtW
theorem u64_pos (n : Int) (h1 : 1 ≤ n) (h2 : n ≤ 9223372036854775807) : IntKind.u64.wrap n = n := by show n % 18446744073709551616 = n; omega
set_option maxHeartbeats 1000000 in
theorem near_any (b r b2 r2 l c p : Int) (h1 : 1 ≤ b) (h2 : b ≤ 1048576) (h3 : 1 ≤ b2) (h4 : b2 ≤ 1048576) (w : World) :
    Calls Try.prog 10 #[.agg #[.int .i64 b, .int .i64 r], .agg #[.int .i64 b2, .int .i64 r2], .agg #[.int .i64 l, .int .i64 c, .int .i64 p]] w fun e w' => (∃ x y z : Int, e = .returned (.agg #[.int .i64 x, .int .i64 y, .int .i64 z])) ∧ Below w.heap.size w w' := by
  have q1 : IntKind.i64.wrap (b * 1048576) = b * 1048576 := IntWalk.i64_in _ (by omega)
  have q2 : IntKind.i64.wrap (b * 1048576 + 1) = b * 1048576 + 1 := IntWalk.i64_in _ (by omega)
  have q3 : IntKind.i64.wrap (b2 * 1048576) = b2 * 1048576 := IntWalk.i64_in _ (by omega)
  have q4 : IntKind.i64.wrap (b2 * 1048576 + 1) = b2 * 1048576 + 1 := IntWalk.i64_in _ (by omega)
  have u1 : IntKind.u64.wrap (b * 1048576 + 1) = b * 1048576 + 1 := u64_pos _ (by omega) (by omega)
  have u2 : IntKind.u64.wrap (b2 * 1048576 + 1) = b2 * 1048576 + 1 := u64_pos _ (by omega) (by omega)
  have z1 : ¬ b * 1048576 + 1 = 0 := by omega
  have z2 : ¬ b2 * 1048576 + 1 = 0 := by omega
  go_enter Try.func10, Try.ntmps10
  go_wp2_with fail
  go_region
  go_wp2_with fail
  exact bodyPost_ret (v := .agg #[.int .i64 (wrap64 ((IntKind.u64.wrap l).tmod 9999)), .int .i64 (wrap64 ((IntKind.u64.wrap c).tmod (b * 1048576 + 1))), .int .i64 (wrap64 ((IntKind.u64.wrap p).tmod (b2 * 1048576 + 1)))]) (by simp [results, Try.results10, go_sem]) rfl ⟨⟨_, _, _, rfl⟩, by (repeat' (first | (with_reducible exact Below.refl _ _) | (with_reducible refine Below.alloc ?_ ?_ _) | (with_reducible refine Below.setCell ?_ ?_ _) | (with_reducible refine Below.drew ?_) | (with_reducible assumption) | omega | (simp; done) | (simp; omega)))⟩
/-- Mark and the reference's Mark return the same. -/
theorem Mark_both (b r b2 r2 l c p at_ size : Int) : ∃ k x y z e : Int,
    (∀ w, Calls Try.prog 15 #[.agg #[.int .i64 b, .int .i64 r], .agg #[.int .i64 b2, .int .i64 r2], .agg #[.int .i64 l, .int .i64 c, .int .i64 p], .int .i64 at_, .int .i64 size] w fun e' w' => e' = .returned (.tuple #[.int .i64 k, .agg #[.int .i64 x, .int .i64 y, .int .i64 z], .int .i64 e]) ∧ Below w.heap.size w w') ∧
    (∀ w, Calls Try.prog 16 #[.agg #[.int .i64 b, .int .i64 r], .agg #[.int .i64 b2, .int .i64 r2], .agg #[.int .i64 l, .int .i64 c, .int .i64 p], .int .i64 at_, .int .i64 size] w fun e' w' => e' = .returned (.tuple #[.int .i64 k, .agg #[.int .i64 x, .int .i64 y, .int .i64 z], .int .i64 e]) ∧ Below w.heap.size w w') := by
  by_cases h : Mt.chkE b r b2 r2 l c p = 0
  · by_cases h2 : at_ < l ∨ 1099511627776 < at_ ∨ size < 1 ∨ 1048576 < size
    · exact ⟨_, _, _, _, _, Mark_arg b r b2 r2 l c p at_ size h h2, ref_Mark_arg b r b2 r2 l c p at_ size h h2⟩
    · exact ⟨_, _, _, _, _, Mark_good b r b2 r2 l c p at_ size _ _ _ h (by omega) (by omega) (by omega) (by omega) rfl rfl rfl, ref_Mark_good b r b2 r2 l c p at_ size _ _ _ h (by omega) (by omega) (by omega) (by omega) rfl rfl rfl⟩
  · exact ⟨_, _, _, _, _, Mark_bad b r b2 r2 l c p at_ size h, ref_Mark_bad b r b2 r2 l c p at_ size h⟩
end MtW
end Go.Proofs.Ytgpknoakkkkapaa
