/- Meters: the program and the reference return the same. -/
import Derived.Test.YtgpknoakkkkapaaMtQ
import Derived.Test.YtgpknoakkkkapaaMem
namespace Go.Proofs.Ytgpknoakkkkapaa
set_option linter.unusedSimpArgs false
set_option linter.unusedVariables false
open Go.RowKit
namespace MtW
theorem New_both (b r b2 r2 : Int) : ∃ x y e : Int,
    (∀ w, Calls Try.prog 11 #[.agg #[.int .i64 b, .int .i64 r], .agg #[.int .i64 b2, .int .i64 r2]] w fun e' w' => e' = .returned (.tuple #[.agg #[.int .i64 0, .int .i64 x, .int .i64 y], .int .i64 e]) ∧ Below w.heap.size w w') ∧
    (∀ w, Calls Try.prog 12 #[.agg #[.int .i64 b, .int .i64 r], .agg #[.int .i64 b2, .int .i64 r2]] w fun e' w' => e' = .returned (.tuple #[.agg #[.int .i64 0, .int .i64 x, .int .i64 y], .int .i64 e]) ∧ Below w.heap.size w w') :=
  ⟨_, _, _, New_any b r b2 r2, ref_New b r b2 r2⟩
theorem Check_both (b r b2 r2 l c p : Int) : ∃ e : Int,
    (∀ w, Calls Try.prog 13 #[.agg #[.int .i64 b, .int .i64 r], .agg #[.int .i64 b2, .int .i64 r2], .agg #[.int .i64 l, .int .i64 c, .int .i64 p]] w fun e' w' => e' = .returned (.int .i64 e) ∧ Below w.heap.size w w') ∧
    (∀ w, Calls Try.prog 14 #[.agg #[.int .i64 b, .int .i64 r], .agg #[.int .i64 b2, .int .i64 r2], .agg #[.int .i64 l, .int .i64 c, .int .i64 p]] w fun e' w' => e' = .returned (.int .i64 e) ∧ Below w.heap.size w w') :=
  ⟨_, Check_any b r b2 r2 l c p, ref_Check_any b r b2 r2 l c p⟩
/-- Pair returns two valid buckets. -/
theorem Pair_some (x y : Nat) (hx : x < 4294967296) (hy : y < 4294967296) (g s : Value) (n m : Int) (n0 : 0 ≤ n) (hn : n < 65536) (m0 : 0 ≤ m) (hm : m < 4294967296) : ∃ b r b2 r2 : Int, 1 ≤ b ∧ b ≤ 1048576 ∧ 1 ≤ r ∧ r ≤ 2097152 ∧ 1 ≤ b2 ∧ b2 ≤ 65536 ∧ r ≤ r2 ∧ r2 ≤ 2097152 ∧ 1 + (x : Int) % 1048576 = b ∧ 1 + (y : Int) % 2097152 = r ∧
    ∀ w, Calls Try.prog 9 #[.agg #[.int .u32 x, .int .u32 y, g, s], .int .u16 n, .int .u32 m] w fun e w' => e = .returned (.tuple #[.agg #[.int .i64 b, .int .i64 r], .agg #[.int .i64 b2, .int .i64 r2]]) ∧ Below w.heap.size w w' := by
  obtain ⟨n, rfl⟩ := Int.eq_ofNat_of_zero_le n0
  obtain ⟨m, rfl⟩ := Int.eq_ofNat_of_zero_le m0
  refine ⟨_, _, 1 + (n : Int), min 2097152 (1 + (y : Int) % 2097152 + (m : Int) % 524288), ?_, ?_, ?_, ?_, ?_, ?_, ?_, ?_, rfl, rfl, fun w => Pair_eq x y hx hy g s n m (by omega) (by omega) _ _ rfl rfl w⟩ <;> omega
end MtW
end Go.Proofs.Ytgpknoakkkkapaa
