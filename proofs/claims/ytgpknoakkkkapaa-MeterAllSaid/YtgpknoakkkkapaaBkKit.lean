/- Tactics for worlds that are written out. -/
import Derived.Test.YtgpknoakkkkapaaKit
import Derived.Deep.RegionHeld3
import Derived.LoopN
import Derived.Lib.MinMax
import Derived.BigRegion
namespace Go.Proofs.Ytgpknoakkkkapaa
open Go.RowKit
/-- 'Below' of a world that is written out, behind one that is known. -/
theorem ret_tup2 {a a' b b' : Value} (h : a = a') (h2 : b = b') : Ending.returned (.tuple #[a, b]) = .returned (.tuple #[a', b']) := by rw [h, h2]
theorem ret_tup3 {a a' b b' c c' : Value} (h : a = a') (h2 : b = b') (h3 : c = c') : Ending.returned (.tuple #[a, b, c]) = .returned (.tuple #[a', b', c']) := by rw [h, h2, h3]
theorem agg3 {a a' b b' c c' : Int} (h : a = a') (h2 : b = b') (h3 : c = c') : Value.agg #[.int .i64 a, .int .i64 b, .int .i64 c] = .agg #[.int .i64 a', .int .i64 b', .int .i64 c'] := by rw [h, h2, h3]
theorem agg2 {a a' b b' : Int} (h : a = a') (h2 : b = b') : Value.agg #[.int .i64 a, .int .i64 b] = .agg #[.int .i64 a', .int .i64 b'] := by rw [h, h2]
end Go.Proofs.Ytgpknoakkkkapaa
