/- The draft's bucket. -/
import Derived.Test.YtpglhjgpjnapgaaTrA
namespace Go.Proofs.Ytpglhjgpjnapgaa
set_option linter.unusedSimpArgs false
set_option linter.unusedVariables false
open Go.RowKit
namespace MtW
theorem Bucket_any (x y : Nat) (hx : x < 4294967296) (hy : y < 4294967296) (g s : Value) (w : World) :
    Calls Try.prog 8 #[.agg #[.int .u32 x, .int .u32 y, g, s]] w fun e w' => e = .returned (.agg #[.int .i64 (1 + (x : Int) % 1048576), .int .i64 (1 + (y : Int) % 2097152)]) ∧ Below w.heap.size w w' := by
  go_enter Try.func8, Try.ntmps8
  go_wp2_with fail
  exact bodyPost_ret (v := .agg #[.int .i64 (1 + (x : Int) % 1048576), .int .i64 (1 + (y : Int) % 2097152)]) (by simp [results, Try.results8, go_sem]) rfl ⟨rfl, by (repeat' (first | (with_reducible exact Below.refl _ _) | (with_reducible refine Below.alloc ?_ ?_ _) | (with_reducible refine Below.setCell ?_ ?_ _) | (with_reducible refine Below.drew ?_) | (with_reducible assumption) | omega | (simp; done) | (simp; omega)))⟩
end MtW
end Go.Proofs.Ytpglhjgpjnapgaa
