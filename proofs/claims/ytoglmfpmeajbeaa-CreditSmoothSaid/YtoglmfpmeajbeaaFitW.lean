/- The reference's RightTrace and Fits. -/
import Derived.Test.YtoglmfpmeajbeaaFit
import Derived.Test.YtoglmfpmeajbeaaMem
import Derived.Deep.QuietTactic
import Derived.BigQuiet
namespace Go.Proofs.Ytoglmfpmeajbeaa
set_option linter.unusedSimpArgs false
set_option linter.unusedVariables false
open Go.RowKit
namespace MtW
theorem rd_bound {r d : Int} (r1 : 1 ≤ r) (r2 : r ≤ 2097152) (d1 : -1099511627776 ≤ d) (d2 : d ≤ 1099511627776) : -2305843009213693952 ≤ r * d ∧ r * d ≤ 2305843009213693952 := by
  have a := Int.mul_le_mul_of_nonneg_left d2 (show 0 ≤ r by omega)
  have b := Int.mul_le_mul_of_nonneg_left d1 (show 0 ≤ r by omega)
  omega
end MtW
end Go.Proofs.Ytoglmfpmeajbeaa
