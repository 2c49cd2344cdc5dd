/- The law's own conforms. -/
import Derived.Test.YtpglhjgpjnapgaaIter3
namespace Go.Proofs.Ytpglhjgpjnapgaa
set_option linter.unusedSimpArgs false
set_option linter.unusedVariables false
open Go.RowKit Go.Shelf
namespace ItW
theorem conforms_good (b r : Int) (A : Option Addr) (l : List (Int × Int)) (n cap : Nat) (hn : l.length = n) (b1 : 1 ≤ b) (b2 : b ≤ 1048576) (r1 : 1 ≤ r) (r2 : r ≤ 2097152) (hok : Tr.ok l = true) (w : World) (hA : Tr.Arr w w.heap.size A l) :
    Calls Try.prog 21 #[.agg #[.int .i64 b, .int .i64 r], .slice A n cap] w fun e w' => e = .returned (.bool (Fits.fits b r l)) ∧ Below w.heap.size w w' := by
  subst hn
  have F := fun W hA => Conforms_good b r A l cap b1 b2 r1 r2 hok W hA
  have HF := Lib.hid F
  have HA := Lib.hid hA
  clear F hA hok
  generalize Fits.fits b r l = fv at *
  go_enter Try.func21, Try.ntmps21
  go_wp2_with fail
  refine (HF.out _ ((HA.out.below ((Below.refl _ _).alloc (Nat.le_refl _) _)).of_lt (by simp))).mono ?_
  rintro e w1 ⟨rfl, hb⟩
  have HB : Hid (Below w.heap.size w w1) := Lib.hid (((Below.refl _ _).alloc (Nat.le_refl _) _).trans (hb.mono (by simp)))
  clear hb
  cases fv
  all_goals
    go_wp2_with fail
    go_ret
    exact ⟨rfl, HB.out⟩
end ItW
end Go.Proofs.Ytpglhjgpjnapgaa
