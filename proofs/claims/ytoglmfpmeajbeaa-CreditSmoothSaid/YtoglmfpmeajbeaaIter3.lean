/- Conforms decides by all intervals. -/
import Derived.Test.YtoglmfpmeajbeaaIter2
namespace Go.Proofs.Ytoglmfpmeajbeaa
set_option linter.unusedSimpArgs false
set_option linter.unusedVariables false
open Go.RowKit Go.Shelf
namespace ItW
theorem Conforms_good (b r : Int) (A : Option Addr) (l : List (Int × Int)) (cap : Nat) (b1 : 1 ≤ b) (b2 : b ≤ 1048576) (r1 : 1 ≤ r) (r2 : r ≤ 2097152) (hok : Tr.ok l = true) (w : World) (hA : Tr.Arr w w.heap.size A l) :
    Calls Try.prog 21 #[.agg #[.int .i64 b, .int .i64 r], .slice A l.length cap] w fun e w' => e = .returned (.tuple #[.bool (Fits.fits b r l), .int .i64 0]) ∧ Below w.heap.size w w' := by
  have hof : Tr.okFrom 0 l = true := by unfold Tr.ok at hok; rw [Bool.and_eq_true] at hok; exact hok.2
  have hlf := Fits.levs_fits (b := b) (r := r) (by omega) hof
  have F := fun W hA => First_good b r A l cap b1 b2 r1 r2 hok W hA
  have HF := Lib.hid F
  have HA := Lib.hid hA
  clear F hA hof hok
  generalize Fits.fits b r l = fv at *
  generalize It.levs b r l = lv at *
  have HL := Lib.hid hlf
  clear hlf
  go_enter Try.func21, Try.ntmps21
  go_wp2_with fail
  refine (HF.out _ ((HA.out.below ((Below.refl _ _).alloc (Nat.le_refl _) _)).of_lt (by simp))).mono ?_
  rintro e w1 ⟨⟨k, rfl, hk⟩, hb⟩
  have HB : Hid (Below w.heap.size w w1) := Lib.hid (((Below.refl _ _).alloc (Nat.le_refl _) _).trans (hb.mono (by simp)))
  have hd : decide (k < 0) = fv := by
    rw [Bool.eq_iff_iff, decide_eq_true_iff, hk, HL.out]
  have HD := Lib.hid hd
  clear hb hk hd
  go_wp2_with fail
  go_ret2
  exact ⟨by rw [HD.out]; rfl, HB.out⟩
end ItW
end Go.Proofs.Ytoglmfpmeajbeaa
