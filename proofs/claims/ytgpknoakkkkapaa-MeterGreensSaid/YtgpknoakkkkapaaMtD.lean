/- Meters: conformance of traces as plain functions; the marker decides by conformance. No walk. -/
import Derived.Test.YtgpknoakkkkapaaRunW
import Derived.Test.YtgpknoakkkkapaaFit
namespace Go.Proofs.Ytgpknoakkkkapaa
set_option linter.unusedSimpArgs false
set_option linter.unusedVariables false
namespace Mt
open Fits
def refK (b r b2 r2 : Int) (green passed : List (Int × Int)) (x : Int × Int) : Int := if fits b2 r2 (passed ++ [x]) = false then 2 else if fits b r (green ++ [x]) = false then 1 else 0
def refG (k : Int) (green : List (Int × Int)) (x : Int × Int) : List (Int × Int) := if k = 0 then green ++ [x] else green
def refP (k : Int) (passed : List (Int × Int)) (x : Int × Int) : List (Int × Int) := if k = 2 then passed else passed ++ [x]
def refFrom (b r b2 r2 : Int) : List (Int × Int) → List (Int × Int) → List (Int × Int) → List Int
  | _, _, [] => []
  | g, p, x :: t => refK b r b2 r2 g p x :: refFrom b r b2 r2 (refG (refK b r b2 r2 g p x) g x) (refP (refK b r b2 r2 g p x) p x) t
/-- A bucket's tokens are what the accepted frames leave. -/
theorem fill_dem {b r l c at_ : Int} {g : List (Int × Int)} (hr : 0 ≤ r) (ht : l ≤ at_) (hc : c = b * 1048576 - dem r l g) : fill b r l c at_ = b * 1048576 - dem r at_ g := by
  unfold fill; rw [dem_late hr ht, hc]; omega
theorem run_eq {b r b2 r2 : Int} (hr : 0 ≤ r) (hr2 : 0 ≤ r2) (l : List (Int × Int)) : ∀ (lt c p : Int) (g q : List (Int × Int)), Tr.okFrom lt l = true → c = b * 1048576 - dem r lt g → p = b2 * 1048576 - dem r2 lt q → fits b r g = true → fits b2 r2 q = true →
    runFrom b r b2 r2 lt c p l = refFrom b r b2 r2 g q l := by
  induction l with
  | nil => intros; rfl
  | cons x t ih =>
    intro lt c p g q hok hc hp hg hq
    have hs := hok
    unfold Tr.okFrom at hs
    rw [Bool.and_eq_true] at hs
    obtain ⟨hs1, hs2⟩ := hs
    unfold Tr.stepOk at hs1
    rw [Bool.and_eq_true, decide_eq_true_iff, decide_eq_true_iff] at hs1
    obtain ⟨⟨x1, x2⟩, x3, x4⟩ := hs1
    have F1 := fill_dem (at_ := x.1) hr x1 hc
    have F2 := fill_dem (at_ := x.1) hr2 x1 hp
    have S1 := fits_snoc b r g x
    have S2 := fits_snoc b2 r2 q x
    have D1 := dem_snoc r g x (by omega)
    have D2 := dem_snoc r2 q x (by omega)
    rw [hg, Bool.true_and] at S1
    rw [hq, Bool.true_and] at S2
    show color _ _ _ :: runFrom _ _ _ _ _ _ _ t = refK b r b2 r2 g q x :: refFrom _ _ _ _ _ _ t
    have hk : color (fill b r lt c x.1) (fill b2 r2 lt p x.1) (x.2 * 1048576) = refK b r b2 r2 g q x := by
      unfold color refK
      rw [F1, F2, S1, S2]
      by_cases h2 : dem r2 x.1 q + x.2 * 1048576 ≤ b2 * 1048576
      · rw [if_neg (show ¬ b2 * 1048576 - dem r2 x.1 q < x.2 * 1048576 by omega), if_neg (show ¬ decide (dem r2 x.1 q + x.2 * 1048576 ≤ b2 * 1048576) = false by simp [h2])]
        by_cases h1 : dem r x.1 g + x.2 * 1048576 ≤ b * 1048576
        · rw [if_neg (show ¬ b * 1048576 - dem r x.1 g < x.2 * 1048576 by omega), if_neg (show ¬ decide (dem r x.1 g + x.2 * 1048576 ≤ b * 1048576) = false by simp [h1])]
        · rw [if_pos (show b * 1048576 - dem r x.1 g < x.2 * 1048576 by omega), if_pos (show decide (dem r x.1 g + x.2 * 1048576 ≤ b * 1048576) = false by simp [h1])]
      · rw [if_pos (show b2 * 1048576 - dem r2 x.1 q < x.2 * 1048576 by omega), if_pos (show decide (dem r2 x.1 q + x.2 * 1048576 ≤ b2 * 1048576) = false by simp [h2])]
    rw [hk]
    congr 1
    unfold takeC takeP refG refP refK
    rw [F1, F2, S1, S2]
    by_cases h2 : dem r2 x.1 q + x.2 * 1048576 ≤ b2 * 1048576
    · simp only [if_neg (show ¬ b2 * 1048576 - dem r2 x.1 q < x.2 * 1048576 by omega), if_neg (show ¬ decide (dem r2 x.1 q + x.2 * 1048576 ≤ b2 * 1048576) = false by simp [h2])]
      by_cases h1 : dem r x.1 g + x.2 * 1048576 ≤ b * 1048576
      · simp only [if_neg (show ¬ b * 1048576 - dem r x.1 g < x.2 * 1048576 by omega), if_neg (show ¬ decide (dem r x.1 g + x.2 * 1048576 ≤ b * 1048576) = false by simp [h1]), if_true, if_neg (show ¬ (0 : Int) = 2 by decide)]
        exact ih _ _ _ _ _ hs2 (by rw [D1]; omega) (by rw [D2]; omega) (by rw [S1]; simp [h1]) (by rw [S2]; simp [h2])
      · simp only [if_pos (show b * 1048576 - dem r x.1 g < x.2 * 1048576 by omega), if_pos (show decide (dem r x.1 g + x.2 * 1048576 ≤ b * 1048576) = false by simp [h1]), if_neg (show ¬ (1 : Int) = 0 by decide), if_neg (show ¬ (1 : Int) = 2 by decide)]
        exact ih _ _ _ _ _ hs2 rfl (by rw [D2]; omega) hg (by rw [S2]; simp [h2])
    · simp only [if_pos (show b2 * 1048576 - dem r2 x.1 q < x.2 * 1048576 by omega), if_pos (show decide (dem r2 x.1 q + x.2 * 1048576 ≤ b2 * 1048576) = false by simp [h2]), if_neg (show ¬ (2 : Int) = 0 by decide), if_true]
      exact ih _ _ _ _ _ hs2 rfl rfl hg hq
end Mt
namespace Mt
open Fits
theorem runFrom_length (b r b2 r2 : Int) (l : List (Int × Int)) : ∀ (lt c p : Int), (runFrom b r b2 r2 lt c p l).length = l.length := by
  induction l with
  | nil => intros; rfl
  | cons x l ih => intro lt c p; simp [runFrom, ih]
theorem run_length (b r b2 r2 : Int) (l : List (Int × Int)) : (run b r b2 r2 l).length = l.length := runFrom_length _ _ _ _ _ _ _ _
theorem run_ref {b r b2 r2 : Int} (hr : 0 ≤ r) (hr2 : 0 ≤ r2) (l : List (Int × Int)) (h : Tr.okFrom 0 l = true) : run b r b2 r2 l = refFrom b r b2 r2 [] [] l :=
  run_eq hr hr2 l _ _ _ _ _ h (by simp [dem]) (by simp [dem]) rfl rfl
end Mt
end Go.Proofs.Ytgpknoakkkkapaa
