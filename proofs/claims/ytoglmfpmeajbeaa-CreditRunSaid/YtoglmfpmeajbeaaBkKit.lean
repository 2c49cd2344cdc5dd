/- Tactics for worlds that are written out. -/
import Derived.Test.YtoglmfpmeajbeaaKit
import Derived.Deep.RegionHeld3
import Derived.LoopN
import Derived.Lib.MinMax
import Derived.BigRegion
namespace Go.Proofs.Ytoglmfpmeajbeaa
set_option linter.unusedSimpArgs false
set_option linter.unusedVariables false
open Go.RowKit
/-- 'Below' of a world that is written out, behind one that is known. -/
theorem ret_tup2 {a a' b b' : Value} (h : a = a') (h2 : b = b') : Ending.returned (.tuple #[a, b]) = .returned (.tuple #[a', b']) := by rw [h, h2]
theorem ret_tup3 {a a' b b' c c' : Value} (h : a = a') (h2 : b = b') (h3 : c = c') : Ending.returned (.tuple #[a, b, c]) = .returned (.tuple #[a', b', c']) := by rw [h, h2, h3]
theorem agg3 {a a' b b' c c' : Int} (h : a = a') (h2 : b = b') (h3 : c = c') : Value.agg #[.int .i64 a, .int .i64 b, .int .i64 c] = .agg #[.int .i64 a', .int .i64 b', .int .i64 c'] := by rw [h, h2, h3]
theorem agg2 {a a' b b' : Int} (h : a = a') (h2 : b = b') : Value.agg #[.int .i64 a, .int .i64 b] = .agg #[.int .i64 a', .int .i64 b'] := by rw [h, h2]
/-- Two cells of a box, behind two stores. -/
theorem cell2 {w : World} {g : Nat} {a b : Value} (x y : Value) (c0 : w.cell? ⟨g, 0, none⟩ = some a) (c1 : w.cell? ⟨g, 1, none⟩ = some b) : ((w.setCell ⟨g, 0, none⟩ x).setCell ⟨g, 1, none⟩ y).cell? ⟨g, 0, none⟩ = some x ∧ ((w.setCell ⟨g, 0, none⟩ x).setCell ⟨g, 1, none⟩ y).cell? ⟨g, 1, none⟩ = some y :=
  ⟨(World.cell?_setCell_other _ _ _ _ (by simp)).trans (World.cell?_setCell_same _ _ _ c0), World.cell?_setCell_same _ _ _ ((World.cell?_setCell_other _ _ _ _ (by simp)).trans c1)⟩
end Go.Proofs.Ytoglmfpmeajbeaa
