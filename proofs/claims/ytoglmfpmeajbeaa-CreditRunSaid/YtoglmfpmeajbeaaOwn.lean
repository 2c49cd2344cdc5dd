/- A row that is written: its cells. -/
import Derived.Test.YtoglmfpmeajbeaaMem
namespace Go.Proofs.Ytoglmfpmeajbeaa
set_option linter.unusedSimpArgs false
set_option linter.unusedVariables false
open Go.RowKit
namespace Mem
theorem own_some {w : World} {base n cap : Nat} {e : TypeId} {A : Option Addr} {l : List (Int × Int)} (h : w.ownsRow base e 2 (.slice A n cap) n (arrs l)) (hn : 0 < n) : ∃ g, A = some ⟨g, 0, none⟩ ∧ base ≤ g ∧ g < w.heap.size := by
  have hl := h.lt
  rcases h.2 with ⟨h1, h2⟩ | ⟨g, cap', cur, h1, hb, _⟩
  · omega
  · injection h1 with h1
    subst h1
    exact ⟨g, rfl, hl g rfl⟩
/-- Of the row that is written: the cells of one element. -/
theorem own_at {w : World} {base n cap g k : Nat} {e : TypeId} {l : List (Int × Int)} {x : Int × Int} (h : w.ownsRow base e 2 (.slice (some ⟨g, 0, none⟩) n cap) n (arrs l)) (hx : l[k]? = some x) : w.cell? ⟨g, k * 2, none⟩ = some (.int .i64 x.1) ∧ w.cell? ⟨g, k * 2 + 1, none⟩ = some (.int .i64 x.2) ∧ w.frozen? ⟨g, k * 2, none⟩ = false ∧ w.frozen? ⟨g, k * 2 + 1, none⟩ = false := by
  have hk : k < l.length := (List.getElem?_eq_some_iff.1 hx).1
  have hn : l.length = n := by have := h.1; rw [arrs_length] at this; omega
  refine ⟨?_, ?_, h.frozenAt _, h.frozenAt _⟩
  · rw [h.cellAt _ (by omega), arrs_even, hx]; rfl
  · rw [h.cellAt _ (by omega), arrs_odd, hx]; rfl
end Mem
end Go.Proofs.Ytoglmfpmeajbeaa
