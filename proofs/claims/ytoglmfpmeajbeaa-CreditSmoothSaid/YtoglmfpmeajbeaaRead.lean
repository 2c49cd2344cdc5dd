/- Arguments that are structs or arrays: their cells. -/
import Derived.Test.YtoglmfpmeajbeaaRows
import Derived.ProofKit
namespace Go.Proofs.Ytoglmfpmeajbeaa
set_option linter.unusedSimpArgs false
set_option linter.unusedVariables false
namespace Read
theorem int_cell {P : Program} {w : World} {r : Reach} {b : Nat} {u : TypeId} {k : IntKind} {v : Value} (hu : P.underlying u = some (.int k)) (h : Cell.okWide P w r b u v) : ∃ n, v = .int k n ∧ k.has n := by
  unfold Cell.okWide at h
  rw [hu] at h
  cases v <;> simp [Cell.ok, hu] at h
  obtain ⟨rfl, hn⟩ := h
  exact ⟨_, rfl, hn⟩
theorem bool_cell {P : Program} {w : World} {r : Reach} {b : Nat} {u : TypeId} {v : Value} (hu : P.underlying u = some .bool) (h : Cell.okWide P w r b u v) : ∃ n, v = .bool n := by
  unfold Cell.okWide at h
  rw [hu] at h
  cases v <;> simp [Cell.ok, hu] at h
  exact ⟨_, rfl⟩
theorem agg_cells {P : Program} {w : World} {r : Reach} {b : Nat} {t : TypeId} {v : Value} (n : Nat) (ts : List TypeId) (hagg : (match P.underlying t with | some (.struct _) | some (.array _ _) => true | _ => false) = true)
    (hn : P.cellsOf t = n) (hts : P.cellTypes P.depth t = some ts) (hl : ts.length = n) (h : Value.okWide P w r b t v) :
    ∃ cs : Array Value, v = .agg cs ∧ cs.size = n ∧ ∀ (i : Nat) u, ts[i]? = some u → ∃ c, cs[i]? = some c ∧ Cell.okWide P w r b u c := by
  unfold Value.okWide at h
  have key : (∃ cs, v = .agg cs ∧ cs.size = P.cellsOf t ∧ Row.okWide P w r b t cs) := by
    cases hu : P.underlying t with
    | none => rw [hu] at hagg; simp at hagg
    | some d => cases d <;> rw [hu] at hagg h <;> simp at hagg <;> exact h
  obtain ⟨cs, rfl, hsz, ts', hts', _, hc⟩ := key
  rw [hts] at hts'
  injection hts' with e
  subst e
  refine ⟨cs, rfl, hsz.trans hn, fun i u hi => ?_⟩
  have hlt : i < ts.length := (List.getElem?_eq_some_iff.1 hi).1
  have hlt2 : i < cs.size := by omega
  obtain ⟨u', hu', hok⟩ := hc i cs[i] (Array.getElem?_eq_getElem hlt2)
  rw [Nat.mod_eq_of_lt hlt, hi] at hu'
  injection hu' with e
  subst e
  exact ⟨cs[i], Array.getElem?_eq_getElem hlt2, hok⟩
theorem array_ext2 {cs ds : Array Value} (h : cs.size = ds.size) (h2 : ∀ i, i < ds.size → cs[i]? = ds[i]?) : cs = ds := by
  apply Array.ext_getElem?
  intro i
  by_cases hi : i < ds.size
  · exact h2 i hi
  · rw [Array.getElem?_eq_none (by omega), Array.getElem?_eq_none (by omega)]
end Read
end Go.Proofs.Ytoglmfpmeajbeaa
