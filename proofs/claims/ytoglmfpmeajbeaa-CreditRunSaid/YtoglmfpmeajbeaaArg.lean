/- Arguments that are slices, or structs with slices: their cells. -/
import Derived.Test.YtoglmfpmeajbeaaRead
import Derived.Test.YtoglmfpmeajbeaaMem
import Derived.OpenShut
import Derived.ShutString
import Derived.Lib.SmallJoins
import Derived.Deep.Slices
import Derived.Deep.Fields
import Derived.ChangeSame
import Derived.ChangeSlices
namespace Go.Proofs.Ytoglmfpmeajbeaa
set_option linter.unusedSimpArgs false
set_option linter.unusedVariables false
open Go.ChangeShapes Go.WideShapes Go.RowKit Go.Joins Go.Deep
namespace Arg
theorem has_of {k : IntKind} {n : Int} (h : (Lit.int k n).wf = true) : k.has n := by
  unfold IntKind.has
  simpa [Lit.wf] using h
section
variable {H : Type} {enc : TypeId × Value → H} {w : World} {spare : Nat → Bool} {held : Bool}
theorem ints {P : Program} {t e : TypeId} {k : IntKind} {fuel : Nat} {cs : List Value} {x : DataW H × List MemPlace} (ht : P.underlying t = some (.slice e)) (he : P.underlying e = some (.int k)) (hc : P.cellsOf e = 1)
    (h : DataW.trod enc P w 0 spare held fuel t cs = some x) :
    ∃ (A : Option Addr) (l : List Int) (cap : Nat), cs = [.slice A l.length cap] ∧ l.length ≤ cap ∧ cap ≤ maxLen ∧ Mem.Row w w.heap.size A (Mem.nums k l) ∧ ∀ n ∈ l, k.has n := by
  rcases open_ints ht he hc h with ⟨rfl, _⟩ | ⟨a, len, cap, zs, rfl, hb, hl, hm, hzl, _, hcell, hwf⟩
  · exact ⟨none, [], 0, rfl, Nat.le_refl _, Nat.zero_le _, Mem.Row.nil _ _ _, by simp⟩
  · have hle : len ≤ zs.length := by split at hzl <;> omega
    have hlt : (zs.take len).length = len := by rw [List.length_take]; omega
    refine ⟨some a, zs.take len, cap, by rw [hlt], by omega, hm, fun j u hu => ?_, fun n hn => ?_⟩
    · rw [Mem.nums_get, List.getElem?_take] at hu
      split at hu
      · have hj : j < zs.length := by omega
        rw [List.getElem?_eq_getElem hj] at hu
        simp only [Option.map_some, Option.some.injEq] at hu
        have hc := hcell j hj
        rw [List.getD_eq_getElem?_getD, List.getElem?_eq_getElem hj] at hc
        simp only [Option.getD_some] at hc
        refine ⟨a, rfl, ?_, by rw [hc, hu]⟩
        have := World.block_lt_of_cell? w _ hc
        rwa [Tr.block_add] at this
      · simp at hu
    · exact has_of (hwf n (List.mem_of_mem_take hn))
def intAt (w : World) (a : Addr) : Int := match w.cell? a with | some (.int _ n) => n | _ => 0
/-- A slice of structs of two integers. -/
theorem pairs {P : Program} {t e : TypeId} {f0 f1 : Field} {fuel : Nat} {cs : List Value} {x : DataW H × List MemPlace} (ht : P.underlying t = some (.slice e)) (he : P.underlying e = some (.struct #[f0, f1]))
    (hone : oneCellFields P #[f0, f1] = true) (hC : P.cellsOf e = 2) (h0 : P.underlying f0.type = some (.int .i64)) (h1 : P.underlying f1.type = some (.int .i64))
    (h : DataW.trod enc P w 0 spare held fuel t cs = some x) :
    ∃ (A : Option Addr) (l : List (Int × Int)) (cap : Nat), cs = [.slice A l.length cap] ∧ l.length ≤ cap ∧ cap ≤ maxLen ∧ Tr.Arr w w.heap.size A l ∧ ∀ x ∈ l, IntKind.i64.has x.1 ∧ IntKind.i64.has x.2 := by
  rcases open_slice ht h with ⟨rfl, _⟩ | ⟨a, len, cap, m, n, D, Pl, rfl, hb, hl, hm, hmm, _, hi⟩
  · exact ⟨none, [], 0, rfl, Nat.le_refl _, Nat.zero_le _, fun i x hx => by simp at hx, by simp⟩
  · have hle : len ≤ m := by split at hmm <;> omega
    obtain ⟨o0, k0⟩ := hone_of hone 0 f0 rfl
    obtain ⟨o1, k1⟩ := hone_of hone 1 f1 rfl
    have each : ∀ i, i < m → ∃ n1 n2 : Int, w.cell? (a.add (i * 2)) = some (.int .i64 n1) ∧ w.cell? ((a.add (i * 2)).add 1) = some (.int .i64 n2) ∧ IntKind.i64.has n1 ∧ IntKind.i64.has n2 := by
      intro i him
      obtain ⟨cs', hc, ht'⟩ := hi i him
      rw [hC] at hc
      obtain ⟨_, hcl, hat⟩ := World.cells?_some hc
      obtain ⟨ys, n', _, _, hlen, hyl, hf⟩ := DataW.trod_struct he ht'
      have g0 := hf 0 f0 rfl
      have g1 := hf 1 f1 rfl
      rw [o0, k0] at g0
      rw [o1, k1] at g1
      match cs', hcl with
      | [c0, c1], _ =>
        have y0 : ys[0]? = some (ys[0]'(by rw [hyl]; simp)) := List.getElem?_eq_getElem _
        have y1 : ys[1]? = some (ys[1]'(by rw [hyl]; simp)) := List.getElem?_eq_getElem _
        rw [y0] at g0
        rw [y1] at g1
        obtain ⟨n1, e1, _, w1⟩ := DataW.trod_int h0 g0
        obtain ⟨n2, e2, _, w2⟩ := DataW.trod_int h1 g1
        simp at e1 e2
        refine ⟨n1, n2, ?_, ?_, has_of w1, has_of w2⟩
        · have := hat 0 (by omega); rw [show (a.add (i * 2)).add 0 = a.add (i * 2) from by rw [Tr.add_add]; rfl] at this; rw [this, e1]; rfl
        · have := hat 1 (by omega); rw [this, e2]; rfl
    refine ⟨some a, (List.range len).map fun i => (intAt w (a.add (i * 2)), intAt w ((a.add (i * 2)).add 1)), cap, by simp, by simpa using hl, hm, fun i x hx => ?_, fun x hx => ?_⟩
    · rw [List.getElem?_map] at hx
      by_cases hil : i < len
      · rw [List.getElem?_range hil] at hx
        simp only [Option.map_some, Option.some.injEq] at hx
        subst hx
        obtain ⟨n1, n2, e1, e2, _⟩ := each i (by omega)
        have hlt := World.block_lt_of_cell? w _ e1
        rw [Tr.block_add] at hlt
        refine ⟨a, rfl, hlt, ?_, ?_⟩
        · rw [e1]; simp [intAt, e1]
        · have e3 : (a.add (i * 2)).add 1 = ⟨(a.add (i * 2)).block, (a.add (i * 2)).off + 1, none⟩ := by
            show (if 1 = 0 then _ else _) = _
            simp
          rw [← e3, e2]; simp [intAt, e2]
      · rw [List.getElem?_eq_none (by simp; omega)] at hx; simp at hx
    · simp only [List.mem_map, List.mem_range] at hx
      obtain ⟨i, hil, rfl⟩ := hx
      obtain ⟨n1, n2, e1, e2, r1, r2⟩ := each i (by omega)
      simp only [intAt, e1, e2]
      exact ⟨r1, r2⟩
/-- A struct of two integers and two slices of integers. -/
theorem draft {P : Program} {t s e u : TypeId} {f0 f1 f2 f3 : Field} {v : Value} {d : DataW H} {p : List MemPlace} {r : Reach} {b : Nat} (hs : P.underlying t = some (.struct #[f0, f1, f2, f3])) (hone : oneCellFields P #[f0, f1, f2, f3] = true) (hC : P.cellsOf t = 4)
    (h0 : f0.type = u) (h1 : f1.type = u) (h2 : f2.type = s) (h3 : f3.type = s) (hu : P.underlying u = some (.int .u32)) (hsl : P.underlying s = some (.slice e)) (he : P.underlying e = some (.int .u16)) (hc : P.cellsOf e = 1)
    (hval : Value.okWide P w r b t v) (h : DataW.Trod enc P w 0 spare held t v d p) :
    ∃ (x y : Int) (G : Option Addr) (gs : List Int) (cg : Nat) (S : Option Addr) (ss : List Int) (cs : Nat), v = .agg #[.int .u32 x, .int .u32 y, .slice G gs.length cg, .slice S ss.length cs] ∧ IntKind.u32.has x ∧ IntKind.u32.has y ∧
      Mem.Row w w.heap.size G (Mem.nums .u16 gs) ∧ Mem.Row w w.heap.size S (Mem.nums .u16 ss) ∧ (∀ n ∈ gs, IntKind.u16.has n) ∧ (∀ n ∈ ss, IntKind.u16.has n) ∧ gs.length ≤ maxLen ∧ ss.length ≤ maxLen := by
  obtain ⟨v0, v1, v2, v3, y0, y1, y2, y3, n, rfl, _, _, g0, g1, g2, g3⟩ := open_agg4 hs hone hC hval h
  rw [h0] at g0
  rw [h1] at g1
  rw [h2] at g2
  rw [h3] at g3
  obtain ⟨x, ex, _, wx⟩ := DataW.trod_int hu g0
  obtain ⟨y, ey, _, wy⟩ := DataW.trod_int hu g1
  obtain ⟨G, gs, cg, eg, hg1, hg2, hg3, hg4⟩ := ints hsl he hc g2
  obtain ⟨S, ss, cs, es, hs1, hs2, hs3, hs4⟩ := ints hsl he hc g3
  simp at ex ey eg es
  subst ex ey eg es
  exact ⟨x, y, G, gs, cg, S, ss, cs, rfl, has_of wx, has_of wy, hg3, hs3, hg4, hs4, by omega, by omega⟩
end
end Arg
end Go.Proofs.Ytoglmfpmeajbeaa
