/- Credit-based shapers: what the laws need of traces. No program in sight. -/
import Derived.Test.YtoglmfpmeajbeaaCrT
namespace Go.Proofs.Ytoglmfpmeajbeaa
set_option linter.unusedSimpArgs false
set_option linter.unusedVariables false
open Go.RowKit
namespace Cr
theorem cut_ok (l : List (Int × Int)) : ∀ t, Tr.okFrom t l = true → Tr.okFrom t (l.map cut) = true := by
  induction l with
  | nil => intro t h; exact h
  | cons x l ih =>
    intro t h
    have h2 : (Tr.stepOk t x && Tr.okFrom x.1 l) = true := h
    rw [Bool.and_eq_true] at h2
    show (Tr.stepOk t (cut x) && Tr.okFrom (cut x).1 (l.map cut)) = true
    rw [Bool.and_eq_true]
    refine ⟨?_, ih _ h2.2⟩
    have h3 := h2.1
    unfold Tr.stepOk at h3 ⊢
    rw [Bool.and_eq_true, decide_eq_true_iff, decide_eq_true_iff] at h3 ⊢
    refine ⟨h3.1, ?_⟩
    show 1 ≤ 1 + x.2 % 1542 ∧ 1 + x.2 % 1542 ≤ 1048576
    omega
theorem trace_facts {gs ss : List Int} (bG : ∀ n ∈ gs, 0 ≤ n ∧ n ≤ 65535) (bS : ∀ n ∈ ss, 0 ≤ n ∧ n ≤ 65535) :
    Tr.chk (trace gs ss) = 0 ∧ Tr.ok (trace gs ss) = true ∧ (∀ x ∈ trace gs ss, 0 ≤ x.1 ∧ x.1 ≤ 1966050 ∧ 1 ≤ x.2 ∧ x.2 ≤ 1542) ∧ (trace gs ss).length ≤ 30 := by
  have h1 := Dr.trace_ok bG bS
  have h30 : (Dr.trace gs ss).length ≤ 30 := by rw [Dr.trace_length]; omega
  have hl : (trace gs ss).length = (Dr.trace gs ss).length := List.length_map _
  have hok : Tr.ok (trace gs ss) = true := by
    unfold Tr.ok at h1 ⊢
    rw [Bool.and_eq_true] at h1 ⊢
    exact ⟨by rw [hl]; exact h1.1, cut_ok _ _ h1.2⟩
  refine ⟨by unfold Tr.chk; rw [hok]; rfl, hok, fun x hx => ?_, by omega⟩
  obtain ⟨y, hy, rfl⟩ := List.mem_map.1 hx
  have := Dr.trace_at bG bS y hy
  refine ⟨this.1, this.2.1, ?_, ?_⟩
  · show 1 ≤ 1 + y.2 % 1542; omega
  · show 1 + y.2 % 1542 ≤ 1542; omega
/-- The times of a law: numbers times 16. -/
def frees (ds : List Int) (n : Nat) : List Int := (ds.take n).map (· * 16)
theorem frees_length {ds : List Int} {n : Nat} (h : n ≤ ds.length) : (frees ds n).length = n := by unfold frees; rw [List.length_map, List.length_take]; omega
theorem frees_snoc {ds : List Int} {n : Nat} {d : Int} (h : ds[n]? = some d) : frees ds (n + 1) = frees ds n ++ [d * 16] := by unfold frees; rw [List.take_add_one, h]; simp
theorem frees_in {ds : List Int} {n : Nat} (h : ∀ d ∈ ds, 0 ≤ d ∧ d ≤ 65535) (k : Nat) : 0 ≤ (frees ds n).getD k 0 ∧ (frees ds n).getD k 0 ≤ 1048560 := by
  rw [List.getD_eq_getElem?_getD]
  cases hx : (frees ds n)[k]? with
  | none => simp
  | some x =>
    have hm := List.mem_of_getElem? hx
    obtain ⟨d, hd, rfl⟩ := List.mem_map.1 hm
    have := h d (List.mem_of_mem_take hd)
    show 0 ≤ d * 16 ∧ d * 16 ≤ 1048560
    omega
theorem late_all {r p a l : Int} (late : Int) (h : ok r p = true) (hs : stOk a l = true) (h0 : 0 ≤ late) (hr : a + 1 + late + max 0 (-l) / r + 1 ≤ 536870912) :
    stepE r p a l (a + 1 + late + max 0 (-l) / r + 1) 0 64 = 0 ∧ start r a l (a + 1 + late + max 0 (-l) / r + 1) 0 = a + 1 + late + max 0 (-l) / r + 1 ∧ outA r p a l (a + 1 + late + max 0 (-l) / r + 1) 0 64 = a + 1 + late + max 0 (-l) / r + 1 + 64 * p ∧
      outL r p a l (a + 1 + late + max 0 (-l) / r + 1) 0 64 = (r * p - 1048576) * 64 := by
  obtain ⟨a1, a2, a3, a4, a5⟩ := ok_iff.1 h
  obtain ⟨b1, b2, b3, b4⟩ := stOk_iff.1 hs
  have e1 := (late_law (a := a) (l := l) (p := p) late a3 h0).1
  have e2 := late_lvl (a := a) (l := l) late a3 h0
  have e3 := Int.ediv_nonneg (show 0 ≤ max 0 (-l) by omega) (show 0 ≤ r by omega)
  generalize max 0 (-l) / r = q at *
  have hb : beg a (a + 1 + late + q + 1) = a + 1 + late + q + 1 := by unfold beg; rw [if_pos (by omega)]
  rw [show max (a + 1 + late + q + 1) 0 = a + 1 + late + q + 1 by omega] at e1
  have e4 : outA r p a l (a + 1 + late + q + 1) 0 64 = a + 1 + late + q + 1 + 64 * p := by unfold outA; rw [e1]
  have e5 : outL r p a l (a + 1 + late + q + 1) 0 64 = (r * p - 1048576) * 64 := by unfold outL; rw [e1, hb, e2, Int.sub_self, Int.mul_zero]; omega
  refine ⟨?_, e1, e4, e5⟩
  have hp := prod_bound a1 a2 a3 a4
  unfold stepE
  rw [if_neg (by rw [h, hs]; simp), if_neg (by rw [show argOk (a + 1 + late + q + 1) 0 64 = true from decide_eq_true (by omega)]; simp), e4, e5, if_pos]
  exact decide_eq_true (by omega)
/-- The rest of the time until then is small. -/
theorem late_in {r l : Int} (hr : 1 ≤ r) (h : -1616904192 ≤ l) : 0 ≤ max 0 (-l) / r ∧ max 0 (-l) / r ≤ 1616904192 := by
  have e3 := Int.ediv_nonneg (show 0 ≤ max 0 (-l) by omega) (show 0 ≤ r by omega)
  have := Int.ediv_le_self r (show 0 ≤ max 0 (-l) by omega)
  omega
end Cr
namespace CrW
theorem Trace_low (x y : Int) (G : Option Addr) (gs : List Int) (cg : Nat) (S : Option Addr) (ss : List Int) (cs : Nat) (w : World) (hG : Mem.Row w w.heap.size G (Mem.nums .u16 gs)) (hS : Mem.Row w w.heap.size S (Mem.nums .u16 ss)) (bG : ∀ n ∈ gs, 0 ≤ n ∧ n ≤ 65535) (bS : ∀ n ∈ ss, 0 ≤ n ∧ n ≤ 65535) (lG : gs.length ≤ maxLen) (lS : ss.length ≤ maxLen) :
    Calls Try.prog 16 #[.agg #[.int .u32 x, .int .u32 y, .slice G gs.length cg, .slice S ss.length cs]] w fun e w' => (∃ A cap, e = .returned (.slice A (Cr.trace gs ss).length cap) ∧ Tr.Arr w' w'.heap.size A (Cr.trace gs ss) ∧ ∀ ad, A = some ad → w.heap.size ≤ ad.block) ∧ Below w.heap.size w w' :=
  (Trace_cut x y G gs cg S ss cs w hG hS bG bS lG lS).mono fun e w' ⟨⟨A, cap, h1, h2⟩, h3⟩ => by
    obtain ⟨_, A', cap', h4, h5, h6⟩ := Mem.own_arr2 h2
    injection h4 with h4 h7 h8
    subst h4
    rw [show (Cr.trace gs ss).length = (Dr.trace gs ss).length from List.length_map _]
    exact ⟨⟨A, cap, h1, h5, h6⟩, h3⟩
end CrW
end Go.Proofs.Ytoglmfpmeajbeaa
