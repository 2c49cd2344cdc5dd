/- A region that draws its order: an invariant on the set of operations that are done serves every order. -/
import Derived.Test.YtgpknoakkkkapaaMem
namespace Go.Proofs.Ytgpknoakkkkapaa
set_option linter.unusedSimpArgs false
set_option linter.unusedVariables false
open Go.RowKit
namespace AnyW
/-- Operations that are not done. -/
def left (n : Nat) (f : Nat → Bool) : Nat := (List.range n).countP f
theorem countP_one (l : List Nat) (f g : Nat → Bool) (i : Nat) (hn : l.Nodup) (hi : i ∈ l) (hf : f i = true) (hg : g i = false) (he : ∀ j, j ≠ i → g j = f j) : l.countP g + 1 = l.countP f := by
  induction l with
  | nil => cases hi
  | cons x l ih =>
    rw [List.nodup_cons] at hn
    rw [List.countP_cons, List.countP_cons]
    by_cases hx : x = i
    · subst hx
      rw [hf, hg]
      have : l.countP g = l.countP f := List.countP_congr fun j hj => by rw [he j (fun h => hn.1 (h ▸ hj))]
      rw [this]
      simp
    · rw [he x hx]
      have hi' : i ∈ l := by
        rcases List.mem_cons.1 hi with h | h
        · exact absurd h.symm hx
        · exact h
      have := ih hn.2 hi'
      omega
theorem wpAny_inv {P : Program} {md : Region.Mode} {ops : Array Oper} {Q : Exit → Act → World → Prop} (I : (Nat → Prop) → Act → World → Prop)
    (hlex : ∀ i o, ops[i]? = some o → ∀ e ∈ o.after, Region.binds md e = true → e.on < i)
    (step : ∀ i o D a w, ops[i]? = some o → ¬ D i → (∀ e ∈ o.after, Region.binds md e = true → D e.on) → I D a w → ∀ K : Act → World → Prop, (∀ a w, I (fun j => j = i ∨ D j) a w → K a w) → if Region.wanted o (yielded ops a.tmps) = true then Oper.wp P o a w K Q else K (a.put o.dst undef) w)
    (last : ∀ D a w, (∀ i, i < ops.size → D i) → I D a w → Q .normal a w) :
    ∀ (fuel : Nat) (listed : Array Bool) (a : Act) (w : World), listed.size = ops.size → left ops.size (fun j => !listed.getD j true) = fuel → I (fun j => listed.getD j false = true) a w → wpAny P md ops Q fuel listed a w := by
  intro fuel
  have all : ∀ (listed : Array Bool), listed.size = ops.size → Region.ready md ops listed = [] → ∀ i, i < ops.size → listed.getD i false = true := by
    intro listed hs h0 i
    induction i using Nat.strongRecOn with
    | _ i ih =>
      intro hi
      by_cases hl : listed.getD i false = true
      · exact hl
      · exfalso
        have hm : i ∈ Region.ready md ops listed := by
          unfold Region.ready
          rw [List.mem_filter, List.mem_range]
          refine ⟨hi, ?_⟩
          have hg : listed.getD i true = false := by
            rw [Array.getD_eq_getD_getElem?, Array.getElem?_eq_getElem (by omega)] at hl ⊢
            simpa using hl
          rw [hg, Array.getElem?_eq_getElem hi]
          simp only [Bool.not_false, Bool.true_and, Option.map_some, Option.getD_some]
          have hx := hlex i _ (Array.getElem?_eq_getElem hi)
          have : ∀ e ∈ (ops[i]).after, (!Region.binds md e || listed.getD e.on false) = true := by
            intro e he
            cases hb : Region.binds md e
            · rfl
            · simp only [Bool.not_true, Bool.false_or]
              have := hx e he hb
              exact ih e.on this (by omega)
          exact Array.all_eq_true_iff_forall_mem.2 this
        rw [h0] at hm
        cases hm
  induction fuel with
  | zero =>
    intro listed a w hs hc hI
    have h0 : Region.ready md ops listed = [] := by
      unfold Region.ready
      rw [List.filter_eq_nil_iff]
      intro i hi h
      rw [Bool.and_eq_true] at h
      exact (List.countP_eq_zero.1 hc) i hi h.1
    exact ⟨h0, last _ _ _ (all listed hs h0) hI⟩
  | succ fuel ih =>
    intro listed a w hs hc hI
    refine ⟨fun h0 => last _ _ _ (all listed hs h0) hI, fun i hi => ?_⟩
    unfold Region.ready at hi
    rw [List.mem_filter, List.mem_range, Bool.and_eq_true] at hi
    obtain ⟨hi, hg, hd⟩ := hi
    have hg' : listed.getD i true = false := by simpa using hg
    rw [Array.getElem?_eq_getElem hi] at hd
    simp only [Option.map_some, Option.getD_some] at hd
    have hD : ¬ (listed.getD i false = true) := by
      rw [Array.getD_eq_getD_getElem?, Array.getElem?_eq_getElem (by omega)] at hg' ⊢
      simpa using hg'
    have hdeps : ∀ e ∈ (ops[i]).after, Region.binds md e = true → listed.getD e.on false = true := by
      intro e he hb
      have hd' : ∀ e ∈ (ops[i]).after, (!Region.binds md e || listed.getD e.on false) = true := Array.all_eq_true_iff_forall_mem.1 hd
      have := hd' e he
      rw [hb] at this
      simpa using this
    have eD : (fun j => (listed.setIfInBounds i true).getD j false = true) = fun j => j = i ∨ listed.getD j false = true := by
      funext j
      rw [Array.getD_eq_getD_getElem?, Array.getD_eq_getD_getElem?, Array.getElem?_setIfInBounds]
      by_cases hj : j = i
      · subst hj
        simp [show j < listed.size by omega]
      · rw [if_neg (fun h => hj h.symm)]
        simp [hj]
    have hcnt : left ops.size (fun j => !(listed.setIfInBounds i true).getD j true) = fuel := by
      have := countP_one (List.range ops.size) (fun j => !listed.getD j true) (fun j => !(listed.setIfInBounds i true).getD j true) i List.nodup_range (List.mem_range.2 hi) hg (by
        rw [Array.getD_eq_getD_getElem?, Array.getElem?_setIfInBounds]
        simp [show i < listed.size by omega]) (fun j hj => by
        rw [Array.getD_eq_getD_getElem?, Array.getD_eq_getD_getElem?, Array.getElem?_setIfInBounds, if_neg (fun h => hj h.symm)])
      unfold left at hc ⊢
      omega
    exact wpOp_step (Array.getElem?_eq_getElem hi) fun K' hK => step i _ _ a w (Array.getElem?_eq_getElem hi) hD hdeps hI K' fun a' w' hI' => hK a' w' (ih _ a' w' (by simp [hs]) hcnt (by rw [eD]; exact hI'))
/-- The whole region. -/
theorem wp_region_inv {P : Program} {ops : Array Oper} {Q : Exit → Act → World → Prop} {id : Nat} {a : Act} {w : World} (hm : P.follows .mixedOrders = true) (I : (Nat → Prop) → Act → World → Prop)
    (hlex : ∀ i o, ops[i]? = some o → ∀ e ∈ o.after, Region.binds .any e = true → e.on < i)
    (step : ∀ i o D a w, ops[i]? = some o → ¬ D i → (∀ e ∈ o.after, Region.binds .any e = true → D e.on) → I D a w → ∀ K : Act → World → Prop, (∀ a w, I (fun j => j = i ∨ D j) a w → K a w) → if Region.wanted o (yielded ops a.tmps) = true then Oper.wp P o a w K Q else K (a.put o.dst undef) w)
    (last : ∀ D a w, (∀ i, i < ops.size → D i) → I D a w → Q .normal a w) (hI : I (fun _ => False) a w.drew) : (Code.region id ops true).wp P Q a w := by
  refine wp_region_any hm (wpAny_inv I hlex step last ops.size _ a _ (by simp) ?_ ?_)
  · unfold left
    have : ((List.range ops.size).countP fun j => !(Array.replicate ops.size false).getD j true) = (List.range ops.size).length := by
      rw [List.countP_eq_length]
      intro j hj
      have := List.mem_range.1 hj
      simp [Array.getD_eq_getD_getElem?, this]
    rw [this, List.length_range]
  · have e : (fun j => (Array.replicate ops.size false).getD j false = true) = fun _ => False := by
      funext j
      by_cases hj : j < ops.size <;> simp [Array.getD_eq_getD_getElem?, hj]
    rw [e]
    exact hI
end AnyW
end Go.Proofs.Ytgpknoakkkkapaa
