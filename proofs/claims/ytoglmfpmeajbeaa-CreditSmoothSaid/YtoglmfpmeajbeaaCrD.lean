/- Credit-based shapers: the frames at their starts conform. No program in sight. -/
import Derived.Test.YtoglmfpmeajbeaaCrC
import Derived.Test.YtoglmfpmeajbeaaFit
namespace Go.Proofs.Ytoglmfpmeajbeaa
set_option linter.unusedSimpArgs false
set_option linter.unusedVariables false
namespace Cr
/-- The frames at their starts. -/
def sent (r p : Int) : Int → Int → Its → List (Int × Int)
  | _, _, [] => []
  | a, l, x :: its => (start r a l x.1 x.2.2, x.2.1) :: sent r p (outA r p a l x.1 x.2.2 x.2.1) (outL r p a l x.1 x.2.2 x.2.1) its
theorem sent_length (r p : Int) : ∀ (its : Its) (a l : Int), (sent r p a l its).length = its.length
  | [], _, _ => rfl
  | _ :: its, a, l => congrArg (· + 1) (sent_length r p its _ _)
theorem sent_get {r p : Int} : ∀ {its : Its} {a l : Int} {k : Nat} {s : Int} {x : Int × Int × Int}, (starts r p a l its)[k]? = some s → its[k]? = some x → (sent r p a l its)[k]? = some (s, x.2.1)
  | [], _, _, _, _, _, _, h2 => by simp at h2
  | y :: its, a, l, 0, s, x, h1, h2 => by
    simp only [starts, List.getElem?_cons_zero, Option.some.injEq] at h1 h2
    subst h1 h2; rfl
  | y :: its, a, l, k + 1, s, x, h1, h2 => by
    simp only [starts, List.getElem?_cons_succ] at h1 h2
    exact sent_get (its := its) h1 h2
theorem lev_free {r a l t : Int} (hr : 1 ≤ r) (ha : 0 ≤ a) (hl : l < r) : lev r a l t 0 < r := by
  have sp := start_spec (a := a) (l := l) (t := t) (free := 0) hr
  have hb := (beg_le (a := a) (t := t)).1
  rcases Int.lt_or_le (max (beg a t) 0) (start r a l t 0) with h | h
  · exact sp.2.2.1 h
  · have e : start r a l t 0 = beg a t := by omega
    unfold lev
    rw [e, Int.sub_self, Int.mul_zero]
    unfold lvl
    split <;> omega
theorem out_free {r p a l t z : Int} (hr : 1 ≤ r) (hrp : r * p < 1048576) (hz : 1 ≤ z) (ha : 0 ≤ a) (hl : l < r) : outL r p a l t 0 z < r := by
  have h1 := lev_free (t := t) hr ha hl
  have m := Int.mul_nonneg (show 0 ≤ 1048576 - r * p by omega) (show 0 ≤ z by omega)
  rw [outL_lev, show (r * p - 1048576) * z = -((1048576 - r * p) * z) by rw [← Int.neg_mul]; congr 1; omega]
  omega
theorem outA_ge {r p a l t f z : Int} (hr : 1 ≤ r) (hp : 1 ≤ p) (hz : 1 ≤ z) : a ≤ start r a l t f ∧ start r a l t f ≤ outA r p a l t f z := by
  have sp := (start_spec (a := a) (l := l) (t := t) (free := f) hr).2.1
  have hb := (beg_le (a := a) (t := t)).1
  have m := Int.mul_nonneg (show 0 ≤ z by omega) (show 0 ≤ p by omega)
  unfold outA
  omega
theorem smooth_inner {r p b s0 v0 : Int} (hr : 1 ≤ r) (hr1 : r < 1048576) (hp : 1 ≤ p) (hv : v0 < r) : ∀ (its : Its) (a l s : Int), (∀ x ∈ its, x.2.2 = 0 ∧ 1 ≤ x.2.1 ∧ x.2.1 + 1 ≤ b) → 1048576 * s + l - r * a ≤ v0 - r * s0 → Fits.inner b r s0 s (sent r p a l its) = true
  | [], _, _, _, _, _ => rfl
  | x :: its, a, l, s, h, hs => by
    have hx := h x (by simp)
    have e1 := lev_le (r := r) (a := a) (l := l) (t := x.1) (free := x.2.2)
    have e2 := (start_spec (a := a) (l := l) (t := x.1) (free := x.2.2) hr).1
    have e3 := out_sum r p a l x.1 x.2.2 x.2.1
    show (decide _ && Fits.inner b r s0 (s + x.2.1) (sent r p _ _ its)) = true
    rw [Bool.and_eq_true, decide_eq_true_iff]
    rw [Int.mul_sub] at e1
    refine ⟨?_, smooth_inner hr hr1 hp hv its _ _ _ (fun y hy => h y (by simp [hy])) ?_⟩
    · show (s + x.2.1 - b) * 1048576 ≤ r * (start r a l x.1 x.2.2 - s0)
      rw [Int.mul_sub]
      omega
    · omega
theorem smooth {r p b : Int} (hr : 1 ≤ r) (hr1 : r < 1048576) (hp : 1 ≤ p) (hrp : r * p < 1048576) : ∀ (its : Its) (a l : Int), (∀ x ∈ its, x.2.2 = 0 ∧ 1 ≤ x.2.1 ∧ x.2.1 + 1 ≤ b) → 0 ≤ a → l < r → Fits.fits b r (sent r p a l its) = true
  | [], _, _, _, _, _ => rfl
  | x :: its, a, l, h, ha, hl => by
    have hx := h x (by simp)
    have hv : lev r a l x.1 x.2.2 < r := by rw [hx.1]; exact lev_free hr ha hl
    have hg := outA_ge (r := r) (p := p) (a := a) (l := l) (t := x.1) (f := x.2.2) hr hp hx.2.1
    show (Fits.inner b r _ 0 (_ :: _) && Fits.fits b r (sent r p _ _ its)) = true
    rw [Bool.and_eq_true]
    refine ⟨?_, smooth hr hr1 hp hrp its _ _ (fun y hy => h y (by simp [hy])) (by omega) (by rw [hx.1]; exact out_free hr hrp hx.2.1 ha hl)⟩
    show (decide _ && Fits.inner b r _ (0 + x.2.1) (sent r p _ _ its)) = true
    rw [Bool.and_eq_true, decide_eq_true_iff]
    refine ⟨?_, smooth_inner hr hr1 hp hv its _ _ _ (fun y hy => h y (by simp [hy])) ?_⟩
    · show (0 + x.2.1 - b) * 1048576 ≤ r * (start r a l x.1 x.2.2 - start r a l x.1 x.2.2)
      rw [Int.sub_self, Int.mul_zero]; omega
    · show 1048576 * (0 + x.2.1) + outL r p a l x.1 x.2.2 x.2.1 - r * outA r p a l x.1 x.2.2 x.2.1 ≤ lev r a l x.1 x.2.2 - r * start r a l x.1 x.2.2
      have := out_sum r p a l x.1 x.2.2 x.2.1
      omega
theorem sent_ok {r p : Int} (hr : 1 ≤ r) (hp : 1 ≤ p) : ∀ (its : Its) (a l last : Int), (∀ x ∈ its, 1 ≤ x.2.1 ∧ x.2.1 ≤ 1542) → last ≤ a → good r p a l its = true → Tr.okFrom last (sent r p a l its) = true
  | [], _, _, _, _, _, _ => rfl
  | x :: its, a, l, last, h, hl, hg => by
    have hx := h x (by simp)
    have hg2 : (stOk (outA r p a l x.1 x.2.2 x.2.1) (outL r p a l x.1 x.2.2 x.2.1) && good r p (outA r p a l x.1 x.2.2 x.2.1) (outL r p a l x.1 x.2.2 x.2.1) its) = true := hg
    rw [Bool.and_eq_true] at hg2
    have hs := stOk_iff.1 hg2.1
    have ho := outA_ge (r := r) (p := p) (a := a) (l := l) (t := x.1) (f := x.2.2) hr hp hx.1
    show (Tr.stepOk last (start r a l x.1 x.2.2, x.2.1) && Tr.okFrom (start r a l x.1 x.2.2) (sent r p _ _ its)) = true
    rw [Bool.and_eq_true]
    exact ⟨Tr.stepOk_yes ⟨by omega, by show start r a l x.1 x.2.2 ≤ _; omega, hx.1, by show x.2.1 ≤ 1048576; omega⟩, sent_ok hr hp its _ _ _ (fun y hy => h y (by simp [hy])) ho.2 hg2.2⟩
/-- The burst of the law. -/
def bst (b : Int) : List (Int × Int) → Int
  | [] => b
  | x :: l => bst (max b (x.2 + 1)) l
theorem bst_step {b : Int} {l : List (Int × Int)} {k : Nat} {x : Int × Int} (hx : l[k]? = some x) : bst b (l.drop k) = bst (max b (x.2 + 1)) (l.drop (k + 1)) := by
  rw [drop_at hx]; rfl
theorem bst_ge (l : List (Int × Int)) : ∀ b, b ≤ bst b l ∧ ∀ x ∈ l, x.2 + 1 ≤ bst b l := by
  induction l with
  | nil => intro b; exact ⟨Int.le_refl _, fun x hx => by simp at hx⟩
  | cons c l ih =>
    intro b
    have := ih (max b (c.2 + 1))
    refine ⟨by unfold bst; omega, fun x hx => ?_⟩
    unfold bst
    rcases List.mem_cons.1 hx with rfl | hx
    · omega
    · exact this.2 x hx
theorem bst_le (l : List (Int × Int)) (m : Int) : ∀ b, b ≤ m → (∀ x ∈ l, x.2 + 1 ≤ m) → bst b l ≤ m := by
  induction l with
  | nil => intro b h _; exact h
  | cons c l ih =>
    intro b h hl
    unfold bst
    exact ih _ (by have := hl c (by simp); omega) (fun x hx => hl x (by simp [hx]))
theorem items_mem {fr : List Int} {tr : List (Int × Int)} {y : Int × Int × Int} (h : y ∈ items fr tr) : ∃ k x, tr[k]? = some x ∧ y = (x.1, x.2, fr.getD k 0) := by
  obtain ⟨k, hk, e⟩ := List.mem_iff_getElem.1 h
  have hk2 : k < tr.length := by rw [items_length] at hk; exact hk
  refine ⟨k, tr[k], List.getElem?_eq_getElem hk2, ?_⟩
  have := items_get (fr := fr) (List.getElem?_eq_getElem hk2)
  rw [List.getElem?_eq_getElem hk, e] at this
  injection this
theorem smooth_law {r p : Int} {tr : List (Int × Int)} (h : ok r p = true) (ht : ∀ x ∈ tr, 0 ≤ x.1 ∧ x.1 ≤ 1966050 ∧ 1 ≤ x.2 ∧ x.2 ≤ 1542) (h30 : tr.length ≤ 30) (hg : good r p 0 0 (items [] tr) = true) :
    Tr.ok (sent r p 0 0 (items [] tr)) = true ∧ Fits.fits (bst 1 tr) r (sent r p 0 0 (items [] tr)) = true ∧ 1 ≤ bst 1 tr ∧ bst 1 tr ≤ 1543 ∧ (sent r p 0 0 (items [] tr)).length = tr.length := by
  obtain ⟨a1, a2, a3, a4, a5⟩ := ok_iff.1 h
  have b1 := bst_ge tr 1
  have b2 := bst_le tr 1543 1 (by decide) (fun x hx => by have := ht x hx; omega)
  have hl : (sent r p 0 0 (items [] tr)).length = tr.length := by rw [sent_length, items_length]
  refine ⟨?_, ?_, b1.1, b2, hl⟩
  · unfold Tr.ok
    rw [Bool.and_eq_true, decide_eq_true_iff]
    refine ⟨by omega, sent_ok a3 a1 _ 0 0 0 (fun y hy => ?_) (Int.le_refl _) hg⟩
    obtain ⟨k, x, hx, rfl⟩ := items_mem hy
    have := ht x (List.mem_of_getElem? hx)
    exact ⟨this.2.2.1, this.2.2.2⟩
  · refine smooth a3 a4 a1 a5 _ 0 0 (fun y hy => ?_) (Int.le_refl _) (by omega)
    obtain ⟨k, x, hx, rfl⟩ := items_mem hy
    have := ht x (List.mem_of_getElem? hx)
    exact ⟨by simp, this.2.2.1, b1.2 x (List.mem_of_getElem? hx)⟩
end Cr
end Go.Proofs.Ytoglmfpmeajbeaa
