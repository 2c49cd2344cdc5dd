/- Conformance of traces as plain functions; the levels of a bucket. No walk. -/
import Derived.Test.YtoglmfpmeajbeaaTrA
namespace Go.Proofs.Ytoglmfpmeajbeaa
set_option linter.unusedSimpArgs false
set_option linter.unusedVariables false
namespace Fits
/-- The inner loop of Fits: from a frame at a0, with the sum so far. -/
def inner (b r a0 : Int) : Int → List (Int × Int) → Bool
  | _, [] => true
  | s, y :: t => decide ((s + y.2 - b) * 1048576 ≤ r * (y.1 - a0)) && inner b r a0 (s + y.2) t
def fits (b r : Int) : List (Int × Int) → Bool
  | [] => true
  | x :: t => inner b r x.1 0 (x :: t) && fits b r t
def tot : List (Int × Int) → Int
  | [] => 0
  | x :: t => x.2 + tot t
/-- What the frames demand of the bucket at a time. -/
def dem (r t : Int) : List (Int × Int) → Int
  | [] => 0
  | x :: l => max (dem r t l) ((x.2 + tot l) * 1048576 - r * (t - x.1))
theorem dem_pos (r t : Int) (l : List (Int × Int)) : 0 ≤ dem r t l := by
  induction l with
  | nil => exact Int.le_refl _
  | cons x l ih => unfold dem; omega
theorem tot_snoc (l : List (Int × Int)) (x : Int × Int) : tot (l ++ [x]) = tot l + x.2 := by
  induction l with
  | nil => simp [tot]
  | cons y l ih => simp only [List.cons_append, tot, ih]; omega
theorem inner_snoc (b r a0 s : Int) (l : List (Int × Int)) (x : Int × Int) : inner b r a0 s (l ++ [x]) = (inner b r a0 s l && decide ((s + tot l + x.2 - b) * 1048576 ≤ r * (x.1 - a0))) := by
  induction l generalizing s with
  | nil => simp [inner, tot]
  | cons y l ih =>
    simp only [List.cons_append, inner, ih, Bool.and_assoc, tot, Int.add_assoc]
theorem fits_snoc (b r : Int) (l : List (Int × Int)) (x : Int × Int) : fits b r (l ++ [x]) = (fits b r l && decide (dem r x.1 l + x.2 * 1048576 ≤ b * 1048576)) := by
  induction l with
  | nil =>
    simp only [List.nil_append, fits, inner, dem, Int.sub_self, Int.mul_zero, Bool.and_true, Bool.true_and]
    exact decide_eq_decide.2 (by omega)
  | cons y l ih =>
    rw [List.cons_append]
    show (inner b r y.1 0 ((y :: l) ++ [x]) && fits b r (l ++ [x])) = (inner b r y.1 0 (y :: l) && fits b r l && _)
    rw [ih, inner_snoc]
    have e : decide (dem r x.1 (y :: l) + x.2 * 1048576 ≤ b * 1048576) = (decide ((0 + tot (y :: l) + x.2 - b) * 1048576 ≤ r * (x.1 - y.1)) && decide (dem r x.1 l + x.2 * 1048576 ≤ b * 1048576)) := by
      rw [← Bool.decide_and]
      refine decide_eq_decide.2 ?_
      have e1 : tot (y :: l) = y.2 + tot l := rfl
      have e2 : dem r x.1 (y :: l) = max (dem r x.1 l) ((y.2 + tot l) * 1048576 - r * (x.1 - y.1)) := rfl
      rw [e1, e2]
      omega
    rw [e]
    cases inner b r y.1 0 (y :: l) <;> cases fits b r l <;> simp
theorem dem_late {r t t' : Int} (hr : 0 ≤ r) (ht : t ≤ t') (l : List (Int × Int)) : dem r t' l = max 0 (dem r t l - r * (t' - t)) := by
  have hk := Int.mul_nonneg hr (show 0 ≤ t' - t by omega)
  induction l with
  | nil => unfold dem; omega
  | cons x l ih =>
    have e : r * (t' - x.1) = r * (t - x.1) + r * (t' - t) := by rw [← Int.mul_add]; congr 1; omega
    unfold dem
    rw [ih, e]
    omega
theorem dem_snoc (r : Int) (l : List (Int × Int)) (x : Int × Int) (hx : 0 ≤ x.2) : dem r x.1 (l ++ [x]) = dem r x.1 l + x.2 * 1048576 := by
  induction l with
  | nil => simp only [List.nil_append, dem, tot, Int.sub_self, Int.mul_zero]; omega
  | cons y l ih =>
    rw [List.cons_append]
    unfold dem
    rw [ih, tot_snoc]
    omega
end Fits
namespace Tr
theorem okFrom_prefix {a b : List (Int × Int)} : ∀ {last : Int}, okFrom last (a ++ b) = true → okFrom last a = true := by
  induction a with
  | nil => intros; rfl
  | cons x a ih =>
    intro last h
    rw [List.cons_append] at h
    unfold okFrom at h ⊢
    rw [Bool.and_eq_true] at h ⊢
    exact ⟨h.1, ih h.2⟩
theorem okFrom_earlier {a : List (Int × Int)} {last last' : Int} (hl : last ≤ last') (h : okFrom last' a = true) : okFrom last a = true := by
  cases a with
  | nil => rfl
  | cons x a =>
    unfold okFrom at h ⊢
    rw [Bool.and_eq_true] at h ⊢
    refine ⟨?_, h.2⟩
    have := h.1
    unfold stepOk at this ⊢
    rw [Bool.and_eq_true, decide_eq_true_iff, decide_eq_true_iff] at this ⊢
    omega
theorem okFrom_skip {a b : List (Int × Int)} {x : Int × Int} : ∀ {last : Int}, okFrom last (a ++ x :: b) = true → okFrom last (a ++ b) = true := by
  induction a with
  | nil =>
    intro last h
    simp only [List.nil_append] at h ⊢
    unfold okFrom at h
    rw [Bool.and_eq_true] at h
    have h1 := h.1
    unfold stepOk at h1
    rw [Bool.and_eq_true, decide_eq_true_iff, decide_eq_true_iff] at h1
    exact okFrom_earlier h1.1.1 h.2
  | cons y a ih =>
    intro last h
    rw [List.cons_append] at h ⊢
    unfold okFrom at h ⊢
    rw [Bool.and_eq_true] at h ⊢
    exact ⟨h.1, ih h.2⟩
end Tr
namespace Fits
theorem inner_step {b r a0 s : Int} {x : Int × Int} {l : List (Int × Int)} {k : Nat} (hx : l[k]? = some x) : inner b r a0 s (l.drop k) = (decide ((s + x.2 - b) * 1048576 ≤ r * (x.1 - a0)) && inner b r a0 (s + x.2) (l.drop (k + 1))) := by
  obtain ⟨hk, rfl⟩ := List.getElem?_eq_some_iff.1 hx
  rw [List.drop_eq_getElem_cons hk]; rfl
theorem fits_step {b r : Int} {x : Int × Int} {l : List (Int × Int)} {k : Nat} (hx : l[k]? = some x) : fits b r (l.drop k) = (inner b r x.1 0 (l.drop k) && fits b r (l.drop (k + 1))) := by
  obtain ⟨hk, rfl⟩ := List.getElem?_eq_some_iff.1 hx
  rw [List.drop_eq_getElem_cons hk]; rfl
end Fits
namespace Tr
theorem okFrom_at {l : List (Int × Int)} : ∀ {last : Int} {k : Nat} {x : Int × Int}, okFrom last l = true → 0 ≤ last → l[k]? = some x → last ≤ x.1 ∧ x.1 ≤ 1099511627776 ∧ 1 ≤ x.2 ∧ x.2 ≤ 1048576 := by
  induction l with
  | nil => intro last k x _ _ h; simp at h
  | cons y t ih =>
    intro last k x hok h0 hx
    unfold okFrom at hok
    rw [Bool.and_eq_true] at hok
    obtain ⟨h1, h2⟩ := hok
    unfold stepOk at h1
    rw [Bool.and_eq_true, decide_eq_true_iff, decide_eq_true_iff] at h1
    obtain ⟨⟨x1, x2⟩, x3, x4⟩ := h1
    cases k with
    | zero => simp at hx; subst hx; exact ⟨x1, x2, x3, x4⟩
    | succ k =>
      have := ih h2 (by omega) (by simpa using hx)
      omega
theorem stepOk_yes {last : Int} {x : Int × Int} (h : last ≤ x.1 ∧ x.1 ≤ 1099511627776 ∧ 1 ≤ x.2 ∧ x.2 ≤ 1048576) : stepOk last x = true := by
  unfold stepOk
  rw [Bool.and_eq_true, decide_eq_true_iff, decide_eq_true_iff]; omega
theorem stepOk_no {last : Int} {x : Int × Int} (h : ¬ (last ≤ x.1 ∧ x.1 ≤ 1099511627776 ∧ 1 ≤ x.2 ∧ x.2 ≤ 1048576)) : stepOk last x = false := by
  unfold stepOk
  rw [Bool.and_eq_false_iff, decide_eq_false_iff_not, decide_eq_false_iff_not]; omega
end Tr
namespace It
/-- What has come when k rounds are over. -/
def upto {α : Type} (f : Nat → α) (k : Nat) : List α := (List.range k).map f
theorem upto_succ {α : Type} (f : Nat → α) (k : Nat) : upto f (k + 1) = upto f k ++ [f k] := by simp [upto, List.range_succ]
theorem upto_length {α : Type} (f : Nat → α) (k : Nat) : (upto f k).length = k := by simp [upto]
/-- The levels after each arrival. -/
def lev (b r : Int) : Int → Int → List (Int × Int) → List Int
  | _, _, [] => []
  | v, t, x :: l => (min (b * 1048576) (v + r * (x.1 - t)) - x.2 * 1048576) :: lev b r (min (b * 1048576) (v + r * (x.1 - t)) - x.2 * 1048576) x.1 l
def levs (b r : Int) (l : List (Int × Int)) : List Int := lev b r (b * 1048576) 0 l
theorem lev_length (b r : Int) (l : List (Int × Int)) : ∀ v t, (lev b r v t l).length = l.length := by
  induction l with
  | nil => intros; rfl
  | cons x l ih => intro v t; simp [lev, ih]
theorem levs_length (b r : Int) (l : List (Int × Int)) : (levs b r l).length = l.length := lev_length b r l _ _
theorem lev_step {b r v t : Int} {x : Int × Int} {l : List (Int × Int)} {k : Nat} (hx : l[k]? = some x) : lev b r v t (l.drop k) = (min (b * 1048576) (v + r * (x.1 - t)) - x.2 * 1048576) :: lev b r (min (b * 1048576) (v + r * (x.1 - t)) - x.2 * 1048576) x.1 (l.drop (k + 1)) := by
  obtain ⟨hk, rfl⟩ := List.getElem?_eq_some_iff.1 hx
  rw [List.drop_eq_getElem_cons hk]; rfl
end It
namespace Fits
theorem inner_append (b r a0 : Int) (l m : List (Int × Int)) : ∀ s, inner b r a0 s (l ++ m) = (inner b r a0 s l && inner b r a0 (s + tot l) m) := by
  induction l with
  | nil => intro s; simp [inner, tot]
  | cons x l ih => intro s; simp only [List.cons_append, inner, ih, Bool.and_assoc, tot, Int.add_assoc]
theorem fits_prefix {b r : Int} {l m : List (Int × Int)} (h : fits b r (l ++ m) = true) : fits b r l = true := by
  induction l with
  | nil => rfl
  | cons x l ih =>
    have h' : (inner b r x.1 0 ((x :: l) ++ m) && fits b r (l ++ m)) = true := h
    rw [inner_append, Bool.and_eq_true, Bool.and_eq_true] at h'
    show (inner b r x.1 0 (x :: l) && fits b r l) = true
    rw [h'.1.1, ih h'.2]; rfl
theorem lev_fits {b r : Int} (hr : 0 ≤ r) (l : List (Int × Int)) : ∀ (t : Int) (g : List (Int × Int)), Tr.okFrom t l = true → fits b r g = true → ((∀ v ∈ It.lev b r (b * 1048576 - dem r t g) t l, 0 ≤ v) ↔ fits b r (g ++ l) = true) := by
  induction l with
  | nil => intro t g _ hg; simp [It.lev, hg]
  | cons x l ih =>
    intro t g hok hg
    unfold Tr.okFrom at hok
    rw [Bool.and_eq_true] at hok
    obtain ⟨h1, h2⟩ := hok
    unfold Tr.stepOk at h1
    rw [Bool.and_eq_true, decide_eq_true_iff, decide_eq_true_iff] at h1
    obtain ⟨⟨x1, x2⟩, x3, x4⟩ := h1
    have hd := dem_late hr x1 g
    have hs := dem_snoc r g x (by omega)
    have hf := fits_snoc b r g x
    have e : min (b * 1048576) (b * 1048576 - dem r t g + r * (x.1 - t)) - x.2 * 1048576 = b * 1048576 - dem r x.1 (g ++ [x]) := by rw [hs, hd]; omega
    unfold It.lev
    rw [e]
    have ea : g ++ x :: l = (g ++ [x]) ++ l := by simp
    rw [ea]
    by_cases hc : dem r x.1 g + x.2 * 1048576 ≤ b * 1048576
    · have hg2 : fits b r (g ++ [x]) = true := by rw [hf, hg, decide_eq_true hc]; rfl
      rw [← ih x.1 (g ++ [x]) h2 hg2]
      constructor
      · intro h v hv; exact h v (List.mem_cons_of_mem _ hv)
      · intro h v hv
        rcases List.mem_cons.1 hv with rfl | hv
        · rw [hs]; omega
        · exact h v hv
    · have hg2 : fits b r (g ++ [x]) = false := by rw [hf, hg, decide_eq_false hc]; rfl
      constructor
      · intro h
        have := h _ (List.mem_cons_self ..)
        rw [hs] at this; omega
      · intro h
        rw [fits_prefix h] at hg2; cases hg2
theorem levs_fits {b r : Int} (hr : 0 ≤ r) {l : List (Int × Int)} (hok : Tr.okFrom 0 l = true) : (∀ v ∈ It.levs b r l, 0 ≤ v) ↔ fits b r l = true := by
  have h := lev_fits (b := b) hr l 0 [] hok rfl
  simpa [It.levs, dem] using h
end Fits
namespace MtW
theorem chk_of_ok {l : List (Int × Int)} (h : Tr.ok l = true) : Tr.chk l = 0 := by unfold Tr.chk; rw [h]; rfl
end MtW
end Go.Proofs.Ytoglmfpmeajbeaa
