/- Shaping: the theorems, on plain lists. No program in sight. -/
import Derived.Test.YtpglhjgpjnapgaaSpA
import Derived.Test.YtpglhjgpjnapgaaFit
import Derived.Test.YtpglhjgpjnapgaaMem
namespace Go.Proofs.Ytpglhjgpjnapgaa
set_option linter.unusedSimpArgs false
set_option linter.unusedVariables false
namespace Sp
open Bk
section
variable {b r l v a z t u D : Int}
/-- Shaping is for free: one frame. -/
theorem free_step {A : Int} (h : St b r l v) (z0 : 1 ≤ z) (z1 : z ≤ b) (hl : l ≤ t + D) (hu : u ≤ lev b r l v (t + D)) (hA : t ≤ A) (ha : a ≤ A + D) (hn : z * 1048576 ≤ min (b * 1048576) (u + r * (A - t))) :
    time b r l v a z ≤ A + D ∧ min (b * 1048576) (u + r * (A - t)) - z * 1048576 ≤ lev b r (time b r l v a z) (left b r l v a z) (A + D) := by
  have h1 : min (b * 1048576) (lev b r l v (t + D) + r * (A + D - (t + D))) = lev b r l v (A + D) := lev_lev h.r0 (by omega)
  have e1 : A + D - (t + D) = A - t := by omega
  rw [e1] at h1
  have h2 : time b r l v a z ≤ A + D := time_least h.r0 (by omega) (by omega)
  have h3 := lev_later (b := b) (l := l) (v := v) h.r0 h2
  refine ⟨h2, ?_⟩
  generalize hT : time b r l v a z = T at *
  have hL : left b r l v a z = lev b r l v T - z * 1048576 := by unfold left; rw [hT]
  have hh := time_has (b := b) (l := l) (v := v) (a := a) h.r0 z1
  rw [hT] at hh
  rw [hL]
  generalize lev b r l v T = X at *
  generalize lev b r l v (A + D) = Y at *
  unfold lev
  have := lev_le (b := b) (r := r) (l := l) (v := v) (t := t + D)
  generalize lev b r l v (t + D) = Q at *
  generalize r * (A - t) = p at *
  generalize r * (A + D - T) = q at *
  omega
end
/-- Shaping is for free. -/
theorem free {b r D : Int} (k : List (Int × Int)) : ∀ (m : List (Int × Int)) (l v t u : Int), St b r l v → l ≤ t + D → 0 ≤ D → u ≤ lev b r l v (t + D) → (∀ x ∈ It.lev b r u t k, 0 ≤ x) → (∀ x ∈ k, 1 ≤ x.2 ∧ x.2 ≤ b) → Tr.okFrom t k = true →
    (∀ x ∈ k, x.1 + D ≤ 1099511627776) → m.length = k.length → (∀ (i : Nat) (x y : Int × Int), k[i]? = some x → m[i]? = some y → y.2 = x.2 ∧ y.1 ≤ x.1 + D) →
    ∀ (i : Nat) (x y : Int × Int) (o : Int), k[i]? = some x → m[i]? = some y → (run b r l v m)[i]? = some o → y.1 ≤ o ∧ o ≤ x.1 + D := by
  induction k with
  | nil => intro m l v t u _ _ _ _ _ _ _ _ _ _ i x y o hx; simp at hx
  | cons c k ih =>
    intro m l v t u h hl hD hu hlev hz hok hbd hlen hrel i x y o hx hy ho
    cases m with
    | nil => simp at hlen
    | cons d m =>
      have hd := hrel 0 c d rfl rfl
      have hz0 := hz c (List.mem_cons_self ..)
      unfold Tr.okFrom at hok
      rw [Bool.and_eq_true] at hok
      obtain ⟨hok1, hok2⟩ := hok
      unfold Tr.stepOk at hok1
      rw [Bool.and_eq_true, decide_eq_true_iff, decide_eq_true_iff] at hok1
      have hl0 := hlev _ (List.mem_cons_self ..)
      have hs := free_step (a := d.1) (z := c.2) (A := c.1) h hz0.1 hz0.2 hl hu hok1.1.1 hd.2 (by omega)
      unfold run at ho
      rw [hd.1] at ho
      have hb0 := hbd c (List.mem_cons_self ..)
      cases i with
      | zero =>
        simp at hx hy ho
        subst hx hy ho
        have := time_ge (b := b) (l := l) (v := v) (a := d.1) (z := c.2) h.r0
        omega
      | succ i =>
        simp at hx hy ho
        refine ih m _ _ c.1 _ (next_st h hz0.1 hz0.2 (by omega)) hs.1 hD hs.2 (fun x hx => hlev x (List.mem_cons_of_mem _ hx)) (fun x hx => hz x (List.mem_cons_of_mem _ hx)) hok2 (fun x hx => hbd x (List.mem_cons_of_mem _ hx)) (by simpa using hlen) (fun i x y hx hy => hrel (i + 1) x y (by simpa using hx) (by simpa using hy)) i x y o hx hy ho
/-- Later arrivals make no frame eligible earlier. -/
theorem later {b r : Int} (k : List (Int × Int)) : ∀ (m : List (Int × Int)) (l v l' v' : Int), 1 ≤ r → l ≤ l' → v' ≤ lev b r l v l' → (∀ x ∈ k, 1 ≤ x.2 ∧ x.2 ≤ b) → m.length = k.length → (∀ (i : Nat) (x y : Int × Int), k[i]? = some x → m[i]? = some y → y.2 = x.2 ∧ x.1 ≤ y.1) →
    ∀ (i : Nat) (o p : Int), (run b r l v k)[i]? = some o → (run b r l' v' m)[i]? = some p → o ≤ p := by
  induction k with
  | nil => intro m l v l' v' _ _ _ _ _ _ i o p ho; simp [run] at ho
  | cons c k ih =>
    intro m l v l' v' hr hl hv hz hlen hrel i o p ho hp
    cases m with
    | nil => simp at hlen
    | cons d m =>
      have hd := hrel 0 c d rfl rfl
      have hz0 := hz c (List.mem_cons_self ..)
      unfold run at ho hp
      rw [hd.1] at hp
      have g1 := time_ge (b := b) (l := l') (v := v') (a := d.1) (z := c.2) hr
      have g2 := time_has (b := b) (l := l') (v := v') (a := d.1) (z := c.2) hr hz0.2
      have hT : lev b r l' v' (time b r l' v' d.1 c.2) ≤ lev b r l v (time b r l' v' d.1 c.2) := by
        have e1 : lev b r l v (time b r l' v' d.1 c.2) = min (b * 1048576) (lev b r l v l' + r * (time b r l' v' d.1 c.2 - l')) := (lev_lev hr (by omega)).symm
        rw [e1]
        generalize time b r l' v' d.1 c.2 = T at *
        unfold lev at hv ⊢
        generalize r * (T - l') = q at *
        omega
      have hle : time b r l v c.1 c.2 ≤ time b r l' v' d.1 c.2 := time_least hr (by omega) (by omega)
      cases i with
      | zero => simp at ho hp; omega
      | succ i =>
        simp at ho hp
        refine ih m _ _ _ _ hr hle ?_ (fun x hx => hz x (List.mem_cons_of_mem _ hx)) (by simpa using hlen) (fun i x y hx hy => hrel (i + 1) x y (by simpa using hx) (by simpa using hy)) i o p ho hp
        have g3 := lev_later (b := b) (l := l) (v := v) hr hle
        have g4 := lev_le (b := b) (r := r) (l := l') (v := v') (t := time b r l' v' d.1 c.2)
        unfold left
        generalize time b r l' v' d.1 c.2 = T' at *
        generalize time b r l v c.1 c.2 = T at *
        generalize lev b r l' v' T' = X' at *
        generalize lev b r l v T' = X at *
        generalize lev b r l v T = Y at *
        unfold lev
        generalize r * (T' - T) = q at *
        omega
/-- The frames at their eligible times. -/
def shaped (b r : Int) : Int → Int → List (Int × Int) → List (Int × Int)
  | _, _, [] => []
  | l, v, x :: t => (time b r l v x.1 x.2, x.2) :: shaped b r (time b r l v x.1 x.2) (left b r l v x.1 x.2) t
theorem shaped_length (b r : Int) (k : List (Int × Int)) : ∀ l v, (shaped b r l v k).length = k.length := by
  induction k with
  | nil => intros; rfl
  | cons x k ih => intro l v; simp [shaped, ih]
theorem shaped_append (b r : Int) (k m : List (Int × Int)) : ∀ l v, ∃ l' v', shaped b r l v (k ++ m) = shaped b r l v k ++ shaped b r l' v' m := by
  induction k with
  | nil => intro l v; exact ⟨l, v, rfl⟩
  | cons x k ih =>
    intro l v
    obtain ⟨l', v', e⟩ := ih (time b r l v x.1 x.2) (left b r l v x.1 x.2)
    exact ⟨l', v', by simp [shaped, e]⟩
/-- The tokens are enough. -/
theorem shaped_lev {b r : Int} (k : List (Int × Int)) : ∀ (l v : Int), 1 ≤ r → (∀ x ∈ k, x.2 ≤ b) → ∀ x ∈ It.lev b r v l (shaped b r l v k), 0 ≤ x := by
  induction k with
  | nil => intro l v _ _ x hx; simp [shaped, It.lev] at hx
  | cons c k ih =>
    intro l v hr hz x hx
    unfold shaped It.lev at hx
    have h1 := time_has (b := b) (l := l) (v := v) (a := c.1) (z := c.2) hr (hz c (List.mem_cons_self ..))
    rcases List.mem_cons.1 hx with rfl | hx
    · unfold lev at h1; simp only; omega
    · exact ih _ _ hr (fun x hx => hz x (List.mem_cons_of_mem _ hx)) x hx
/-- The trace is in order. -/
theorem shaped_ok {b r : Int} (k : List (Int × Int)) : ∀ (l v : Int), 1 ≤ r → (∀ x ∈ k, 1 ≤ x.2 ∧ x.2 ≤ 1048576) → (∀ x ∈ run b r l v k, x ≤ 1099511627776) → Tr.okFrom l (shaped b r l v k) = true := by
  induction k with
  | nil => intro l v _ _ _; rfl
  | cons c k ih =>
    intro l v hr hz hx
    have h1 := time_ge (b := b) (l := l) (v := v) (a := c.1) (z := c.2) hr
    have h2 := hx _ (List.mem_cons_self ..)
    have h3 := hz c (List.mem_cons_self ..)
    unfold shaped Tr.okFrom
    rw [Bool.and_eq_true]
    refine ⟨?_, ih _ _ hr (fun x hx => hz x (List.mem_cons_of_mem _ hx)) (fun x hx' => hx x (List.mem_cons_of_mem _ hx'))⟩
    unfold Tr.stepOk
    rw [Bool.and_eq_true, decide_eq_true_iff, decide_eq_true_iff]
    simp only
    omega
/-- Shaping once more changes nothing. -/
theorem shaped_run {b r : Int} (k : List (Int × Int)) : ∀ (l v : Int), 1 ≤ r → (∀ x ∈ k, x.2 ≤ b) → run b r l v (shaped b r l v k) = run b r l v k := by
  induction k with
  | nil => intros; rfl
  | cons c k ih =>
    intro l v hr hz
    have h1 := time_has (b := b) (l := l) (v := v) (a := c.1) (z := c.2) hr (hz c (List.mem_cons_self ..))
    have h2 := time_ge (b := b) (l := l) (v := v) (a := c.1) (z := c.2) hr
    have h3 : time b r l v (time b r l v c.1 c.2) c.2 = time b r l v c.1 c.2 := by
      have h4 := time_ge (b := b) (l := l) (v := v) (a := time b r l v c.1 c.2) (z := c.2) hr
      have h5 : time b r l v (time b r l v c.1 c.2) c.2 ≤ time b r l v c.1 c.2 := time_least hr (by omega) h1
      omega
    have h6 : left b r l v (time b r l v c.1 c.2) c.2 = left b r l v c.1 c.2 := by unfold left; rw [h3]
    unfold shaped run
    simp only [h3, h6]
    rw [ih _ _ hr (fun x hx => hz x (List.mem_cons_of_mem _ hx))]
/-- One tick earlier the tokens are not enough. -/
theorem early_lev {b r l v a z : Int} (hr : 1 ≤ r) (h : max a l < time b r l v a z) : lev b r l v (time b r l v a z - 1) < z * 1048576 := by
  rcases Int.lt_or_le (lev b r l v (time b r l v a z - 1)) (z * 1048576) with h1 | h1
  · exact h1
  · have := time_least (a := a) (z := z) hr (show max a l ≤ time b r l v a z - 1 by omega) h1
    omega
theorem late_rel {f : Int → Int} {D : Int} (k : List (Int × Int)) : ∀ (t last : Int) (ds : List Int), Tr.okFrom t k = true → last ≤ t + D → (∀ d ∈ ds, 0 ≤ f d ∧ f d ≤ D) → (0 ≤ f 0 ∧ f 0 ≤ D) →
    ∀ (i : Nat) (x y : Int × Int), k[i]? = some x → (late f last ds k)[i]? = some y → y.2 = x.2 ∧ x.1 ≤ y.1 ∧ y.1 ≤ x.1 + D := by
  induction k with
  | nil => intro t last ds _ _ _ _ i x y hx; simp at hx
  | cons c k ih =>
    intro t last ds hok hl hf hf0 i x y hx hy
    unfold Tr.okFrom at hok
    rw [Bool.and_eq_true] at hok
    obtain ⟨h1, h2⟩ := hok
    unfold Tr.stepOk at h1
    rw [Bool.and_eq_true, decide_eq_true_iff, decide_eq_true_iff] at h1
    have hd : 0 ≤ f (ds.headD 0) ∧ f (ds.headD 0) ≤ D := by
      cases ds with
      | nil => exact hf0
      | cons d ds => exact hf d (by simp)
    unfold late at hy
    generalize ds.headD 0 = dd at *
    cases i with
    | zero =>
      simp at hx hy
      subst hx hy
      exact ⟨rfl, by show c.1 ≤ max (c.1 + f dd) last; omega, by show max (c.1 + f dd) last ≤ c.1 + D; omega⟩
    | succ i =>
      simp at hx hy
      exact ih c.1 _ ds.tail h2 (by omega) (fun d hd => hf d (List.mem_of_mem_tail hd)) hf0 i x y hx hy
theorem late_ok {f : Int → Int} {D : Int} (k : List (Int × Int)) : ∀ (t last : Int) (ds : List Int), Tr.okFrom t k = true → last ≤ t + D → (∀ x ∈ k, x.1 + D ≤ 1099511627776) → (∀ d ∈ ds, 0 ≤ f d ∧ f d ≤ D) → (0 ≤ f 0 ∧ f 0 ≤ D) → Tr.okFrom last (late f last ds k) = true := by
  induction k with
  | nil => intros; rfl
  | cons c k ih =>
    intro t last ds hok hl hb hf hf0
    unfold Tr.okFrom at hok
    rw [Bool.and_eq_true] at hok
    obtain ⟨h1, h2⟩ := hok
    unfold Tr.stepOk at h1
    rw [Bool.and_eq_true, decide_eq_true_iff, decide_eq_true_iff] at h1
    have hd : 0 ≤ f (ds.headD 0) ∧ f (ds.headD 0) ≤ D := by
      cases ds with
      | nil => exact hf0
      | cons d ds => exact hf d (by simp)
    have hb0 := hb c (by simp)
    unfold late Tr.okFrom
    rw [Bool.and_eq_true]
    refine ⟨?_, ih c.1 _ ds.tail h2 (by omega) (fun x hx => hb x (by simp [hx])) (fun d hd => hf d (List.mem_of_mem_tail hd)) hf0⟩
    unfold Tr.stepOk
    rw [Bool.and_eq_true, decide_eq_true_iff, decide_eq_true_iff]
    simp only
    omega
theorem fits_le {b r : Int} {l : List (Int × Int)} (h : Fits.fits b r l = true) : ∀ x ∈ l, x.2 ≤ b := by
  induction l with
  | nil => intro x hx; simp at hx
  | cons c l ih =>
    have h' : (Fits.inner b r c.1 0 (c :: l) && Fits.fits b r l) = true := h
    rw [Bool.and_eq_true] at h'
    intro x hx
    rcases List.mem_cons.1 hx with rfl | hx
    · have h1 := h'.1
      unfold Fits.inner at h1
      rw [Bool.and_eq_true, decide_eq_true_iff] at h1
      have := h1.1
      rw [Int.sub_self, Int.mul_zero] at this
      omega
    · exact ih h'.2 x hx
theorem set_arrs {pre t : List (Int × Int)} {x : Int × Int} {k : Nat} (hk : pre.length = k) (a : Int) : (Mem.arrs (pre ++ x :: t)).set (k * 2) (.int .i64 a) = Mem.arrs (pre ++ (a, x.2) :: t) := by
  rw [Mem.arrs_append, Mem.arrs_append, Mem.arrs_cons, Mem.arrs_cons, List.set_append_right _ _ (by rw [Mem.arrs_length]; omega), Mem.arrs_length, hk, Nat.sub_self]
  rfl
end Sp
end Go.Proofs.Ytpglhjgpjnapgaa
