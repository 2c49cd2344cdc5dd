/- Shaping: the frames at their eligible times conform; one tick earlier a frame that waits does not. No walk. -/
import Derived.Test.YtpglhjgpjnapgaaSpD
namespace Go.Proofs.Ytpglhjgpjnapgaa
set_option linter.unusedSimpArgs false
set_option linter.unusedVariables false
namespace Sp
open Bk
/-- The state behind a trace. -/
def fin (b r : Int) : Int → Int → List (Int × Int) → Int × Int
  | l, v, [] => (l, v)
  | l, v, x :: t => fin b r (time b r l v x.1 x.2) (left b r l v x.1 x.2) t
theorem run_snoc {b r : Int} {x : Int × Int} (k : List (Int × Int)) : ∀ l v, run b r l v (k ++ [x]) = run b r l v k ++ [time b r (fin b r l v k).1 (fin b r l v k).2 x.1 x.2] := by
  induction k with
  | nil => intros; rfl
  | cons c k ih => intro l v; simp only [List.cons_append, run, ih]; rfl
theorem shaped_snoc {b r : Int} {x : Int × Int} (k : List (Int × Int)) : ∀ l v, shaped b r l v (k ++ [x]) = shaped b r l v k ++ [(time b r (fin b r l v k).1 (fin b r l v k).2 x.1 x.2, x.2)] := by
  induction k with
  | nil => intros; rfl
  | cons c k ih => intro l v; simp only [List.cons_append, shaped, ih]; rfl
theorem run_take {b r : Int} (k : List (Int × Int)) : ∀ l v n, (run b r l v k).take n = run b r l v (k.take n) := by
  induction k with
  | nil => intros; simp [run]
  | cons c k ih =>
    intro l v n
    cases n with
    | zero => simp [run]
    | succ n => simp [run, ih]
theorem shaped_take {b r : Int} (k : List (Int × Int)) : ∀ l v n, (shaped b r l v k).take n = shaped b r l v (k.take n) := by
  induction k with
  | nil => intros; simp [shaped]
  | cons c k ih =>
    intro l v n
    cases n with
    | zero => simp [shaped]
    | succ n => simp [shaped, ih]
theorem fin_snoc {b r : Int} {x : Int × Int} (k : List (Int × Int)) : ∀ l v, fin b r l v (k ++ [x]) = (time b r (fin b r l v k).1 (fin b r l v k).2 x.1 x.2, left b r (fin b r l v k).1 (fin b r l v k).2 x.1 x.2) := by
  induction k with
  | nil => intros; rfl
  | cons c k ih => intro l v; simp only [List.cons_append, fin, ih]
theorem fin_st {b r : Int} (k : List (Int × Int)) : ∀ l v, St b r l v → (∀ x ∈ k, 1 ≤ x.2 ∧ x.2 ≤ b) → (∀ t ∈ run b r l v k, t ≤ 1099511627776) → St b r (fin b r l v k).1 (fin b r l v k).2 := by
  induction k with
  | nil => intro l v h _ _; exact h
  | cons c k ih =>
    intro l v h hz ht
    have hc := hz c (by simp)
    exact ih _ _ (next_st h hc.1 hc.2 (ht _ (by simp [run]))) (fun x hx => hz x (by simp [hx])) (fun t h => ht t (by simp [run, h]))
/-- What the levels tell of one frame more. -/
theorem lev_more {b r a z : Int} (k : List (Int × Int)) : ∀ l v, (∀ y ∈ It.lev b r v l (shaped b r l v k ++ [(a, z)]), 0 ≤ y) → z * 1048576 ≤ lev b r (fin b r l v k).1 (fin b r l v k).2 a := by
  induction k with
  | nil =>
    intro l v h
    have := h (min (b * 1048576) (v + r * (a - l)) - z * 1048576) (by simp [shaped, It.lev])
    simp only [fin]
    unfold lev
    omega
  | cons c k ih =>
    intro l v h
    refine ih _ _ (fun y hy => h y ?_)
    simp only [shaped, List.cons_append, It.lev]
    refine List.mem_cons_of_mem _ ?_
    have e : min (b * 1048576) (v + r * (time b r l v c.1 c.2 - l)) - c.2 * 1048576 = left b r l v c.1 c.2 := rfl
    rw [e]
    exact hy
theorem okFrom_snoc {x : Int × Int} (k : List (Int × Int)) : ∀ t, Tr.okFrom t k = true → (∀ m ∈ k.getLast?.map Prod.fst, m ≤ x.1) → t ≤ x.1 → x.1 ≤ 1099511627776 → 1 ≤ x.2 → x.2 ≤ 1048576 → Tr.okFrom t (k ++ [x]) = true := by
  induction k with
  | nil =>
    intro t _ _ h1 h2 h3 h4
    simp only [List.nil_append, Tr.okFrom, Bool.and_true, Tr.stepOk, Bool.and_eq_true, decide_eq_true_iff]
    omega
  | cons c k ih =>
    intro t hok hl h1 h2 h3 h4
    simp only [List.cons_append, Tr.okFrom, Bool.and_eq_true] at hok ⊢
    refine ⟨hok.1, ih c.1 hok.2 (fun m hm => ?_) ?_ h2 h3 h4⟩
    · cases k with
      | nil => simp at hm
      | cons d k => exact hl m (by simpa [List.getLast?_cons_cons] using hm)
    · cases k with
      | nil => exact hl c.1 (by simp)
      | cons d k =>
        have hd : Tr.okFrom c.1 (d :: k) = true := hok.2
        have hg : ∃ m, (d :: k).getLast? = some m := ⟨_, List.getLast?_eq_some_getLast (by simp)⟩
        obtain ⟨m, hm⟩ := hg
        have h5 := hl m.1 (by simp only [List.getLast?_cons_cons]; rw [hm]; rfl)
        obtain ⟨i, hi, he⟩ := List.mem_iff_getElem.1 (List.mem_of_getLast? hm)
        have h6 := okFrom_ge _ hd i m (by rw [List.getElem?_eq_getElem hi, he])
        omega
where okFrom_ge : ∀ {t : Int} (l : List (Int × Int)), Tr.okFrom t l = true → ∀ (i : Nat) (m : Int × Int), l[i]? = some m → t ≤ m.1
  | _, [], _, i, m, h => by simp at h
  | t, c :: l, hok, i, (m : Int × Int), h => by
    simp only [Tr.okFrom, Bool.and_eq_true, Tr.stepOk, decide_eq_true_iff] at hok
    cases i with
    | zero => simp at h; subst h; omega
    | succ i =>
      have := okFrom_ge l hok.2 i m (by simpa using h)
      omega
theorem shaped_last {b r : Int} (k : List (Int × Int)) : ∀ l v, k ≠ [] → (shaped b r l v k).getLast?.map Prod.fst = some (fin b r l v k).1 := by
  induction k with
  | nil => intro l v h; exact absurd rfl h
  | cons c k ih =>
    intro l v _
    cases k with
    | nil => rfl
    | cons d k =>
      have := ih (time b r l v c.1 c.2) (left b r l v c.1 c.2) (by simp)
      simp only [shaped, fin, List.getLast?_cons_cons] at this ⊢
      exact this
theorem conf_law {b r : Int} {l : List (Int × Int)} (ho : ok b r = true) (hok : Tr.ok l = true) (hm : ∀ x ∈ l, 0 ≤ x.1 ∧ x.1 ≤ 1966050 ∧ 1 ≤ x.2 ∧ x.2 ≤ 65536) (hz : ∀ x ∈ l, x.2 ≤ b) (ht : ∀ t ∈ run b r 0 (b * 1048576) l, t ≤ 1099511627776) :
    Tr.ok (shaped b r 0 (b * 1048576) l) = true ∧ (∀ x ∈ shaped b r 0 (b * 1048576) l, x.2 ≤ b) ∧ run b r 0 (b * 1048576) (shaped b r 0 (b * 1048576) l) = run b r 0 (b * 1048576) l ∧
    ∀ (k : Nat) (x1 x2 T : Int), l[k]? = some (x1, x2) → (run b r 0 (b * 1048576) l)[k]? = some T → x1 ≤ T ∧ 0 ≤ T ∧ T ≤ 1099511627776 ∧ (shaped b r 0 (b * 1048576) l).take (k + 1) = (shaped b r 0 (b * 1048576) l).take k ++ [(T, x2)] ∧
      Tr.ok ((shaped b r 0 (b * 1048576) l).take k ++ [(T, x2)]) = true ∧ Fits.fits b r ((shaped b r 0 (b * 1048576) l).take k ++ [(T, x2)]) = true ∧
      (∀ p, 0 < k → (run b r 0 (b * 1048576) l)[k - 1]? = some p → p ≤ T) ∧
      (T ≠ x1 → (∀ p, 0 < k → (run b r 0 (b * 1048576) l)[k - 1]? = some p → p ≠ T) → Tr.ok ((shaped b r 0 (b * 1048576) l).take k ++ [(T - 1, x2)]) = true ∧ Fits.fits b r ((shaped b r 0 (b * 1048576) l).take k ++ [(T - 1, x2)]) = false) := by
  obtain ⟨b0, b1, r0, r1⟩ := ok_iff.1 ho
  have hst : St b r 0 (b * 1048576) := ⟨b0, b1, r0, r1, by omega, by omega, by omega, by omega⟩
  have h200 : l.length ≤ 200 := by unfold Tr.ok at hok; rw [Bool.and_eq_true, decide_eq_true_iff] at hok; exact hok.1
  have hlen := shaped_length b r l 0 (b * 1048576)
  have hsok := shaped_ok (b := b) (r := r) l 0 (b * 1048576) r0 (fun x hx => by have := hm x hx; omega) ht
  have hlev := shaped_lev (b := b) (r := r) l 0 (b * 1048576) r0 hz
  have hfit : Fits.fits b r (shaped b r 0 (b * 1048576) l) = true := (Fits.levs_fits (b := b) (r := r) (by omega) hsok).1 hlev
  have hrun := shaped_run (b := b) (r := r) l 0 (b * 1048576) r0 hz
  have hsz : ∀ x ∈ shaped b r 0 (b * 1048576) l, x.2 ≤ b := fun y hy => by
    obtain ⟨i, hi, rfl⟩ := List.mem_iff_getElem.1 hy
    have := shaped_snd (b := b) (r := r) l 0 (b * 1048576) i
    rw [List.getElem?_eq_getElem hi] at this
    obtain ⟨x, hx⟩ : ∃ x, l[i]? = some x := ⟨l[i]'(by omega), List.getElem?_eq_getElem _⟩
    rw [hx] at this
    simp at this
    rw [this]; exact hz x (List.mem_of_getElem? hx)
  have okl : ∀ m : List (Int × Int), m.length ≤ 200 → Tr.okFrom 0 m = true → Tr.ok m = true := fun m h1 h2 => by unfold Tr.ok; rw [Bool.and_eq_true, decide_eq_true_iff]; exact ⟨h1, h2⟩
  refine ⟨okl _ (by omega) hsok, hsz, hrun, fun k x1 x2 T hx hT => ?_⟩
  obtain ⟨hk, hxe⟩ := List.getElem?_eq_some_iff.1 hx
  have htk : l.take (k + 1) = l.take k ++ [(x1, x2)] := by rw [List.take_succ_eq_append_getElem hk, hxe]
  have hsk : (shaped b r 0 (b * 1048576) l).take (k + 1) = (shaped b r 0 (b * 1048576) l).take k ++ [(T, x2)] ∧ T = time b r (fin b r 0 (b * 1048576) (l.take k)).1 (fin b r 0 (b * 1048576) (l.take k)).2 x1 x2 := by
    have e1 := run_take (b := b) (r := r) l 0 (b * 1048576) (k + 1)
    rw [htk, run_snoc, ← run_take] at e1
    have hk2 : k < (run b r 0 (b * 1048576) l).length := by rw [run_length]; exact hk
    rw [List.take_succ_eq_append_getElem hk2] at e1
    have e2 := List.append_cancel_left e1
    have e3 : T = (run b r 0 (b * 1048576) l)[k] := by rw [List.getElem?_eq_getElem hk2] at hT; injection hT with h; exact h.symm
    have e4 : T = time b r (fin b r 0 (b * 1048576) (l.take k)).1 (fin b r 0 (b * 1048576) (l.take k)).2 x1 x2 := by
      rw [e3]; simpa using e2
    refine ⟨?_, e4⟩
    rw [shaped_take, htk, shaped_snoc, ← shaped_take, e4]
  obtain ⟨hs1, hTe⟩ := hsk
  have hfs := fin_st (b := b) (r := r) (l.take k) 0 (b * 1048576) hst (fun x hx => ⟨by have := hm x (List.mem_of_mem_take hx); omega, hz x (List.mem_of_mem_take hx)⟩) (fun t h => ht t (by rw [← run_take] at h; exact List.mem_of_mem_take h))
  have hp : ∀ p, 0 < k → (run b r 0 (b * 1048576) l)[k - 1]? = some p → p = (fin b r 0 (b * 1048576) (l.take k)).1 := fun p h0 hp => by
    obtain ⟨j, rfl⟩ : ∃ j, k = j + 1 := ⟨k - 1, by omega⟩
    have hj : j < l.length := by omega
    rw [List.take_succ_eq_append_getElem hj, fin_snoc]
    have e1 := run_take (b := b) (r := r) l 0 (b * 1048576) (j + 1)
    rw [List.take_succ_eq_append_getElem hj, run_snoc, ← run_take] at e1
    have hj2 : j < (run b r 0 (b * 1048576) l).length := by rw [run_length]; exact hj
    rw [List.take_succ_eq_append_getElem hj2] at e1
    have e2 := List.append_cancel_left e1
    simp only [Nat.add_sub_cancel] at hp
    rw [List.getElem?_eq_getElem hj2] at hp
    injection hp with hp
    rw [← hp]; simpa using e2
  have hmx := hm (x1, x2) (List.mem_of_getElem? hx)
  have hzx := hz (x1, x2) (List.mem_of_getElem? hx)
  simp only at hmx hzx
  have hTl := ht T (List.mem_of_getElem? hT)
  have hge := time_ge (b := b) (l := (fin b r 0 (b * 1048576) (l.take k)).1) (v := (fin b r 0 (b * 1048576) (l.take k)).2) (a := x1) (z := x2) r0
  rw [← hTe] at hge
  have hpre : shaped b r 0 (b * 1048576) l = (shaped b r 0 (b * 1048576) l).take k ++ [(T, x2)] ++ (shaped b r 0 (b * 1048576) l).drop (k + 1) := by rw [← hs1, List.take_append_drop]
  have hok1 : Tr.okFrom 0 ((shaped b r 0 (b * 1048576) l).take k ++ [(T, x2)]) = true := Tr.okFrom_prefix (b := (shaped b r 0 (b * 1048576) l).drop (k + 1)) (by rw [← hpre]; exact hsok)
  have hlen2 : ((shaped b r 0 (b * 1048576) l).take k).length ≤ 199 := by rw [List.length_take]; omega
  refine ⟨by omega, by omega, hTl, hs1, okl _ (by rw [List.length_append]; simp; omega) hok1, Fits.fits_prefix (m := (shaped b r 0 (b * 1048576) l).drop (k + 1)) (by rw [← hpre]; exact hfit), fun p h0 h1 => by have := hp p h0 h1; omega, fun hne hnp => ?_⟩
  have hgt : max x1 (fin b r 0 (b * 1048576) (l.take k)).1 < T := by
    rcases Nat.eq_zero_or_pos k with h0 | h0
    · subst h0
      simp only [List.take_zero, fin] at hge ⊢
      omega
    · obtain ⟨p, hpp⟩ : ∃ p, (run b r 0 (b * 1048576) l)[k - 1]? = some p := ⟨(run b r 0 (b * 1048576) l)[k - 1]'(by rw [run_length]; omega), List.getElem?_eq_getElem _⟩
      have h1 := hp p h0 hpp
      have h2 := hnp p h0 hpp
      omega
  have hok2 : Tr.okFrom 0 ((shaped b r 0 (b * 1048576) l).take k ++ [(T - 1, x2)]) = true := by
    refine okFrom_snoc _ 0 (Tr.okFrom_prefix (b := (shaped b r 0 (b * 1048576) l).drop k) (by rw [List.take_append_drop]; exact hsok)) (fun m hmm => ?_) (by simp only; omega) (by simp only; omega) hmx.2.2.1 (by simp only; omega)
    rcases Nat.eq_zero_or_pos k with h0 | h0
    · subst h0; simp at hmm
    · rw [shaped_take, shaped_last _ _ _ (by intro e; have := congrArg List.length e; rw [List.length_take] at this; simp only [List.length_nil] at this; omega)] at hmm
      simp at hmm
      simp only
      omega
  refine ⟨okl _ (by rw [List.length_append]; simp; omega) hok2, ?_⟩
  cases hF : Fits.fits b r ((shaped b r 0 (b * 1048576) l).take k ++ [(T - 1, x2)]) with
  | false => rfl
  | true =>
    exfalso
    have h1 := (Fits.levs_fits (b := b) (r := r) (by omega) hok2).2 hF
    rw [shaped_take] at h1
    have h2 := lev_more (l.take k) 0 (b * 1048576) h1
    have h3 := early_lev (b := b) (v := (fin b r 0 (b * 1048576) (l.take k)).2) (z := x2) r0 (by rw [← hTe]; exact hgt)
    rw [← hTe] at h3
    omega
where shaped_snd {b r : Int} : ∀ (l : List (Int × Int)) (t v : Int) (i : Nat), (shaped b r t v l)[i]?.map Prod.snd = l[i]?.map Prod.snd
  | [], _, _, i => by simp [shaped]
  | c :: l, t, v, i => by
    cases i with
    | zero => simp [shaped]
    | succ i => simpa [shaped] using shaped_snd l _ _ i
end Sp
end Go.Proofs.Ytpglhjgpjnapgaa
