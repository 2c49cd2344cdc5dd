/- Shaping: what the functions return. No program in sight. -/
import Derived.Test.YtpglhjgpjnapgaaBkA
namespace Go.Proofs.Ytpglhjgpjnapgaa
set_option linter.unusedSimpArgs false
set_option linter.unusedVariables false
namespace Sp
open Bk
def newT (b r : Int) : Int := if ok b r = true then b * 1048576 else 0
def chkE (b r l v : Int) : Int := if ok b r = true then (if l < 0 ∨ 1099511627776 < l ∨ v < 0 ∨ b * 1048576 < v then 440 else 0) else 130
def lev (b r l v t : Int) : Int := min (b * 1048576) (v + r * (t - l))
def miss (b r l v a z : Int) : Int := z * 1048576 - lev b r l v (max a l)
def time (b r l v a z : Int) : Int := if 0 < miss b r l v a z then max a l + (miss b r l v a z + r - 1) / r else max a l
def left (b r l v a z : Int) : Int := lev b r l v (time b r l v a z) - z * 1048576
def eliE (b r l v a z : Int) : Int := if chkE b r l v = 0 then (if a < 0 ∨ 1099511627776 < a ∨ z < 1 ∨ 1048576 < z then 2 else if b < z then 4 else if 1099511627776 < time b r l v a z then 6 else 0) else chkE b r l v
def eliT (b r l v a z : Int) : Int := if eliE b r l v a z = 0 then time b r l v a z else 0
def eliL (b r l v a z : Int) : Int := if eliE b r l v a z = 0 then left b r l v a z else 0
/-- What a state must be. -/
structure St (b r l v : Int) : Prop where
  b0 : 1 ≤ b
  b1 : b ≤ 1048576
  r0 : 1 ≤ r
  r1 : r ≤ 2097152
  l0 : 0 ≤ l
  l1 : l ≤ 1099511627776
  v0 : 0 ≤ v
  v1 : v ≤ b * 1048576
theorem chk_zero {b r l v : Int} (h : chkE b r l v = 0) : St b r l v := by
  unfold chkE at h
  split at h
  · have o := ok_iff.1 (by assumption)
    split at h
    · omega
    · constructor <;> omega
  · omega
theorem chk_of {b r l v : Int} (h : St b r l v) : chkE b r l v = 0 := by
  unfold chkE
  rw [if_pos (ok_iff.2 ⟨h.b0, h.b1, h.r0, h.r1⟩), if_neg (by have := h.l0; have := h.l1; have := h.v0; have := h.v1; omega)]
section
variable {b r l v a z t : Int}
theorem rt_le {r s t : Int} (hr : 1 ≤ r) (h : s ≤ t) : r * s ≤ r * t := Int.mul_le_mul_of_nonneg_left h (by omega)
theorem lev_mono (hr : 1 ≤ r) {s t : Int} (h : s ≤ t) : lev b r l v s ≤ lev b r l v t := by
  have := rt_le hr (show s - l ≤ t - l by omega)
  unfold lev; omega
theorem lev_le : lev b r l v t ≤ b * 1048576 := by unfold lev; omega
theorem lev_nonneg (h : St b r l v) (ht : l ≤ t) : 0 ≤ lev b r l v t := by
  have := rt_le h.r0 (show 0 ≤ t - l by omega)
  have := h.b0; have := h.v0
  unfold lev; omega
theorem lev_now (h : St b r l v) : lev b r l v l = v := by
  unfold lev
  rw [Int.sub_self, Int.mul_zero]
  have := h.v1; omega
/-- The sum of the level and what comes in later. -/
theorem lev_later (hr : 1 ≤ r) {s t : Int} (h : s ≤ t) : lev b r l v t ≤ lev b r l v s + r * (t - s) := by
  have h1 := rt_le hr (show 0 ≤ t - s by omega)
  have h2 : r * (t - l) = r * (s - l) + r * (t - s) := by rw [← Int.mul_add]; congr 1; omega
  unfold lev; omega
theorem lev_lev (hr : 1 ≤ r) {s t : Int} (h : s ≤ t) : min (b * 1048576) (lev b r l v s + r * (t - s)) = lev b r l v t := by
  have h1 := rt_le hr (show 0 ≤ t - s by omega)
  have h2 : r * (t - l) = r * (s - l) + r * (t - s) := by rw [← Int.mul_add]; congr 1; omega
  unfold lev; omega
theorem miss_le (h : St b r l v) (z0 : 1 ≤ z) : miss b r l v a z ≤ z * 1048576 := by
  have := lev_nonneg (t := max a l) h (by omega)
  unfold miss; omega
theorem ceil_bd {n d : Int} (hd : 1 ≤ d) (hn : 0 < n) : n ≤ d * ((n + d - 1) / d) ∧ d * ((n + d - 1) / d) < n + d ∧ 0 < (n + d - 1) / d ∧ (n + d - 1) / d ≤ n := by
  have e := Int.mul_ediv_add_emod (n + d - 1) d
  have m0 := Int.emod_nonneg (n + d - 1) (show d ≠ 0 by omega)
  have m1 := Int.emod_lt_of_pos (n + d - 1) (show 0 < d by omega)
  have hp : 0 < (n + d - 1) / d := by
    rcases Int.lt_or_le 0 ((n + d - 1) / d) with h | h
    · exact h
    · have := Int.mul_le_mul_of_nonneg_left h (show 0 ≤ d by omega)
      omega
  refine ⟨by omega, by omega, hp, ?_⟩
  rcases Int.lt_or_le n ((n + d - 1) / d) with h | h
  · exfalso
    have h2 : n + 1 ≤ (n + d - 1) / d := h
    have := Int.mul_le_mul_of_nonneg_left h2 (show 0 ≤ d by omega)
    have h3 : d * (n + 1) = d * n + d := by rw [Int.mul_add, Int.mul_one]
    have h4 : 1 * n ≤ d * n := Int.mul_le_mul_of_nonneg_right hd (by omega)
    omega
  · exact h
theorem time_ge (hr : 1 ≤ r) : max a l ≤ time b r l v a z := by
  unfold time
  split
  · have := (ceil_bd hr (by assumption)).2.2.1; omega
  · exact Int.le_refl _
theorem time_le (h : St b r l v) (z0 : 1 ≤ z) : time b r l v a z ≤ max a l + z * 1048576 := by
  have hm := miss_le (a := a) h z0
  unfold time
  split
  · have := (ceil_bd h.r0 (by assumption)).2.2.2; omega
  · omega
/-- At its time a frame that fits has its tokens. -/
theorem time_has (hr : 1 ≤ r) (z1 : z ≤ b) : z * 1048576 ≤ lev b r l v (time b r l v a z) := by
  unfold time
  by_cases hm : 0 < miss b r l v a z
  · rw [if_pos hm]
    have hc := ceil_bd hr hm
    have h2 : r * (max a l + (miss b r l v a z + r - 1) / r - l) = r * (max a l - l) + r * ((miss b r l v a z + r - 1) / r) := by rw [← Int.mul_add]; congr 1; omega
    have hm' : miss b r l v a z = z * 1048576 - lev b r l v (max a l) := rfl
    generalize miss b r l v a z = m at *
    unfold lev at hm' ⊢
    rw [h2]
    omega
  · rw [if_neg hm]
    unfold miss at hm; omega
/-- No earlier. -/
theorem time_least (hr : 1 ≤ r) (h0 : max a l ≤ t) (h1 : z * 1048576 ≤ lev b r l v t) : time b r l v a z ≤ t := by
  unfold time
  by_cases hm : 0 < miss b r l v a z
  · rw [if_pos hm]
    have hc := ceil_bd hr hm
    have hl := lev_later (b := b) (l := l) (v := v) hr h0
    have hm' : miss b r l v a z = z * 1048576 - lev b r l v (max a l) := rfl
    generalize miss b r l v a z = m at *
    have hx : m ≤ r * (t - max a l) := by omega
    rcases Int.lt_or_le t (max a l + (m + r - 1) / r) with h | h
    · exfalso
      have h3 : r * (t - max a l) ≤ r * ((m + r - 1) / r - 1) := Int.mul_le_mul_of_nonneg_left (by omega) (by omega)
      have h4 : r * ((m + r - 1) / r - 1) = r * ((m + r - 1) / r) - r := by rw [Int.mul_sub, Int.mul_one]
      omega
    · exact h
  · rw [if_neg hm]; exact h0
theorem next_st (h : St b r l v) (z0 : 1 ≤ z) (z1 : z ≤ b) (ht : time b r l v a z ≤ 1099511627776) : St b r (time b r l v a z) (left b r l v a z) := by
  have h1 := time_has (l := l) (v := v) (a := a) h.r0 z1
  have h2 := lev_le (b := b) (r := r) (l := l) (v := v) (t := time b r l v a z)
  have h3 := time_ge (b := b) (l := l) (v := v) (a := a) (z := z) h.r0
  have := h.l0
  refine ⟨h.b0, h.b1, h.r0, h.r1, by omega, ht, ?_, ?_⟩ <;> unfold left <;> omega
end
/-- The times of a trace from a state. -/
def run (b r : Int) : Int → Int → List (Int × Int) → List Int
  | _, _, [] => []
  | l, v, x :: t => time b r l v x.1 x.2 :: run b r (time b r l v x.1 x.2) (left b r l v x.1 x.2) t
theorem run_length (b r : Int) (k : List (Int × Int)) : ∀ l v, (run b r l v k).length = k.length := by
  induction k with
  | nil => intros; rfl
  | cons x k ih => intro l v; simp [run, ih]
theorem run_step {b r l v : Int} {k : List (Int × Int)} {i : Nat} {x : Int × Int} (hx : k[i]? = some x) : run b r l v (k.drop i) = time b r l v x.1 x.2 :: run b r (time b r l v x.1 x.2) (left b r l v x.1 x.2) (k.drop (i + 1)) := by
  obtain ⟨hk, rfl⟩ := List.getElem?_eq_some_iff.1 hx
  rw [List.drop_eq_getElem_cons hk]; rfl
section
variable {b r D : Int}
/-- Times that are late, by a function of the delays, and in order. -/
def late (f : Int → Int) : Int → List Int → List (Int × Int) → List (Int × Int)
  | _, _, [] => []
  | t, ds, x :: k => (max (x.1 + f (ds.headD 0)) t, x.2) :: late f (max (x.1 + f (ds.headD 0)) t) ds.tail k
theorem late_length (f : Int → Int) (k : List (Int × Int)) : ∀ t ds, (late f t ds k).length = k.length := by
  induction k with
  | nil => intros; rfl
  | cons x k ih => intro t ds; simp [late, ih]
theorem late_step {f : Int → Int} {t : Int} {ds : List Int} {k : List (Int × Int)} {i : Nat} {x : Int × Int} (hx : k[i]? = some x) : late f t (ds.drop i) (k.drop i) = (max (x.1 + f ((ds[i]?).getD 0)) t, x.2) :: late f (max (x.1 + f ((ds[i]?).getD 0)) t) (ds.drop (i + 1)) (k.drop (i + 1)) := by
  obtain ⟨hk, rfl⟩ := List.getElem?_eq_some_iff.1 hx
  rw [List.drop_eq_getElem_cons hk]
  have e : (ds.drop i).headD 0 = (ds[i]?).getD 0 := by rw [List.headD_eq_head?_getD, List.head?_drop]
  have e2 : (ds.drop i).tail = ds.drop (i + 1) := by simp
  show (max (_ + f ((ds.drop i).headD 0)) t, _) :: late f (max (_ + f ((ds.drop i).headD 0)) t) (ds.drop i).tail _ = _
  rw [e, e2]
end
end Sp
end Go.Proofs.Ytpglhjgpjnapgaa
