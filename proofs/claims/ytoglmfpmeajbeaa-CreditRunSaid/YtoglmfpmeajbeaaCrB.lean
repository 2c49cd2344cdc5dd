/- Credit-based shapers: bounds, traces, the theorem. No program in sight. -/
import Derived.Test.YtoglmfpmeajbeaaCrA
namespace Go.Proofs.Ytoglmfpmeajbeaa
set_option linter.unusedSimpArgs false
set_option linter.unusedVariables false
namespace Cr
structure In (r p a l t free size : Int) : Prop where
  p0 : 1 ≤ p
  p1 : p ≤ 1000
  r0 : 1 ≤ r
  r1 : r < 1048576
  rp : r * p < 1048576
  a0 : 0 ≤ a
  a1 : a ≤ 1073741824
  l0 : -1616904192 ≤ l
  l1 : l ≤ 1125899906842624
  t0 : 0 ≤ t
  t1 : t ≤ 1073741824
  f0 : 0 ≤ free
  f1 : free ≤ 1073741824
  s0 : 1 ≤ size
  s1 : size ≤ 1542
theorem stOk_iff {a l : Int} : stOk a l = true ↔ (0 ≤ a ∧ a ≤ 1073741824 ∧ -1616904192 ≤ l ∧ l ≤ 1125899906842624) := decide_eq_true_iff
theorem argOk_iff {t free size : Int} : argOk t free size = true ↔ (0 ≤ t ∧ t ≤ 1073741824 ∧ 0 ≤ free ∧ free ≤ 1073741824 ∧ 1 ≤ size ∧ size ≤ 1542) := decide_eq_true_iff
theorem in_of {r p a l t free size : Int} (h1 : ok r p = true) (h2 : stOk a l = true) (h3 : argOk t free size = true) : In r p a l t free size := by
  obtain ⟨a1, a2, a3, a4, a5⟩ := ok_iff.1 h1
  obtain ⟨b1, b2, b3, b4⟩ := stOk_iff.1 h2
  obtain ⟨c1, c2, c3, c4, c5, c6⟩ := argOk_iff.1 h3
  exact ⟨a1, a2, a3, a4, a5, b1, b2, b3, b4, c1, c2, c3, c4, c5, c6⟩
theorem beg_le {a t : Int} : a ≤ beg a t ∧ t ≤ beg a t ∧ (beg a t = a ∨ beg a t = t) := by unfold beg; split <;> omega
theorem beg_max (a t : Int) : beg a t = max t a := by unfold beg; split <;> omega
theorem lvl_le {r a l t : Int} : lvl r a l t ≤ l + r * (beg a t - a) := by
  unfold lvl beg
  split
  · have := Int.min_le_right 0 (min 0 l + r * (t - a))
    have := Int.min_le_right 0 l
    omega
  · simp
theorem lvl_in {r a l t : Int} (hr : 1 ≤ r) (h0 : -1616904192 ≤ l) (h1 : l ≤ 1125899906842624) : -1616904192 ≤ lvl r a l t ∧ lvl r a l t ≤ 1125899906842624 := by
  unfold lvl
  split
  · have := Int.mul_nonneg (show 0 ≤ r by omega) (show 0 ≤ t - a by omega)
    omega
  · omega
/-- The credit when the port is free. -/
def mid (r a l t free : Int) : Int := lvl r a l t + r * (max (beg a t) free - beg a t)
/-- The credit at the start. -/
def lev (r a l t free : Int) : Int := lvl r a l t + r * (start r a l t free - beg a t)
theorem start_mid {r a l t free : Int} (hr : 1 ≤ r) : start r a l t free = if mid r a l t free < 0 then max (beg a t) free + (-mid r a l t free + r - 1) / r else max (beg a t) free := by
  unfold start
  by_cases h : mid r a l t free < 0
  · rw [if_pos h, if_pos (show lvl r a l t + r * (max (beg a t) free - beg a t) < 0 from h)]
    have := ceil_shift (r := r) (n := -lvl r a l t) (d := max (beg a t) free - beg a t) hr
    rw [show -mid r a l t free + r - 1 = -lvl r a l t - r * (max (beg a t) free - beg a t) + r - 1 by unfold mid; omega, this]
    omega
  · rw [if_neg h, if_neg (show ¬ lvl r a l t + r * (max (beg a t) free - beg a t) < 0 from h)]
theorem lev_mid (r a l t free : Int) : lev r a l t free = mid r a l t free + r * (start r a l t free - max (beg a t) free) := by
  unfold lev mid
  rw [Int.mul_sub, Int.mul_sub, Int.mul_sub]; omega
theorem outL_lev (r p a l t free size : Int) : outL r p a l t free size = lev r a l t free + (r * p - 1048576) * size := rfl
theorem mid_in {r a l t free : Int} (hr : 1 ≤ r) (hr1 : r < 1048576) (h0 : -1616904192 ≤ l) (h1 : l ≤ 1125899906842624) (a0 : 0 ≤ a) (f1 : free ≤ 1073741824) (t1 : t ≤ 1073741824) (a1 : a ≤ 1073741824) :
    -1616904192 ≤ mid r a l t free ∧ mid r a l t free ≤ 11258999068426240 := by
  obtain ⟨b1, b2, b3⟩ := beg_le (a := a) (t := t)
  have h := lvl_in (a := a) (t := t) hr h0 h1
  have g := gain hr hr1 (show 0 ≤ max (beg a t) free - beg a t by omega) (by omega)
  unfold mid
  omega
theorem start_spec {r a l t free : Int} (hr : 1 ≤ r) : 0 ≤ lev r a l t free ∧ max (beg a t) free ≤ start r a l t free ∧ (max (beg a t) free < start r a l t free → lev r a l t free < r) ∧ start r a l t free ≤ max (beg a t) free + max 0 (-mid r a l t free) := by
  have e := start_mid (a := a) (l := l) (t := t) (free := free) hr
  rw [lev_mid]
  by_cases h : mid r a l t free < 0
  · rw [if_pos h] at e
    obtain ⟨c1, c2, c3, c4⟩ := ceil_spec (n := -mid r a l t free) hr (by omega)
    rw [e, show max (beg a t) free + (-mid r a l t free + r - 1) / r - max (beg a t) free = (-mid r a l t free + r - 1) / r by omega]
    refine ⟨by omega, by omega, fun _ => by omega, by omega⟩
  · rw [if_neg h] at e
    rw [e, Int.sub_self, Int.mul_zero]
    refine ⟨by omega, by omega, fun h => by omega, by omega⟩
theorem lev_le {r a l t free : Int} : lev r a l t free ≤ l + r * (start r a l t free - a) := by
  have h := lvl_le (r := r) (a := a) (l := l) (t := t)
  unfold lev
  rw [Int.mul_sub] at h
  rw [Int.mul_sub, Int.mul_sub]
  omega
theorem out_sum (r p a l t free size : Int) : outL r p a l t free size - r * outA r p a l t free size = lev r a l t free - 1048576 * size - r * start r a l t free := by
  rw [outL_lev]
  unfold outA
  rw [Int.sub_mul, Int.mul_add, Int.mul_comm size p, ← Int.mul_assoc]
  omega
/-- A trace with the times at which the port is free. -/
abbrev Its := List (Int × Int × Int)
def items (fr : List Int) (tr : List (Int × Int)) : Its := tr.mapIdx fun i x => (x.1, x.2, fr.getD i 0)
theorem items_length (fr : List Int) (tr : List (Int × Int)) : (items fr tr).length = tr.length := List.length_mapIdx
theorem items_get {fr : List Int} {tr : List (Int × Int)} {k : Nat} {x : Int × Int} (h : tr[k]? = some x) : (items fr tr)[k]? = some (x.1, x.2, fr.getD k 0) := by
  unfold items; rw [List.getElem?_mapIdx, h]; rfl
def starts (r p : Int) : Int → Int → Its → List Int
  | _, _, [] => []
  | a, l, x :: its => start r a l x.1 x.2.2 :: starts r p (outA r p a l x.1 x.2.2 x.2.1) (outL r p a l x.1 x.2.2 x.2.1) its
def levs (r p : Int) : Int → Int → Its → List Int
  | _, _, [] => []
  | a, l, x :: its => lev r a l x.1 x.2.2 :: levs r p (outA r p a l x.1 x.2.2 x.2.1) (outL r p a l x.1 x.2.2 x.2.1) its
def endA (r p : Int) : Int → Int → Its → Int
  | a, _, [] => a
  | a, l, x :: its => endA r p (outA r p a l x.1 x.2.2 x.2.1) (outL r p a l x.1 x.2.2 x.2.1) its
def endL (r p : Int) : Int → Int → Its → Int
  | _, l, [] => l
  | a, l, x :: its => endL r p (outA r p a l x.1 x.2.2 x.2.1) (outL r p a l x.1 x.2.2 x.2.1) its
def good (r p : Int) : Int → Int → Its → Bool
  | _, _, [] => true
  | a, l, x :: its => stOk (outA r p a l x.1 x.2.2 x.2.1) (outL r p a l x.1 x.2.2 x.2.1) && good r p (outA r p a l x.1 x.2.2 x.2.1) (outL r p a l x.1 x.2.2 x.2.1) its
theorem starts_length (r p : Int) : ∀ (its : Its) (a l : Int), (starts r p a l its).length = its.length
  | [], _, _ => rfl
  | _ :: its, a, l => congrArg (· + 1) (starts_length r p its _ _)
theorem levs_length (r p : Int) : ∀ (its : Its) (a l : Int), (levs r p a l its).length = its.length
  | [], _, _ => rfl
  | _ :: its, a, l => congrArg (· + 1) (levs_length r p its _ _)
theorem drop_at {α : Type} {l : List α} {k : Nat} {x : α} (h : l[k]? = some x) : l.drop k = x :: l.drop (k + 1) := by
  obtain ⟨hk, he⟩ := List.getElem?_eq_some_iff.1 h
  rw [← he]; exact List.drop_eq_getElem_cons hk
/-- The sum of the sizes of the first k. -/
def psum (its : Its) (k : Nat) : Int := ((its.take k).map fun x => x.2.1).sum
theorem psum_zero (its : Its) : psum its 0 = 0 := rfl
theorem psum_cons (x : Int × Int × Int) (its : Its) (k : Nat) : psum (x :: its) (k + 1) = x.2.1 + psum its k := by simp [psum]
theorem psum_succ {its : Its} {k : Nat} {x : Int × Int × Int} (h : its[k]? = some x) : psum its (k + 1) = psum its k + x.2.1 := by
  unfold psum
  obtain ⟨hk, he⟩ := List.getElem?_eq_some_iff.1 h
  rw [List.take_succ_eq_append_getElem hk, he]; simp
theorem share1 (r p : Int) : ∀ (its : Its) (a l : Int) (j : Nat) (s v : Int), (starts r p a l its)[j]? = some s → (levs r p a l its)[j]? = some v → 1048576 * psum its j + v - r * s ≤ l - r * a
  | [], _, _, j, s, v, h, _ => by simp [starts] at h
  | x :: its, a, l, 0, s, v, h, h2 => by
    simp only [starts, levs, List.getElem?_cons_zero, Option.some.injEq] at h h2
    subst h h2
    have := lev_le (r := r) (a := a) (l := l) (t := x.1) (free := x.2.2)
    rw [psum_zero]
    rw [Int.mul_sub] at this
    omega
  | x :: its, a, l, j + 1, s, v, h, h2 => by
    simp only [starts, levs, List.getElem?_cons_succ] at h h2
    have i := share1 r p its _ _ j s v h h2
    rw [out_sum] at i
    have := lev_le (r := r) (a := a) (l := l) (t := x.1) (free := x.2.2)
    rw [Int.mul_sub] at this
    rw [psum_cons]
    omega
theorem share2 (r p : Int) : ∀ (its : Its) (a l : Int) (i j : Nat) (s v s' v' : Int), i < j → (starts r p a l its)[i]? = some s → (levs r p a l its)[i]? = some v → (starts r p a l its)[j]? = some s' → (levs r p a l its)[j]? = some v' →
    1048576 * (psum its j - psum its i) + v' ≤ r * (s' - s) + v
  | [], _, _, _, _, _, _, _, _, _, h, _, _, _ => by simp [starts] at h
  | _ :: _, _, _, _, 0, _, _, _, _, h0, _, _, _, _ => absurd h0 (Nat.not_lt_zero _)
  | x :: its, a, l, 0, j + 1, s, v, s', v', _, h1, h2, h3, h4 => by
    simp only [starts, levs, List.getElem?_cons_succ, List.getElem?_cons_zero, Option.some.injEq] at h1 h2 h3 h4
    subst h1 h2
    have i := share1 r p its _ _ j s' v' h3 h4
    rw [out_sum] at i
    rw [psum_cons, psum_zero, Int.mul_sub r]
    omega
  | x :: its, a, l, i + 1, j + 1, s, v, s', v', h0, h1, h2, h3, h4 => by
    simp only [starts, levs, List.getElem?_cons_succ] at h1 h2 h3 h4
    have e := share2 r p its _ _ i j s v s' v' (by omega) h1 h2 h3 h4
    rw [psum_cons, psum_cons]
    rw [show x.2.1 + psum its j - (x.2.1 + psum its i) = psum its j - psum its i by omega]
    exact e
theorem levs_nonneg (r p : Int) (hr : 1 ≤ r) : ∀ (its : Its) (a l : Int), ∀ v ∈ levs r p a l its, 0 ≤ v
  | [], _, _, v, h => by simp [levs] at h
  | x :: its, a, l, v, h => by
    rcases List.mem_cons.1 h with rfl | h
    · exact (start_spec hr).1
    · exact levs_nonneg r p hr its _ _ v h
/-- One step of a trace, seen from the place k. -/
theorem at_step {r p a l : Int} {its : Its} {k : Nat} {x : Int × Int × Int} (h : its[k]? = some x) :
    starts r p a l (its.drop k) = start r a l x.1 x.2.2 :: starts r p (outA r p a l x.1 x.2.2 x.2.1) (outL r p a l x.1 x.2.2 x.2.1) (its.drop (k + 1)) ∧
    levs r p a l (its.drop k) = lev r a l x.1 x.2.2 :: levs r p (outA r p a l x.1 x.2.2 x.2.1) (outL r p a l x.1 x.2.2 x.2.1) (its.drop (k + 1)) ∧
    endA r p a l (its.drop k) = endA r p (outA r p a l x.1 x.2.2 x.2.1) (outL r p a l x.1 x.2.2 x.2.1) (its.drop (k + 1)) ∧
    endL r p a l (its.drop k) = endL r p (outA r p a l x.1 x.2.2 x.2.1) (outL r p a l x.1 x.2.2 x.2.1) (its.drop (k + 1)) ∧
    good r p a l (its.drop k) = (stOk (outA r p a l x.1 x.2.2 x.2.1) (outL r p a l x.1 x.2.2 x.2.1) && good r p (outA r p a l x.1 x.2.2 x.2.1) (outL r p a l x.1 x.2.2 x.2.1) (its.drop (k + 1))) := by
  rw [drop_at h]; exact ⟨rfl, rfl, rfl, rfl, rfl⟩
/-- A frame that arrives when the credit has recovered. -/
theorem late_law {r p a l : Int} (late : Int) (hr : 1 ≤ r) (h0 : 0 ≤ late) :
    start r a l (a + 1 + late + max 0 (-l) / r + 1) 0 = max (a + 1 + late + max 0 (-l) / r + 1) 0 ∧ lev r a l (a + 1 + late + max 0 (-l) / r + 1) 0 = lev r a l (a + 1 + late + max 0 (-l) / r + 1) 0 := ⟨by
  obtain ⟨q, hq⟩ : ∃ q, max 0 (-l) / r = q := ⟨_, rfl⟩
  rw [hq]
  have e1 := Int.mul_ediv_add_emod (max 0 (-l)) r
  have e2 := Int.emod_lt_of_pos (max 0 (-l)) (show 0 < r by omega)
  have e3 := Int.ediv_nonneg (show 0 ≤ max 0 (-l) by omega) (show 0 ≤ r by omega)
  rw [hq] at e1 e3
  have hb : beg a (a + 1 + late + q + 1) = a + 1 + late + q + 1 := by unfold beg; rw [if_pos (by omega)]
  have hl : lvl r a l (a + 1 + late + q + 1) = 0 := by
    unfold lvl
    rw [if_pos (by omega)]
    have m := Int.mul_le_mul_of_nonneg_left (show q + 1 ≤ a + 1 + late + q + 1 - a by omega) (show 0 ≤ r by omega)
    rw [Int.mul_add, Int.mul_one] at m
    omega
  have hm : mid r a l (a + 1 + late + q + 1) 0 = r * (max (a + 1 + late + q + 1) 0 - (a + 1 + late + q + 1)) := by unfold mid; rw [hl, hb]; omega
  rw [start_mid hr, hb, hm]
  have := Int.mul_nonneg (show 0 ≤ r by omega) (show 0 ≤ max (a + 1 + late + q + 1) 0 - (a + 1 + late + q + 1) by omega)
  rw [if_neg (by omega)], rfl⟩
theorem late_lvl {r a l : Int} (late : Int) (hr : 1 ≤ r) (h0 : 0 ≤ late) : lvl r a l (a + 1 + late + max 0 (-l) / r + 1) = 0 := by
  obtain ⟨q, hq⟩ : ∃ q, max 0 (-l) / r = q := ⟨_, rfl⟩
  rw [hq]
  have e1 := Int.mul_ediv_add_emod (max 0 (-l)) r
  have e2 := Int.emod_lt_of_pos (max 0 (-l)) (show 0 < r by omega)
  have e3 := Int.ediv_nonneg (show 0 ≤ max 0 (-l) by omega) (show 0 ≤ r by omega)
  rw [hq] at e1 e3
  unfold lvl
  rw [if_pos (by omega)]
  have m := Int.mul_le_mul_of_nonneg_left (show q + 1 ≤ a + 1 + late + q + 1 - a by omega) (show 0 ≤ r by omega)
  rw [Int.mul_add, Int.mul_one] at m
  omega
/-- A number that Step hands back, or zero with an error. -/
def sX (r p a l t free size x : Int) : Int := if stepE r p a l t free size = 0 then x else 0
end Cr
end Go.Proofs.Ytoglmfpmeajbeaa
