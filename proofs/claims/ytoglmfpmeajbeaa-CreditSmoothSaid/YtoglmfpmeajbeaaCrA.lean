/- Credit-based shapers: what the functions return. No program in sight. -/
namespace Go.Proofs.Ytoglmfpmeajbeaa
set_option linter.unusedSimpArgs false
set_option linter.unusedVariables false
namespace Cr
def ok (r p : Int) : Bool := decide (1 ≤ p ∧ p ≤ 1000 ∧ 1 ≤ r ∧ r < 1048576 ∧ r * p < 1048576)
theorem ok_iff {r p : Int} : ok r p = true ↔ (1 ≤ p ∧ p ≤ 1000 ∧ 1 ≤ r ∧ r < 1048576 ∧ r * p < 1048576) := decide_eq_true_iff
theorem ok_no {r p : Int} : ok r p = false ↔ ¬ (1 ≤ p ∧ p ≤ 1000 ∧ 1 ≤ r ∧ r < 1048576 ∧ r * p < 1048576) := decide_eq_false_iff_not
def chk (r p : Int) : Int := if ok r p then 0 else 450
def stOk (a l : Int) : Bool := decide (0 ≤ a ∧ a ≤ 1073741824 ∧ -1616904192 ≤ l ∧ l ≤ 1125899906842624)
def stChk (a l : Int) : Int := if stOk a l then 0 else 450
def argOk (t free size : Int) : Bool := decide (0 ≤ t ∧ t ≤ 1073741824 ∧ 0 ≤ free ∧ free ≤ 1073741824 ∧ 1 ≤ size ∧ size ≤ 1542)
/-- Behind the idle time. -/
def beg (a t : Int) : Int := if a < t then t else a
def lvl (r a l t : Int) : Int := if a < t then min 0 (min 0 l + r * (t - a)) else l
def start (r a l t free : Int) : Int := if lvl r a l t + r * (max (beg a t) free - beg a t) < 0 then beg a t + (-lvl r a l t + r - 1) / r else max (beg a t) free
def outA (r p a l t free size : Int) : Int := start r a l t free + size * p
def outL (r p a l t free size : Int) : Int := lvl r a l t + r * (start r a l t free - beg a t) + (r * p - 1048576) * size
def stepE (r p a l t free size : Int) : Int := if ok r p = false ∨ stOk a l = false then 450 else if argOk t free size = false then 2 else if stOk (outA r p a l t free size) (outL r p a l t free size) then 0 else 6
theorem prod_bound {r p : Int} (h1 : 1 ≤ p) (h2 : p ≤ 1000) (h3 : 1 ≤ r) (h4 : r < 1048576) : 1 ≤ r * p ∧ r * p ≤ 1048576000 := by
  have a := Int.mul_le_mul_of_nonneg_left h1 (show 0 ≤ r by omega)
  have b := Int.mul_le_mul (show r ≤ 1048576 by omega) h2 (by omega) (by omega)
  omega
theorem gain {r d : Int} (h1 : 1 ≤ r) (h2 : r < 1048576) (d0 : 0 ≤ d) (d1 : d ≤ 8589934592) : 0 ≤ r * d ∧ r * d ≤ 9007199254740992 := by
  have a := Int.mul_le_mul (show r ≤ 1048576 by omega) d1 d0 (by omega)
  have b := Int.mul_nonneg (show 0 ≤ r by omega) d0
  omega
/-- Rounding up. -/
theorem ceil_spec {n r : Int} (hr : 1 ≤ r) (hn : 0 ≤ n) : 0 ≤ (n + r - 1) / r ∧ n ≤ r * ((n + r - 1) / r) ∧ r * ((n + r - 1) / r) < n + r ∧ (n + r - 1) / r ≤ n := by
  have h1 := Int.emod_nonneg (n + r - 1) (show r ≠ 0 by omega)
  have h2 := Int.emod_lt_of_pos (n + r - 1) (show 0 < r by omega)
  have h3 := Int.mul_ediv_add_emod (n + r - 1) r
  have h4 : 0 ≤ (n + r - 1) / r := Int.ediv_nonneg (by omega) (by omega)
  refine ⟨h4, by omega, by omega, ?_⟩
  have h5 : r * ((n + r - 1) / r) ≤ n + r - 1 := by omega
  generalize (n + r - 1) / r = q at *
  rcases Int.lt_or_le n q with h | h
  · exfalso
    have := Int.mul_le_mul_of_nonneg_left (show n + 1 ≤ q by omega) (show 0 ≤ r by omega)
    rw [Int.mul_add, Int.mul_one] at this
    have h6 : n ≤ r * n := by
      have := Int.mul_le_mul_of_nonneg_right hr hn
      omega
    omega
  · exact h
/-- The wait for the credit does not depend on how much of it has passed already. -/
theorem ceil_shift {r n d : Int} (hr : 1 ≤ r) : (n - r * d + r - 1) / r = (n + r - 1) / r - d := by
  have e : n - r * d + r - 1 = (n + r - 1) + -d * r := by rw [Int.neg_mul, Int.mul_comm d r]; omega
  rw [e, Int.add_mul_ediv_right _ _ (by omega)]; omega
end Cr
end Go.Proofs.Ytoglmfpmeajbeaa
