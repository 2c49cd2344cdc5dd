/- Buckets and meters: what the functions return. No program in sight. -/
namespace Go.Proofs.Ytoglmfpmeajbeaa
set_option linter.unusedSimpArgs false
set_option linter.unusedVariables false
namespace Bk
def ok (b r : Int) : Bool := decide (1 ≤ b ∧ b ≤ 1048576 ∧ 1 ≤ r ∧ r ≤ 2097152)
def chk (b r : Int) : Int := if ok b r then 0 else 130
theorem ok_iff {b r : Int} : ok b r = true ↔ (1 ≤ b ∧ b ≤ 1048576 ∧ 1 ≤ r ∧ r ≤ 2097152) := decide_eq_true_iff
theorem ok_no {b r : Int} : ok b r = false ↔ ¬ (1 ≤ b ∧ b ≤ 1048576 ∧ 1 ≤ r ∧ r ≤ 2097152) := decide_eq_false_iff_not
end Bk
namespace Mt
open Bk
def newE (b r b2 r2 : Int) : Int := if ok b r = false ∨ ok b2 r2 = false then 130 else if r2 < r then 2 else 0
def newT (e b : Int) : Int := if e = 0 then b * 1048576 else 0
def chkE (b r b2 r2 l c p : Int) : Int := if newE b r b2 r2 = 0 then (if l < 0 ∨ 1099511627776 < l ∨ c < 0 ∨ b * 1048576 < c ∨ p < 0 ∨ b2 * 1048576 < p then 420 else 0) else newE b r b2 r2
def markE (b r b2 r2 l c p at_ size : Int) : Int := if chkE b r b2 r2 l c p = 0 then (if at_ < l ∨ 1099511627776 < at_ ∨ size < 1 ∨ 1048576 < size then 2 else 0) else chkE b r b2 r2 l c p
def fill (b r l c at_ : Int) : Int := min (b * 1048576) (c + r * (at_ - l))
def color (c p need : Int) : Int := if p < need then 2 else if c < need then 1 else 0
def takeC (c p need : Int) : Int := if p < need then c else if c < need then c else c - need
def takeP (p need : Int) : Int := if p < need then p else p - need
theorem newE_cases (b r b2 r2 : Int) : (newE b r b2 r2 = 0 ∧ ok b r = true ∧ ok b2 r2 = true ∧ r ≤ r2) ∨ (newE b r b2 r2 = 2 ∧ ok b r = true ∧ ok b2 r2 = true ∧ r2 < r) ∨ (newE b r b2 r2 = 130 ∧ (ok b r = false ∨ ok b2 r2 = false)) := by
  unfold newE
  cases h1 : ok b r <;> cases h2 : ok b2 r2 <;> simp
  omega
theorem chk_zero {b r b2 r2 l c p : Int} (h : chkE b r b2 r2 l c p = 0) : (1 ≤ b ∧ b ≤ 1048576 ∧ 1 ≤ r ∧ r ≤ 2097152) ∧ (1 ≤ b2 ∧ b2 ≤ 1048576 ∧ 1 ≤ r2 ∧ r2 ≤ 2097152) ∧ (0 ≤ l ∧ l ≤ 1099511627776 ∧ 0 ≤ c ∧ c ≤ b * 1048576 ∧ 0 ≤ p ∧ p ≤ b2 * 1048576) := by
  unfold chkE at h
  rcases newE_cases b r b2 r2 with ⟨e, o1, o2, _⟩ | ⟨e, _⟩ | ⟨e, _⟩
  · rw [if_pos e] at h
    refine ⟨ok_iff.1 o1, ok_iff.1 o2, ?_⟩
    split at h
    · omega
    · omega
  · rw [if_neg (by omega)] at h; omega
  · rw [if_neg (by omega)] at h; omega
theorem new_zero {b r b2 r2 : Int} (h : newE b r b2 r2 = 0) : (1 ≤ b ∧ b ≤ 1048576 ∧ 1 ≤ r ∧ r ≤ 2097152) ∧ (1 ≤ b2 ∧ b2 ≤ 1048576 ∧ 1 ≤ r2 ∧ r2 ≤ 2097152) ∧ r ≤ r2 := by
  rcases newE_cases b r b2 r2 with ⟨_, o1, o2, o3⟩ | ⟨e, _⟩ | ⟨e, _⟩
  · exact ⟨ok_iff.1 o1, ok_iff.1 o2, o3⟩
  · omega
  · omega
theorem gain {r t : Int} (r1 : 1 ≤ r) (r2 : r ≤ 2097152) (t1 : 0 ≤ t) (t2 : t ≤ 1099511627776) : 0 ≤ r * t ∧ r * t ≤ 2305843009213693952 := by
  have a := Int.mul_le_mul r2 t2 t1 (by omega)
  have b := Int.mul_nonneg (show 0 ≤ r by omega) t1
  omega
end Mt
end Go.Proofs.Ytoglmfpmeajbeaa
