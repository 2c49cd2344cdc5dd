/- Plain mathematics of the encodings: reading back, order. -/
import Derived.Test.YtchfckehobenkaaWireA
import GoSem.Op.String
namespace Go.Proofs.Ytchfckehobenkaa
namespace Wire
theorem mod_mul (m p : Int) (hp : 1 ≤ p) : m % (256 * p) = 256 * (m / 256 % p) + m % 256 := by
  have h1 := Int.emod_nonneg (m / 256) (show p ≠ 0 by omega)
  have h2 := Int.emod_lt_of_pos (m / 256) (show 0 < p by omega)
  have h3 : m = (256 * (m / 256 % p) + m % 256) + (256 * p) * (m / 256 / p) := by
    have e1 := Int.mul_ediv_add_emod (m / 256) p
    rw [Int.mul_assoc]
    generalize m / 256 % p = r at *
    generalize p * (m / 256 / p) = u at *
    omega
  have h4 : m % (256 * p) = (256 * (m / 256 % p) + m % 256) % (256 * p) := by
    conv => lhs; rw [h3]
    exact Int.add_mul_emod_self_left _ _ _
  rw [h4]
  exact Int.emod_eq_of_lt (by omega) (by omega)
theorem byte_of (n : Int) : ((UInt8.ofNat (n % 256).toNat).toNat : Int) = n % 256 := by
  rw [UInt8.toNat_ofNat']; omega
theorem numF_digs (k : Nat) : ∀ (n m : Int), numF n (digs m k) = n * pw k + m % pw k := by
  induction k with
  | zero => intro n m; simp [digs, numF, pw]
  | succ k ih =>
    intro n m
    rw [digs, numF_snoc, ih, byte_of, pw, mod_mul m (pw k) (pw_pos k)]
    have e : n * (256 * pw k) = 256 * (n * pw k) := by rw [← Int.mul_assoc, Int.mul_comm n 256, Int.mul_assoc]
    rw [e]; omega
theorem num_digs {m : Int} {k : Nat} (h1 : 0 ≤ m) (h2 : m < pw k) : numF 0 (digs m k) = m := by
  rw [numF_digs, Int.zero_mul, Int.zero_add, Int.emod_eq_of_lt h1 h2]
theorem sh_div (n : Int) (k : Nat) : sh n k = n / pw k := by
  induction k with
  | zero => simp [sh, pw]
  | succ k ih =>
    have hp := pw_pos k
    rw [sh, ih, Int.ediv_ediv_of_nonneg (by omega), pw, Int.mul_comm]
theorem sgn_byte {q : Int} (h1 : -128 ≤ q) (h2 : q ≤ 127) : sgn (UInt8.ofNat (q % 256).toNat) = q := by
  unfold sgn; rw [byte_of]; split <;> omega
theorem numS_digs {n : Int} {k : Nat} (h1 : -(pw (k + 1) / 2) ≤ n) (h2 : n < pw (k + 1) / 2) : numS (digs n (k + 1)) = n := by
  have hp := pw_pos k
  rw [digs_cons, numS, numF_digs, sh_div]
  have e : pw (k + 1) / 2 = 128 * pw k := by rw [pw]; omega
  rw [e] at h1 h2
  have hq1 : -128 ≤ n / pw k := Int.le_ediv_of_mul_le (by omega) (by omega)
  have hq2 : n / pw k < 128 := Int.ediv_lt_of_lt_mul (by omega) (by omega)
  rw [sgn_byte hq1 (by omega)]
  have := Int.mul_ediv_add_emod n (pw k)
  rw [Int.mul_comm]; exact this
theorem fld_mid (a d b : List UInt8) : fld (a ++ d ++ b) a.length d.length = d := by
  unfold fld; simp
theorem fld_mid' (a d b : List UInt8) (n k : Nat) (hn : n = a.length) (hk : k = d.length) : fld (a ++ d ++ b) n k = d := by subst hn; subst hk; exact fld_mid a d b
theorem fld_zero (a b : List UInt8) (n : Nat) (hn : n = a.length) : fld (a ++ b) 0 n = a := by subst hn; unfold fld; simp

theorem less_cons (a b : UInt8) (x y : List UInt8) : Op.bytesLess (a :: x) (b :: y) = (decide (a < b) || (a == b && Op.bytesLess x y)) := rfl
theorem digs_order (k : Nat) : ∀ (a b : Int), 0 ≤ a → a < pw k → 0 ≤ b → b < pw k → Op.bytesLess (digs a k) (digs b k) = decide (a < b) ∧ (digs a k == digs b k) = decide (a = b) := by
  induction k with
  | zero => intro a b h1 h2 h3 h4; simp [pw] at h2 h4; simp [digs, Op.bytesLess]; omega
  | succ k ih =>
    intro a b h1 h2 h3 h4
    have hp := pw_pos k
    rw [pw] at h2 h4
    have hm : ∀ c : Int, digs c k = digs (c % pw k) k := by
      clear ih h1 h2 h3 h4 hp
      induction k with
      | zero => intro c; rfl
      | succ k ih =>
        intro c
        have hp := pw_pos k
        have e := mod_mul c (pw k) hp
        rw [← show pw (k + 1) = 256 * pw k from rfl] at e
        rw [digs, digs, ih (c / 256), e]
        have e1 : (256 * (c / 256 % pw k) + c % 256) / 256 = c / 256 % pw k := by omega
        have e2 : (256 * (c / 256 % pw k) + c % 256) % 256 = c % 256 := by omega
        rw [e1, e2]
    have ma := Int.emod_nonneg a (show pw k ≠ 0 by omega)
    have mb := Int.emod_nonneg b (show pw k ≠ 0 by omega)
    have la := Int.emod_lt_of_pos a (show 0 < pw k by omega)
    have lb := Int.emod_lt_of_pos b (show 0 < pw k by omega)
    have qa : 0 ≤ a / pw k := Int.ediv_nonneg h1 (by omega)
    have qb : 0 ≤ b / pw k := Int.ediv_nonneg h3 (by omega)
    have ra : a / pw k < 256 := Int.ediv_lt_of_lt_mul (by omega) (by omega)
    have rb : b / pw k < 256 := Int.ediv_lt_of_lt_mul (by omega) (by omega)
    have ea := Int.mul_ediv_add_emod a (pw k)
    have eb := Int.mul_ediv_add_emod b (pw k)
    obtain ⟨i1, i2⟩ := ih (a % pw k) (b % pw k) ma la mb lb
    rw [digs_cons, digs_cons, sh_div, sh_div, less_cons, hm a, hm b, i1]
    have hl : (UInt8.ofNat (a / pw k % 256).toNat < UInt8.ofNat (b / pw k % 256).toNat) ↔ a / pw k < b / pw k := by
      rw [UInt8.lt_iff_toNat_lt]
      have x := byte_of (a / pw k); have y := byte_of (b / pw k)
      omega
    have he : (UInt8.ofNat (a / pw k % 256).toNat = UInt8.ofNat (b / pw k % 256).toNat) ↔ a / pw k = b / pw k := by
      rw [← UInt8.toNat_inj]
      have x := byte_of (a / pw k); have y := byte_of (b / pw k)
      omega
    have i2' : (digs (a % pw k) k = digs (b % pw k) k) ↔ a % pw k = b % pw k := by
      rw [← beq_iff_eq, i2, decide_eq_true_iff]
    have key : ∀ x y : Int, x < y → pw k * x + pw k ≤ pw k * y := fun x y h => by
      have := Int.mul_le_mul_of_nonneg_left (show x + 1 ≤ y by omega) (show 0 ≤ pw k by omega)
      rw [Int.mul_add, Int.mul_one] at this; exact this
    constructor
    · rw [Bool.eq_iff_iff, Bool.or_eq_true, Bool.and_eq_true, decide_eq_true_iff, decide_eq_true_iff, decide_eq_true_iff, beq_iff_eq, hl, he]
      rcases Int.lt_trichotomy (a / pw k) (b / pw k) with h | h | h
      · have := key _ _ h; omega
      · rw [h] at ea; omega
      · have := key _ _ h; omega
    · rw [Bool.eq_iff_iff, decide_eq_true_iff, beq_iff_eq, List.cons.injEq, he, i2']
      constructor
      · rintro ⟨h, h'⟩; rw [h, h'] at ea; omega
      · rintro rfl; exact ⟨rfl, rfl⟩
end Wire
end Go.Proofs.Ytchfckehobenkaa
