/- Plain mathematics of the encodings: no program in sight. -/
namespace Go.Proofs.Ytchfckehobenkaa
namespace Wire
def pw : Nat → Int
  | 0 => 1
  | k + 1 => 256 * pw k
/-- The last k digits of n to the base 256, most significant first. -/
def digs (n : Int) : Nat → List UInt8
  | 0 => []
  | k + 1 => digs (n / 256) k ++ [UInt8.ofNat (n % 256).toNat]
theorem digs_length (n : Int) (k : Nat) : (digs n k).length = k := by
  induction k generalizing n with
  | zero => rfl
  | succ k ih => rw [digs, List.length_append, ih]; rfl
def sh (n : Int) : Nat → Int
  | 0 => n
  | k + 1 => sh n k / 256
theorem sh_succ (n : Int) (k : Nat) : sh n (k + 1) = sh (n / 256) k := by
  induction k with
  | zero => rfl
  | succ k ih => rw [sh, ih]; rfl
theorem digs_cons (n : Int) (k : Nat) : digs n (k + 1) = UInt8.ofNat (sh n k % 256).toNat :: digs n k := by
  induction k generalizing n with
  | zero => rfl
  | succ k ih => rw [digs, ih, sh_succ, digs, List.cons_append]
theorem sh_le (n : Int) (k : Nat) (h1 : -9223372036854775808 ≤ n) (h2 : n ≤ 9223372036854775807) : -9223372036854775808 ≤ sh n k ∧ sh n k ≤ 9223372036854775807 := by
  induction k with
  | zero => exact ⟨h1, h2⟩
  | succ k ih => rw [sh]; omega
theorem pw_pos (k : Nat) : 1 ≤ pw k := by
  induction k with
  | zero => simp [pw]
  | succ k ih => rw [pw]; omega
theorem pw_le {k : Nat} (h : k ≤ 7) : pw k ≤ 72057594037927936 := by
  match k, h with
  | 0, _ => decide
  | 1, _ => decide
  | 2, _ => decide
  | 3, _ => decide
  | 4, _ => decide
  | 5, _ => decide
  | 6, _ => decide
  | 7, _ => decide
  | k + 8, h => omega

/-- Results: the error, the string. -/
def putE (n k : Int) : Int := if n < 0 ∨ k < 1 ∨ 7 < k then 2 else if pw k.toNat ≤ n then 6 else 0
def putL (s : List UInt8) (n k : Int) : List UInt8 := if putE n k = 0 then s ++ digs n k.toNat else []
def putSE (n k : Int) : Int := if k < 1 ∨ 8 < k then 2 else if k < 8 ∧ (n < -(pw k.toNat / 2) ∨ pw k.toNat / 2 ≤ n) then 6 else 0
def putSL (s : List UInt8) (n k : Int) : List UInt8 := if putSE n k = 0 then s ++ digs n k.toNat else []
def has (len at_ k : Int) : Bool := decide (at_ ≤ len) && decide (k ≤ len - at_)
def fieldE (len at_ k : Int) : Int := if at_ < 0 ∨ k < 0 then 2 else if has len at_ k = false then 5 else 0
def fld (s : List UInt8) (at_ k : Int) : List UInt8 := (s.drop at_.toNat).take k.toNat
def fieldL (s : List UInt8) (at_ k : Int) : List UInt8 := if fieldE s.length at_ k = 0 then fld s at_ k else []
def numF (n : Int) (l : List UInt8) : Int := l.foldl (fun n b => 256 * n + (b.toNat : Int)) n
def sgn (b : UInt8) : Int := if 128 ≤ (b.toNat : Int) then (b.toNat : Int) - 256 else (b.toNat : Int)
def numS : List UInt8 → Int
  | [] => 0
  | b :: l => numF (sgn b) l
def getE (len at_ k : Int) : Int := if at_ < 0 ∨ k < 1 ∨ 7 < k then 2 else if has len at_ k = false then 5 else 0
def getN (s : List UInt8) (at_ k : Int) : Int := if getE s.length at_ k = 0 then numF 0 (fld s at_ k) else 0
def getSE (len at_ k : Int) : Int := if at_ < 0 ∨ k < 1 ∨ 8 < k then 2 else if has len at_ k = false then 5 else 0
def getSN (s : List UInt8) (at_ k : Int) : Int := if getSE s.length at_ k = 0 then numS (fld s at_ k) else 0

theorem numF_nil (n : Int) : numF n [] = n := rfl
theorem numF_append (n : Int) (a b : List UInt8) : numF n (a ++ b) = numF (numF n a) b := by simp [numF]
theorem numF_snoc (n : Int) (l : List UInt8) (b : UInt8) : numF n (l ++ [b]) = 256 * numF n l + (b.toNat : Int) := by rw [numF_append]; rfl
theorem byte_lt (b : UInt8) : (b.toNat : Int) < 256 := by have := b.toNat_lt; omega
/-- The range of a number of octets. -/
theorem numF_range (l : List UInt8) : ∀ (n lo hi : Int), lo ≤ n → n ≤ hi → lo * pw l.length ≤ numF n l ∧ numF n l ≤ (hi + 1) * pw l.length - 1 := by
  induction l with
  | nil => intro n lo hi h1 h2; simp [numF, pw]; omega
  | cons b l ih =>
    intro n lo hi h1 h2
    have hb := byte_lt b
    have h := ih (256 * n + (b.toNat : Int)) (256 * lo) (256 * hi + 255) (by omega) (by omega)
    rw [List.length_cons, pw]
    have e1 : lo * (256 * pw l.length) = 256 * lo * pw l.length := by rw [← Int.mul_assoc, Int.mul_comm lo 256]
    have e2 : (hi + 1) * (256 * pw l.length) = (256 * hi + 255 + 1) * pw l.length := by
      rw [← Int.mul_assoc, Int.mul_comm (hi + 1) 256, Int.mul_add]; congr 1; omega
    rw [e1, e2]; exact h
theorem sgn_range (b : UInt8) : -128 ≤ sgn b ∧ sgn b ≤ 127 := by
  have := byte_lt b
  unfold sgn; split <;> omega
end Wire
end Go.Proofs.Ytchfckehobenkaa
