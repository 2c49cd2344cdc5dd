/- Plain mathematics of the encodings: no program in sight. -/
namespace Go.Proofs.Ytaefblpleoabgaa
namespace Wire
def pw : Nat → Int
  | 0 => 1
  | k + 1 => 256 * pw k
/-- The last k digits of n to the base 256, most significant first. -/
def digs (n : Int) : Nat → List UInt8
  | 0 => []
  | k + 1 => digs (n / 256) k ++ [UInt8.ofNat (n % 256).toNat]
theorem digs_length (n : Int) (k : Nat) : (digs n k).length = k := by
  induction k generalizing n with
  | zero => rfl
  | succ k ih => rw [digs, List.length_append, ih]; rfl
def fits (sg : Bool) (n : Int) (k : Nat) : Bool := if k = 8 then true else if sg then decide (-(pw k / 2) ≤ n) && decide (n < pw k / 2) else decide (0 ≤ n) && decide (n < pw k)
end Wire
end Go.Proofs.Ytaefblpleoabgaa
