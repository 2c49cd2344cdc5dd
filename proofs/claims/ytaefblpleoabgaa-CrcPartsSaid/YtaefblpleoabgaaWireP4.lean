/- The walk of wire.put, one theorem for each length and sign. (Printed by wip/gen/wire.py.) -/
import Derived.Test.YtaefblpleoabgaaWireW
namespace Go.Proofs.Ytaefblpleoabgaa
open Go.RowKit
namespace WireW

set_option maxHeartbeats 400000 in
theorem put_4_false (s : ByteArray) (hs : s.size + 8 ≤ maxLen) (n : Int) (h3 : 0 ≤ n) (h4 : n < 4294967296) (w : World) :
    Calls Try.prog 30 #[.string s, .int .i64 n, .int .i64 4, .bool false] w fun e w' => e = .returned (.tuple #[.string (s ++ S (Wire.digs n 4)), .int .i64 0]) ∧ Below w.heap.size w w' := by
  unfold maxLen at hs
  have hcv := conv_tail (P := Try.prog) 37 9 5 Try.underlying37 Try.underlying5 Try.underlying9
  have hz := strOfNums_size
  go_enter Try.func30, Try.ntmps30
  go_wp2_with (first | (go_at_call 32; refine (digits_any n _).mono ?_; rintro e w' ⟨rfl, hb⟩) | go_in)
  go_ret2
  refine ⟨?_, (((Below.refl _ _).alloc (Nat.le_refl _) _).trans (hb.mono (by simp))).alloc (by have := hb.size; simp at this; omega) _⟩
  show Ending.returned (.tuple #[.string (s ++ strOfNums [n / 16777216 % 256, n / 65536 % 256, n / 256 % 256, n % 256]), .int .i64 0]) = _
  rw [digs_4]

set_option maxHeartbeats 400000 in
theorem put_4_false_no (s : ByteArray) (n : Int) (h : n < 0 ∨ 4294967296 ≤ n) (w : World) :
    Calls Try.prog 30 #[.string s, .int .i64 n, .int .i64 4, .bool false] w fun e w' => e = .returned (.tuple #[.string ⟨#[]⟩, .int .i64 6]) ∧ Below w.heap.size w w' := by
  rcases h with h | h
  · go_enter Try.func30, Try.ntmps30
    go_wp2_with go_in
    go_ret2
    exact ⟨rfl, (Below.refl _ _).alloc (Nat.le_refl _) _⟩
  · have h' : (decide (n < 4294967296)) = false := by simp; omega
    go_enter Try.func30, Try.ntmps30
    go_wp2_with go_in
    go_ret2
    exact ⟨rfl, (Below.refl _ _).alloc (Nat.le_refl _) _⟩

end WireW
end Go.Proofs.Ytaefblpleoabgaa
