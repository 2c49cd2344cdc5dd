/- The walk of wire.put, one theorem for each length and sign. (Printed by wip/gen/wire.py.) -/
import Derived.Test.YtchfckehobenkaaWireW
namespace Go.Proofs.Ytchfckehobenkaa
open Go.RowKit
namespace WireW

set_option maxHeartbeats 400000 in
theorem put_1_true (s : ByteArray) (hs : s.size + 8 ≤ maxLen) (n : Int) (h3 : -128 ≤ n) (h4 : n < 128) (w : World) :
    Calls Try.prog 24 #[.string s, .int .i64 n, .int .i64 1, .bool true] w fun e w' => e = .returned (.tuple #[.string (s ++ S (Wire.digs n 1)), .int .i64 0]) ∧ Below w.heap.size w w' := by
  unfold maxLen at hs
  have hcv := conv_tail (P := Try.prog) 50 9 5 Try.underlying50 Try.underlying5 Try.underlying9
  have hz := strOfNums_size
  go_enter Try.func24, Try.ntmps24
  go_wp2_with (first | (go_at_call 29; refine (digits_any n _).mono ?_; rintro e w' ⟨rfl, hb⟩) | go_in)
  go_ret2
  refine ⟨?_, (((Below.refl _ _).alloc (Nat.le_refl _) _).trans (hb.mono (by simp))).alloc (by have := hb.size; simp at this; omega) _⟩
  show Ending.returned (.tuple #[.string (s ++ strOfNums [n % 256]), .int .i64 0]) = _
  rw [digs_1]

set_option maxHeartbeats 400000 in
theorem put_1_true_no (s : ByteArray) (n : Int) (h : n < -128 ∨ 128 ≤ n) (w : World) :
    Calls Try.prog 24 #[.string s, .int .i64 n, .int .i64 1, .bool true] w fun e w' => e = .returned (.tuple #[.string ⟨#[]⟩, .int .i64 6]) ∧ Below w.heap.size w w' := by
  rcases h with h | h
  · go_enter Try.func24, Try.ntmps24
    go_wp2_with go_in
    go_ret2
    exact ⟨rfl, (Below.refl _ _).alloc (Nat.le_refl _) _⟩
  · have h' : (decide (n < 128)) = false := by simp; omega
    go_enter Try.func24, Try.ntmps24
    go_wp2_with go_in
    go_ret2
    exact ⟨rfl, (Below.refl _ _).alloc (Nat.le_refl _) _⟩

set_option maxHeartbeats 400000 in
theorem put_2_true (s : ByteArray) (hs : s.size + 8 ≤ maxLen) (n : Int) (h3 : -32768 ≤ n) (h4 : n < 32768) (w : World) :
    Calls Try.prog 24 #[.string s, .int .i64 n, .int .i64 2, .bool true] w fun e w' => e = .returned (.tuple #[.string (s ++ S (Wire.digs n 2)), .int .i64 0]) ∧ Below w.heap.size w w' := by
  unfold maxLen at hs
  have hcv := conv_tail (P := Try.prog) 50 9 5 Try.underlying50 Try.underlying5 Try.underlying9
  have hz := strOfNums_size
  go_enter Try.func24, Try.ntmps24
  go_wp2_with (first | (go_at_call 29; refine (digits_any n _).mono ?_; rintro e w' ⟨rfl, hb⟩) | go_in)
  go_ret2
  refine ⟨?_, (((Below.refl _ _).alloc (Nat.le_refl _) _).trans (hb.mono (by simp))).alloc (by have := hb.size; simp at this; omega) _⟩
  show Ending.returned (.tuple #[.string (s ++ strOfNums [n / 256 % 256, n % 256]), .int .i64 0]) = _
  rw [digs_2]

set_option maxHeartbeats 400000 in
theorem put_2_true_no (s : ByteArray) (n : Int) (h : n < -32768 ∨ 32768 ≤ n) (w : World) :
    Calls Try.prog 24 #[.string s, .int .i64 n, .int .i64 2, .bool true] w fun e w' => e = .returned (.tuple #[.string ⟨#[]⟩, .int .i64 6]) ∧ Below w.heap.size w w' := by
  rcases h with h | h
  · go_enter Try.func24, Try.ntmps24
    go_wp2_with go_in
    go_ret2
    exact ⟨rfl, (Below.refl _ _).alloc (Nat.le_refl _) _⟩
  · have h' : (decide (n < 32768)) = false := by simp; omega
    go_enter Try.func24, Try.ntmps24
    go_wp2_with go_in
    go_ret2
    exact ⟨rfl, (Below.refl _ _).alloc (Nat.le_refl _) _⟩

set_option maxHeartbeats 400000 in
theorem put_3_true (s : ByteArray) (hs : s.size + 8 ≤ maxLen) (n : Int) (h3 : -8388608 ≤ n) (h4 : n < 8388608) (w : World) :
    Calls Try.prog 24 #[.string s, .int .i64 n, .int .i64 3, .bool true] w fun e w' => e = .returned (.tuple #[.string (s ++ S (Wire.digs n 3)), .int .i64 0]) ∧ Below w.heap.size w w' := by
  unfold maxLen at hs
  have hcv := conv_tail (P := Try.prog) 50 9 5 Try.underlying50 Try.underlying5 Try.underlying9
  have hz := strOfNums_size
  go_enter Try.func24, Try.ntmps24
  go_wp2_with (first | (go_at_call 29; refine (digits_any n _).mono ?_; rintro e w' ⟨rfl, hb⟩) | go_in)
  go_ret2
  refine ⟨?_, (((Below.refl _ _).alloc (Nat.le_refl _) _).trans (hb.mono (by simp))).alloc (by have := hb.size; simp at this; omega) _⟩
  show Ending.returned (.tuple #[.string (s ++ strOfNums [n / 65536 % 256, n / 256 % 256, n % 256]), .int .i64 0]) = _
  rw [digs_3]

set_option maxHeartbeats 400000 in
theorem put_3_true_no (s : ByteArray) (n : Int) (h : n < -8388608 ∨ 8388608 ≤ n) (w : World) :
    Calls Try.prog 24 #[.string s, .int .i64 n, .int .i64 3, .bool true] w fun e w' => e = .returned (.tuple #[.string ⟨#[]⟩, .int .i64 6]) ∧ Below w.heap.size w w' := by
  rcases h with h | h
  · go_enter Try.func24, Try.ntmps24
    go_wp2_with go_in
    go_ret2
    exact ⟨rfl, (Below.refl _ _).alloc (Nat.le_refl _) _⟩
  · have h' : (decide (n < 8388608)) = false := by simp; omega
    go_enter Try.func24, Try.ntmps24
    go_wp2_with go_in
    go_ret2
    exact ⟨rfl, (Below.refl _ _).alloc (Nat.le_refl _) _⟩

set_option maxHeartbeats 400000 in
theorem put_4_true (s : ByteArray) (hs : s.size + 8 ≤ maxLen) (n : Int) (h3 : -2147483648 ≤ n) (h4 : n < 2147483648) (w : World) :
    Calls Try.prog 24 #[.string s, .int .i64 n, .int .i64 4, .bool true] w fun e w' => e = .returned (.tuple #[.string (s ++ S (Wire.digs n 4)), .int .i64 0]) ∧ Below w.heap.size w w' := by
  unfold maxLen at hs
  have hcv := conv_tail (P := Try.prog) 50 9 5 Try.underlying50 Try.underlying5 Try.underlying9
  have hz := strOfNums_size
  go_enter Try.func24, Try.ntmps24
  go_wp2_with (first | (go_at_call 29; refine (digits_any n _).mono ?_; rintro e w' ⟨rfl, hb⟩) | go_in)
  go_ret2
  refine ⟨?_, (((Below.refl _ _).alloc (Nat.le_refl _) _).trans (hb.mono (by simp))).alloc (by have := hb.size; simp at this; omega) _⟩
  show Ending.returned (.tuple #[.string (s ++ strOfNums [n / 16777216 % 256, n / 65536 % 256, n / 256 % 256, n % 256]), .int .i64 0]) = _
  rw [digs_4]

set_option maxHeartbeats 400000 in
theorem put_4_true_no (s : ByteArray) (n : Int) (h : n < -2147483648 ∨ 2147483648 ≤ n) (w : World) :
    Calls Try.prog 24 #[.string s, .int .i64 n, .int .i64 4, .bool true] w fun e w' => e = .returned (.tuple #[.string ⟨#[]⟩, .int .i64 6]) ∧ Below w.heap.size w w' := by
  rcases h with h | h
  · go_enter Try.func24, Try.ntmps24
    go_wp2_with go_in
    go_ret2
    exact ⟨rfl, (Below.refl _ _).alloc (Nat.le_refl _) _⟩
  · have h' : (decide (n < 2147483648)) = false := by simp; omega
    go_enter Try.func24, Try.ntmps24
    go_wp2_with go_in
    go_ret2
    exact ⟨rfl, (Below.refl _ _).alloc (Nat.le_refl _) _⟩

set_option maxHeartbeats 400000 in
theorem put_5_true (s : ByteArray) (hs : s.size + 8 ≤ maxLen) (n : Int) (h3 : -549755813888 ≤ n) (h4 : n < 549755813888) (w : World) :
    Calls Try.prog 24 #[.string s, .int .i64 n, .int .i64 5, .bool true] w fun e w' => e = .returned (.tuple #[.string (s ++ S (Wire.digs n 5)), .int .i64 0]) ∧ Below w.heap.size w w' := by
  unfold maxLen at hs
  have hcv := conv_tail (P := Try.prog) 50 9 5 Try.underlying50 Try.underlying5 Try.underlying9
  have hz := strOfNums_size
  go_enter Try.func24, Try.ntmps24
  go_wp2_with (first | (go_at_call 29; refine (digits_any n _).mono ?_; rintro e w' ⟨rfl, hb⟩) | go_in)
  go_ret2
  refine ⟨?_, (((Below.refl _ _).alloc (Nat.le_refl _) _).trans (hb.mono (by simp))).alloc (by have := hb.size; simp at this; omega) _⟩
  show Ending.returned (.tuple #[.string (s ++ strOfNums [n / 4294967296 % 256, n / 16777216 % 256, n / 65536 % 256, n / 256 % 256, n % 256]), .int .i64 0]) = _
  rw [digs_5]

set_option maxHeartbeats 400000 in
theorem put_5_true_no (s : ByteArray) (n : Int) (h : n < -549755813888 ∨ 549755813888 ≤ n) (w : World) :
    Calls Try.prog 24 #[.string s, .int .i64 n, .int .i64 5, .bool true] w fun e w' => e = .returned (.tuple #[.string ⟨#[]⟩, .int .i64 6]) ∧ Below w.heap.size w w' := by
  rcases h with h | h
  · go_enter Try.func24, Try.ntmps24
    go_wp2_with go_in
    go_ret2
    exact ⟨rfl, (Below.refl _ _).alloc (Nat.le_refl _) _⟩
  · have h' : (decide (n < 549755813888)) = false := by simp; omega
    go_enter Try.func24, Try.ntmps24
    go_wp2_with go_in
    go_ret2
    exact ⟨rfl, (Below.refl _ _).alloc (Nat.le_refl _) _⟩

set_option maxHeartbeats 400000 in
theorem put_6_true (s : ByteArray) (hs : s.size + 8 ≤ maxLen) (n : Int) (h3 : -140737488355328 ≤ n) (h4 : n < 140737488355328) (w : World) :
    Calls Try.prog 24 #[.string s, .int .i64 n, .int .i64 6, .bool true] w fun e w' => e = .returned (.tuple #[.string (s ++ S (Wire.digs n 6)), .int .i64 0]) ∧ Below w.heap.size w w' := by
  unfold maxLen at hs
  have hcv := conv_tail (P := Try.prog) 50 9 5 Try.underlying50 Try.underlying5 Try.underlying9
  have hz := strOfNums_size
  go_enter Try.func24, Try.ntmps24
  go_wp2_with (first | (go_at_call 29; refine (digits_any n _).mono ?_; rintro e w' ⟨rfl, hb⟩) | go_in)
  go_ret2
  refine ⟨?_, (((Below.refl _ _).alloc (Nat.le_refl _) _).trans (hb.mono (by simp))).alloc (by have := hb.size; simp at this; omega) _⟩
  show Ending.returned (.tuple #[.string (s ++ strOfNums [n / 1099511627776 % 256, n / 4294967296 % 256, n / 16777216 % 256, n / 65536 % 256, n / 256 % 256, n % 256]), .int .i64 0]) = _
  rw [digs_6]

set_option maxHeartbeats 400000 in
theorem put_6_true_no (s : ByteArray) (n : Int) (h : n < -140737488355328 ∨ 140737488355328 ≤ n) (w : World) :
    Calls Try.prog 24 #[.string s, .int .i64 n, .int .i64 6, .bool true] w fun e w' => e = .returned (.tuple #[.string ⟨#[]⟩, .int .i64 6]) ∧ Below w.heap.size w w' := by
  rcases h with h | h
  · go_enter Try.func24, Try.ntmps24
    go_wp2_with go_in
    go_ret2
    exact ⟨rfl, (Below.refl _ _).alloc (Nat.le_refl _) _⟩
  · have h' : (decide (n < 140737488355328)) = false := by simp; omega
    go_enter Try.func24, Try.ntmps24
    go_wp2_with go_in
    go_ret2
    exact ⟨rfl, (Below.refl _ _).alloc (Nat.le_refl _) _⟩

set_option maxHeartbeats 400000 in
theorem put_7_true (s : ByteArray) (hs : s.size + 8 ≤ maxLen) (n : Int) (h3 : -36028797018963968 ≤ n) (h4 : n < 36028797018963968) (w : World) :
    Calls Try.prog 24 #[.string s, .int .i64 n, .int .i64 7, .bool true] w fun e w' => e = .returned (.tuple #[.string (s ++ S (Wire.digs n 7)), .int .i64 0]) ∧ Below w.heap.size w w' := by
  unfold maxLen at hs
  have hcv := conv_tail (P := Try.prog) 50 9 5 Try.underlying50 Try.underlying5 Try.underlying9
  have hz := strOfNums_size
  go_enter Try.func24, Try.ntmps24
  go_wp2_with (first | (go_at_call 29; refine (digits_any n _).mono ?_; rintro e w' ⟨rfl, hb⟩) | go_in)
  go_ret2
  refine ⟨?_, (((Below.refl _ _).alloc (Nat.le_refl _) _).trans (hb.mono (by simp))).alloc (by have := hb.size; simp at this; omega) _⟩
  show Ending.returned (.tuple #[.string (s ++ strOfNums [n / 281474976710656 % 256, n / 1099511627776 % 256, n / 4294967296 % 256, n / 16777216 % 256, n / 65536 % 256, n / 256 % 256, n % 256]), .int .i64 0]) = _
  rw [digs_7]

set_option maxHeartbeats 400000 in
theorem put_7_true_no (s : ByteArray) (n : Int) (h : n < -36028797018963968 ∨ 36028797018963968 ≤ n) (w : World) :
    Calls Try.prog 24 #[.string s, .int .i64 n, .int .i64 7, .bool true] w fun e w' => e = .returned (.tuple #[.string ⟨#[]⟩, .int .i64 6]) ∧ Below w.heap.size w w' := by
  rcases h with h | h
  · go_enter Try.func24, Try.ntmps24
    go_wp2_with go_in
    go_ret2
    exact ⟨rfl, (Below.refl _ _).alloc (Nat.le_refl _) _⟩
  · have h' : (decide (n < 36028797018963968)) = false := by simp; omega
    go_enter Try.func24, Try.ntmps24
    go_wp2_with go_in
    go_ret2
    exact ⟨rfl, (Below.refl _ _).alloc (Nat.le_refl _) _⟩

set_option maxHeartbeats 400000 in
theorem put_8_true (s : ByteArray) (hs : s.size + 8 ≤ maxLen) (n : Int) (w : World) :
    Calls Try.prog 24 #[.string s, .int .i64 n, .int .i64 8, .bool true] w fun e w' => e = .returned (.tuple #[.string (s ++ S (Wire.digs n 8)), .int .i64 0]) ∧ Below w.heap.size w w' := by
  unfold maxLen at hs
  have hcv := conv_tail (P := Try.prog) 50 9 5 Try.underlying50 Try.underlying5 Try.underlying9
  have hz := strOfNums_size
  go_enter Try.func24, Try.ntmps24
  go_wp2_with (first | (go_at_call 29; refine (digits_any n _).mono ?_; rintro e w' ⟨rfl, hb⟩) | go_in)
  go_ret2
  refine ⟨?_, hb.alloc hb.size _⟩
  show Ending.returned (.tuple #[.string (s ++ strOfNums [n / 72057594037927936 % 256, n / 281474976710656 % 256, n / 1099511627776 % 256, n / 4294967296 % 256, n / 16777216 % 256, n / 65536 % 256, n / 256 % 256, n % 256]), .int .i64 0]) = _
  rw [digs_8]

end WireW
end Go.Proofs.Ytchfckehobenkaa
