/- The walk of wire.put, one theorem for each length and sign. (Printed by wip/gen/wire.py.) -/
import Derived.Test.YtchfckehobenkaaWireW
namespace Go.Proofs.Ytchfckehobenkaa
open Go.RowKit
namespace WireW

set_option maxHeartbeats 400000 in
theorem put_1_false (s : ByteArray) (hs : s.size + 8 ≤ maxLen) (n : Int) (h3 : 0 ≤ n) (h4 : n < 256) (w : World) :
    Calls Try.prog 24 #[.string s, .int .i64 n, .int .i64 1, .bool false] w fun e w' => e = .returned (.tuple #[.string (s ++ S (Wire.digs n 1)), .int .i64 0]) ∧ Below w.heap.size w w' := by
  unfold maxLen at hs
  have hcv := conv_tail (P := Try.prog) 50 9 5 Try.underlying50 Try.underlying5 Try.underlying9
  have hz := strOfNums_size
  go_enter Try.func24, Try.ntmps24
  go_wp2_with (first | (go_at_call 29; refine (digits_any n _).mono ?_; rintro e w' ⟨rfl, hb⟩) | go_in)
  go_ret2
  refine ⟨?_, (((Below.refl _ _).alloc (Nat.le_refl _) _).trans (hb.mono (by simp))).alloc (by have := hb.size; simp at this; omega) _⟩
  show Ending.returned (.tuple #[.string (s ++ strOfNums [n % 256]), .int .i64 0]) = _
  rw [digs_1]

set_option maxHeartbeats 400000 in
theorem put_1_false_no (s : ByteArray) (n : Int) (h : n < 0 ∨ 256 ≤ n) (w : World) :
    Calls Try.prog 24 #[.string s, .int .i64 n, .int .i64 1, .bool false] w fun e w' => e = .returned (.tuple #[.string ⟨#[]⟩, .int .i64 6]) ∧ Below w.heap.size w w' := by
  rcases h with h | h
  · go_enter Try.func24, Try.ntmps24
    go_wp2_with go_in
    go_ret2
    exact ⟨rfl, (Below.refl _ _).alloc (Nat.le_refl _) _⟩
  · have h' : (decide (n < 256)) = false := by simp; omega
    go_enter Try.func24, Try.ntmps24
    go_wp2_with go_in
    go_ret2
    exact ⟨rfl, (Below.refl _ _).alloc (Nat.le_refl _) _⟩

set_option maxHeartbeats 400000 in
theorem put_2_false (s : ByteArray) (hs : s.size + 8 ≤ maxLen) (n : Int) (h3 : 0 ≤ n) (h4 : n < 65536) (w : World) :
    Calls Try.prog 24 #[.string s, .int .i64 n, .int .i64 2, .bool false] w fun e w' => e = .returned (.tuple #[.string (s ++ S (Wire.digs n 2)), .int .i64 0]) ∧ Below w.heap.size w w' := by
  unfold maxLen at hs
  have hcv := conv_tail (P := Try.prog) 50 9 5 Try.underlying50 Try.underlying5 Try.underlying9
  have hz := strOfNums_size
  go_enter Try.func24, Try.ntmps24
  go_wp2_with (first | (go_at_call 29; refine (digits_any n _).mono ?_; rintro e w' ⟨rfl, hb⟩) | go_in)
  go_ret2
  refine ⟨?_, (((Below.refl _ _).alloc (Nat.le_refl _) _).trans (hb.mono (by simp))).alloc (by have := hb.size; simp at this; omega) _⟩
  show Ending.returned (.tuple #[.string (s ++ strOfNums [n / 256 % 256, n % 256]), .int .i64 0]) = _
  rw [digs_2]

set_option maxHeartbeats 400000 in
theorem put_2_false_no (s : ByteArray) (n : Int) (h : n < 0 ∨ 65536 ≤ n) (w : World) :
    Calls Try.prog 24 #[.string s, .int .i64 n, .int .i64 2, .bool false] w fun e w' => e = .returned (.tuple #[.string ⟨#[]⟩, .int .i64 6]) ∧ Below w.heap.size w w' := by
  rcases h with h | h
  · go_enter Try.func24, Try.ntmps24
    go_wp2_with go_in
    go_ret2
    exact ⟨rfl, (Below.refl _ _).alloc (Nat.le_refl _) _⟩
  · have h' : (decide (n < 65536)) = false := by simp; omega
    go_enter Try.func24, Try.ntmps24
    go_wp2_with go_in
    go_ret2
    exact ⟨rfl, (Below.refl _ _).alloc (Nat.le_refl _) _⟩

set_option maxHeartbeats 400000 in
theorem put_3_false (s : ByteArray) (hs : s.size + 8 ≤ maxLen) (n : Int) (h3 : 0 ≤ n) (h4 : n < 16777216) (w : World) :
    Calls Try.prog 24 #[.string s, .int .i64 n, .int .i64 3, .bool false] w fun e w' => e = .returned (.tuple #[.string (s ++ S (Wire.digs n 3)), .int .i64 0]) ∧ Below w.heap.size w w' := by
  unfold maxLen at hs
  have hcv := conv_tail (P := Try.prog) 50 9 5 Try.underlying50 Try.underlying5 Try.underlying9
  have hz := strOfNums_size
  go_enter Try.func24, Try.ntmps24
  go_wp2_with (first | (go_at_call 29; refine (digits_any n _).mono ?_; rintro e w' ⟨rfl, hb⟩) | go_in)
  go_ret2
  refine ⟨?_, (((Below.refl _ _).alloc (Nat.le_refl _) _).trans (hb.mono (by simp))).alloc (by have := hb.size; simp at this; omega) _⟩
  show Ending.returned (.tuple #[.string (s ++ strOfNums [n / 65536 % 256, n / 256 % 256, n % 256]), .int .i64 0]) = _
  rw [digs_3]

set_option maxHeartbeats 400000 in
theorem put_3_false_no (s : ByteArray) (n : Int) (h : n < 0 ∨ 16777216 ≤ n) (w : World) :
    Calls Try.prog 24 #[.string s, .int .i64 n, .int .i64 3, .bool false] w fun e w' => e = .returned (.tuple #[.string ⟨#[]⟩, .int .i64 6]) ∧ Below w.heap.size w w' := by
  rcases h with h | h
  · go_enter Try.func24, Try.ntmps24
    go_wp2_with go_in
    go_ret2
    exact ⟨rfl, (Below.refl _ _).alloc (Nat.le_refl _) _⟩
  · have h' : (decide (n < 16777216)) = false := by simp; omega
    go_enter Try.func24, Try.ntmps24
    go_wp2_with go_in
    go_ret2
    exact ⟨rfl, (Below.refl _ _).alloc (Nat.le_refl _) _⟩

set_option maxHeartbeats 400000 in
theorem put_4_false (s : ByteArray) (hs : s.size + 8 ≤ maxLen) (n : Int) (h3 : 0 ≤ n) (h4 : n < 4294967296) (w : World) :
    Calls Try.prog 24 #[.string s, .int .i64 n, .int .i64 4, .bool false] w fun e w' => e = .returned (.tuple #[.string (s ++ S (Wire.digs n 4)), .int .i64 0]) ∧ Below w.heap.size w w' := by
  unfold maxLen at hs
  have hcv := conv_tail (P := Try.prog) 50 9 5 Try.underlying50 Try.underlying5 Try.underlying9
  have hz := strOfNums_size
  go_enter Try.func24, Try.ntmps24
  go_wp2_with (first | (go_at_call 29; refine (digits_any n _).mono ?_; rintro e w' ⟨rfl, hb⟩) | go_in)
  go_ret2
  refine ⟨?_, (((Below.refl _ _).alloc (Nat.le_refl _) _).trans (hb.mono (by simp))).alloc (by have := hb.size; simp at this; omega) _⟩
  show Ending.returned (.tuple #[.string (s ++ strOfNums [n / 16777216 % 256, n / 65536 % 256, n / 256 % 256, n % 256]), .int .i64 0]) = _
  rw [digs_4]

set_option maxHeartbeats 400000 in
theorem put_4_false_no (s : ByteArray) (n : Int) (h : n < 0 ∨ 4294967296 ≤ n) (w : World) :
    Calls Try.prog 24 #[.string s, .int .i64 n, .int .i64 4, .bool false] w fun e w' => e = .returned (.tuple #[.string ⟨#[]⟩, .int .i64 6]) ∧ Below w.heap.size w w' := by
  rcases h with h | h
  · go_enter Try.func24, Try.ntmps24
    go_wp2_with go_in
    go_ret2
    exact ⟨rfl, (Below.refl _ _).alloc (Nat.le_refl _) _⟩
  · have h' : (decide (n < 4294967296)) = false := by simp; omega
    go_enter Try.func24, Try.ntmps24
    go_wp2_with go_in
    go_ret2
    exact ⟨rfl, (Below.refl _ _).alloc (Nat.le_refl _) _⟩

set_option maxHeartbeats 400000 in
theorem put_5_false (s : ByteArray) (hs : s.size + 8 ≤ maxLen) (n : Int) (h3 : 0 ≤ n) (h4 : n < 1099511627776) (w : World) :
    Calls Try.prog 24 #[.string s, .int .i64 n, .int .i64 5, .bool false] w fun e w' => e = .returned (.tuple #[.string (s ++ S (Wire.digs n 5)), .int .i64 0]) ∧ Below w.heap.size w w' := by
  unfold maxLen at hs
  have hcv := conv_tail (P := Try.prog) 50 9 5 Try.underlying50 Try.underlying5 Try.underlying9
  have hz := strOfNums_size
  go_enter Try.func24, Try.ntmps24
  go_wp2_with (first | (go_at_call 29; refine (digits_any n _).mono ?_; rintro e w' ⟨rfl, hb⟩) | go_in)
  go_ret2
  refine ⟨?_, (((Below.refl _ _).alloc (Nat.le_refl _) _).trans (hb.mono (by simp))).alloc (by have := hb.size; simp at this; omega) _⟩
  show Ending.returned (.tuple #[.string (s ++ strOfNums [n / 4294967296 % 256, n / 16777216 % 256, n / 65536 % 256, n / 256 % 256, n % 256]), .int .i64 0]) = _
  rw [digs_5]

set_option maxHeartbeats 400000 in
theorem put_5_false_no (s : ByteArray) (n : Int) (h : n < 0 ∨ 1099511627776 ≤ n) (w : World) :
    Calls Try.prog 24 #[.string s, .int .i64 n, .int .i64 5, .bool false] w fun e w' => e = .returned (.tuple #[.string ⟨#[]⟩, .int .i64 6]) ∧ Below w.heap.size w w' := by
  rcases h with h | h
  · go_enter Try.func24, Try.ntmps24
    go_wp2_with go_in
    go_ret2
    exact ⟨rfl, (Below.refl _ _).alloc (Nat.le_refl _) _⟩
  · have h' : (decide (n < 1099511627776)) = false := by simp; omega
    go_enter Try.func24, Try.ntmps24
    go_wp2_with go_in
    go_ret2
    exact ⟨rfl, (Below.refl _ _).alloc (Nat.le_refl _) _⟩

set_option maxHeartbeats 400000 in
theorem put_6_false (s : ByteArray) (hs : s.size + 8 ≤ maxLen) (n : Int) (h3 : 0 ≤ n) (h4 : n < 281474976710656) (w : World) :
    Calls Try.prog 24 #[.string s, .int .i64 n, .int .i64 6, .bool false] w fun e w' => e = .returned (.tuple #[.string (s ++ S (Wire.digs n 6)), .int .i64 0]) ∧ Below w.heap.size w w' := by
  unfold maxLen at hs
  have hcv := conv_tail (P := Try.prog) 50 9 5 Try.underlying50 Try.underlying5 Try.underlying9
  have hz := strOfNums_size
  go_enter Try.func24, Try.ntmps24
  go_wp2_with (first | (go_at_call 29; refine (digits_any n _).mono ?_; rintro e w' ⟨rfl, hb⟩) | go_in)
  go_ret2
  refine ⟨?_, (((Below.refl _ _).alloc (Nat.le_refl _) _).trans (hb.mono (by simp))).alloc (by have := hb.size; simp at this; omega) _⟩
  show Ending.returned (.tuple #[.string (s ++ strOfNums [n / 1099511627776 % 256, n / 4294967296 % 256, n / 16777216 % 256, n / 65536 % 256, n / 256 % 256, n % 256]), .int .i64 0]) = _
  rw [digs_6]

set_option maxHeartbeats 400000 in
theorem put_6_false_no (s : ByteArray) (n : Int) (h : n < 0 ∨ 281474976710656 ≤ n) (w : World) :
    Calls Try.prog 24 #[.string s, .int .i64 n, .int .i64 6, .bool false] w fun e w' => e = .returned (.tuple #[.string ⟨#[]⟩, .int .i64 6]) ∧ Below w.heap.size w w' := by
  rcases h with h | h
  · go_enter Try.func24, Try.ntmps24
    go_wp2_with go_in
    go_ret2
    exact ⟨rfl, (Below.refl _ _).alloc (Nat.le_refl _) _⟩
  · have h' : (decide (n < 281474976710656)) = false := by simp; omega
    go_enter Try.func24, Try.ntmps24
    go_wp2_with go_in
    go_ret2
    exact ⟨rfl, (Below.refl _ _).alloc (Nat.le_refl _) _⟩

set_option maxHeartbeats 400000 in
theorem put_7_false (s : ByteArray) (hs : s.size + 8 ≤ maxLen) (n : Int) (h3 : 0 ≤ n) (h4 : n < 72057594037927936) (w : World) :
    Calls Try.prog 24 #[.string s, .int .i64 n, .int .i64 7, .bool false] w fun e w' => e = .returned (.tuple #[.string (s ++ S (Wire.digs n 7)), .int .i64 0]) ∧ Below w.heap.size w w' := by
  unfold maxLen at hs
  have hcv := conv_tail (P := Try.prog) 50 9 5 Try.underlying50 Try.underlying5 Try.underlying9
  have hz := strOfNums_size
  go_enter Try.func24, Try.ntmps24
  go_wp2_with (first | (go_at_call 29; refine (digits_any n _).mono ?_; rintro e w' ⟨rfl, hb⟩) | go_in)
  go_ret2
  refine ⟨?_, (((Below.refl _ _).alloc (Nat.le_refl _) _).trans (hb.mono (by simp))).alloc (by have := hb.size; simp at this; omega) _⟩
  show Ending.returned (.tuple #[.string (s ++ strOfNums [n / 281474976710656 % 256, n / 1099511627776 % 256, n / 4294967296 % 256, n / 16777216 % 256, n / 65536 % 256, n / 256 % 256, n % 256]), .int .i64 0]) = _
  rw [digs_7]

set_option maxHeartbeats 400000 in
theorem put_7_false_no (s : ByteArray) (n : Int) (h : n < 0 ∨ 72057594037927936 ≤ n) (w : World) :
    Calls Try.prog 24 #[.string s, .int .i64 n, .int .i64 7, .bool false] w fun e w' => e = .returned (.tuple #[.string ⟨#[]⟩, .int .i64 6]) ∧ Below w.heap.size w w' := by
  rcases h with h | h
  · go_enter Try.func24, Try.ntmps24
    go_wp2_with go_in
    go_ret2
    exact ⟨rfl, (Below.refl _ _).alloc (Nat.le_refl _) _⟩
  · have h' : (decide (n < 72057594037927936)) = false := by simp; omega
    go_enter Try.func24, Try.ntmps24
    go_wp2_with go_in
    go_ret2
    exact ⟨rfl, (Below.refl _ _).alloc (Nat.le_refl _) _⟩

end WireW
end Go.Proofs.Ytchfckehobenkaa
