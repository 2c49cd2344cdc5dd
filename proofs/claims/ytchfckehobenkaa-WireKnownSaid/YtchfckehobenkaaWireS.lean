/- Packages wire and its reference: Put, PutSigned, Field, Get, GetSigned. (Printed by wip/gen/wire2.py.) -/
import Derived.Test.YtchfckehobenkaaWireR
import Derived.Test.YtchfckehobenkaaWirePu
import Derived.Test.YtchfckehobenkaaWirePs
namespace Go.Proofs.Ytchfckehobenkaa
open Go.RowKit
namespace WireW
theorem app_S (s : ByteArray) (l : List UInt8) : s ++ S l = S (s.data.toList ++ l) := by rw [← S_append, S_list]
theorem ret2 {k : IntKind} {a b : ByteArray} {x y : Int} (h : a = b) (h' : x = y) : Ending.returned (.tuple #[.string a, .int k x]) = .returned (.tuple #[.string b, .int k y]) := by rw [h, h']
theorem ret2i {k k' : IntKind} {a b x y : Int} (h : a = b) (h' : x = y) : Ending.returned (.tuple #[.int k' a, .int k x]) = .returned (.tuple #[.int k' b, .int k y]) := by rw [h, h']
theorem putL_bad {s : List UInt8} {n k : Int} (h : Wire.putE n k ≠ 0) : S (Wire.putL s n k) = ⟨#[]⟩ := by unfold Wire.putL; rw [if_neg h]; rfl
theorem putL_ok {s : ByteArray} {n k : Int} (h : Wire.putE n k = 0) : s ++ S (Wire.digs n k.toNat) = S (Wire.putL s.data.toList n k) := by unfold Wire.putL; rw [if_pos h, app_S]
theorem putSL_bad {s : List UInt8} {n k : Int} (h : Wire.putSE n k ≠ 0) : S (Wire.putSL s n k) = ⟨#[]⟩ := by unfold Wire.putSL; rw [if_neg h]; rfl
theorem putSL_ok {s : ByteArray} {n k : Int} (h : Wire.putSE n k = 0) : s ++ S (Wire.digs n k.toNat) = S (Wire.putSL s.data.toList n k) := by unfold Wire.putSL; rw [if_pos h, app_S]
theorem putE_arg {n k : Int} (h : n < 0 ∨ k < 1 ∨ 7 < k) : Wire.putE n k = 2 := by unfold Wire.putE; rw [if_pos h]
theorem putE_big {n k : Int} (h : ¬ (n < 0 ∨ k < 1 ∨ 7 < k)) (h2 : Wire.pw k.toNat ≤ n) : Wire.putE n k = 6 := by unfold Wire.putE; rw [if_neg h, if_pos h2]
theorem putE_ok {n k : Int} (h : ¬ (n < 0 ∨ k < 1 ∨ 7 < k)) (h2 : ¬ Wire.pw k.toNat ≤ n) : Wire.putE n k = 0 := by unfold Wire.putE; rw [if_neg h, if_neg h2]
theorem putSE_arg {n k : Int} (h : k < 1 ∨ 8 < k) : Wire.putSE n k = 2 := by unfold Wire.putSE; rw [if_pos h]
theorem putSE_big {n k : Int} (h : ¬ (k < 1 ∨ 8 < k)) (h2 : k < 8 ∧ (n < -(Wire.pw k.toNat / 2) ∨ Wire.pw k.toNat / 2 ≤ n)) : Wire.putSE n k = 6 := by unfold Wire.putSE; rw [if_neg h, if_pos h2]
theorem putSE_ok {n k : Int} (h : ¬ (k < 1 ∨ 8 < k)) (h2 : ¬ (k < 8 ∧ (n < -(Wire.pw k.toNat / 2) ∨ Wire.pw k.toNat / 2 ≤ n))) : Wire.putSE n k = 0 := by unfold Wire.putSE; rw [if_neg h, if_neg h2]

set_option maxHeartbeats 1000000 in
theorem Put_any (s : ByteArray) (hs : s.size + 8 ≤ maxLen) (n k : Int) (n1 : -9223372036854775808 ≤ n) (n2 : n ≤ 9223372036854775807) (w : World) :
    Calls Try.prog 8 #[.string s, .int .i64 n, .int .i64 k] w fun e w' => e = .returned (.tuple #[.string (S (Wire.putL s.data.toList n k)), .int .i64 (Wire.putE n k)]) ∧ Below w.heap.size w w' := by
  by_cases h : n < 0 ∨ k < 1 ∨ 7 < k
  · have hh : n < 0 ∨ (¬ n < 0 ∧ k < 1) ∨ (¬ n < 0 ∧ ¬ k < 1 ∧ 7 < k) := by omega
    have E := Lib.hid (putE_arg h)
    have B := Lib.hid (putL_bad (s := s.data.toList) (n := n) (k := k) (by rw [E.out]; decide))
    clear h
    rcases hh with h | ⟨h, h'⟩ | ⟨h, h', h''⟩
    all_goals
      go_enter Try.func8, Try.ntmps8
      go_wp2_with fail
      go_ret2
      exact ⟨ret2 B.out.symm E.out.symm, Below.refl _ _⟩
  · by_cases h2 : Wire.pw k.toNat ≤ n
    · have E := Lib.hid (putE_big h h2)
      have B := Lib.hid (putL_bad (s := s.data.toList) (n := n) (k := k) (by rw [E.out]; decide))
      have hk : k = 1 ∨ k = 2 ∨ k = 3 ∨ k = 4 ∨ k = 5 ∨ k = 6 ∨ k = 7 := by omega
      have hn : 0 ≤ n := by omega
      rcases hk with rfl | rfl | rfl | rfl | rfl | rfl | rfl
      · have h3 : n < 0 ∨ 256 ≤ n := Or.inr h2
        have H := Lib.hid h3
        clear h h2 h3
        go_enter Try.func8, Try.ntmps8
        go_wp2_with (go_at_call 24; refine (put_1_false_no s n H.out _).mono ?_; rintro e w' ⟨rfl, hb⟩)
        go_ret2
        exact ⟨ret2 B.out.symm E.out.symm, hb⟩
      · have h3 : n < 0 ∨ 65536 ≤ n := Or.inr h2
        have H := Lib.hid h3
        clear h h2 h3
        go_enter Try.func8, Try.ntmps8
        go_wp2_with (go_at_call 24; refine (put_2_false_no s n H.out _).mono ?_; rintro e w' ⟨rfl, hb⟩)
        go_ret2
        exact ⟨ret2 B.out.symm E.out.symm, hb⟩
      · have h3 : n < 0 ∨ 16777216 ≤ n := Or.inr h2
        have H := Lib.hid h3
        clear h h2 h3
        go_enter Try.func8, Try.ntmps8
        go_wp2_with (go_at_call 24; refine (put_3_false_no s n H.out _).mono ?_; rintro e w' ⟨rfl, hb⟩)
        go_ret2
        exact ⟨ret2 B.out.symm E.out.symm, hb⟩
      · have h3 : n < 0 ∨ 4294967296 ≤ n := Or.inr h2
        have H := Lib.hid h3
        clear h h2 h3
        go_enter Try.func8, Try.ntmps8
        go_wp2_with (go_at_call 24; refine (put_4_false_no s n H.out _).mono ?_; rintro e w' ⟨rfl, hb⟩)
        go_ret2
        exact ⟨ret2 B.out.symm E.out.symm, hb⟩
      · have h3 : n < 0 ∨ 1099511627776 ≤ n := Or.inr h2
        have H := Lib.hid h3
        clear h h2 h3
        go_enter Try.func8, Try.ntmps8
        go_wp2_with (go_at_call 24; refine (put_5_false_no s n H.out _).mono ?_; rintro e w' ⟨rfl, hb⟩)
        go_ret2
        exact ⟨ret2 B.out.symm E.out.symm, hb⟩
      · have h3 : n < 0 ∨ 281474976710656 ≤ n := Or.inr h2
        have H := Lib.hid h3
        clear h h2 h3
        go_enter Try.func8, Try.ntmps8
        go_wp2_with (go_at_call 24; refine (put_6_false_no s n H.out _).mono ?_; rintro e w' ⟨rfl, hb⟩)
        go_ret2
        exact ⟨ret2 B.out.symm E.out.symm, hb⟩
      · have h3 : n < 0 ∨ 72057594037927936 ≤ n := Or.inr h2
        have H := Lib.hid h3
        clear h h2 h3
        go_enter Try.func8, Try.ntmps8
        go_wp2_with (go_at_call 24; refine (put_7_false_no s n H.out _).mono ?_; rintro e w' ⟨rfl, hb⟩)
        go_ret2
        exact ⟨ret2 B.out.symm E.out.symm, hb⟩
    · have E := Lib.hid (putE_ok h h2)
      have B := Lib.hid (putL_ok (s := s) E.out)
      have hk : k = 1 ∨ k = 2 ∨ k = 3 ∨ k = 4 ∨ k = 5 ∨ k = 6 ∨ k = 7 := by omega
      have hn : 0 ≤ n := by omega
      rcases hk with rfl | rfl | rfl | rfl | rfl | rfl | rfl
      · have h3 : n < 256 := Int.not_le.1 h2
        have H := Lib.hid h3
        clear h h2 h3
        go_enter Try.func8, Try.ntmps8
        go_wp2_with (go_at_call 24; refine (put_1_false s hs n hn H.out _).mono ?_; rintro e w' ⟨rfl, hb⟩)
        go_ret2
        exact ⟨ret2 B.out E.out.symm, hb⟩
      · have h3 : n < 65536 := Int.not_le.1 h2
        have H := Lib.hid h3
        clear h h2 h3
        go_enter Try.func8, Try.ntmps8
        go_wp2_with (go_at_call 24; refine (put_2_false s hs n hn H.out _).mono ?_; rintro e w' ⟨rfl, hb⟩)
        go_ret2
        exact ⟨ret2 B.out E.out.symm, hb⟩
      · have h3 : n < 16777216 := Int.not_le.1 h2
        have H := Lib.hid h3
        clear h h2 h3
        go_enter Try.func8, Try.ntmps8
        go_wp2_with (go_at_call 24; refine (put_3_false s hs n hn H.out _).mono ?_; rintro e w' ⟨rfl, hb⟩)
        go_ret2
        exact ⟨ret2 B.out E.out.symm, hb⟩
      · have h3 : n < 4294967296 := Int.not_le.1 h2
        have H := Lib.hid h3
        clear h h2 h3
        go_enter Try.func8, Try.ntmps8
        go_wp2_with (go_at_call 24; refine (put_4_false s hs n hn H.out _).mono ?_; rintro e w' ⟨rfl, hb⟩)
        go_ret2
        exact ⟨ret2 B.out E.out.symm, hb⟩
      · have h3 : n < 1099511627776 := Int.not_le.1 h2
        have H := Lib.hid h3
        clear h h2 h3
        go_enter Try.func8, Try.ntmps8
        go_wp2_with (go_at_call 24; refine (put_5_false s hs n hn H.out _).mono ?_; rintro e w' ⟨rfl, hb⟩)
        go_ret2
        exact ⟨ret2 B.out E.out.symm, hb⟩
      · have h3 : n < 281474976710656 := Int.not_le.1 h2
        have H := Lib.hid h3
        clear h h2 h3
        go_enter Try.func8, Try.ntmps8
        go_wp2_with (go_at_call 24; refine (put_6_false s hs n hn H.out _).mono ?_; rintro e w' ⟨rfl, hb⟩)
        go_ret2
        exact ⟨ret2 B.out E.out.symm, hb⟩
      · have h3 : n < 72057594037927936 := Int.not_le.1 h2
        have H := Lib.hid h3
        clear h h2 h3
        go_enter Try.func8, Try.ntmps8
        go_wp2_with (go_at_call 24; refine (put_7_false s hs n hn H.out _).mono ?_; rintro e w' ⟨rfl, hb⟩)
        go_ret2
        exact ⟨ret2 B.out E.out.symm, hb⟩
set_option maxHeartbeats 1000000 in
theorem PutSigned_any (s : ByteArray) (hs : s.size + 8 ≤ maxLen) (n k : Int) (n1 : -9223372036854775808 ≤ n) (n2 : n ≤ 9223372036854775807) (w : World) :
    Calls Try.prog 10 #[.string s, .int .i64 n, .int .i64 k] w fun e w' => e = .returned (.tuple #[.string (S (Wire.putSL s.data.toList n k)), .int .i64 (Wire.putSE n k)]) ∧ Below w.heap.size w w' := by
  by_cases h : k < 1 ∨ 8 < k
  · have hh : k < 1 ∨ (¬ k < 1 ∧ 8 < k) := by omega
    have E := Lib.hid (putSE_arg (n := n) h)
    have B := Lib.hid (putSL_bad (s := s.data.toList) (n := n) (k := k) (by rw [E.out]; decide))
    clear h
    rcases hh with h | ⟨h, h'⟩
    all_goals
      go_enter Try.func10, Try.ntmps10
      go_wp2_with fail
      go_ret2
      exact ⟨ret2 B.out.symm E.out.symm, Below.refl _ _⟩
  · by_cases h2 : k < 8 ∧ (n < -(Wire.pw k.toNat / 2) ∨ Wire.pw k.toNat / 2 ≤ n)
    · have E := Lib.hid (putSE_big h h2)
      have B := Lib.hid (putSL_bad (s := s.data.toList) (n := n) (k := k) (by rw [E.out]; decide))
      have hk : k = 1 ∨ k = 2 ∨ k = 3 ∨ k = 4 ∨ k = 5 ∨ k = 6 ∨ k = 7 := by omega
      rcases hk with rfl | rfl | rfl | rfl | rfl | rfl | rfl
      · have h3 : n < -128 ∨ 128 ≤ n := h2.2
        have H := Lib.hid h3
        clear h h2 h3
        go_enter Try.func10, Try.ntmps10
        go_wp2_with (go_at_call 24; refine (put_1_true_no s n H.out _).mono ?_; rintro e w' ⟨rfl, hb⟩)
        go_ret2
        exact ⟨ret2 B.out.symm E.out.symm, hb⟩
      · have h3 : n < -32768 ∨ 32768 ≤ n := h2.2
        have H := Lib.hid h3
        clear h h2 h3
        go_enter Try.func10, Try.ntmps10
        go_wp2_with (go_at_call 24; refine (put_2_true_no s n H.out _).mono ?_; rintro e w' ⟨rfl, hb⟩)
        go_ret2
        exact ⟨ret2 B.out.symm E.out.symm, hb⟩
      · have h3 : n < -8388608 ∨ 8388608 ≤ n := h2.2
        have H := Lib.hid h3
        clear h h2 h3
        go_enter Try.func10, Try.ntmps10
        go_wp2_with (go_at_call 24; refine (put_3_true_no s n H.out _).mono ?_; rintro e w' ⟨rfl, hb⟩)
        go_ret2
        exact ⟨ret2 B.out.symm E.out.symm, hb⟩
      · have h3 : n < -2147483648 ∨ 2147483648 ≤ n := h2.2
        have H := Lib.hid h3
        clear h h2 h3
        go_enter Try.func10, Try.ntmps10
        go_wp2_with (go_at_call 24; refine (put_4_true_no s n H.out _).mono ?_; rintro e w' ⟨rfl, hb⟩)
        go_ret2
        exact ⟨ret2 B.out.symm E.out.symm, hb⟩
      · have h3 : n < -549755813888 ∨ 549755813888 ≤ n := h2.2
        have H := Lib.hid h3
        clear h h2 h3
        go_enter Try.func10, Try.ntmps10
        go_wp2_with (go_at_call 24; refine (put_5_true_no s n H.out _).mono ?_; rintro e w' ⟨rfl, hb⟩)
        go_ret2
        exact ⟨ret2 B.out.symm E.out.symm, hb⟩
      · have h3 : n < -140737488355328 ∨ 140737488355328 ≤ n := h2.2
        have H := Lib.hid h3
        clear h h2 h3
        go_enter Try.func10, Try.ntmps10
        go_wp2_with (go_at_call 24; refine (put_6_true_no s n H.out _).mono ?_; rintro e w' ⟨rfl, hb⟩)
        go_ret2
        exact ⟨ret2 B.out.symm E.out.symm, hb⟩
      · have h3 : n < -36028797018963968 ∨ 36028797018963968 ≤ n := h2.2
        have H := Lib.hid h3
        clear h h2 h3
        go_enter Try.func10, Try.ntmps10
        go_wp2_with (go_at_call 24; refine (put_7_true_no s n H.out _).mono ?_; rintro e w' ⟨rfl, hb⟩)
        go_ret2
        exact ⟨ret2 B.out.symm E.out.symm, hb⟩
    · have E := Lib.hid (putSE_ok h h2)
      have B := Lib.hid (putSL_ok (s := s) E.out)
      have hk : k = 1 ∨ k = 2 ∨ k = 3 ∨ k = 4 ∨ k = 5 ∨ k = 6 ∨ k = 7 ∨ k = 8 := by omega
      rcases hk with rfl | rfl | rfl | rfl | rfl | rfl | rfl | rfl
      · have h3 : -128 ≤ n ∧ n < 128 := by
          have h5 : ¬ (n < -128 ∨ 128 ≤ n) := fun h4 => h2 ⟨by omega, h4⟩
          omega
        have H := Lib.hid h3
        clear h h2 h3
        go_enter Try.func10, Try.ntmps10
        go_wp2_with (go_at_call 24; refine (put_1_true s hs n H.out.1 H.out.2 _).mono ?_; rintro e w' ⟨rfl, hb⟩)
        go_ret2
        exact ⟨ret2 B.out E.out.symm, hb⟩
      · have h3 : -32768 ≤ n ∧ n < 32768 := by
          have h5 : ¬ (n < -32768 ∨ 32768 ≤ n) := fun h4 => h2 ⟨by omega, h4⟩
          omega
        have H := Lib.hid h3
        clear h h2 h3
        go_enter Try.func10, Try.ntmps10
        go_wp2_with (go_at_call 24; refine (put_2_true s hs n H.out.1 H.out.2 _).mono ?_; rintro e w' ⟨rfl, hb⟩)
        go_ret2
        exact ⟨ret2 B.out E.out.symm, hb⟩
      · have h3 : -8388608 ≤ n ∧ n < 8388608 := by
          have h5 : ¬ (n < -8388608 ∨ 8388608 ≤ n) := fun h4 => h2 ⟨by omega, h4⟩
          omega
        have H := Lib.hid h3
        clear h h2 h3
        go_enter Try.func10, Try.ntmps10
        go_wp2_with (go_at_call 24; refine (put_3_true s hs n H.out.1 H.out.2 _).mono ?_; rintro e w' ⟨rfl, hb⟩)
        go_ret2
        exact ⟨ret2 B.out E.out.symm, hb⟩
      · have h3 : -2147483648 ≤ n ∧ n < 2147483648 := by
          have h5 : ¬ (n < -2147483648 ∨ 2147483648 ≤ n) := fun h4 => h2 ⟨by omega, h4⟩
          omega
        have H := Lib.hid h3
        clear h h2 h3
        go_enter Try.func10, Try.ntmps10
        go_wp2_with (go_at_call 24; refine (put_4_true s hs n H.out.1 H.out.2 _).mono ?_; rintro e w' ⟨rfl, hb⟩)
        go_ret2
        exact ⟨ret2 B.out E.out.symm, hb⟩
      · have h3 : -549755813888 ≤ n ∧ n < 549755813888 := by
          have h5 : ¬ (n < -549755813888 ∨ 549755813888 ≤ n) := fun h4 => h2 ⟨by omega, h4⟩
          omega
        have H := Lib.hid h3
        clear h h2 h3
        go_enter Try.func10, Try.ntmps10
        go_wp2_with (go_at_call 24; refine (put_5_true s hs n H.out.1 H.out.2 _).mono ?_; rintro e w' ⟨rfl, hb⟩)
        go_ret2
        exact ⟨ret2 B.out E.out.symm, hb⟩
      · have h3 : -140737488355328 ≤ n ∧ n < 140737488355328 := by
          have h5 : ¬ (n < -140737488355328 ∨ 140737488355328 ≤ n) := fun h4 => h2 ⟨by omega, h4⟩
          omega
        have H := Lib.hid h3
        clear h h2 h3
        go_enter Try.func10, Try.ntmps10
        go_wp2_with (go_at_call 24; refine (put_6_true s hs n H.out.1 H.out.2 _).mono ?_; rintro e w' ⟨rfl, hb⟩)
        go_ret2
        exact ⟨ret2 B.out E.out.symm, hb⟩
      · have h3 : -36028797018963968 ≤ n ∧ n < 36028797018963968 := by
          have h5 : ¬ (n < -36028797018963968 ∨ 36028797018963968 ≤ n) := fun h4 => h2 ⟨by omega, h4⟩
          omega
        have H := Lib.hid h3
        clear h h2 h3
        go_enter Try.func10, Try.ntmps10
        go_wp2_with (go_at_call 24; refine (put_7_true s hs n H.out.1 H.out.2 _).mono ?_; rintro e w' ⟨rfl, hb⟩)
        go_ret2
        exact ⟨ret2 B.out E.out.symm, hb⟩
      · clear h h2
        go_enter Try.func10, Try.ntmps10
        go_wp2_with (go_at_call 24; refine (put_8_true s hs n _).mono ?_; rintro e w' ⟨rfl, hb⟩)
        go_ret2
        exact ⟨ret2 B.out E.out.symm, hb⟩
set_option maxHeartbeats 1000000 in
theorem ref_Put (s : ByteArray) (hs : s.size + 8 ≤ maxLen) (n k : Int) (n1 : -9223372036854775808 ≤ n) (n2 : n ≤ 9223372036854775807) (w : World) :
    Calls Try.prog 9 #[.string s, .int .i64 n, .int .i64 k] w fun e w' => e = .returned (.tuple #[.string (S (Wire.putL s.data.toList n k)), .int .i64 (Wire.putE n k)]) ∧ Below w.heap.size w w' := by
  unfold maxLen at hs
  by_cases h : n < 0 ∨ k < 1 ∨ 7 < k
  · have hh : n < 0 ∨ (¬ n < 0 ∧ k < 1) ∨ (¬ n < 0 ∧ ¬ k < 1 ∧ 7 < k) := by omega
    have E := Lib.hid (putE_arg h)
    have B := Lib.hid (putL_bad (s := s.data.toList) (n := n) (k := k) (by rw [E.out]; decide))
    clear h
    rcases hh with h | ⟨h, h'⟩ | ⟨h, h', h''⟩
    all_goals
      go_enter Try.func9, Try.ntmps9
      go_wp2_with fail
      go_ret2
      exact ⟨ret2 B.out.symm E.out.symm, Below.refl _ _⟩
  · obtain ⟨j, rfl⟩ := Int.eq_ofNat_of_zero_le (show 0 ≤ k by omega)
    have hz := fun n => (S_size (Wire.digs n j)).trans (Wire.digs_length n j)
    have hp := Wire.pw_pos j
    by_cases h2 : Wire.pw j ≤ n
    · have E := Lib.hid (putE_big h h2)
      have B := Lib.hid (putL_bad (s := s.data.toList) (n := n) (k := (j : Int)) (by rw [E.out]; decide))
      go_enter Try.func9, Try.ntmps9
      go_wp2_with fail
      refine (ref_power j (by omega) _).mono ?_
      rintro e w1 ⟨rfl, rfl⟩
      go_wp2_with fail
      go_ret2
      exact ⟨ret2 B.out.symm E.out.symm, Below.refl _ _⟩
    · have E := Lib.hid (putE_ok h h2)
      have B := Lib.hid (putL_ok (s := s) E.out)
      go_enter Try.func9, Try.ntmps9
      go_wp2_with fail
      refine (ref_power j (by omega) _).mono ?_
      rintro e w1 ⟨rfl, rfl⟩
      go_wp2_with fail
      refine (ref_digits n n1 n2 j (by omega) _).mono ?_
      rintro e w1 ⟨rfl, hb⟩
      go_wp2_with fail
      go_ret2
      exact ⟨ret2 B.out E.out.symm, hb⟩
set_option maxHeartbeats 1000000 in
theorem ref_PutSigned (s : ByteArray) (hs : s.size + 8 ≤ maxLen) (n k : Int) (n1 : -9223372036854775808 ≤ n) (n2 : n ≤ 9223372036854775807) (w : World) :
    Calls Try.prog 11 #[.string s, .int .i64 n, .int .i64 k] w fun e w' => e = .returned (.tuple #[.string (S (Wire.putSL s.data.toList n k)), .int .i64 (Wire.putSE n k)]) ∧ Below w.heap.size w w' := by
  unfold maxLen at hs
  by_cases h : k < 1 ∨ 8 < k
  · have hh : k < 1 ∨ (¬ k < 1 ∧ 8 < k) := by omega
    have E := Lib.hid (putSE_arg (n := n) h)
    have B := Lib.hid (putSL_bad (s := s.data.toList) (n := n) (k := k) (by rw [E.out]; decide))
    clear h
    rcases hh with h | ⟨h, h'⟩
    all_goals
      go_enter Try.func11, Try.ntmps11
      go_wp2_with fail
      go_ret2
      exact ⟨ret2 B.out.symm E.out.symm, Below.refl _ _⟩
  · obtain ⟨j, rfl⟩ := Int.eq_ofNat_of_zero_le (show 0 ≤ k by omega)
    have hz := fun n => (S_size (Wire.digs n j)).trans (Wire.digs_length n j)
    have hp := Wire.pw_pos j
    by_cases h8 : j = 8
    · subst h8
      have E := Lib.hid (putSE_ok (n := n) h (by omega))
      have B := Lib.hid (putSL_ok (s := s) E.out)
      go_enter Try.func11, Try.ntmps11
      go_wp2_with fail
      refine (ref_digits n n1 n2 8 (by omega) _).mono ?_
      rintro e w1 ⟨rfl, hb⟩
      go_wp2_with fail
      go_ret2
      exact ⟨ret2 B.out E.out.symm, hb⟩
    · have hp2 := Wire.pw_le (k := j) (by omega)
      have hpe : ∃ q, Wire.pw j = 2 * q := by
        obtain ⟨i, rfl⟩ : ∃ i, j = i + 1 := ⟨j - 1, by omega⟩
        exact ⟨128 * Wire.pw i, by rw [Wire.pw]; omega⟩
      obtain ⟨q, hq⟩ := hpe
      have hn : (-(2 * q)).tdiv 2 = -q := by rw [Int.neg_tdiv, Int.mul_tdiv_cancel_left q (by decide)]
      by_cases h2 : q ≤ n
      · have E := Lib.hid (putSE_big (n := n) (k := (j : Int)) h ⟨by omega, by rw [Int.toNat_natCast, hq]; omega⟩)
        have B := Lib.hid (putSL_bad (s := s.data.toList) (n := n) (k := (j : Int)) (by rw [E.out]; decide))
        go_enter Try.func11, Try.ntmps11
        go_wp2_with (go_at_call 25; refine (ref_power j (by omega) _).mono ?_; rintro e w1 ⟨rfl, rfl⟩)
        go_ret2
        exact ⟨ret2 B.out.symm E.out.symm, Below.refl _ _⟩
      · by_cases h3 : n < -q
        · have E := Lib.hid (putSE_big (n := n) (k := (j : Int)) h ⟨by omega, by rw [Int.toNat_natCast, hq]; omega⟩)
          have B := Lib.hid (putSL_bad (s := s.data.toList) (n := n) (k := (j : Int)) (by rw [E.out]; decide))
          go_enter Try.func11, Try.ntmps11
          go_wp2_with (go_at_call 25; refine (ref_power j (by omega) _).mono ?_; rintro e w1 ⟨rfl, rfl⟩)
          go_ret2
          exact ⟨ret2 B.out.symm E.out.symm, Below.refl _ _⟩
        · have E := Lib.hid (putSE_ok (n := n) (k := (j : Int)) h (by rw [Int.toNat_natCast, hq]; omega))
          have B := Lib.hid (putSL_ok (s := s) E.out)
          go_enter Try.func11, Try.ntmps11
          go_wp2_with (first | (go_at_call 25; refine (ref_power j (by omega) _).mono ?_; rintro e w1 ⟨rfl, rfl⟩) | (go_at_call 26; refine (ref_digits n n1 n2 j (by omega) _).mono ?_; rintro e w1 ⟨rfl, hb⟩))
          go_ret2
          exact ⟨ret2 B.out E.out.symm, hb⟩
end WireW
end Go.Proofs.Ytchfckehobenkaa
