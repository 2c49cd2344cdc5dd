/- The statements' helpers and the examples. (Printed by wip/gen/wirek.py.) -/
import Derived.Test.YtchfckehobenkaaWireS
import Derived.Test.YtchfckehobenkaaWireG
namespace Go.Proofs.Ytchfckehobenkaa
open Go.RowKit
namespace WireW
theorem lit_le (l : List UInt8) (h : l.length ≤ 1000) : (⟨l.toArray⟩ : ByteArray).size ≤ 1000 := by
  show l.toArray.size ≤ 1000
  simpa using h
theorem le_max {n k : Nat} (h : n ≤ k) (hk : k ≤ 1000000000) : n ≤ maxLen := by unfold maxLen; omega
theorem le_max8 {n : Nat} (h : n ≤ 1000) : n + 8 ≤ maxLen := by unfold maxLen; omega
theorem Put_eq (s t : ByteArray) (x : Int) (hs : s.size ≤ 1000) (n k : Int) (n1 : -9223372036854775808 ≤ n) (n2 : n ≤ 9223372036854775807) (h1 : Wire.putL s.data.toList n k = t.data.toList) (h2 : Wire.putE n k = x) (w : World) :
    Calls Try.prog 8 #[.string s, .int .i64 n, .int .i64 k] w fun e w' => e = .returned (.tuple #[.string t, .int .i64 x]) ∧ Below w.heap.size w w' := by
  have h := Put_any s (le_max8 hs) n k n1 n2 w
  rw [h1, h2, S_list] at h; exact h
theorem PutSigned_eq (s t : ByteArray) (x : Int) (hs : s.size ≤ 1000) (n k : Int) (n1 : -9223372036854775808 ≤ n) (n2 : n ≤ 9223372036854775807) (h1 : Wire.putSL s.data.toList n k = t.data.toList) (h2 : Wire.putSE n k = x) (w : World) :
    Calls Try.prog 10 #[.string s, .int .i64 n, .int .i64 k] w fun e w' => e = .returned (.tuple #[.string t, .int .i64 x]) ∧ Below w.heap.size w w' := by
  have h := PutSigned_any s (le_max8 hs) n k n1 n2 w
  rw [h1, h2, S_list] at h; exact h
theorem Get_eq (s : ByteArray) (m x : Int) (hs : s.size ≤ 1000) (a k : Int) (a1 : -9223372036854775808 ≤ a) (a2 : a ≤ 9223372036854775807) (k1 : -9223372036854775808 ≤ k) (k2 : k ≤ 9223372036854775807) (h1 : Wire.getN s.data.toList a k = m) (h2 : Wire.getE s.size a k = x) (w : World) :
    Calls Try.prog 13 #[.string s, .int .i64 a, .int .i64 k] w fun e w' => e = .returned (.tuple #[.int .i64 m, .int .i64 x]) ∧ w = w' := by
  have h := Get_any s (le_max hs (by omega)) a k a1 a2 k1 k2 w
  rw [h1, h2] at h; exact h
theorem GetSigned_eq (s : ByteArray) (m x : Int) (hs : s.size ≤ 1000) (a k : Int) (a1 : -9223372036854775808 ≤ a) (a2 : a ≤ 9223372036854775807) (k1 : -9223372036854775808 ≤ k) (k2 : k ≤ 9223372036854775807) (h1 : Wire.getSN s.data.toList a k = m) (h2 : Wire.getSE s.size a k = x) (w : World) :
    Calls Try.prog 15 #[.string s, .int .i64 a, .int .i64 k] w fun e w' => e = .returned (.tuple #[.int .i64 m, .int .i64 x]) ∧ w = w' := by
  have h := GetSigned_any s (le_max hs (by omega)) a k a1 a2 k1 k2 w
  rw [h1, h2] at h; exact h
theorem Field_eq (s t : ByteArray) (x : Int) (hs : s.size ≤ 1000) (a k : Int) (a1 : -9223372036854775808 ≤ a) (a2 : a ≤ 9223372036854775807) (k1 : -9223372036854775808 ≤ k) (k2 : k ≤ 9223372036854775807) (h1 : Wire.fieldL s.data.toList a k = t.data.toList) (h2 : Wire.fieldE s.size a k = x) (w : World) :
    Calls Try.prog 17 #[.string s, .int .i64 a, .int .i64 k] w fun e w' => e = .returned (.tuple #[.string t, .int .i64 x]) ∧ w = w' := by
  have h := Field_any s (le_max hs (by omega)) a k a1 a2 k1 k2 w
  rw [h1, h2, S_list] at h; exact h
set_option maxHeartbeats 400000 in
theorem puts_yes (s t : ByteArray) (hs : s.size ≤ 1000) (n k : Int) (n1 : -9223372036854775808 ≤ n) (n2 : n ≤ 9223372036854775807) (h1 : Wire.putL s.data.toList n k = t.data.toList) (h2 : Wire.putE n k = 0) (w : World) :
    Calls Try.prog 22 #[.string s, .int .i64 n, .int .i64 k, .string t] w fun e w' => e = .returned (.bool true) ∧ Below w.heap.size w w' := by
  have C := Lib.hid (fun W => Put_eq s t 0 hs n k n1 n2 h1 h2 W)
  clear h1 h2
  go_enter Try.func22, Try.ntmps22
  go_wp2_with (go_at_call 8; refine (C.out _).mono ?_; rintro e w' ⟨rfl, hb⟩)
  go_ret
  exact ⟨rfl, hb⟩
set_option maxHeartbeats 400000 in
theorem gets_yes (s : ByteArray) (hs : s.size ≤ 1000) (a k m : Int) (a1 : -9223372036854775808 ≤ a) (a2 : a ≤ 9223372036854775807) (k1 : -9223372036854775808 ≤ k) (k2 : k ≤ 9223372036854775807) (h1 : Wire.getN s.data.toList a k = m) (h2 : Wire.getE s.size a k = 0) (w : World) :
    Calls Try.prog 19 #[.string s, .int .i64 a, .int .i64 k, .int .i64 m] w fun e w' => e = .returned (.bool true) ∧ w = w' := by
  have C := Lib.hid (fun W => Get_eq s m 0 hs a k a1 a2 k1 k2 h1 h2 W)
  clear h1 h2
  go_enter Try.func19, Try.ntmps19
  go_wp2_with (go_at_call 13; refine (C.out _).mono ?_; rintro e w' ⟨rfl, rfl⟩)
  go_ret
  exact ⟨rfl, rfl⟩
set_option maxHeartbeats 400000 in
theorem refused_yes (s : ByteArray) (hs : s.size ≤ 1000) (a k x : Int) (a1 : -9223372036854775808 ≤ a) (a2 : a ≤ 9223372036854775807) (k1 : -9223372036854775808 ≤ k) (k2 : k ≤ 9223372036854775807) (h1 : Wire.getN s.data.toList a k = 0) (h2 : Wire.getE s.size a k = x) (w : World) :
    Calls Try.prog 23 #[.string s, .int .i64 a, .int .i64 k, .int .i64 x] w fun e w' => e = .returned (.bool true) ∧ w = w' := by
  have C := Lib.hid (fun W => Get_eq s 0 x hs a k a1 a2 k1 k2 h1 h2 W)
  clear h1 h2
  go_enter Try.func23, Try.ntmps23
  go_wp2_with (go_at_call 13; refine (C.out _).mono ?_; rintro e w' ⟨rfl, rfl⟩)
  go_ret
  exact ⟨rfl, rfl⟩
set_option maxHeartbeats 400000 in
theorem field_yes (s t : ByteArray) (hs : s.size ≤ 1000) (a k x : Int) (a1 : -9223372036854775808 ≤ a) (a2 : a ≤ 9223372036854775807) (k1 : -9223372036854775808 ≤ k) (k2 : k ≤ 9223372036854775807) (h1 : Wire.fieldL s.data.toList a k = t.data.toList) (h2 : Wire.fieldE s.size a k = x) (w : World) :
    Calls Try.prog 20 #[.string s, .int .i64 a, .int .i64 k, .string t, .int .i64 x] w fun e w' => e = .returned (.bool true) ∧ w = w' := by
  have C := Lib.hid (fun W => Field_eq s t x hs a k a1 a2 k1 k2 h1 h2 W)
  clear h1 h2
  go_enter Try.func20, Try.ntmps20
  go_wp2_with (go_at_call 17; refine (C.out _).mono ?_; rintro e w' ⟨rfl, rfl⟩)
  go_ret
  exact ⟨rfl, rfl⟩
set_option maxHeartbeats 400000 in
theorem signed_yes (n k : Int) (t : ByteArray) (ht : t.size ≤ 1000) (n1 : -9223372036854775808 ≤ n) (n2 : n ≤ 9223372036854775807) (k1 : -9223372036854775808 ≤ k) (k2 : k ≤ 9223372036854775807) (h1 : Wire.putSL [] n k = t.data.toList) (h2 : Wire.putSE n k = 0) (h3 : Wire.getSN t.data.toList 0 k = n) (h4 : Wire.getSE t.size 0 k = 0) (w : World) :
    Calls Try.prog 21 #[.int .i64 n, .int .i64 k, .string t] w fun e w' => e = .returned (.bool true) ∧ Below w.heap.size w w' := by
  have C := Lib.hid (fun W => PutSigned_eq ⟨#[]⟩ t 0 (by decide) n k n1 n2 h1 h2 W)
  have D := Lib.hid (fun W => GetSigned_eq t n 0 ht 0 k (by omega) (by omega) k1 k2 h3 h4 W)
  clear h1 h2 h3 h4
  go_enter Try.func21, Try.ntmps21
  go_wp2_with (first | (go_at_call 10; refine (C.out _).mono ?_; rintro e w' ⟨rfl, hb⟩) | (go_at_call 15; refine (D.out _).mono ?_; rintro e w' ⟨rfl, rfl⟩))
  go_ret
  exact ⟨rfl, hb⟩
theorem c0_Put (w : World) : Calls Try.prog 8 #[.string ⟨#[]⟩, .int .i64 256, .int .i64 1] w fun e w' => e = .returned (.tuple #[.string ⟨#[]⟩, .int .i64 6]) ∧ Below w.heap.size w w' := Put_eq ⟨#[]⟩ ⟨#[]⟩ 6 (lit_le [] (by decide)) 256 1 (by omega) (by omega) (by decide +kernel) (by decide +kernel) w
theorem c1_PutS (w : World) : Calls Try.prog 10 #[.string ⟨#[]⟩, .int .i64 128, .int .i64 1] w fun e w' => e = .returned (.tuple #[.string ⟨#[]⟩, .int .i64 6]) ∧ Below w.heap.size w w' := PutSigned_eq ⟨#[]⟩ ⟨#[]⟩ 6 (lit_le [] (by decide)) 128 1 (by omega) (by omega) (by decide +kernel) (by decide +kernel) w
theorem c2_puts (w : World) : Calls Try.prog 22 #[.string ⟨#[171]⟩, .int .i64 258, .int .i64 3, .string ⟨#[171, 0, 1, 2]⟩] w fun e w' => e = .returned (.bool true) ∧ Below w.heap.size w w' := puts_yes ⟨#[171]⟩ ⟨#[171, 0, 1, 2]⟩ (lit_le [171] (by decide)) 258 3 (by omega) (by omega) (by decide +kernel) (by decide +kernel) w
theorem c3_gets (w : World) : Calls Try.prog 19 #[.string ⟨#[171, 0, 1, 2]⟩, .int .i64 1, .int .i64 3, .int .i64 258] w fun e w' => e = .returned (.bool true) ∧ w = w' := gets_yes ⟨#[171, 0, 1, 2]⟩ (lit_le [171, 0, 1, 2] (by decide)) 1 3 258 (by omega) (by omega) (by omega) (by omega) (by decide +kernel) (by decide +kernel) w
theorem c4_ref (w : World) : Calls Try.prog 23 #[.string ⟨#[171]⟩, .int .i64 0, .int .i64 2, .int .i64 5] w fun e w' => e = .returned (.bool true) ∧ w = w' := refused_yes ⟨#[171]⟩ (lit_le [171] (by decide)) 0 2 5 (by omega) (by omega) (by omega) (by omega) (by decide +kernel) (by decide +kernel) w
theorem c5_ref (w : World) : Calls Try.prog 23 #[.string ⟨#[171]⟩, .int .i64 (-1), .int .i64 1, .int .i64 2] w fun e w' => e = .returned (.bool true) ∧ w = w' := refused_yes ⟨#[171]⟩ (lit_le [171] (by decide)) (-1) 1 2 (by omega) (by omega) (by omega) (by omega) (by decide +kernel) (by decide +kernel) w
theorem c6_ref (w : World) : Calls Try.prog 23 #[.string ⟨#[171]⟩, .int .i64 0, .int .i64 8, .int .i64 2] w fun e w' => e = .returned (.bool true) ∧ w = w' := refused_yes ⟨#[171]⟩ (lit_le [171] (by decide)) 0 8 2 (by omega) (by omega) (by omega) (by omega) (by decide +kernel) (by decide +kernel) w
theorem c7_sgn (w : World) : Calls Try.prog 21 #[.int .i64 (-2), .int .i64 2, .string ⟨#[255, 254]⟩] w fun e w' => e = .returned (.bool true) ∧ Below w.heap.size w w' := signed_yes (-2) 2 ⟨#[255, 254]⟩ (lit_le [255, 254] (by decide)) (by omega) (by omega) (by omega) (by omega) (by decide +kernel) (by decide +kernel) (by decide +kernel) (by decide +kernel) w
theorem c8_sgn (w : World) : Calls Try.prog 21 #[.int .i64 127, .int .i64 1, .string ⟨#[127]⟩] w fun e w' => e = .returned (.bool true) ∧ Below w.heap.size w w' := signed_yes 127 1 ⟨#[127]⟩ (lit_le [127] (by decide)) (by omega) (by omega) (by omega) (by omega) (by decide +kernel) (by decide +kernel) (by decide +kernel) (by decide +kernel) w
theorem c9_fld (w : World) : Calls Try.prog 20 #[.string ⟨#[171, 205, 239]⟩, .int .i64 1, .int .i64 2, .string ⟨#[205, 239]⟩, .int .i64 0] w fun e w' => e = .returned (.bool true) ∧ w = w' := field_yes ⟨#[171, 205, 239]⟩ ⟨#[205, 239]⟩ (lit_le [171, 205, 239] (by decide)) 1 2 0 (by omega) (by omega) (by omega) (by omega) (by decide +kernel) (by decide +kernel) w
theorem c10_fld (w : World) : Calls Try.prog 20 #[.string ⟨#[171]⟩, .int .i64 1, .int .i64 0, .string ⟨#[]⟩, .int .i64 0] w fun e w' => e = .returned (.bool true) ∧ w = w' := field_yes ⟨#[171]⟩ ⟨#[]⟩ (lit_le [171] (by decide)) 1 0 0 (by omega) (by omega) (by omega) (by omega) (by decide +kernel) (by decide +kernel) w
theorem c11_fld (w : World) : Calls Try.prog 20 #[.string ⟨#[171]⟩, .int .i64 1, .int .i64 1, .string ⟨#[]⟩, .int .i64 5] w fun e w' => e = .returned (.bool true) ∧ w = w' := field_yes ⟨#[171]⟩ ⟨#[]⟩ (lit_le [171] (by decide)) 1 1 5 (by omega) (by omega) (by omega) (by omega) (by decide +kernel) (by decide +kernel) w
set_option maxHeartbeats 2000000 in
theorem works_any (w : World) : Calls Try.prog 12 #[] w fun e w' => e = .returned (.bool true) ∧ Below w.heap.size w w' := by
  have hb := Below.refl w.heap.size w
  go_enter Try.func12, Try.ntmps12
  go_wp2_with fail
  refine (carry hb (c0_Put _)).mono ?_
  clear hb
  rintro e w1 ⟨rfl, hb⟩
  go_wp2_with fail
  refine (carry hb (c1_PutS _)).mono ?_
  clear hb
  rintro e w1 ⟨rfl, hb⟩
  go_wp2_with fail
  refine (carry hb (c2_puts _)).mono ?_
  clear hb
  rintro e w1 ⟨rfl, hb⟩
  go_wp2_with fail
  refine (carry0 hb (c3_gets _)).mono ?_
  clear hb
  rintro e w1 ⟨rfl, hb⟩
  go_wp2_with fail
  refine (carry0 hb (c4_ref _)).mono ?_
  clear hb
  rintro e w1 ⟨rfl, hb⟩
  go_wp2_with fail
  refine (carry0 hb (c5_ref _)).mono ?_
  clear hb
  rintro e w1 ⟨rfl, hb⟩
  go_wp2_with fail
  refine (carry0 hb (c6_ref _)).mono ?_
  clear hb
  rintro e w1 ⟨rfl, hb⟩
  go_wp2_with fail
  refine (carry hb (c7_sgn _)).mono ?_
  clear hb
  rintro e w1 ⟨rfl, hb⟩
  go_wp2_with fail
  refine (carry hb (c8_sgn _)).mono ?_
  clear hb
  rintro e w1 ⟨rfl, hb⟩
  go_wp2_with fail
  refine (carry0 hb (c9_fld _)).mono ?_
  clear hb
  rintro e w1 ⟨rfl, hb⟩
  go_wp2_with fail
  refine (carry0 hb (c10_fld _)).mono ?_
  clear hb
  rintro e w1 ⟨rfl, hb⟩
  go_wp2_with fail
  refine (carry0 hb (c11_fld _)).mono ?_
  clear hb
  rintro e w1 ⟨rfl, hb⟩
  go_wp2_with fail
  go_ret
  exact ⟨rfl, hb⟩
end WireW
end Go.Proofs.Ytchfckehobenkaa
