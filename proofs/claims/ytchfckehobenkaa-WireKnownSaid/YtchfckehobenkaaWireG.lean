/- Packages wire and its reference: Field, Get, GetSigned. -/
import Derived.Test.YtchfckehobenkaaWireR
import Derived.LoopN
namespace Go.Proofs.Ytchfckehobenkaa
open Go.RowKit
namespace WireW
theorem ret2s {k : IntKind} {a b : ByteArray} {x y : Int} (h : a = b) (h' : x = y) : Ending.returned (.tuple #[.string a, .int k x]) = .returned (.tuple #[.string b, .int k y]) := by rw [h, h']
theorem ret2i {k k' : IntKind} {a b x y : Int} (h : a = b) (h' : x = y) : Ending.returned (.tuple #[.int k' a, .int k x]) = .returned (.tuple #[.int k' b, .int k y]) := by rw [h, h']
theorem fieldE_arg {n a k : Int} (h : a < 0 ∨ k < 0) : Wire.fieldE n a k = 2 := by unfold Wire.fieldE; rw [if_pos h]
theorem fieldE_form {n a k : Int} (h : ¬ (a < 0 ∨ k < 0)) (h2 : ¬ (a ≤ n ∧ k ≤ n - a)) : Wire.fieldE n a k = 5 := by
  have e : Wire.has n a k = false := by unfold Wire.has; simp; omega
  unfold Wire.fieldE; rw [if_neg h, if_pos e]
theorem fieldE_ok {n a k : Int} (h : ¬ (a < 0 ∨ k < 0)) (h2 : a ≤ n ∧ k ≤ n - a) : Wire.fieldE n a k = 0 := by
  have e : Wire.has n a k = true := by unfold Wire.has; simp; omega
  unfold Wire.fieldE; rw [if_neg h, if_neg (by rw [e]; decide)]
theorem fieldL_bad {s : List UInt8} {a k : Int} (h : Wire.fieldE s.length a k ≠ 0) : S (Wire.fieldL s a k) = ⟨#[]⟩ := by unfold Wire.fieldL; rw [if_neg h]; rfl
theorem fieldL_ok {s : ByteArray} {a k : Nat} (h : Wire.fieldE s.data.toList.length a k = 0) : s.extract a (a + k) = S (Wire.fieldL s.data.toList a k) := by
  unfold Wire.fieldL Wire.fld; rw [if_pos h, ← S_list (s.extract a (a + k)), Lib.extract_data]
  simp
set_option maxHeartbeats 1000000 in
theorem Field_any (s : ByteArray) (hs : s.size ≤ maxLen) (a k : Int) (a1 : -9223372036854775808 ≤ a) (a2 : a ≤ 9223372036854775807) (k1 : -9223372036854775808 ≤ k) (k2 : k ≤ 9223372036854775807) (w : World) :
    Calls Try.prog 17 #[.string s, .int .i64 a, .int .i64 k] w fun e w' => e = .returned (.tuple #[.string (S (Wire.fieldL s.data.toList a k)), .int .i64 (Wire.fieldE s.size a k)]) ∧ w = w' := by
  unfold maxLen at hs
  have hl := size_list s
  by_cases h : a < 0 ∨ k < 0
  · have E := Lib.hid (fieldE_arg (n := (s.size : Int)) h)
    have B := Lib.hid (fieldL_bad (s := s.data.toList) (a := a) (k := k) (by rw [hl, E.out]; decide))
    have hh : a < 0 ∨ (¬ a < 0 ∧ k < 0) := by omega
    clear h hl
    rcases hh with h | ⟨h, h'⟩
    all_goals
      go_enter Try.func17, Try.ntmps17
      go_wp2_with fail
      go_ret2
      exact ⟨ret2s B.out.symm E.out.symm, rfl⟩
  · by_cases h2 : a ≤ (s.size : Int) ∧ k ≤ (s.size : Int) - a
    · have E := Lib.hid (fieldE_ok h h2)
      obtain ⟨x, rfl⟩ := Int.eq_ofNat_of_zero_le (show 0 ≤ a by omega)
      obtain ⟨y, rfl⟩ := Int.eq_ofNat_of_zero_le (show 0 ≤ k by omega)
      have B := Lib.hid (fieldL_ok (s := s) (a := x) (k := y) (by rw [hl]; exact E.out))
      obtain ⟨h3, h4⟩ := h2
      clear hl
      go_enter Try.func17, Try.ntmps17
      go_wp2_with fail
      go_ret2
      exact ⟨ret2s B.out E.out.symm, rfl⟩
    · have E := Lib.hid (fieldE_form h h2)
      have B := Lib.hid (fieldL_bad (s := s.data.toList) (a := a) (k := k) (by rw [hl, E.out]; decide))
      have hh : (s.size : Int) < a ∨ (a ≤ (s.size : Int) ∧ (s.size : Int) - a < k) := by omega
      have ha : 0 ≤ a := by omega
      have hk : 0 ≤ k := by omega
      clear hl h h2
      rcases hh with h | ⟨h, h'⟩
      all_goals
        go_enter Try.func17, Try.ntmps17
        go_wp2_with fail
        go_ret2
        exact ⟨ret2s B.out.symm E.out.symm, rfl⟩
set_option maxHeartbeats 1000000 in
theorem ref_Field (s : ByteArray) (hs : s.size ≤ maxLen) (a k : Int) (a1 : -9223372036854775808 ≤ a) (a2 : a ≤ 9223372036854775807) (k1 : -9223372036854775808 ≤ k) (k2 : k ≤ 9223372036854775807) (w : World) :
    Calls Try.prog 18 #[.string s, .int .i64 a, .int .i64 k] w fun e w' => e = .returned (.tuple #[.string (S (Wire.fieldL s.data.toList a k)), .int .i64 (Wire.fieldE s.size a k)]) ∧ w = w' := by
  have hs0 := hs
  unfold maxLen at hs
  have hl := size_list s
  by_cases h : a < 0 ∨ k < 0
  · have E := Lib.hid (fieldE_arg (n := (s.size : Int)) h)
    have B := Lib.hid (fieldL_bad (s := s.data.toList) (a := a) (k := k) (by rw [hl, E.out]; decide))
    have hh : a < 0 ∨ (¬ a < 0 ∧ k < 0) := by omega
    clear h hl
    rcases hh with h | ⟨h, h'⟩
    all_goals
      go_enter Try.func18, Try.ntmps18
      go_wp2_with fail
      go_ret2
      exact ⟨ret2s B.out.symm E.out.symm, rfl⟩
  · have H := Lib.hid (fun W => ref_has s hs0 a k (by omega) (by omega) a2 k2 W)
    by_cases h2 : a ≤ (s.size : Int) ∧ k ≤ (s.size : Int) - a
    · have E := Lib.hid (fieldE_ok h h2)
      obtain ⟨x, rfl⟩ := Int.eq_ofNat_of_zero_le (show 0 ≤ a by omega)
      obtain ⟨y, rfl⟩ := Int.eq_ofNat_of_zero_le (show 0 ≤ k by omega)
      have B := Lib.hid (fieldL_ok (s := s) (a := x) (k := y) (by rw [hl]; exact E.out))
      obtain ⟨h3, h4⟩ := h2
      have hh : Wire.has (s.size : Int) x y = true := by unfold Wire.has; simp; omega
      clear hl
      go_enter Try.func18, Try.ntmps18
      go_wp2_with (go_at_call 27; refine (H.out _).mono ?_; rintro e w1 ⟨rfl, rfl⟩)
      go_ret2
      exact ⟨ret2s B.out E.out.symm, rfl⟩
    · have E := Lib.hid (fieldE_form h h2)
      have B := Lib.hid (fieldL_bad (s := s.data.toList) (a := a) (k := k) (by rw [hl, E.out]; decide))
      have hh : Wire.has (s.size : Int) a k = false := by unfold Wire.has; simp; omega
      have ha : 0 ≤ a := by omega
      have hk : 0 ≤ k := by omega
      clear hl h h2
      go_enter Try.func18, Try.ntmps18
      go_wp2_with (go_at_call 27; refine (H.out _).mono ?_; rintro e w1 ⟨rfl, rfl⟩)
      go_ret2
      exact ⟨ret2s B.out.symm E.out.symm, rfl⟩

theorem getE_arg {n a k : Int} (h : a < 0 ∨ k < 1 ∨ 7 < k) : Wire.getE n a k = 2 := by unfold Wire.getE; rw [if_pos h]
theorem getE_form {n a k : Int} (h : ¬ (a < 0 ∨ k < 1 ∨ 7 < k)) (h2 : ¬ (a ≤ n ∧ k ≤ n - a)) : Wire.getE n a k = 5 := by
  have e : Wire.has n a k = false := by unfold Wire.has; simp; omega
  unfold Wire.getE; rw [if_neg h, if_pos e]
theorem getE_ok {n a k : Int} (h : ¬ (a < 0 ∨ k < 1 ∨ 7 < k)) (h2 : a ≤ n ∧ k ≤ n - a) : Wire.getE n a k = 0 := by
  have e : Wire.has n a k = true := by unfold Wire.has; simp; omega
  unfold Wire.getE; rw [if_neg h, if_neg (by rw [e]; decide)]
theorem getN_bad {s : List UInt8} {a k : Int} (h : Wire.getE s.length a k ≠ 0) : Wire.getN s a k = 0 := by unfold Wire.getN; rw [if_neg h]
theorem getN_ok {s : List UInt8} {a k : Int} (h : Wire.getE s.length a k = 0) : Wire.getN s a k = Wire.numF 0 (Wire.fld s a k) := by unfold Wire.getN; rw [if_pos h]
/-- The field's octets, one more. -/
theorem fld_length (s : ByteArray) (a k : Nat) (h : a + k ≤ s.size) : (Wire.fld s.data.toList a k).length = k := by
  unfold Wire.fld; simp; omega
theorem num_range {l : List UInt8} (h : l.length ≤ 6) : 0 ≤ Wire.numF 0 l ∧ Wire.numF 0 l ≤ 281474976710655 := by
  have h1 := Wire.numF_range l 0 0 0 (by omega) (by omega)
  have h2 : Wire.pw l.length ≤ 281474976710656 := by
    have := Wire.pw_le (k := l.length + 1) (by omega)
    rw [Wire.pw] at this; omega
  omega
set_option maxHeartbeats 1000000 in
theorem ref_Get (s : ByteArray) (hs : s.size ≤ maxLen) (a k : Int) (a1 : -9223372036854775808 ≤ a) (a2 : a ≤ 9223372036854775807) (k1 : -9223372036854775808 ≤ k) (k2 : k ≤ 9223372036854775807) (w : World) :
    Calls Try.prog 14 #[.string s, .int .i64 a, .int .i64 k] w fun e w' => e = .returned (.tuple #[.int .i64 (Wire.getN s.data.toList a k), .int .i64 (Wire.getE s.size a k)]) ∧ w = w' := by
  have hs0 := hs
  unfold maxLen at hs
  have hl := size_list s
  by_cases h : a < 0 ∨ k < 1 ∨ 7 < k
  · have E := Lib.hid (getE_arg (n := (s.size : Int)) h)
    have B := Lib.hid (getN_bad (s := s.data.toList) (a := a) (k := k) (by rw [hl, E.out]; decide))
    have hh : a < 0 ∨ (¬ a < 0 ∧ k < 1) ∨ (¬ a < 0 ∧ ¬ k < 1 ∧ 7 < k) := by omega
    clear h hl
    rcases hh with h | ⟨h, h'⟩ | ⟨h, h', h''⟩
    all_goals
      go_enter Try.func14, Try.ntmps14
      go_wp2_with fail
      go_ret2
      exact ⟨ret2i B.out.symm E.out.symm, rfl⟩
  · have H := Lib.hid (fun W => ref_has s hs0 a k (by omega) (by omega) a2 k2 W)
    have ha : 0 ≤ a := by omega
    have hk : 1 ≤ k ∧ k ≤ 7 := by omega
    obtain ⟨hk3, hk7⟩ := hk
    by_cases h2 : a ≤ (s.size : Int) ∧ k ≤ (s.size : Int) - a
    · have E := Lib.hid (getE_ok h h2)
      obtain ⟨x, rfl⟩ := Int.eq_ofNat_of_zero_le (show 0 ≤ a by omega)
      obtain ⟨y, rfl⟩ := Int.eq_ofNat_of_zero_le (show 0 ≤ k by omega)
      have B := Lib.hid (getN_ok (s := s.data.toList) (a := (x : Int)) (k := (y : Int)) (by rw [hl]; exact E.out))
      obtain ⟨h3, h4⟩ := h2
      have hh : Wire.has (s.size : Int) x y = true := by unfold Wire.has; simp; omega
      clear hl h
      go_enter Try.func14, Try.ntmps14
      go_wp2_with (go_at_call 27; refine (H.out _).mono ?_; rintro e w1 ⟨rfl, rfl⟩)
      go_loop [8, 9] (fun n i => ∃ j : Nat, j ≤ y ∧ i = .int .i64 j ∧ n = .int .i64 (Wire.numF 0 ((Wire.fld s.data.toList x y).take j))) (fun _ i => y - (intOf i).toNat)
      case atStart => exact ⟨0, by omega, rfl, int_eq (by rw [List.take_zero, Wire.numF_nil])⟩
      case round =>
        obtain ⟨j, hj, rfl, rfl⟩ := hrel
        have hfl := fld_length s x y (by omega)
        by_cases hlt : j < y
        · have hr := num_range (l := (Wire.fld s.data.toList x y).take j) (by rw [List.length_take]; omega)
          have hxs : x + j < s.size := by omega
          have HN : Hid (Wire.numF 0 ((Wire.fld s.data.toList x y).take (j + 1)) = 256 * Wire.numF 0 ((Wire.fld s.data.toList x y).take j) + ((s[x + j]).toNat : Int)) := by
            show _ = _
            rw [List.take_succ_eq_append_getElem (by omega), Wire.numF_snoc]
            congr 3
            unfold Wire.fld; simp
            rfl
          have hbl : (s[x + j]).toNat < 256 := UInt8.toNat_lt _
          clear hfl hh
          generalize Wire.numF 0 ((Wire.fld s.data.toList x y).take j) = m at *
          obtain ⟨r1, r2⟩ := hr
          go_wp2_with fail
          go_round
          case rel => exact ⟨j + 1, by omega, by go_num, int_eq HN.out.symm⟩
          case measure => simp [intOf]; omega
        · obtain rfl : j = y := by omega
          go_wp2_with fail
          go_ret2
          exact ⟨ret2i (by rw [B.out, List.take_of_length_le (by omega)]) E.out.symm, rfl⟩
    · have E := Lib.hid (getE_form h h2)
      have B := Lib.hid (getN_bad (s := s.data.toList) (a := a) (k := k) (by rw [hl, E.out]; decide))
      have hh : Wire.has (s.size : Int) a k = false := by unfold Wire.has; simp; omega
      clear hl h h2
      go_enter Try.func14, Try.ntmps14
      go_wp2_with (go_at_call 27; refine (H.out _).mono ?_; rintro e w1 ⟨rfl, rfl⟩)
      go_ret2
      exact ⟨ret2i B.out.symm E.out.symm, rfl⟩

theorem numF_take (f : ByteArray) (n : Int) (j : Nat) (h : j < f.size) : Wire.numF n (f.data.toList.take (j + 1)) = 256 * Wire.numF n (f.data.toList.take j) + ((f[j]).toNat : Int) := by
  rw [take_snoc f j h, Wire.numF_snoc]
set_option maxHeartbeats 1000000 in
theorem Get_any (s : ByteArray) (hs : s.size ≤ maxLen) (a k : Int) (a1 : -9223372036854775808 ≤ a) (a2 : a ≤ 9223372036854775807) (k1 : -9223372036854775808 ≤ k) (k2 : k ≤ 9223372036854775807) (w : World) :
    Calls Try.prog 13 #[.string s, .int .i64 a, .int .i64 k] w fun e w' => e = .returned (.tuple #[.int .i64 (Wire.getN s.data.toList a k), .int .i64 (Wire.getE s.size a k)]) ∧ w = w' := by
  have hs0 := hs
  unfold maxLen at hs
  have hl := size_list s
  by_cases h : a < 0 ∨ k < 1 ∨ 7 < k
  · have E := Lib.hid (getE_arg (n := (s.size : Int)) h)
    have B := Lib.hid (getN_bad (s := s.data.toList) (a := a) (k := k) (by rw [hl, E.out]; decide))
    have hh : a < 0 ∨ (¬ a < 0 ∧ k < 1) ∨ (¬ a < 0 ∧ ¬ k < 1 ∧ 7 < k) := by omega
    clear h hl
    rcases hh with h | ⟨h, h'⟩ | ⟨h, h', h''⟩
    all_goals
      go_enter Try.func13, Try.ntmps13
      go_wp2_with fail
      go_ret2
      exact ⟨ret2i B.out.symm E.out.symm, rfl⟩
  · have c := fun W => Field_any s hs0 a k a1 a2 k1 k2 W
    have ha : 0 ≤ a := by omega
    have hk : 1 ≤ k ∧ k ≤ 7 := by omega
    obtain ⟨hk3, hk7⟩ := hk
    by_cases h2 : a ≤ (s.size : Int) ∧ k ≤ (s.size : Int) - a
    · have E := Lib.hid (getE_ok h h2)
      have ef := fieldE_ok (n := (s.size : Int)) (a := a) (k := k) (by omega) h2
      obtain ⟨x, rfl⟩ := Int.eq_ofNat_of_zero_le (show 0 ≤ a by omega)
      obtain ⟨y, rfl⟩ := Int.eq_ofNat_of_zero_le (show 0 ≤ k by omega)
      have B := Lib.hid (getN_ok (s := s.data.toList) (a := (x : Int)) (k := (y : Int)) (by rw [hl]; exact E.out))
      have hfl := fld_length s x y (by omega)
      have e1 : Wire.fieldL s.data.toList x y = Wire.fld s.data.toList x y := by unfold Wire.fieldL; rw [if_pos (by rw [hl]; exact ef)]
      rw [ef, e1] at c
      have hz : (S (Wire.fld s.data.toList x y)).size = y := by rw [S_size, hfl]
      have hlist : (S (Wire.fld s.data.toList x y)).data.toList = Wire.fld s.data.toList x y := S_data _
      generalize S (Wire.fld s.data.toList x y) = f at *
      rw [← hlist] at B hfl
      clear hl h ef e1 h2 hlist
      have C := Lib.hid c
      clear c
      go_enter Try.func13, Try.ntmps13
      go_wp2_with (go_at_call 17; refine (C.out _).mono ?_; rintro e w1 ⟨rfl, rfl⟩)
      go_loop [10, 11, 31] (fun n u i => ∃ j : Nat, j ≤ y ∧ i = .int .i64 j ∧ n = .int .i64 (Wire.numF 0 (f.data.toList.take j))) (fun _ _ i => y - (intOf i).toNat)
      case atStart => exact ⟨0, by omega, rfl, int_eq (by rw [List.take_zero, Wire.numF_nil])⟩
      case round =>
        obtain ⟨j, hj, rfl, rfl⟩ := hrel
        by_cases hlt : j < y
        · have hr := num_range (l := f.data.toList.take j) (by rw [List.length_take]; omega)
          have hjf : j < f.size := by omega
          have HN := Lib.hid (numF_take f 0 j hjf)
          have hbl : (f[j]).toNat < 256 := UInt8.toNat_lt _
          generalize Wire.numF 0 (f.data.toList.take j) = m at *
          obtain ⟨r1, r2⟩ := hr
          have ho := or_shift m ((f[j]).toNat : Int) (by omega) (by omega) (by omega) (by omega)
          go_wp2_with fail
          go_round
          case rel => exact ⟨j + 1, by omega, by go_num, int_eq HN.out.symm⟩
          case measure => simp [intOf]; omega
        · obtain rfl : j = y := by omega
          go_wp2_with fail
          go_ret2
          exact ⟨ret2i (by rw [B.out, List.take_of_length_le (by omega)]) E.out.symm, rfl⟩
    · have E := Lib.hid (getE_form h h2)
      have B := Lib.hid (getN_bad (s := s.data.toList) (a := a) (k := k) (by rw [hl, E.out]; decide))
      have ef := fieldE_form (n := (s.size : Int)) (a := a) (k := k) (by omega) h2
      have e1 := fieldL_bad (s := s.data.toList) (a := a) (k := k) (by rw [hl, ef]; decide)
      rw [ef, e1] at c
      have C := Lib.hid c
      clear hl h h2 c ef e1
      go_enter Try.func13, Try.ntmps13
      go_wp2_with (go_at_call 17; refine (C.out _).mono ?_; rintro e w1 ⟨rfl, rfl⟩)
      refine wp_loop_rounds 1 ?_
      rw [rounds_succ]; go_wp2_with fail
      go_ret2
      exact ⟨ret2i B.out.symm E.out.symm, rfl⟩

theorem getSE_arg {n a k : Int} (h : a < 0 ∨ k < 1 ∨ 8 < k) : Wire.getSE n a k = 2 := by unfold Wire.getSE; rw [if_pos h]
theorem getSE_form {n a k : Int} (h : ¬ (a < 0 ∨ k < 1 ∨ 8 < k)) (h2 : ¬ (a ≤ n ∧ k ≤ n - a)) : Wire.getSE n a k = 5 := by
  have e : Wire.has n a k = false := by unfold Wire.has; simp; omega
  unfold Wire.getSE; rw [if_neg h, if_pos e]
theorem getSE_ok {n a k : Int} (h : ¬ (a < 0 ∨ k < 1 ∨ 8 < k)) (h2 : a ≤ n ∧ k ≤ n - a) : Wire.getSE n a k = 0 := by
  have e : Wire.has n a k = true := by unfold Wire.has; simp; omega
  unfold Wire.getSE; rw [if_neg h, if_neg (by rw [e]; decide)]
theorem getSN_bad {s : List UInt8} {a k : Int} (h : Wire.getSE s.length a k ≠ 0) : Wire.getSN s a k = 0 := by unfold Wire.getSN; rw [if_neg h]
theorem getSN_ok {s : List UInt8} {a k : Int} (h : Wire.getSE s.length a k = 0) : Wire.getSN s a k = Wire.numS (Wire.fld s a k) := by unfold Wire.getSN; rw [if_pos h]
theorem snum_range {l : List UInt8} (b : UInt8) (h : l.length ≤ 6) : -36028797018963968 ≤ Wire.numF (Wire.sgn b) l ∧ Wire.numF (Wire.sgn b) l < 36028797018963968 := by
  have hs := Wire.sgn_range b
  have h1 := Wire.numF_range l (Wire.sgn b) (-128) 127 (by omega) (by omega)
  have h2 : Wire.pw l.length ≤ 281474976710656 := by
    have := Wire.pw_le (k := l.length + 1) (by omega)
    rw [Wire.pw] at this; omega
  omega
theorem sgn_wrap (b : UInt8) (h : (b.toNat : Int) < 256) : IntKind.i8.wrap (b.toNat : Int) = Wire.sgn b := by
  unfold Wire.sgn
  have e : ∀ n : Int, IntKind.i8.wrap n = if 128 ≤ n % 256 then n % 256 - 256 else n % 256 := fun n => by simp [IntKind.wrap, IntKind.bits, IntKind.signed]
  rw [e]
  split <;> split <;> omega
theorem numS_eq (f : ByteArray) (h : 0 < f.size) : Wire.numS f.data.toList = Wire.numF (Wire.sgn f[0]) (f.data.toList.drop 1) := by
  have e : f.data.toList = f[0] :: f.data.toList.drop 1 := by
    have h' : 0 < f.data.toList.length := by rw [size_list]; exact h
    conv => lhs; rw [← List.drop_zero (l := f.data.toList), List.drop_eq_getElem_cons h']
    rfl
  conv => lhs; rw [e]
  rfl
theorem drop_take_snoc (f : ByteArray) (j : Nat) (h : 1 + j < f.size) : (f.data.toList.drop 1).take (j + 1) = (f.data.toList.drop 1).take j ++ [f[1 + j]] := by
  have h' : j < (f.data.toList.drop 1).length := by rw [List.length_drop, size_list]; omega
  rw [List.take_succ_eq_append_getElem h']
  congr 2
  rw [List.getElem_drop]; rfl
set_option maxHeartbeats 1000000 in
theorem GetSigned_any (s : ByteArray) (hs : s.size ≤ maxLen) (a k : Int) (a1 : -9223372036854775808 ≤ a) (a2 : a ≤ 9223372036854775807) (k1 : -9223372036854775808 ≤ k) (k2 : k ≤ 9223372036854775807) (w : World) :
    Calls Try.prog 15 #[.string s, .int .i64 a, .int .i64 k] w fun e w' => e = .returned (.tuple #[.int .i64 (Wire.getSN s.data.toList a k), .int .i64 (Wire.getSE s.size a k)]) ∧ w = w' := by
  have hs0 := hs
  unfold maxLen at hs
  have hl := size_list s
  by_cases h : a < 0 ∨ k < 1 ∨ 8 < k
  · have E := Lib.hid (getSE_arg (n := (s.size : Int)) h)
    have B := Lib.hid (getSN_bad (s := s.data.toList) (a := a) (k := k) (by rw [hl, E.out]; decide))
    have hh : a < 0 ∨ (¬ a < 0 ∧ k < 1) ∨ (¬ a < 0 ∧ ¬ k < 1 ∧ 8 < k) := by omega
    clear h hl
    rcases hh with h | ⟨h, h'⟩ | ⟨h, h', h''⟩
    all_goals
      go_enter Try.func15, Try.ntmps15
      go_wp2_with fail
      go_ret2
      exact ⟨ret2i B.out.symm E.out.symm, rfl⟩
  · have c := fun W => Field_any s hs0 a k a1 a2 k1 k2 W
    have ha : 0 ≤ a := by omega
    have hk : 1 ≤ k ∧ k ≤ 8 := by omega
    obtain ⟨hk3, hk7⟩ := hk
    by_cases h2 : a ≤ (s.size : Int) ∧ k ≤ (s.size : Int) - a
    · have E := Lib.hid (getSE_ok h h2)
      have ef := fieldE_ok (n := (s.size : Int)) (a := a) (k := k) (by omega) h2
      obtain ⟨x, rfl⟩ := Int.eq_ofNat_of_zero_le (show 0 ≤ a by omega)
      obtain ⟨y, rfl⟩ := Int.eq_ofNat_of_zero_le (show 0 ≤ k by omega)
      have B := Lib.hid (getSN_ok (s := s.data.toList) (a := (x : Int)) (k := (y : Int)) (by rw [hl]; exact E.out))
      have hfl := fld_length s x y (by omega)
      have e1 : Wire.fieldL s.data.toList x y = Wire.fld s.data.toList x y := by unfold Wire.fieldL; rw [if_pos (by rw [hl]; exact ef)]
      rw [ef, e1] at c
      have hz : (S (Wire.fld s.data.toList x y)).size = y := by rw [S_size, hfl]
      have hlist : (S (Wire.fld s.data.toList x y)).data.toList = Wire.fld s.data.toList x y := S_data _
      generalize S (Wire.fld s.data.toList x y) = f at *
      rw [← hlist] at B hfl
      have h0 : 0 < f.size := by omega
      have hS := numS_eq f h0
      have HSN := Lib.hid hS
      have hw := sgn_wrap f[0] (by have := UInt8.toNat_lt f[0]; omega)
      have hr0 := Wire.sgn_range f[0]
      clear hl h ef e1 h2 hlist hS
      have C := Lib.hid c
      clear c
      go_enter Try.func15, Try.ntmps15
      go_wp2_with (go_at_call 17; refine (C.out _).mono ?_; rintro e w1 ⟨rfl, rfl⟩)
      go_loop [10, 11, 38] (fun n u i => ∃ j : Nat, j + 1 ≤ y ∧ i = .int .i64 j ∧ n = .int .i64 (Wire.numF (Wire.sgn f[0]) ((f.data.toList.drop 1).take j))) (fun _ _ i => y - (intOf i).toNat)
      case atStart => exact ⟨0, by omega, rfl, int_eq (by rw [List.take_zero, Wire.numF_nil])⟩
      case round =>
        obtain ⟨j, hj, rfl, rfl⟩ := hrel
        clear hw
        by_cases hlt : j + 1 < y
        · have hjf : 1 + j < f.size := by omega
          have hr := snum_range (l := (f.data.toList.drop 1).take j) f[0] (by rw [List.length_take]; omega)
          have HN : Hid (Wire.numF (Wire.sgn f[0]) ((f.data.toList.drop 1).take (j + 1)) = (256 : Int) * Wire.numF (Wire.sgn f[0]) ((f.data.toList.drop 1).take j) + ((f[1 + j]).toNat : Int)) := by
            show _ = _
            rw [drop_take_snoc f j hjf, Wire.numF_snoc]
          have hbl : (f[1 + j]).toNat < 256 := UInt8.toNat_lt _
          generalize Wire.numF (Wire.sgn f[0]) ((f.data.toList.drop 1).take j) = m at *
          obtain ⟨r1, r2⟩ := hr
          have ho := or_shift m ((f[1 + j]).toNat : Int) (by omega) (by omega) (by omega) (by omega)
          go_wp2_with fail
          go_round
          case rel => exact ⟨j + 1, by omega, by go_num, int_eq HN.out.symm⟩
          case measure => simp [intOf]; omega
        · have HF : Hid (Wire.numF (Wire.sgn f[0]) ((f.data.toList.drop 1).take j) = Wire.getSN s.data.toList x y) := by
            show _ = _
            rw [B.out, HSN.out, List.take_of_length_le (by rw [List.length_drop]; omega)]
          go_wp2_with fail
          go_ret2
          exact ⟨ret2i (by first | exact HF.out | (rw [← List.drop_one]; exact HF.out)) E.out.symm, rfl⟩
    · have E := Lib.hid (getSE_form h h2)
      have B := Lib.hid (getSN_bad (s := s.data.toList) (a := a) (k := k) (by rw [hl, E.out]; decide))
      have ef := fieldE_form (n := (s.size : Int)) (a := a) (k := k) (by omega) h2
      have e1 := fieldL_bad (s := s.data.toList) (a := a) (k := k) (by rw [hl, ef]; decide)
      rw [ef, e1] at c
      have C := Lib.hid c
      clear hl h h2 c ef e1
      go_enter Try.func15, Try.ntmps15
      go_wp2_with (go_at_call 17; refine (C.out _).mono ?_; rintro e w1 ⟨rfl, rfl⟩)
      go_ret2
      exact ⟨ret2i B.out.symm E.out.symm, rfl⟩
theorem fld_get (s : ByteArray) (x y i : Nat) (h : i < y) (h2 : x + i < s.size) : (Wire.fld s.data.toList x y)[i]? = some s[x + i] := by
  unfold Wire.fld
  rw [Int.toNat_natCast, Int.toNat_natCast, List.getElem?_take, if_pos h, List.getElem?_drop, List.getElem?_eq_getElem (by rw [size_list]; exact h2)]
  rfl
set_option maxRecDepth 100000 in
set_option maxHeartbeats 1000000 in
theorem ref_GetSigned (s : ByteArray) (hs : s.size ≤ maxLen) (a k : Int) (a1 : -9223372036854775808 ≤ a) (a2 : a ≤ 9223372036854775807) (k1 : -9223372036854775808 ≤ k) (k2 : k ≤ 9223372036854775807) (w : World) :
    Calls Try.prog 16 #[.string s, .int .i64 a, .int .i64 k] w fun e w' => e = .returned (.tuple #[.int .i64 (Wire.getSN s.data.toList a k), .int .i64 (Wire.getSE s.size a k)]) ∧ w = w' := by
  have hs0 := hs
  unfold maxLen at hs
  have hl := size_list s
  by_cases h : a < 0 ∨ k < 1 ∨ 8 < k
  · have E := Lib.hid (getSE_arg (n := (s.size : Int)) h)
    have B := Lib.hid (getSN_bad (s := s.data.toList) (a := a) (k := k) (by rw [hl, E.out]; decide))
    have hh : a < 0 ∨ (¬ a < 0 ∧ k < 1) ∨ (¬ a < 0 ∧ ¬ k < 1 ∧ 8 < k) := by omega
    clear h hl
    rcases hh with h | ⟨h, h'⟩ | ⟨h, h', h''⟩
    all_goals
      go_enter Try.func16, Try.ntmps16
      go_wp2_with fail
      go_ret2
      exact ⟨ret2i B.out.symm E.out.symm, rfl⟩
  · have H := Lib.hid (fun W => ref_has s hs0 a k (by omega) (by omega) a2 k2 W)
    have ha : 0 ≤ a := by omega
    have hk : 1 ≤ k ∧ k ≤ 8 := by omega
    obtain ⟨hk3, hk7⟩ := hk
    by_cases h2 : a ≤ (s.size : Int) ∧ k ≤ (s.size : Int) - a
    · have E := Lib.hid (getSE_ok h h2)
      obtain ⟨x, rfl⟩ := Int.eq_ofNat_of_zero_le (show 0 ≤ a by omega)
      obtain ⟨y, rfl⟩ := Int.eq_ofNat_of_zero_le (show 0 ≤ k by omega)
      have B := Lib.hid (getSN_ok (s := s.data.toList) (a := (x : Int)) (k := (y : Int)) (by rw [hl]; exact E.out))
      obtain ⟨h3, h4⟩ := h2
      have hh : Wire.has (s.size : Int) x y = true := by unfold Wire.has; simp; omega
      have hx0 : x < s.size := by omega
      have hfl := fld_length s x y (by omega)
      have e : Wire.fld s.data.toList x y = s[x] :: (Wire.fld s.data.toList x y).drop 1 := by
        have h' : 0 < (Wire.fld s.data.toList x y).length := by omega
        conv => lhs; rw [← List.drop_zero (l := Wire.fld s.data.toList x y), List.drop_eq_getElem_cons h']
        congr 1
        unfold Wire.fld; simp; rfl
      have HS : Hid (Wire.numS (Wire.fld s.data.toList x y) = Wire.numF (Wire.sgn s[x]) ((Wire.fld s.data.toList x y).drop 1)) := by
        show _ = _
        conv => lhs; rw [e]
        rfl
      have hr0 := Wire.sgn_range s[x]
      have hsg : Hid (Wire.sgn s[x] = if 128 ≤ ((s[x].toNat : Nat) : Int) then ((s[x].toNat : Nat) : Int) - 256 else ((s[x].toNat : Nat) : Int)) := rfl
      have hb0 : s[x].toNat < 256 := UInt8.toNat_lt _
      clear hl h e
      have sg0 := fun (l : List UInt8) (h : l.length ≤ 6) => snum_range (l := l) s[x] h
      have SG := Lib.hid sg0
      clear sg0
      generalize Wire.sgn s[x] = sg at *
      clear hb0
      have hwb : ∀ b : UInt8, wrap64 ((b.toNat : Nat) : Int) = ((b.toNat : Nat) : Int) := fun b => IntWalk.wrap64_in _ (by have := UInt8.toNat_lt b; omega)
      go_enter Try.func16, Try.ntmps16
      go_wp2_with (go_at_call 27; refine (H.out _).mono ?_; rintro e w1 ⟨rfl, rfl⟩)
      · have h128 : 128 ≤ ((s[x].toNat : Nat) : Int) := by assumption
        have hv := hsg.out
        rw [if_pos h128] at hv
        have HV := Lib.hid hv
        have hbb : (0 : Int) ≤ ((s[x].toNat : Nat) : Int) ∧ ((s[x].toNat : Nat) : Int) < 256 := by have := UInt8.toNat_lt s[x]; omega
        have hd : decide ((128 : Int) ≤ ((s[x].toNat : Nat) : Int)) = true := by first | (rw [decide_eq_true_eq]; omega) | (rw [decide_eq_false_iff_not]; omega)
        clear hsg hv h128 hwb
        generalize ((s[x].toNat : Nat) : Int) = b0 at *
        simp only [hd]
        go_loop [8, 9] (fun n i => ∃ j : Nat, j + 1 ≤ y ∧ i = .int .i64 (j + 1 : Nat) ∧ n = .int .i64 (Wire.numF sg (((Wire.fld s.data.toList x y).drop 1).take j))) (fun _ i => y - (intOf i).toNat)
        case atStart => exact ⟨0, by omega, rfl, int_eq (by rw [List.take_zero, Wire.numF_nil, HV.out]; try exact IntWalk.wrap64_in _ (by omega))⟩
        case round =>
          obtain ⟨j, hj, rfl, rfl⟩ := hrel
          by_cases hlt : j + 1 < y
          · have hr := SG.out (((Wire.fld s.data.toList x y).drop 1).take j) (by rw [List.length_take]; omega)
            have hxs : x + (j + 1) < s.size := by omega
            have HN : Hid (Wire.numF sg (((Wire.fld s.data.toList x y).drop 1).take (j + 1)) = (256 : Int) * Wire.numF sg (((Wire.fld s.data.toList x y).drop 1).take j) + ((s[x + (j + 1)]).toNat : Int)) := by
              show _ = _
              have hg := fld_get s x y (j + 1) (by omega) hxs
              rw [List.take_add_one, List.getElem?_drop, Nat.add_comm 1 j, hg]
              exact Wire.numF_snoc _ _ _
            have hbl : (s[x + (j + 1)]).toNat < 256 := UInt8.toNat_lt _
            generalize Wire.numF sg (((Wire.fld s.data.toList x y).drop 1).take j) = m at *
            obtain ⟨r1, r2⟩ := hr
            go_wp2_with fail
            go_round
            case rel => exact ⟨j + 1, by omega, by go_num, int_eq HN.out.symm⟩
            case measure => simp [intOf]; omega
          · have HF : Hid (Wire.numF sg (((Wire.fld s.data.toList x y).drop 1).take j) = Wire.getSN s.data.toList x y) := by
              show _ = _
              rw [B.out, HS.out, List.take_of_length_le (by rw [List.length_drop]; omega)]
            go_wp2_with fail
            go_ret2
            exact ⟨ret2i (by first | exact HF.out | (rw [← List.drop_one]; exact HF.out)) E.out.symm, rfl⟩
      · have h128 : ((s[x].toNat : Nat) : Int) < 128 := by assumption
        have hv := hsg.out
        rw [if_neg (by omega)] at hv
        have HV := Lib.hid hv
        have hbb : (0 : Int) ≤ ((s[x].toNat : Nat) : Int) ∧ ((s[x].toNat : Nat) : Int) < 256 := by have := UInt8.toNat_lt s[x]; omega
        have hd : decide ((128 : Int) ≤ ((s[x].toNat : Nat) : Int)) = false := by first | (rw [decide_eq_true_eq]; omega) | (rw [decide_eq_false_iff_not]; omega)
        clear hsg hv h128 hwb
        generalize ((s[x].toNat : Nat) : Int) = b0 at *
        simp only [hd]
        go_loop [8, 9] (fun n i => ∃ j : Nat, j + 1 ≤ y ∧ i = .int .i64 (j + 1 : Nat) ∧ n = .int .i64 (Wire.numF sg (((Wire.fld s.data.toList x y).drop 1).take j))) (fun _ i => y - (intOf i).toNat)
        case atStart => exact ⟨0, by omega, rfl, int_eq (by rw [List.take_zero, Wire.numF_nil, HV.out]; try exact IntWalk.wrap64_in _ (by omega))⟩
        case round =>
          obtain ⟨j, hj, rfl, rfl⟩ := hrel
          by_cases hlt : j + 1 < y
          · have hr := SG.out (((Wire.fld s.data.toList x y).drop 1).take j) (by rw [List.length_take]; omega)
            have hxs : x + (j + 1) < s.size := by omega
            have HN : Hid (Wire.numF sg (((Wire.fld s.data.toList x y).drop 1).take (j + 1)) = (256 : Int) * Wire.numF sg (((Wire.fld s.data.toList x y).drop 1).take j) + ((s[x + (j + 1)]).toNat : Int)) := by
              show _ = _
              have hg := fld_get s x y (j + 1) (by omega) hxs
              rw [List.take_add_one, List.getElem?_drop, Nat.add_comm 1 j, hg]
              exact Wire.numF_snoc _ _ _
            have hbl : (s[x + (j + 1)]).toNat < 256 := UInt8.toNat_lt _
            generalize Wire.numF sg (((Wire.fld s.data.toList x y).drop 1).take j) = m at *
            obtain ⟨r1, r2⟩ := hr
            go_wp2_with fail
            go_round
            case rel => exact ⟨j + 1, by omega, by go_num, int_eq HN.out.symm⟩
            case measure => simp [intOf]; omega
          · have HF : Hid (Wire.numF sg (((Wire.fld s.data.toList x y).drop 1).take j) = Wire.getSN s.data.toList x y) := by
              show _ = _
              rw [B.out, HS.out, List.take_of_length_le (by rw [List.length_drop]; omega)]
            go_wp2_with fail
            go_ret2
            exact ⟨ret2i (by first | exact HF.out | (rw [← List.drop_one]; exact HF.out)) E.out.symm, rfl⟩
    · have E := Lib.hid (getSE_form h h2)
      have B := Lib.hid (getSN_bad (s := s.data.toList) (a := a) (k := k) (by rw [hl, E.out]; decide))
      have hh : Wire.has (s.size : Int) a k = false := by unfold Wire.has; simp; omega
      clear hl h h2
      go_enter Try.func16, Try.ntmps16
      go_wp2_with (go_at_call 27; refine (H.out _).mono ?_; rintro e w1 ⟨rfl, rfl⟩)
      go_ret2
      exact ⟨ret2i B.out.symm E.out.symm, rfl⟩
end WireW
end Go.Proofs.Ytchfckehobenkaa
