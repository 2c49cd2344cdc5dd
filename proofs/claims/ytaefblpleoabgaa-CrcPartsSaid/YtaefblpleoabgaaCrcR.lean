/- The reference's CRC functions: what they return. -/
import Derived.Test.YtaefblpleoabgaaRows
import Derived.Test.YtaefblpleoabgaaCrcA
import Derived.Test.YtaefblpleoabgaaKit
namespace Go.Proofs.Ytaefblpleoabgaa
open Go.RowKit
namespace CrcW

theorem not32 (c : Nat) (hc : c < 4294967296) : bits BinOp.xor IntKind.u32 IntKind.u32.max (c : Int) = ((c ^^^ Crc.F : Nat) : Int) := by
  have h := u32_xor_nat 4294967295 c (by omega) hc
  rw [Nat.xor_comm c]; exact h
theorem shr_cast (x j : Nat) (hx : x < 4294967296) : (x : Int) / 2 ^ j % 4294967296 = ((x / 2 ^ j : Nat) : Int) := by
  have h1 : x / 2 ^ j ≤ x := Nat.div_le_self _ _
  have h2 : ((x / 2 ^ j : Nat) : Int) = (x : Int) / 2 ^ j := by simp
  rw [← h2]; generalize x / 2 ^ j = y at *; omega
theorem test_rnd (x j c : Nat) (hc : c < 4294967296) (hx : x < 256) :
    (bits BinOp.and IntKind.u32 (bits BinOp.xor IntKind.u32 (c : Int) ((x : Int) / 2 ^ j % 4294967296)) 1 == 1) = decide ((c ^^^ (x / 2 ^ j)) % 2 = 1) := by
  have h1 : x / 2 ^ j ≤ x := Nat.div_le_self _ _
  rw [shr_cast x j (by omega), u32_xor_nat c _ hc (by omega)]
  have h3 := u32_and_nat (c ^^^ (x / 2 ^ j)) 1 (Crc.xor_lt hc (by omega)) (by omega)
  rw [nat_mask1] at h3
  have h4 : bits BinOp.and IntKind.u32 (((c ^^^ x / 2 ^ j : Nat)) : Int) 1 = (((c ^^^ x / 2 ^ j) % 2 : Nat) : Int) := h3
  rw [h4, Bool.eq_iff_iff, beq_iff_eq, decide_eq_true_iff]; generalize (c ^^^ x / 2 ^ j) % 2 = y; omega
theorem rnd_yes (x j c : Nat) (hc : c < 4294967296) (hx : x < 256) (h : (bits BinOp.and IntKind.u32 (bits BinOp.xor IntKind.u32 (c : Int) ((x : Int) / 2 ^ j % 4294967296)) 1 == 1) = true) :
    bits BinOp.xor IntKind.u32 ((c : Int) / 2) 3988292384 = ((Crc.rnd x j c : Nat) : Int) := by
  rw [test_rnd x j c hc hx, decide_eq_true_iff] at h
  unfold Crc.rnd; rw [if_pos h]
  exact u32_xor_nat (c / 2) 3988292384 (by omega) (by omega)
theorem rnd_no (x j c : Nat) (hc : c < 4294967296) (hx : x < 256) (h : (bits BinOp.and IntKind.u32 (bits BinOp.xor IntKind.u32 (c : Int) ((x : Int) / 2 ^ j % 4294967296)) 1 == 1) = false) :
    ((c : Int) / 2) = ((Crc.rnd x j c : Nat) : Int) := by
  rw [test_rnd x j c hc hx, decide_eq_false_iff_not] at h
  unfold Crc.rnd; rw [if_neg h]; omega
set_option maxHeartbeats 400000 in
theorem ref_Extend (c : Nat) (hc : c < 4294967296) (s : ByteArray) (hs : s.size ≤ maxLen) (w : World) :
    Calls Try.prog 13 #[.int .u32 c, .string s] w fun e w' => e = .returned (.int .u32 (Crc.ext c s.data.toList : Nat)) ∧ w = w' := by
  unfold maxLen at hs
  have hn := not32 c hc
  go_enter Try.func13, Try.ntmps13
  go_wp2
  clear hn
  have hc0 : c ^^^ Crc.F < 4294967296 := Crc.xor_lt hc Crc.F_lt
  go_loop [0, 5, 6, 7] (fun r i b y => ∃ k : Nat, k ≤ s.size ∧ i = .int .i64 k ∧ r = .int .u32 (Crc.reg (c ^^^ Crc.F) (s.data.toList.take k) : Nat)) (fun _ i _ _ => s.size - (intOf i).toNat)
  case atStart => exact ⟨0, Nat.zero_le _, rfl, by rw [List.take_zero, Crc.reg_nil]⟩
  case round =>
    obtain ⟨k, hk, rfl, rfl⟩ := hrel
    have hr := Crc.reg_lt hc0 (s.data.toList.take k)
    by_cases hlt : k < s.size
    · have HR : Hid (Crc.reg (c ^^^ Crc.F) (s.data.toList.take (k + 1)) = Crc.inner (s[k].toNat) 8 (Crc.reg (c ^^^ Crc.F) (s.data.toList.take k))) := by
        show _ = _
        rw [take_snoc s k hlt, Crc.reg_snoc, Crc.inner_8 _ (Crc.byte_lt _)]
      generalize Crc.reg (c ^^^ Crc.F) (s.data.toList.take k) = c0 at *
      go_wp2
      go_loop [0, 6, 7] (fun r b y => ∃ j : Nat, j ≤ 8 ∧ b = .int .i64 j ∧ r = .int .u32 (Crc.inner (s[k].toNat) j c0 : Nat)) (fun _ i _ => 8 - (intOf i).toNat)
      case atStart => exact ⟨0, Nat.zero_le _, rfl, rfl⟩
      case round =>
        obtain ⟨j, hj, rfl, rfl⟩ := hrel
        by_cases hjt : j < 8
        · have hi := Crc.inner_lt (s[k].toNat) j hr
          have hx := Crc.byte_lt s[k]
          have HI : Hid (Crc.inner (s[k].toNat) (j + 1) c0 = Crc.rnd (s[k].toNat) j (Crc.inner (s[k].toNat) j c0)) := rfl
          generalize Crc.inner (s[k].toNat) j c0 = c1 at *
          go_wp2
          · go_round
            case rel => exact ⟨j + 1, by omega, by go_num, int_eq (by rw [HI.out]; exact rnd_yes _ _ _ hi hx (by assumption))⟩
            case measure => simp [intOf]; omega
          · go_round
            case rel => exact ⟨j + 1, by omega, by go_num, int_eq (by rw [HI.out]; exact rnd_no _ _ _ hi hx (by assumption))⟩
            case measure => simp [intOf]; omega
        · obtain rfl : j = 8 := by omega
          go_wp2
          go_round
          case rel => exact ⟨k + 1, by omega, by go_num, int_eq (by rw [HR.out])⟩
          case measure => simp [intOf]; omega
    · go_wp2
      go_ret
      exact ⟨ret_int (by show bits BinOp.xor IntKind.u32 IntKind.u32.max _ = _; rw [not32 _ hr, List.take_of_length_le (by simp; omega)]; rfl), rfl⟩

theorem ref_Of (s : ByteArray) (hs : s.size ≤ maxLen) (w : World) :
    Calls Try.prog 11 #[.string s] w fun e w' => e = .returned (.int .u32 (Crc.crc s.data.toList : Nat)) ∧ w = w' := by
  go_enter Try.func11, Try.ntmps11
  go_wp2_with (go_at_call 13; refine (ref_Extend 0 (by omega) s hs _).mono ?_; rintro e w' ⟨rfl, rfl⟩)
  go_ret
  exact ⟨rfl, rfl⟩

theorem octets_S (c : Nat) : strOfNums [(c : Int) % 256, (c : Int) / 256 % 256, (c : Int) / 65536 % 256, (c : Int) / 16777216 % 256] = S (Crc.octets c) := by
  rw [strOfNums_S]
  unfold Crc.octets
  simp only [List.map_cons, List.map_nil]
  have h0 : ((c : Int) % 256).toNat = c % 256 := by omega
  have h1 : ((c : Int) / 256 % 256).toNat = c / 256 % 256 := by omega
  have h2 : ((c : Int) / 65536 % 256).toNat = c / 65536 % 256 := by omega
  have h3 : ((c : Int) / 16777216 % 256).toNat = c / 16777216 % 256 := by omega
  rw [h0, h1, h2, h3]
theorem ref_Octets (c : Nat) (hc : c < 4294967296) (w : World) :
    Calls Try.prog 15 #[.int .u32 c] w fun e w' => e = .returned (.string (S (Crc.octets c))) ∧ Below w.heap.size w w' := by
  have hk := conv_four (P := Try.prog) 37 9 5 Try.underlying37 Try.underlying5 Try.underlying9
  go_enter Try.func15, Try.ntmps15
  go_wp2
  go_ret
  refine ⟨ret_str ?_, (Below.refl _ _).alloc (Nat.le_refl _) _⟩
  rw [← octets_S]
  have h3 : (c : Int) / 16777216 % 256 = (c : Int) / 16777216 := by omega
  rw [h3]

theorem octets_size (c : Nat) : (S (Crc.octets c)).size = 4 := by rw [S_size, Crc.octets_length]
theorem seal_S (s : ByteArray) (m : Nat) : s ++ S (Crc.octets m) = S (s.data.toList ++ Crc.octets m) := by rw [← S_append, S_list]

theorem ref_Seal (s : ByteArray) (hs : s.size + 4 ≤ maxLen) (w : World) :
    Calls Try.prog 17 #[.string s] w fun e w' => e = .returned (.string (S (Crc.seald s.data.toList))) ∧ Below w.heap.size w w' := by
  unfold maxLen at hs
  have hz := octets_size
  go_enter Try.func17, Try.ntmps17
  go_wp2_with fail
  refine (ref_Of s (by unfold maxLen; omega) _).mono ?_
  rintro e w' ⟨rfl, rfl⟩
  go_wp2_with fail
  refine (ref_Octets _ (Crc.crc_lt _) _).mono ?_
  rintro e w' ⟨rfl, hb⟩
  go_wp2_with fail
  go_ret
  exact ⟨ret_str (seal_S _ _), hb⟩

theorem mask (c : Nat) (hc : c < 4294967296) : bits BinOp.xor IntKind.u32 (c : Int) 4294901760 = ((c ^^^ Crc.MK : Nat) : Int) := u32_xor_nat c 4294901760 hc (by omega)
theorem ref_Mark (s : ByteArray) (hs : s.size + 4 ≤ maxLen) (w : World) :
    Calls Try.prog 19 #[.string s] w fun e w' => e = .returned (.string (S (Crc.mark s.data.toList))) ∧ Below w.heap.size w w' := by
  unfold maxLen at hs
  have hz := octets_size
  have hm := mask _ (Crc.crc_lt s.data.toList)
  go_enter Try.func19, Try.ntmps19
  go_wp2_with fail
  refine (ref_Of s (by unfold maxLen; omega) _).mono ?_
  rintro e w' ⟨rfl, rfl⟩
  go_wp2_with fail
  refine (ref_Octets _ (Crc.xor_lt (Crc.crc_lt _) Crc.MK_lt) _).mono ?_
  rintro e w' ⟨rfl, hb⟩
  go_wp2_with fail
  go_ret
  exact ⟨ret_str (seal_S _ _), hb⟩

theorem extract_zero (s : ByteArray) (n : Nat) : (s.extract 0 n).data.toList = s.data.toList.take n := by rw [Lib.extract_data]; simp
theorem eq_beq (a b : ByteArray) (l m : List UInt8) (ha : a.data.toList = l) (hb : b.data.toList = m) : (a.toList == b.toList) = (l == m) := by
  rw [ByteArray.toList_eq, ByteArray.toList_eq, ha, hb]

theorem ref_Good (s : ByteArray) (hs : s.size ≤ maxLen) (w : World) :
    Calls Try.prog 23 #[.string s] w fun e w' => e = .returned (.bool (Crc.good s.data.toList)) ∧ Below w.heap.size w w' := by
  unfold maxLen at hs
  have hl := size_list s
  by_cases h4 : 4 ≤ s.size
  · have HG : Hid ((Crc.seald (s.data.toList.take (s.size - 4)) == s.data.toList) = Crc.good s.data.toList) := by
      have := Crc.good_eq (l := s.data.toList) (by omega)
      rw [hl] at this; exact this
    clear hl
    go_enter Try.func23, Try.ntmps23
    go_wp2_with fail
    refine (ref_Seal _ (by rw [ByteArray.size_extract]; unfold maxLen; omega) _).mono ?_
    rintro e w' ⟨rfl, hb⟩
    go_wp2_with fail
    go_ret
    refine ⟨ret_bool ?_, hb⟩
    rw [← HG.out]
    exact eq_beq _ _ _ _ (S_data _) rfl
  · have HG : Hid (Crc.good s.data.toList = false) := Crc.good_short (by omega)
    clear hl
    go_enter Try.func23, Try.ntmps23
    go_wp2_with fail
    go_ret
    exact ⟨ret_bool HG.out.symm, Below.refl _ _⟩

theorem ref_Marked (s : ByteArray) (hs : s.size ≤ maxLen) (w : World) :
    Calls Try.prog 25 #[.string s] w fun e w' => e = .returned (.bool (Crc.marked s.data.toList)) ∧ Below w.heap.size w w' := by
  unfold maxLen at hs
  have hl := size_list s
  by_cases h4 : 4 ≤ s.size
  · have HG : Hid ((Crc.mark (s.data.toList.take (s.size - 4)) == s.data.toList) = Crc.marked s.data.toList) := by
      have := Crc.marked_eq (l := s.data.toList) (by omega)
      rw [hl] at this; exact this
    clear hl
    go_enter Try.func25, Try.ntmps25
    go_wp2_with fail
    refine (ref_Mark _ (by rw [ByteArray.size_extract]; unfold maxLen; omega) _).mono ?_
    rintro e w' ⟨rfl, hb⟩
    go_wp2_with fail
    go_ret
    refine ⟨ret_bool ?_, hb⟩
    rw [← HG.out]
    exact eq_beq _ _ _ _ (S_data _) rfl
  · have HG : Hid (Crc.marked s.data.toList = false) := Crc.marked_short (by omega)
    clear hl
    go_enter Try.func25, Try.ntmps25
    go_wp2_with fail
    go_ret
    exact ⟨ret_bool HG.out.symm, Below.refl _ _⟩
end CrcW
end Go.Proofs.Ytaefblpleoabgaa
