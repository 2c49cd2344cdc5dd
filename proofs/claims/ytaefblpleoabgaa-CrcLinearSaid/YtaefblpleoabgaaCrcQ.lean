/- The program's CRC functions, from the octets of a number on: what they return. -/
import Derived.Test.YtaefblpleoabgaaCrcP
import Derived.BigRegion
import Derived.Deep.RegionHeld3
namespace Go.Proofs.Ytaefblpleoabgaa
open Go.RowKit
namespace CrcW
theorem Of_any (s : ByteArray) (hs : s.size ≤ maxLen) (w : World) :
    Calls Try.prog 10 #[.string s] w fun e w' => e = .returned (.int .u32 (Crc.crc s.data.toList : Nat)) ∧ Below w.heap.size w w' := by
  go_enter Try.func10, Try.ntmps10
  go_wp2_with (go_at_call 12; refine (Extend_any 0 (by omega) s hs _).mono ?_; rintro e w' ⟨rfl, hb⟩)
  go_ret
  exact ⟨rfl, hb⟩

theorem Put4 (n : Int) (h3 : 0 ≤ n) (h4 : n < 4294967296) (w : World) :
    Calls Try.prog 28 #[.string ⟨#[]⟩, .int .i64 n, .int .i64 4] w fun e w' => e = .returned (.tuple #[.string (S (Wire.digs n 4)), .int .i64 0]) ∧ Below w.heap.size w w' := by
  go_enter Try.func28, Try.ntmps28
  go_wp2_with (go_at_call 30; refine (WireW.put_4_false ⟨#[]⟩ (by unfold maxLen; decide) n h3 h4 _).mono ?_; rintro e w' ⟨rfl, hb⟩)
  go_ret2
  refine ⟨?_, hb⟩
  have e : (⟨#[]⟩ : ByteArray) ++ S (Wire.digs n 4) = S (Wire.digs n 4) := S_append [] _
  rw [← e]
  rfl
theorem conv_four' {P : Program} (src dst e : TypeId) (hs : P.underlying src = some (.slice e)) (he : P.underlying e = some (.int .u8)) (hd : P.underlying dst = some .string) (W : World) (t : TypeId) (cap : Nat) (a b c d : Int) :
    (convert src dst (.slice (some ⟨W.heap.size, 0, none⟩) 4 cap)).run P (W.alloc (.cells #[.int .u8 a, .int .u8 b, .int .u8 c, .int .u8 d] t)).drew =
      .ok (.string (strOfNums [a, b, c, d])) (W.alloc (.cells #[.int .u8 a, .int .u8 b, .int .u8 c, .int .u8 d] t)).drew :=
  conv_four src dst e hs he hd W.drew t cap a b c d
theorem digs_octets (c : Nat) (hc : c < 4294967296) : Wire.digs (c : Int) 4 = (Crc.octets c).reverse := by
  unfold Crc.octets
  simp only [Wire.digs, List.nil_append, List.cons_append, List.reverse_cons, List.reverse_nil]
  have h0 : ((c : Int) % 256).toNat = c % 256 := by omega
  have h1 : ((c : Int) / 256 % 256).toNat = c / 256 % 256 := by omega
  have h2 : ((c : Int) / 256 / 256 % 256).toNat = c / 65536 % 256 := by omega
  have h3 : ((c : Int) / 256 / 256 / 256 % 256).toNat = c / 16777216 % 256 := by omega
  rw [h0, h1, h2, h3]
theorem back_octets (T : ByteArray) (c : Nat) (hT : T = S (Crc.octets c).reverse) (h0 : 0 < T.size) (h1 : 1 < T.size) (h2 : 2 < T.size) (h3 : 3 < T.size) :
    strOfNums [((T[3].toNat : Nat) : Int), ((T[2].toNat : Nat) : Int), ((T[1].toNat : Nat) : Int), ((T[0].toNat : Nat) : Int)] = S (Crc.octets c) := by
  subst hT
  rw [strOfNums_S]
  simp only [List.map_cons, List.map_nil, Int.toNat_natCast, UInt8.ofNat_toNat]
  rfl
set_option maxHeartbeats 400000 in
theorem Octets_any (c : Nat) (hc : c < 4294967296) (w : World) :
    Calls Try.prog 14 #[.int .u32 c] w fun e w' => e = .returned (.string (S (Crc.octets c))) ∧ Below w.heap.size w w' := by
  have hk := conv_four' (P := Try.prog) 37 9 5 Try.underlying37 Try.underlying5 Try.underlying9
  go_enter Try.func14, Try.ntmps14
  go_wp2_with fail
  refine (Put4 c (by omega) (by omega) _).mono ?_
  rintro e w1 ⟨rfl, hb⟩
  have hT : S (Wire.digs c 4) = S (Crc.octets c).reverse := by rw [digs_octets c hc]
  have hz : (S (Wire.digs c 4)).size = 4 := by rw [S_size, Wire.digs_length]
  have HT := Lib.hid hT
  clear hT
  generalize S (Wire.digs c 4) = T at *
  go_wp2_with fail
  go_region
  go_wp2
  go_ret
  exact ⟨ret_str (back_octets T c HT.out (by omega) (by omega) (by omega) (by omega)), (hb.alloc hb.size _).drew⟩
set_option maxHeartbeats 400000 in
theorem Seal_any (s : ByteArray) (hs : s.size + 4 ≤ maxLen) (w : World) :
    Calls Try.prog 16 #[.string s] w fun e w' => e = .returned (.string (S (Crc.seald s.data.toList))) ∧ Below w.heap.size w w' := by
  unfold maxLen at hs
  have hz := octets_size
  go_enter Try.func16, Try.ntmps16
  go_wp2_with fail
  refine (Of_any s (by unfold maxLen; omega) _).mono ?_
  rintro e w1 ⟨rfl, hb1⟩
  go_wp2_with fail
  refine (Octets_any _ (Crc.crc_lt _) _).mono ?_
  rintro e w' ⟨rfl, hb⟩
  go_wp2_with fail
  go_ret
  exact ⟨ret_str (seal_S _ _), hb1.trans (hb.mono hb1.size)⟩
set_option maxHeartbeats 400000 in
theorem Mark_any (s : ByteArray) (hs : s.size + 4 ≤ maxLen) (w : World) :
    Calls Try.prog 18 #[.string s] w fun e w' => e = .returned (.string (S (Crc.mark s.data.toList))) ∧ Below w.heap.size w w' := by
  unfold maxLen at hs
  have hz := octets_size
  have hm := mask _ (Crc.crc_lt s.data.toList)
  go_enter Try.func18, Try.ntmps18
  go_wp2_with fail
  refine (Of_any s (by unfold maxLen; omega) _).mono ?_
  rintro e w1 ⟨rfl, hb1⟩
  go_wp2_with fail
  refine (Octets_any _ (Crc.xor_lt (Crc.crc_lt _) Crc.MK_lt) _).mono ?_
  rintro e w' ⟨rfl, hb⟩
  go_wp2_with fail
  go_ret
  exact ⟨ret_str (seal_S _ _), hb1.trans (hb.mono hb1.size)⟩
theorem ends_eq (l : List UInt8) (n m : Nat) (h : l.length = n + 4) : Crc.ends l m = (l.drop n == Crc.octets (Crc.crc (l.take n) ^^^ m)) := by
  unfold Crc.ends
  have h1 : 4 ≤ l.length := by omega
  have h2 : l.length - 4 = n := by omega
  simp only [h1, h2, decide_true, Bool.true_and]
theorem ends_any (s : ByteArray) (hs : s.size ≤ maxLen) (m : Nat) (hm : m < 4294967296) (w : World) :
    Calls Try.prog 29 #[.string s, .int .u32 m] w fun e w' => e = .returned (.bool (Crc.ends s.data.toList m)) ∧ Below w.heap.size w w' := by
  unfold maxLen at hs
  by_cases h4 : 4 ≤ s.size
  · obtain ⟨n, hn⟩ : ∃ n : Nat, s.size = n + 4 := ⟨s.size - 4, by omega⟩
    have hx : bits BinOp.xor IntKind.u32 ((Crc.crc (s.data.toList.take n) : Nat) : Int) (m : Int) = ((Crc.crc (s.data.toList.take n) ^^^ m : Nat) : Int) := u32_xor_nat _ m (Crc.crc_lt _) hm
    have hsz : (s.extract 0 n).size ≤ maxLen := by rw [ByteArray.size_extract]; unfold maxLen; omega
    have HZ := Lib.hid hsz
    clear hsz
    have hq := octets_size
    have hs1 : ∀ W, (Instr.slice 9 (.string s) (some (.int .i64 (n : Int))) none none).run Try.prog W = .ok (.string (s.extract n (n + 4))) W := fun W => by
      rw [run_slice_string_from_if W 9 s .i64 n Try.underlying9, if_pos (by omega), hn]; rfl
    have hs2 : ∀ W, (Instr.slice 9 (.string s) none (some (.int .i64 (n : Int))) none).run Try.prog W = .ok (.string (s.extract 0 n)) W := fun W => by
      rw [run_slice_string_to_if W 9 s .i64 n Try.underlying9, if_pos (by omega)]; rfl
    go_enter Try.func29, Try.ntmps29
    go_wp2_with fail
    go_region_held3 (fun _ => True) (exact trivial) (first | (go_at_call 10; refine (Of_any _ HZ.out _).mono ?_; rintro e w1 ⟨rfl, hb1⟩) | (go_at_call 14; refine (Octets_any _ (Crc.xor_lt (Crc.crc_lt _) hm) _).mono ?_; rintro e w2 ⟨rfl, hb2⟩))
    go_wp2
    go_ret
    refine ⟨ret_bool ?_, ((Below.refl _ _).drew.trans (hb1.mono (Nat.le_refl _))).trans (hb2.mono (by have := hb1.size; exact this))⟩
    rw [ends_eq s.data.toList n m (by rw [size_list]; exact hn)]
    refine eq_beq _ _ _ _ ?_ (S_data _)
    rw [Lib.extract_data, List.take_of_length_le (by rw [List.length_drop, size_list]; omega)]
  · have HE : Hid (Crc.ends s.data.toList m = false) := by
      show _ = _
      unfold Crc.ends
      have : ¬ 4 ≤ s.data.toList.length := by rw [size_list]; exact h4
      simp only [this, decide_false, Bool.false_and]
    have hsz : s.size = 0 ∨ s.size = 1 ∨ s.size = 2 ∨ s.size = 3 := by omega
    rcases hsz with h | h | h | h
    all_goals
      go_enter Try.func29, Try.ntmps29
      go_wp2_with fail
      go_region
      go_wp2
      go_ret
      exact ⟨ret_bool HE.out.symm, (Below.refl _ _).drew⟩
theorem Good_any (s : ByteArray) (hs : s.size ≤ maxLen) (w : World) :
    Calls Try.prog 22 #[.string s] w fun e w' => e = .returned (.bool (Crc.good s.data.toList)) ∧ Below w.heap.size w w' := by
  go_enter Try.func22, Try.ntmps22
  go_wp2_with (go_at_call 29; refine (ends_any s hs 0 (by omega) _).mono ?_; rintro e w' ⟨rfl, hb⟩)
  go_ret
  exact ⟨rfl, hb⟩
theorem Marked_any (s : ByteArray) (hs : s.size ≤ maxLen) (w : World) :
    Calls Try.prog 24 #[.string s] w fun e w' => e = .returned (.bool (Crc.marked s.data.toList)) ∧ Below w.heap.size w w' := by
  go_enter Try.func24, Try.ntmps24
  go_wp2_with (go_at_call 29; refine (ends_any s hs 4294901760 (by omega) _).mono ?_; rintro e w' ⟨rfl, hb⟩)
  go_ret
  exact ⟨rfl, hb⟩
end CrcW
end Go.Proofs.Ytaefblpleoabgaa
