/- CrcGoods: the walk of the law. -/
import Derived.Test.YtaefblpleoabgaaCrcK
import Derived.Test.YtaefblpleoabgaaCrcB
import Derived.Test.YtaefblpleoabgaaCrcF
import Derived.Test.YtaefblpleoabgaaCrcL1
import Derived.Deep.RegionHeld3
import Derived.BigQuiet
import Derived.LoopN
namespace Go.Proofs.Ytaefblpleoabgaa
open Go.RowKit
namespace CrcW
theorem seald_length (l : List UInt8) : (Crc.seald l).length = l.length + 4 := by unfold Crc.seald; rw [List.length_append, Crc.octets_length]
theorem mark_length (l : List UInt8) : (Crc.mark l).length = l.length + 4 := by unfold Crc.mark; rw [List.length_append, Crc.octets_length]
set_option maxHeartbeats 1000000 in
theorem law_Goods (s : ByteArray) (hs : s.size ≤ maxLen) (at_ : Nat) (ha : at_ < 65536) (pat : Nat) (hp : pat < 4294967296) (w : World) :
    Calls Try.prog 4 #[.string s, .int .u16 at_, .int .u32 pat] w fun e w' => e = .returned (.bool true) ∧ Below w.heap.size w w' := by
  unfold maxLen at hs
  have hb := Below.refl w.heap.size w
  go_enter Try.func4, Try.ntmps4
  go_wp2_with fail
  · have ht : (s.extract 0 100).size ≤ 100 := by rw [ByteArray.size_extract]; omega
    generalize s.extract 0 100 = t at *
    have htl := size_list t
    obtain ⟨k, hk, hkl⟩ : ∃ k : Nat, ((at_ : Int) % (8 * ((t.size : Int) + 4))) = (k : Int) ∧ k < 8 * (t.size + 4) := by
      refine ⟨at_ % (8 * (t.size + 4)), ?_, Nat.mod_lt _ (by omega)⟩
      have e : (8 * ((t.size : Int) + 4)) = ((8 * (t.size + 4) : Nat) : Int) := by omega
      rw [e]; exact (Int.natCast_emod _ _).symm
    have hz1 : (S (Crc.seald t.data.toList)).size = t.size + 4 := by rw [S_size, seald_length, size_list]
    have hz2 : (S (Crc.mark t.data.toList)).size = t.size + 4 := by rw [S_size, mark_length, size_list]
    have c1 := fun W => ref_Seal t (le_max (k := 104) (by omega) (by omega)) W
    have c2 := fun W => ref_Mark t (le_max (k := 104) (by omega) (by omega)) W
    clear htl
    have C1 := Lib.hid c1
    have C2 := Lib.hid c2
    clear c1 c2
    generalize S (Crc.seald t.data.toList) = sd at *
    generalize S (Crc.mark t.data.toList) = mk at *
    refine (carry hb (C1.out _)).mono ?_
    clear hb
    rintro e w1 ⟨rfl, hb⟩
    go_wp2_with fail
    refine (carry hb (C2.out _)).mono ?_
    clear hb
    rintro e w1 ⟨rfl, hb⟩
    go_wp2_with fail
    have q1 : (k : Int).tdiv 8 = ((k / 8 : Nat) : Int) := by rw [Int.tdiv_eq_ediv_of_nonneg (by omega)]; omega
    have q2 : IntKind.i64.wrap ((k / 8 : Nat) : Int) = ((k / 8 : Nat) : Int) := IntWalk.i64_in _ (by omega)
    have hk8 : ((k / 8 : Nat) : Int) ≤ (sd.size : Int) := by rw [hz1]; omega
    have hk9 : ((k / 8 : Nat) : Int) ≤ (mk.size : Int) := by rw [hz2]; omega
    have s1 : ∀ W, (Instr.slice 9 (.string sd) none (some (.int .i64 ((k / 8 : Nat) : Int))) none).run Try.prog W = .ok (.string (sd.extract 0 (k / 8))) W := fun W => by
      rw [run_slice_string_to_if W 9 sd .i64 _ Try.underlying9, if_pos ⟨by omega, hk8⟩]; rfl
    have s2 : ∀ W, (Instr.slice 9 (.string mk) (some (.int .i64 ((k / 8 : Nat) : Int))) none none).run Try.prog W = .ok (.string (mk.extract (k / 8) (t.size + 4))) W := fun W => by
      rw [run_slice_string_from_if W 9 mk .i64 _ Try.underlying9, if_pos ⟨by omega, hk9⟩, hz2]; rfl
    have g1 : (sd.extract 0 (k / 8)).size ≤ maxLen := le_max (k := 104) (by rw [ByteArray.size_extract]; omega) (by omega)
    have g2 : (mk.extract (k / 8) (t.size + 4)).size ≤ maxLen := le_max (k := 104) (by rw [ByteArray.size_extract]; omega) (by omega)
    have g3 : (S (Crc.flip sd.data.toList k pat)).size ≤ maxLen := le_max (k := 104) (by rw [S_size, Crc.flip_length, size_list]; omega) (by omega)
    have g4 : (S (Crc.flip mk.data.toList k pat)).size ≤ maxLen := le_max (k := 104) (by rw [S_size, Crc.flip_length, size_list]; omega) (by omega)
    have c3 := fun W => ref_Flip sd (by omega) k pat (by omega) hp W
    have c4 := fun W => ref_Flip mk (by omega) k pat (by omega) hp W
    have C3 := Lib.hid c3
    have C4 := Lib.hid c4
    clear c3 c4
    generalize S (Crc.flip sd.data.toList k pat) = y1 at *
    generalize S (Crc.flip mk.data.toList k pat) = y2 at *
    generalize sd.extract 0 (k / 8) = y3 at *
    generalize k / 8 = k8 at *
    generalize mk.extract k8 (t.size + 4) = y4 at *
    go_region_held3 (fun w' => Below w.heap.size w w') (first | assumption | exact Below.drew (by assumption)) (first | (go_at_call_of 21 (Value.string sd); refine (carry (by assumption) (C3.out _)).mono ?_; rintro e w2 ⟨rfl, hb2⟩) | (go_at_call_of 21 (Value.string mk); refine (carry (by assumption) (C4.out _)).mono ?_; rintro e w2 ⟨rfl, hb2⟩))
    have g5 : t.size ≤ maxLen := le_max ht (by omega)
    have g6 : sd.size ≤ maxLen := le_max (k := 104) (by omega) (by omega)
    have g7 : mk.size ≤ maxLen := le_max (k := 104) (by omega) (by omega)
    have hb : Below w.heap.size w w2 := hb2
    clear s1 s2 q1 q2 hk hk8 hk9 hz1 hz2 C1 C2 C3 C4 hb2
    go_wp2_with fail
    have i0 : ∀ W, (Instr.index 31 (.agg #[.string t, .string sd, .string mk, .string y1, .string y2, .string y3, .string y4]) (.int .i64 0)).run Try.prog W = .ok (.string t) W := fun W => by kernel_rfl
    have i1 : ∀ W, (Instr.index 31 (.agg #[.string t, .string sd, .string mk, .string y1, .string y2, .string y3, .string y4]) (.int .i64 1)).run Try.prog W = .ok (.string sd) W := fun W => by kernel_rfl
    have i2 : ∀ W, (Instr.index 31 (.agg #[.string t, .string sd, .string mk, .string y1, .string y2, .string y3, .string y4]) (.int .i64 2)).run Try.prog W = .ok (.string mk) W := fun W => by kernel_rfl
    have i3 : ∀ W, (Instr.index 31 (.agg #[.string t, .string sd, .string mk, .string y1, .string y2, .string y3, .string y4]) (.int .i64 3)).run Try.prog W = .ok (.string y1) W := fun W => by kernel_rfl
    have i4 : ∀ W, (Instr.index 31 (.agg #[.string t, .string sd, .string mk, .string y1, .string y2, .string y3, .string y4]) (.int .i64 4)).run Try.prog W = .ok (.string y2) W := fun W => by kernel_rfl
    have i5 : ∀ W, (Instr.index 31 (.agg #[.string t, .string sd, .string mk, .string y1, .string y2, .string y3, .string y4]) (.int .i64 5)).run Try.prog W = .ok (.string y3) W := fun W => by kernel_rfl
    have i6 : ∀ W, (Instr.index 31 (.agg #[.string t, .string sd, .string mk, .string y1, .string y2, .string y3, .string y4]) (.int .i64 6)).run Try.prog W = .ok (.string y4) W := fun W => by kernel_rfl
    refine wp_loop_rounds 8 ?_
    iterate 8 (rw [rounds_succ]; go_wp2_with (first | (go_at_call 22; refine (carry hb (Good_any _ (by assumption) _)).mono ?_; clear hb; rintro e w1 ⟨rfl, hb⟩) | (go_at_call 23; refine (carry hb (ref_Good _ (by assumption) _)).mono ?_; clear hb; rintro e w1 ⟨rfl, hb⟩) | (go_at_call 24; refine (carry hb (Marked_any _ (by assumption) _)).mono ?_; clear hb; rintro e w1 ⟨rfl, hb⟩) | (go_at_call 25; refine (carry hb (ref_Marked _ (by assumption) _)).mono ?_; clear hb; rintro e w1 ⟨rfl, hb⟩) | (go_at_call 20; refine (carry hb (works_any _)).mono ?_; clear hb; rintro e w1 ⟨rfl, hb⟩)))
    go_ret
    exact ⟨rfl, hb⟩

  · have ht : s.size ≤ 100 := by omega
    generalize s = t at *
    have htl := size_list t
    obtain ⟨k, hk, hkl⟩ : ∃ k : Nat, ((at_ : Int) % (8 * ((t.size : Int) + 4))) = (k : Int) ∧ k < 8 * (t.size + 4) := by
      refine ⟨at_ % (8 * (t.size + 4)), ?_, Nat.mod_lt _ (by omega)⟩
      have e : (8 * ((t.size : Int) + 4)) = ((8 * (t.size + 4) : Nat) : Int) := by omega
      rw [e]; exact (Int.natCast_emod _ _).symm
    have hz1 : (S (Crc.seald t.data.toList)).size = t.size + 4 := by rw [S_size, seald_length, size_list]
    have hz2 : (S (Crc.mark t.data.toList)).size = t.size + 4 := by rw [S_size, mark_length, size_list]
    have c1 := fun W => ref_Seal t (le_max (k := 104) (by omega) (by omega)) W
    have c2 := fun W => ref_Mark t (le_max (k := 104) (by omega) (by omega)) W
    clear htl
    have C1 := Lib.hid c1
    have C2 := Lib.hid c2
    clear c1 c2
    generalize S (Crc.seald t.data.toList) = sd at *
    generalize S (Crc.mark t.data.toList) = mk at *
    refine (carry hb (C1.out _)).mono ?_
    clear hb
    rintro e w1 ⟨rfl, hb⟩
    go_wp2_with fail
    refine (carry hb (C2.out _)).mono ?_
    clear hb
    rintro e w1 ⟨rfl, hb⟩
    go_wp2_with fail
    have q1 : (k : Int).tdiv 8 = ((k / 8 : Nat) : Int) := by rw [Int.tdiv_eq_ediv_of_nonneg (by omega)]; omega
    have q2 : IntKind.i64.wrap ((k / 8 : Nat) : Int) = ((k / 8 : Nat) : Int) := IntWalk.i64_in _ (by omega)
    have hk8 : ((k / 8 : Nat) : Int) ≤ (sd.size : Int) := by rw [hz1]; omega
    have hk9 : ((k / 8 : Nat) : Int) ≤ (mk.size : Int) := by rw [hz2]; omega
    have s1 : ∀ W, (Instr.slice 9 (.string sd) none (some (.int .i64 ((k / 8 : Nat) : Int))) none).run Try.prog W = .ok (.string (sd.extract 0 (k / 8))) W := fun W => by
      rw [run_slice_string_to_if W 9 sd .i64 _ Try.underlying9, if_pos ⟨by omega, hk8⟩]; rfl
    have s2 : ∀ W, (Instr.slice 9 (.string mk) (some (.int .i64 ((k / 8 : Nat) : Int))) none none).run Try.prog W = .ok (.string (mk.extract (k / 8) (t.size + 4))) W := fun W => by
      rw [run_slice_string_from_if W 9 mk .i64 _ Try.underlying9, if_pos ⟨by omega, hk9⟩, hz2]; rfl
    have g1 : (sd.extract 0 (k / 8)).size ≤ maxLen := le_max (k := 104) (by rw [ByteArray.size_extract]; omega) (by omega)
    have g2 : (mk.extract (k / 8) (t.size + 4)).size ≤ maxLen := le_max (k := 104) (by rw [ByteArray.size_extract]; omega) (by omega)
    have g3 : (S (Crc.flip sd.data.toList k pat)).size ≤ maxLen := le_max (k := 104) (by rw [S_size, Crc.flip_length, size_list]; omega) (by omega)
    have g4 : (S (Crc.flip mk.data.toList k pat)).size ≤ maxLen := le_max (k := 104) (by rw [S_size, Crc.flip_length, size_list]; omega) (by omega)
    have c3 := fun W => ref_Flip sd (by omega) k pat (by omega) hp W
    have c4 := fun W => ref_Flip mk (by omega) k pat (by omega) hp W
    have C3 := Lib.hid c3
    have C4 := Lib.hid c4
    clear c3 c4
    generalize S (Crc.flip sd.data.toList k pat) = y1 at *
    generalize S (Crc.flip mk.data.toList k pat) = y2 at *
    generalize sd.extract 0 (k / 8) = y3 at *
    generalize k / 8 = k8 at *
    generalize mk.extract k8 (t.size + 4) = y4 at *
    go_region_held3 (fun w' => Below w.heap.size w w') (first | assumption | exact Below.drew (by assumption)) (first | (go_at_call_of 21 (Value.string sd); refine (carry (by assumption) (C3.out _)).mono ?_; rintro e w2 ⟨rfl, hb2⟩) | (go_at_call_of 21 (Value.string mk); refine (carry (by assumption) (C4.out _)).mono ?_; rintro e w2 ⟨rfl, hb2⟩))
    have g5 : t.size ≤ maxLen := le_max ht (by omega)
    have g6 : sd.size ≤ maxLen := le_max (k := 104) (by omega) (by omega)
    have g7 : mk.size ≤ maxLen := le_max (k := 104) (by omega) (by omega)
    have hb : Below w.heap.size w w2 := hb2
    clear s1 s2 q1 q2 hk hk8 hk9 hz1 hz2 C1 C2 C3 C4 hb2
    go_wp2_with fail
    have i0 : ∀ W, (Instr.index 31 (.agg #[.string t, .string sd, .string mk, .string y1, .string y2, .string y3, .string y4]) (.int .i64 0)).run Try.prog W = .ok (.string t) W := fun W => by kernel_rfl
    have i1 : ∀ W, (Instr.index 31 (.agg #[.string t, .string sd, .string mk, .string y1, .string y2, .string y3, .string y4]) (.int .i64 1)).run Try.prog W = .ok (.string sd) W := fun W => by kernel_rfl
    have i2 : ∀ W, (Instr.index 31 (.agg #[.string t, .string sd, .string mk, .string y1, .string y2, .string y3, .string y4]) (.int .i64 2)).run Try.prog W = .ok (.string mk) W := fun W => by kernel_rfl
    have i3 : ∀ W, (Instr.index 31 (.agg #[.string t, .string sd, .string mk, .string y1, .string y2, .string y3, .string y4]) (.int .i64 3)).run Try.prog W = .ok (.string y1) W := fun W => by kernel_rfl
    have i4 : ∀ W, (Instr.index 31 (.agg #[.string t, .string sd, .string mk, .string y1, .string y2, .string y3, .string y4]) (.int .i64 4)).run Try.prog W = .ok (.string y2) W := fun W => by kernel_rfl
    have i5 : ∀ W, (Instr.index 31 (.agg #[.string t, .string sd, .string mk, .string y1, .string y2, .string y3, .string y4]) (.int .i64 5)).run Try.prog W = .ok (.string y3) W := fun W => by kernel_rfl
    have i6 : ∀ W, (Instr.index 31 (.agg #[.string t, .string sd, .string mk, .string y1, .string y2, .string y3, .string y4]) (.int .i64 6)).run Try.prog W = .ok (.string y4) W := fun W => by kernel_rfl
    refine wp_loop_rounds 8 ?_
    iterate 8 (rw [rounds_succ]; go_wp2_with (first | (go_at_call 22; refine (carry hb (Good_any _ (by assumption) _)).mono ?_; clear hb; rintro e w1 ⟨rfl, hb⟩) | (go_at_call 23; refine (carry hb (ref_Good _ (by assumption) _)).mono ?_; clear hb; rintro e w1 ⟨rfl, hb⟩) | (go_at_call 24; refine (carry hb (Marked_any _ (by assumption) _)).mono ?_; clear hb; rintro e w1 ⟨rfl, hb⟩) | (go_at_call 25; refine (carry hb (ref_Marked _ (by assumption) _)).mono ?_; clear hb; rintro e w1 ⟨rfl, hb⟩) | (go_at_call 20; refine (carry hb (works_any _)).mono ?_; clear hb; rintro e w1 ⟨rfl, hb⟩)))
    go_ret
    exact ⟨rfl, hb⟩

end CrcW
end Go.Proofs.Ytaefblpleoabgaa
