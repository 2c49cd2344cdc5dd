/- CrcBursts: the walk of the law. -/
import Derived.Test.YtaefblpleoabgaaCrcK
import Derived.Test.YtaefblpleoabgaaCrcB
import Derived.Test.YtaefblpleoabgaaCrcF
import Derived.Test.YtaefblpleoabgaaCrcL2
import Derived.Deep.RegionHeld3
import Derived.BigQuiet
import Derived.LoopN
namespace Go.Proofs.Ytaefblpleoabgaa
open Go.RowKit
namespace CrcW
theorem Good_eq (s : ByteArray) (b : Bool) (hs : s.size ≤ maxLen) (h : Crc.good s.data.toList = b) (w : World) :
    Calls Try.prog 22 #[.string s] w fun e w' => e = .returned (.bool b) ∧ Below w.heap.size w w' := by
  subst h; exact Good_any s hs w
theorem Marked_eq (s : ByteArray) (b : Bool) (hs : s.size ≤ maxLen) (h : Crc.marked s.data.toList = b) (w : World) :
    Calls Try.prog 24 #[.string s] w fun e w' => e = .returned (.bool b) ∧ Below w.heap.size w w' := by
  subst h; exact Marked_any s hs w
theorem burst_case (s : ByteArray) (k pat : Nat) (hp : pat < 4294967296) (hk : k ≤ 8 * s.data.toList.length) :
    ((S (Crc.flip s.data.toList k pat)).toList == s.toList) = true ∨ (((S (Crc.flip s.data.toList k pat)).toList == s.toList) = false ∧
      (Crc.good s.data.toList = true → Crc.good (S (Crc.flip s.data.toList k pat)).data.toList = false) ∧ (Crc.marked s.data.toList = true → Crc.marked (S (Crc.flip s.data.toList k pat)).data.toList = false)) := by
  rw [eq_beq _ _ _ _ (S_data _) rfl, S_data]
  by_cases h : Crc.flip s.data.toList k pat = s.data.toList
  · left; rw [beq_iff_eq]; exact h
  · right
    exact ⟨by rw [beq_eq_false_iff_ne]; exact h, fun hg => Crc.burst_good hp hk hg h, fun hg => Crc.burst_marked hp hk hg h⟩
set_option maxHeartbeats 2000000 in
theorem law_Bursts (s : ByteArray) (hs : s.size ≤ maxLen) (at_ : Nat) (ha : at_ < 65536) (pat : Nat) (hp : pat < 4294967296) (w : World) :
    Calls Try.prog 5 #[.string s, .int .u16 at_, .int .u32 pat] w fun e w' => e = .returned (.bool true) ∧ Below w.heap.size w w' := by
  unfold maxLen at hs
  have hb := Below.refl w.heap.size w
  go_enter Try.func5, Try.ntmps5
  go_wp2_with fail
  refine (carry hb (works_any _)).mono ?_
  clear hb
  rintro e w1 ⟨rfl, hb⟩
  go_wp2_with fail
  · have ht : (s.extract 0 100).size ≤ 100 := by rw [ByteArray.size_extract]; omega
    generalize s.extract 0 100 = t at *
    have htl := size_list t
    obtain ⟨k, hk, hkl⟩ : ∃ k : Nat, ((at_ : Int) % (8 * ((t.size : Int) + 4))) = (k : Int) ∧ k < 8 * (t.size + 4) := by
      refine ⟨at_ % (8 * (t.size + 4)), ?_, Nat.mod_lt _ (by omega)⟩
      have e : (8 * ((t.size : Int) + 4)) = ((8 * (t.size + 4) : Nat) : Int) := by omega
      rw [e]; exact (Int.natCast_emod _ _).symm
    have hz1 : (S (Crc.seald t.data.toList)).size = t.size + 4 := by rw [S_size, seald_length, size_list]
    have hz2 : (S (Crc.mark t.data.toList)).size = t.size + 4 := by rw [S_size, mark_length, size_list]
    have l1 : k ≤ 8 * (Crc.seald t.data.toList).length := by rw [seald_length, size_list]; omega
    have l2 : k ≤ 8 * (Crc.mark t.data.toList).length := by rw [mark_length, size_list]; omega
    have f1 : Crc.good (S (Crc.seald t.data.toList)).data.toList = true := by rw [S_data]; exact Crc.good_seal _
    have f2 : Crc.marked (S (Crc.seald t.data.toList)).data.toList = false := by rw [S_data]; exact Crc.not_marked_seal _
    have f3 : Crc.good (S (Crc.mark t.data.toList)).data.toList = false := by rw [S_data]; exact Crc.not_good_mark _
    have f4 : Crc.marked (S (Crc.mark t.data.toList)).data.toList = true := by rw [S_data]; exact Crc.marked_mark _
    have c1 := fun W => Seal_any t (le_max (k := 104) (by omega) (by omega)) W
    have c2 := fun W => Mark_any t (le_max (k := 104) (by omega) (by omega)) W
    have b1 := burst_case (S (Crc.seald t.data.toList)) k pat hp (by rw [S_data]; exact l1)
    have b2 := burst_case (S (Crc.mark t.data.toList)) k pat hp (by rw [S_data]; exact l2)
    clear htl l1 l2
    have C1 := Lib.hid c1
    have C2 := Lib.hid c2
    clear c1 c2
    generalize S (Crc.seald t.data.toList) = sd at *
    generalize S (Crc.mark t.data.toList) = mk at *
    have g3 : (S (Crc.flip sd.data.toList k pat)).size ≤ maxLen := le_max (k := 104) (by rw [S_size, Crc.flip_length, size_list]; omega) (by omega)
    have g4 : (S (Crc.flip mk.data.toList k pat)).size ≤ maxLen := le_max (k := 104) (by rw [S_size, Crc.flip_length, size_list]; omega) (by omega)
    have c3 := fun W => ref_Flip sd (by omega) k pat (by omega) hp W
    have c4 := fun W => ref_Flip mk (by omega) k pat (by omega) hp W
    have C3 := Lib.hid c3
    have C4 := Lib.hid c4
    clear c3 c4
    generalize S (Crc.flip sd.data.toList k pat) = y1 at *
    generalize S (Crc.flip mk.data.toList k pat) = y2 at *
    have g5 : t.size ≤ maxLen := le_max ht (by omega)
    have g6 : sd.size ≤ maxLen := le_max (k := 104) (by omega) (by omega)
    have g7 : mk.size ≤ maxLen := le_max (k := 104) (by omega) (by omega)
    have i0 : ∀ W, (Instr.index 34 (.agg #[.string sd, .string mk]) (.int .i64 0)).run Try.prog W = .ok (.string sd) W := fun W => by kernel_rfl
    have i1 : ∀ W, (Instr.index 34 (.agg #[.string sd, .string mk]) (.int .i64 1)).run Try.prog W = .ok (.string mk) W := fun W => by kernel_rfl
    have e1 : (y1.toList == sd.toList) = true ∨ ((y1.toList == sd.toList) = false ∧ Crc.good y1.data.toList = false) := b1.imp id (fun h => ⟨h.1, h.2.1 f1⟩)
    have e2 : (y2.toList == mk.toList) = true ∨ ((y2.toList == mk.toList) = false ∧ Crc.marked y2.data.toList = false) := b2.imp id (fun h => ⟨h.1, h.2.2 f4⟩)
    clear b1 b2
    refine stop ?_
    rcases e1 with e1 | ⟨e1, f5⟩ <;> rcases e2 with e2 | ⟨e2, f6⟩
    all_goals
      refine Stopped.mk ?_
      go_wp2_with (first | (go_at_call 16; refine (carry hb (C1.out _)).mono ?_; clear hb; rintro e w1 ⟨rfl, hb⟩) | (go_at_call 18; refine (carry hb (C2.out _)).mono ?_; clear hb; rintro e w1 ⟨rfl, hb⟩) | (go_at_call_of 21 (Value.string sd); refine (carry hb (C3.out _)).mono ?_; clear hb; rintro e w1 ⟨rfl, hb⟩) | (go_at_call_of 21 (Value.string mk); refine (carry hb (C4.out _)).mono ?_; clear hb; rintro e w1 ⟨rfl, hb⟩) | (go_at_call 22; refine (carry hb (Good_eq _ _ (by assumption) (by assumption) _)).mono ?_; clear hb; rintro e w1 ⟨rfl, hb⟩) | (go_at_call 24; refine (carry hb (Marked_eq _ _ (by assumption) (by assumption) _)).mono ?_; clear hb; rintro e w1 ⟨rfl, hb⟩))
      refine wp_loop_rounds 3 ?_
      iterate 3 (rw [rounds_succ]; go_wp2_with (first | (go_at_call 16; refine (carry hb (C1.out _)).mono ?_; clear hb; rintro e w1 ⟨rfl, hb⟩) | (go_at_call 18; refine (carry hb (C2.out _)).mono ?_; clear hb; rintro e w1 ⟨rfl, hb⟩) | (go_at_call_of 21 (Value.string sd); refine (carry hb (C3.out _)).mono ?_; clear hb; rintro e w1 ⟨rfl, hb⟩) | (go_at_call_of 21 (Value.string mk); refine (carry hb (C4.out _)).mono ?_; clear hb; rintro e w1 ⟨rfl, hb⟩) | (go_at_call 22; refine (carry hb (Good_eq _ _ (by assumption) (by assumption) _)).mono ?_; clear hb; rintro e w1 ⟨rfl, hb⟩) | (go_at_call 24; refine (carry hb (Marked_eq _ _ (by assumption) (by assumption) _)).mono ?_; clear hb; rintro e w1 ⟨rfl, hb⟩)))
      go_ret
      exact ⟨rfl, hb⟩

  · have ht : s.size ≤ 100 := by omega
    generalize s = t at *
    have htl := size_list t
    obtain ⟨k, hk, hkl⟩ : ∃ k : Nat, ((at_ : Int) % (8 * ((t.size : Int) + 4))) = (k : Int) ∧ k < 8 * (t.size + 4) := by
      refine ⟨at_ % (8 * (t.size + 4)), ?_, Nat.mod_lt _ (by omega)⟩
      have e : (8 * ((t.size : Int) + 4)) = ((8 * (t.size + 4) : Nat) : Int) := by omega
      rw [e]; exact (Int.natCast_emod _ _).symm
    have hz1 : (S (Crc.seald t.data.toList)).size = t.size + 4 := by rw [S_size, seald_length, size_list]
    have hz2 : (S (Crc.mark t.data.toList)).size = t.size + 4 := by rw [S_size, mark_length, size_list]
    have l1 : k ≤ 8 * (Crc.seald t.data.toList).length := by rw [seald_length, size_list]; omega
    have l2 : k ≤ 8 * (Crc.mark t.data.toList).length := by rw [mark_length, size_list]; omega
    have f1 : Crc.good (S (Crc.seald t.data.toList)).data.toList = true := by rw [S_data]; exact Crc.good_seal _
    have f2 : Crc.marked (S (Crc.seald t.data.toList)).data.toList = false := by rw [S_data]; exact Crc.not_marked_seal _
    have f3 : Crc.good (S (Crc.mark t.data.toList)).data.toList = false := by rw [S_data]; exact Crc.not_good_mark _
    have f4 : Crc.marked (S (Crc.mark t.data.toList)).data.toList = true := by rw [S_data]; exact Crc.marked_mark _
    have c1 := fun W => Seal_any t (le_max (k := 104) (by omega) (by omega)) W
    have c2 := fun W => Mark_any t (le_max (k := 104) (by omega) (by omega)) W
    have b1 := burst_case (S (Crc.seald t.data.toList)) k pat hp (by rw [S_data]; exact l1)
    have b2 := burst_case (S (Crc.mark t.data.toList)) k pat hp (by rw [S_data]; exact l2)
    clear htl l1 l2
    have C1 := Lib.hid c1
    have C2 := Lib.hid c2
    clear c1 c2
    generalize S (Crc.seald t.data.toList) = sd at *
    generalize S (Crc.mark t.data.toList) = mk at *
    have g3 : (S (Crc.flip sd.data.toList k pat)).size ≤ maxLen := le_max (k := 104) (by rw [S_size, Crc.flip_length, size_list]; omega) (by omega)
    have g4 : (S (Crc.flip mk.data.toList k pat)).size ≤ maxLen := le_max (k := 104) (by rw [S_size, Crc.flip_length, size_list]; omega) (by omega)
    have c3 := fun W => ref_Flip sd (by omega) k pat (by omega) hp W
    have c4 := fun W => ref_Flip mk (by omega) k pat (by omega) hp W
    have C3 := Lib.hid c3
    have C4 := Lib.hid c4
    clear c3 c4
    generalize S (Crc.flip sd.data.toList k pat) = y1 at *
    generalize S (Crc.flip mk.data.toList k pat) = y2 at *
    have g5 : t.size ≤ maxLen := le_max ht (by omega)
    have g6 : sd.size ≤ maxLen := le_max (k := 104) (by omega) (by omega)
    have g7 : mk.size ≤ maxLen := le_max (k := 104) (by omega) (by omega)
    have i0 : ∀ W, (Instr.index 34 (.agg #[.string sd, .string mk]) (.int .i64 0)).run Try.prog W = .ok (.string sd) W := fun W => by kernel_rfl
    have i1 : ∀ W, (Instr.index 34 (.agg #[.string sd, .string mk]) (.int .i64 1)).run Try.prog W = .ok (.string mk) W := fun W => by kernel_rfl
    have e1 : (y1.toList == sd.toList) = true ∨ ((y1.toList == sd.toList) = false ∧ Crc.good y1.data.toList = false) := b1.imp id (fun h => ⟨h.1, h.2.1 f1⟩)
    have e2 : (y2.toList == mk.toList) = true ∨ ((y2.toList == mk.toList) = false ∧ Crc.marked y2.data.toList = false) := b2.imp id (fun h => ⟨h.1, h.2.2 f4⟩)
    clear b1 b2
    refine stop ?_
    rcases e1 with e1 | ⟨e1, f5⟩ <;> rcases e2 with e2 | ⟨e2, f6⟩
    all_goals
      refine Stopped.mk ?_
      go_wp2_with (first | (go_at_call 16; refine (carry hb (C1.out _)).mono ?_; clear hb; rintro e w1 ⟨rfl, hb⟩) | (go_at_call 18; refine (carry hb (C2.out _)).mono ?_; clear hb; rintro e w1 ⟨rfl, hb⟩) | (go_at_call_of 21 (Value.string sd); refine (carry hb (C3.out _)).mono ?_; clear hb; rintro e w1 ⟨rfl, hb⟩) | (go_at_call_of 21 (Value.string mk); refine (carry hb (C4.out _)).mono ?_; clear hb; rintro e w1 ⟨rfl, hb⟩) | (go_at_call 22; refine (carry hb (Good_eq _ _ (by assumption) (by assumption) _)).mono ?_; clear hb; rintro e w1 ⟨rfl, hb⟩) | (go_at_call 24; refine (carry hb (Marked_eq _ _ (by assumption) (by assumption) _)).mono ?_; clear hb; rintro e w1 ⟨rfl, hb⟩))
      refine wp_loop_rounds 3 ?_
      iterate 3 (rw [rounds_succ]; go_wp2_with (first | (go_at_call 16; refine (carry hb (C1.out _)).mono ?_; clear hb; rintro e w1 ⟨rfl, hb⟩) | (go_at_call 18; refine (carry hb (C2.out _)).mono ?_; clear hb; rintro e w1 ⟨rfl, hb⟩) | (go_at_call_of 21 (Value.string sd); refine (carry hb (C3.out _)).mono ?_; clear hb; rintro e w1 ⟨rfl, hb⟩) | (go_at_call_of 21 (Value.string mk); refine (carry hb (C4.out _)).mono ?_; clear hb; rintro e w1 ⟨rfl, hb⟩) | (go_at_call 22; refine (carry hb (Good_eq _ _ (by assumption) (by assumption) _)).mono ?_; clear hb; rintro e w1 ⟨rfl, hb⟩) | (go_at_call 24; refine (carry hb (Marked_eq _ _ (by assumption) (by assumption) _)).mono ?_; clear hb; rintro e w1 ⟨rfl, hb⟩)))
      go_ret
      exact ⟨rfl, hb⟩

end CrcW
end Go.Proofs.Ytaefblpleoabgaa
