/- CrcPairs: the walk of the law. -/
import Derived.Test.YtaefblpleoabgaaCrcK
import Derived.Test.YtaefblpleoabgaaCrcB
import Derived.Test.YtaefblpleoabgaaCrcF
import Derived.Test.YtaefblpleoabgaaCrcL3
import Derived.Deep.RegionHeld3
import Derived.BigQuiet
import Derived.BigRegion
import Derived.LoopN
namespace Go.Proofs.Ytaefblpleoabgaa
open Go.RowKit
namespace CrcW
set_option maxHeartbeats 2000000 in
theorem law_Pairs (s : ByteArray) (hs : s.size ≤ maxLen) (a b : Nat) (ha : a < 65536) (hb0 : b < 65536) (w : World) :
    Calls Try.prog 6 #[.string s, .agg #[.int .u16 a, .int .u16 b]] w fun e w' => e = .returned (.bool true) ∧ Below w.heap.size w w' := by
  unfold maxLen at hs
  go_enter Try.func6, Try.ntmps6
  go_wp2_with fail
  have hb := Below.refl (w.alloc (.cells #[.int .u16 a, .int .u16 b] 35)).heap.size (w.alloc (.cells #[.int .u16 a, .int .u16 b] 35))
  refine (carry hb (works_any _)).mono ?_
  clear hb
  rintro e w1 ⟨rfl, hb⟩
  go_wp2_with fail
  · have ht : (s.extract 0 200).size ≤ 200 := by rw [ByteArray.size_extract]; omega
    generalize s.extract 0 200 = t at *
    have htl := size_list t
    have hmod : ∀ x : Nat, ∃ k : Nat, ((x : Int) % (8 * ((t.size : Int) + 4))) = (k : Int) ∧ k < 8 * (t.size + 4) := fun x => by
      refine ⟨x % (8 * (t.size + 4)), ?_, Nat.mod_lt _ (by omega)⟩
      have e : (8 * ((t.size : Int) + 4)) = ((8 * (t.size + 4) : Nat) : Int) := by omega
      rw [e]; exact (Int.natCast_emod _ _).symm
    obtain ⟨ka, hka, hla⟩ := hmod a
    obtain ⟨kb, hkb, hlb⟩ := hmod b
    clear hmod
    have hz1 : (S (Crc.seald t.data.toList)).size = t.size + 4 := by rw [S_size, seald_length, size_list]
    have g0 : Crc.good (S (Crc.seald t.data.toList)).data.toList = true := by rw [S_data]; exact Crc.good_seal _
    have l0 : (S (Crc.seald t.data.toList)).data.toList.length = t.size + 4 := by rw [S_data, seald_length, size_list]
    have c1 := fun W => Seal_any t (le_max (k := 204) (by omega) (by omega)) W
    have C1 := Lib.hid c1
    clear c1 htl
    generalize S (Crc.seald t.data.toList) = sd at *
    have hy : Crc.good (S (Crc.flip sd.data.toList ka 1)).data.toList = false := by rw [S_data]; exact Crc.single (by omega) g0
    have hzz : Crc.good (S (Crc.flip (S (Crc.flip sd.data.toList ka 1)).data.toList kb 1)).data.toList = decide (ka = kb) := by rw [S_data, S_data]; exact Crc.pair (by omega) (by omega) (by omega) g0
    have g1 : (S (Crc.flip sd.data.toList ka 1)).size ≤ 204 := by rw [S_size, Crc.flip_length]; omega
    have g2 : (S (Crc.flip (S (Crc.flip sd.data.toList ka 1)).data.toList kb 1)).size ≤ 204 := by rw [S_size, Crc.flip_length, S_data, Crc.flip_length]; omega
    have c3 := fun W => ref_Flip sd (by omega) ka 1 (by omega) (by omega) W
    have c4 := fun W => ref_Flip (S (Crc.flip sd.data.toList ka 1)) (by omega) kb 1 (by omega) (by omega) W
    have C3 := Lib.hid c3
    have C4 := Lib.hid c4
    clear c3 c4
    generalize S (Crc.flip (S (Crc.flip sd.data.toList ka 1)).data.toList kb 1) = y2 at *
    generalize S (Crc.flip sd.data.toList ka 1) = y1 at *
    have g3 : y1.size ≤ maxLen := le_max g1 (by omega)
    have g4 : y2.size ≤ maxLen := le_max g2 (by omega)
    clear g0 l0
    refine (carry hb (C1.out _)).mono ?_
    clear hb
    rintro e w1 ⟨rfl, hb⟩
    have hc0 : w1.cell? ⟨w.heap.size, 0, none⟩ = some (.int .u16 a) := (hb.cell (p := ⟨w.heap.size, 0, none⟩) (by simp)).trans (by rw [World.cell?_alloc_mark]; rfl)
    have hc1 : w1.cell? ⟨w.heap.size, 1, none⟩ = some (.int .u16 b) := (hb.cell (p := ⟨w.heap.size, 1, none⟩) (by simp)).trans (by rw [World.cell?_alloc_mark]; rfl)
    have HB := Lib.hid hb
    clear hb
    go_wp2_with fail
    go_region
    have hb := Below.drew HB.out
    clear HB hc0 hc1
    refine stop ?_
    by_cases hab : ka = kb
    · subst hab
      have hf := hzz.trans (decide_eq_true rfl)
      clear hzz
      refine Stopped.mk ?_
      go_wp2_with (first | (go_at_call_of 21 (Value.string sd); refine (carry hb (C3.out _)).mono ?_; clear hb; rintro e w1 ⟨rfl, hb⟩) | (go_at_call_of 21 (Value.string y1); refine (carry hb (C4.out _)).mono ?_; clear hb; rintro e w1 ⟨rfl, hb⟩) | (go_at_call 22; refine (carry hb (Good_eq _ _ (by assumption) (by assumption) _)).mono ?_; clear hb; rintro e w1 ⟨rfl, hb⟩))
      go_ret
      exact ⟨rfl, ((Below.refl _ _).alloc (Nat.le_refl _) _).trans (hb.mono (by simp))⟩
    · have hf := hzz.trans (decide_eq_false hab)
      clear hzz
      have hne : ((ka : Int) == (kb : Int)) = false := by rw [beq_eq_false_iff_ne]; omega
      refine Stopped.mk ?_
      go_wp2_with (first | (go_at_call_of 21 (Value.string sd); refine (carry hb (C3.out _)).mono ?_; clear hb; rintro e w1 ⟨rfl, hb⟩) | (go_at_call_of 21 (Value.string y1); refine (carry hb (C4.out _)).mono ?_; clear hb; rintro e w1 ⟨rfl, hb⟩) | (go_at_call 22; refine (carry hb (Good_eq _ _ (by assumption) (by assumption) _)).mono ?_; clear hb; rintro e w1 ⟨rfl, hb⟩))
      go_ret
      exact ⟨rfl, ((Below.refl _ _).alloc (Nat.le_refl _) _).trans (hb.mono (by simp))⟩

  · have ht : s.size ≤ 200 := by omega
    generalize s = t at *
    have htl := size_list t
    have hmod : ∀ x : Nat, ∃ k : Nat, ((x : Int) % (8 * ((t.size : Int) + 4))) = (k : Int) ∧ k < 8 * (t.size + 4) := fun x => by
      refine ⟨x % (8 * (t.size + 4)), ?_, Nat.mod_lt _ (by omega)⟩
      have e : (8 * ((t.size : Int) + 4)) = ((8 * (t.size + 4) : Nat) : Int) := by omega
      rw [e]; exact (Int.natCast_emod _ _).symm
    obtain ⟨ka, hka, hla⟩ := hmod a
    obtain ⟨kb, hkb, hlb⟩ := hmod b
    clear hmod
    have hz1 : (S (Crc.seald t.data.toList)).size = t.size + 4 := by rw [S_size, seald_length, size_list]
    have g0 : Crc.good (S (Crc.seald t.data.toList)).data.toList = true := by rw [S_data]; exact Crc.good_seal _
    have l0 : (S (Crc.seald t.data.toList)).data.toList.length = t.size + 4 := by rw [S_data, seald_length, size_list]
    have c1 := fun W => Seal_any t (le_max (k := 204) (by omega) (by omega)) W
    have C1 := Lib.hid c1
    clear c1 htl
    generalize S (Crc.seald t.data.toList) = sd at *
    have hy : Crc.good (S (Crc.flip sd.data.toList ka 1)).data.toList = false := by rw [S_data]; exact Crc.single (by omega) g0
    have hzz : Crc.good (S (Crc.flip (S (Crc.flip sd.data.toList ka 1)).data.toList kb 1)).data.toList = decide (ka = kb) := by rw [S_data, S_data]; exact Crc.pair (by omega) (by omega) (by omega) g0
    have g1 : (S (Crc.flip sd.data.toList ka 1)).size ≤ 204 := by rw [S_size, Crc.flip_length]; omega
    have g2 : (S (Crc.flip (S (Crc.flip sd.data.toList ka 1)).data.toList kb 1)).size ≤ 204 := by rw [S_size, Crc.flip_length, S_data, Crc.flip_length]; omega
    have c3 := fun W => ref_Flip sd (by omega) ka 1 (by omega) (by omega) W
    have c4 := fun W => ref_Flip (S (Crc.flip sd.data.toList ka 1)) (by omega) kb 1 (by omega) (by omega) W
    have C3 := Lib.hid c3
    have C4 := Lib.hid c4
    clear c3 c4
    generalize S (Crc.flip (S (Crc.flip sd.data.toList ka 1)).data.toList kb 1) = y2 at *
    generalize S (Crc.flip sd.data.toList ka 1) = y1 at *
    have g3 : y1.size ≤ maxLen := le_max g1 (by omega)
    have g4 : y2.size ≤ maxLen := le_max g2 (by omega)
    clear g0 l0
    refine (carry hb (C1.out _)).mono ?_
    clear hb
    rintro e w1 ⟨rfl, hb⟩
    have hc0 : w1.cell? ⟨w.heap.size, 0, none⟩ = some (.int .u16 a) := (hb.cell (p := ⟨w.heap.size, 0, none⟩) (by simp)).trans (by rw [World.cell?_alloc_mark]; rfl)
    have hc1 : w1.cell? ⟨w.heap.size, 1, none⟩ = some (.int .u16 b) := (hb.cell (p := ⟨w.heap.size, 1, none⟩) (by simp)).trans (by rw [World.cell?_alloc_mark]; rfl)
    have HB := Lib.hid hb
    clear hb
    go_wp2_with fail
    go_region
    have hb := Below.drew HB.out
    clear HB hc0 hc1
    refine stop ?_
    by_cases hab : ka = kb
    · subst hab
      have hf := hzz.trans (decide_eq_true rfl)
      clear hzz
      refine Stopped.mk ?_
      go_wp2_with (first | (go_at_call_of 21 (Value.string sd); refine (carry hb (C3.out _)).mono ?_; clear hb; rintro e w1 ⟨rfl, hb⟩) | (go_at_call_of 21 (Value.string y1); refine (carry hb (C4.out _)).mono ?_; clear hb; rintro e w1 ⟨rfl, hb⟩) | (go_at_call 22; refine (carry hb (Good_eq _ _ (by assumption) (by assumption) _)).mono ?_; clear hb; rintro e w1 ⟨rfl, hb⟩))
      go_ret
      exact ⟨rfl, ((Below.refl _ _).alloc (Nat.le_refl _) _).trans (hb.mono (by simp))⟩
    · have hf := hzz.trans (decide_eq_false hab)
      clear hzz
      have hne : ((ka : Int) == (kb : Int)) = false := by rw [beq_eq_false_iff_ne]; omega
      refine Stopped.mk ?_
      go_wp2_with (first | (go_at_call_of 21 (Value.string sd); refine (carry hb (C3.out _)).mono ?_; clear hb; rintro e w1 ⟨rfl, hb⟩) | (go_at_call_of 21 (Value.string y1); refine (carry hb (C4.out _)).mono ?_; clear hb; rintro e w1 ⟨rfl, hb⟩) | (go_at_call 22; refine (carry hb (Good_eq _ _ (by assumption) (by assumption) _)).mono ?_; clear hb; rintro e w1 ⟨rfl, hb⟩))
      go_ret
      exact ⟨rfl, ((Below.refl _ _).alloc (Nat.le_refl _) _).trans (hb.mono (by simp))⟩

end CrcW
end Go.Proofs.Ytaefblpleoabgaa
