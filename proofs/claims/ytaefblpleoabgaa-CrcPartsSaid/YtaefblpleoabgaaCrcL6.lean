/- CrcParts: the walk of the law. -/
import Derived.Test.YtaefblpleoabgaaCrcK
import Derived.Test.YtaefblpleoabgaaCrcB
import Derived.Test.YtaefblpleoabgaaCrcF
import Derived.Test.YtaefblpleoabgaaCrcL5
import Derived.Deep.RegionHeld3
import Derived.BigQuiet
import Derived.BigRegion
import Derived.Deep.DeepCutAuto
import Derived.LoopN
namespace Go.Proofs.Ytaefblpleoabgaa
open Go.RowKit
namespace CrcW
set_option maxHeartbeats 4000000 in
theorem law_Parts (s : ByteArray) (hs : s.size ≤ maxLen) (n : Nat) (hn : n < 256) (w : World) :
    Calls Try.prog 8 #[.string s, .int .u8 n] w fun e w' => e = .returned (.bool true) ∧ Below w.heap.size w w' := by
  unfold maxLen at hs
  have hb := Below.refl w.heap.size w
  go_enter Try.func8, Try.ntmps8
  go_wp2_with fail
  refine (carry hb (works_any _)).mono ?_
  clear hb
  rintro e w1 ⟨rfl, hb⟩
  go_upto_region 4 with fail
  go_cut [0, 5] (fun s0 s5 wx => wx = w1 ∧ ∃ (t : ByteArray) (k : Nat), s0 = .string t ∧ s5 = .int .i64 k ∧ t.size ≤ 200 ∧ k ≤ t.size)
  case first =>
    go_wp2_with fail
    all_goals
      go_meet
      first
        | (refine ⟨rfl, s, n, rfl, rfl, ?_, ?_⟩ <;> omega)
        | (refine ⟨rfl, s, s.size, rfl, rfl, ?_, ?_⟩ <;> omega)
        | (refine ⟨rfl, s.extract 0 200, n, rfl, rfl, ?_, ?_⟩ <;> (rw [ByteArray.size_extract]; omega))
        | (refine ⟨rfl, s.extract 0 200, (s.extract 0 200).size, rfl, rfl, ?_, ?_⟩ <;> (rw [ByteArray.size_extract]; omega))
        | (refine ⟨rfl, s.extract 0 200, min 200 s.size, rfl, rfl, ?_, ?_⟩ <;> (rw [ByteArray.size_extract]; omega))
        | (refine ⟨rfl, s.extract 0 200, 200, rfl, rfl, ?_, ?_⟩ <;> (rw [ByteArray.size_extract]; omega))
  case rest =>
    obtain ⟨rfl, t, k, rfl, rfl, ht, hk⟩ := hcut
    have htl := size_list t
    have hz1 : (S (Crc.seald t.data.toList)).size = t.size + 4 := by rw [S_size, seald_length, htl]
    have c0 := fun W => Seal_any t (le_max (k := 204) (by omega) (by omega)) W
    have c1 := fun W => Of_any (t.extract 0 k) (le_max (k := 200) (by rw [ByteArray.size_extract]; omega) (by omega)) W
    have c2 := fun W => Extend_any (Crc.crc (t.data.toList.take k)) (Crc.crc_lt _) (t.extract k t.size) (le_max (k := 200) (by rw [ByteArray.size_extract]; omega) (by omega)) W
    have c3 := fun W => Of_any t (le_max ht (by omega)) W
    have c4 := fun W => Extend_any (Crc.crc t.data.toList) (Crc.crc_lt _) ⟨#[]⟩ (by unfold maxLen; decide) W
    have c5 := fun W => Of_any (S (Crc.seald t.data.toList)) (le_max (k := 204) (by omega) (by omega)) W
    have c6 := fun W => Seal_any (S (Crc.seald t.data.toList)) (le_max (k := 208) (by omega) (by omega)) W
    have c7 := fun W => Good_any (S (Crc.seald (Crc.seald t.data.toList))) (le_max (k := 208) (by rw [S_size, seald_length, seald_length]; omega) (by omega)) W
    have e2 : Crc.ext (Crc.crc (t.data.toList.take k)) (t.extract k t.size).data.toList = Crc.crc t.data.toList := by
      have ez : (t.extract k t.size).data.toList = t.data.toList.drop k := by
        rw [Lib.extract_data]
        exact List.take_of_length_le (by rw [List.length_drop, htl]; exact Nat.le_refl _)
      rw [ez]
      unfold Crc.crc
      rw [← Crc.ext_append, List.take_append_drop]
    have e4 : Crc.ext (Crc.crc t.data.toList) (⟨#[]⟩ : ByteArray).data.toList = Crc.crc t.data.toList := Crc.ext_nil _
    have ed : ((S (Crc.seald t.data.toList)).extract 0 t.size).data.toList = t.data.toList := by
      rw [extract_zero, S_data]; unfold Crc.seald
      rw [List.take_append_of_le_length (by omega), List.take_of_length_le (by omega)]
    have eb : (((S (Crc.seald t.data.toList)).extract 0 t.size).toList == t.toList) = true := by
      rw [eq_beq _ _ _ _ ed rfl]; exact beq_self_eq_true _
    simp only [S_data, Crc.crc_seal, Crc.good_seal, extract_zero] at c1 c5 c6 c7
    rw [e2] at c2
    rw [e4] at c4
    have s1 : ∀ W, (Instr.slice 9 (.string t) none (some (.int .i64 (k : Int))) none).run Try.prog W = .ok (.string (t.extract 0 k)) W := fun W => by
      rw [run_slice_string_to_if W 9 t .i64 _ Try.underlying9, if_pos ⟨by omega, by omega⟩]; rfl
    have s2 : ∀ W, (Instr.slice 9 (.string t) (some (.int .i64 (k : Int))) none none).run Try.prog W = .ok (.string (t.extract k t.size)) W := fun W => by
      rw [run_slice_string_from_if W 9 t .i64 _ Try.underlying9, if_pos ⟨by omega, by omega⟩]; rfl
    have s3 : ∀ W, (Instr.slice 9 (.string (S (Crc.seald t.data.toList))) none (some (.int .i64 (t.size : Int))) none).run Try.prog W = .ok (.string ((S (Crc.seald t.data.toList)).extract 0 t.size)) W := fun W => by
      rw [run_slice_string_to_if W 9 _ .i64 _ Try.underlying9, if_pos ⟨by omega, by omega⟩]; rfl
    clear e2 e4 ed htl
    generalize Crc.crc (t.data.toList.take k) = p at *
    generalize Crc.crc t.data.toList = q at *
    generalize (S (Crc.seald t.data.toList)).extract 0 t.size = d' at *
    generalize S (Crc.seald (Crc.seald t.data.toList)) = sd2 at *
    generalize S (Crc.seald t.data.toList) = sd at *
    generalize t.extract 0 k = a' at *
    generalize t.extract k t.size = b' at *
    have C0 := Lib.hid c0
    have C1 := Lib.hid c1
    have C2 := Lib.hid c2
    have C3 := Lib.hid c3
    have C4 := Lib.hid c4
    have C5 := Lib.hid c5
    have C6 := Lib.hid c6
    have C7 := Lib.hid c7
    clear c0 c1 c2 c3 c4 c5 c6 c7
    have ei : IntKind.i64.wrap ((t.size : Int) + 4) = (t.size : Int) + 4 := IntWalk.i64_in _ (by omega)
    go_wp2_with fail
    refine (carry hb (C0.out _)).mono ?_
    clear hb
    rintro e w3 ⟨rfl, hb⟩
    go_wp2_with fail
    go_region_held3 (fun w' => Below w.heap.size w w') (first | assumption | exact Below.drew (by assumption)) (first | (go_at_call_of 10 (Value.string a'); refine (carry (by assumption) (C1.out _)).mono ?_; rintro e w2 ⟨rfl, hb2⟩) | (go_at_call_of 10 (Value.string t); refine (carry (by assumption) (C3.out _)).mono ?_; rintro e w2 ⟨rfl, hb2⟩) | (go_at_call_of 10 (Value.string sd); refine (carry (by assumption) (C5.out _)).mono ?_; rintro e w2 ⟨rfl, hb2⟩) | (go_at_call_of 12 (Value.string b'); refine (carry (by assumption) (C2.out _)).mono ?_; rintro e w2 ⟨rfl, hb2⟩) | (go_at_call_of 12 (Value.string { data := #[] }); refine (carry (by assumption) (C4.out _)).mono ?_; rintro e w2 ⟨rfl, hb2⟩) | (go_at_call_of 16 (Value.string sd); refine (carry (by assumption) (C6.out _)).mono ?_; rintro e w2 ⟨rfl, hb2⟩) | (go_at_call_of 22 (Value.string sd2); refine (carry (by assumption) (C7.out _)).mono ?_; rintro e w2 ⟨rfl, hb2⟩))
    all_goals
      go_wp2
      go_ret
      exact ⟨rfl, by assumption⟩
end CrcW
end Go.Proofs.Ytaefblpleoabgaa
