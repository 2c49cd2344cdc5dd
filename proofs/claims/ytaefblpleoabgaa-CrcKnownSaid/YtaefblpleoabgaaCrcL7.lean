/- CrcKnown: the walk of the law, a closed statement. (Printed by wip/gen/crcworks.py.) -/
import Derived.Test.YtaefblpleoabgaaCrcK
import Derived.LoopN
namespace Go.Proofs.Ytaefblpleoabgaa
open Go.RowKit
namespace CrcW
theorem info_u8' : (Try.prog.info? 5).map (fun i => (i.zero, i.size, i.bytes)) = some (some (.int .u8 0), 1, 1) := by kernel_rfl
def Z32 : Array Value := madeCells #[.int .u8 0] 32
def zeros32 : ByteArray := S (List.replicate 32 0)
theorem z32_at (j : Nat) (h : j < 32) : Z32[j]? = some (.int .u8 0) := by unfold Z32; simp [madeCells, h, Nat.mod_one]
theorem make32 : ∀ W : World, (Instr.makeSlice 37 (.int .i64 32) (.int .i64 32)).run Try.prog W = .ok (.slice (some ⟨W.heap.size, 0, none⟩) 32 32) (W.alloc (.cells Z32 5)) := fun W => by
  obtain ⟨i0, hi, hz0, hz1, hz2⟩ := info_parts info_u8'
  have hr := run_make (P := Try.prog) W 37 5 i0 (.int .u8 0) Try.underlying37 hi hz0 .i64 .i64 32 32 (by omega) (by omega) (by rw [hz2]; omega) (by omega)
  rw [hz1] at hr; exact hr
theorem conv32 : ∀ W : World, (convert 37 9 (.slice (some ⟨W.heap.size, 0, none⟩) 32 32)).run Try.prog (W.alloc (.cells Z32 5)) = .ok (.string zeros32) (W.alloc (.cells Z32 5)) := fun W => by
  have h := run_convert_bytes_arg (P := Try.prog) (W.alloc (.cells Z32 5)) 37 5 Try.underlying37 Try.underlying5 W.heap.size 0 32 32 (List.replicate 32 0) (by simp) (fun i hi => by
    rw [World.cell?_alloc_mark, Nat.zero_add, z32_at i hi, List.getD_eq_getElem?_getD, List.getElem?_replicate, if_pos hi]; rfl) 9 Try.underlying9
  rw [h]; rfl
theorem ones_add (k : Nat) : S (List.replicate k 255) ++ ⟨#[255]⟩ = S (List.replicate (k + 1) 255) := by
  have h := S_append (List.replicate k 255) [255]
  rw [List.replicate_succ']; exact h
theorem c_zeros (w : World) : Calls Try.prog 10 #[.string zeros32] w fun e w' => e = .returned (.int .u32 420107693) ∧ Below w.heap.size w w' := by
  have h := Of_any zeros32 (lit_size (List.replicate 32 0) (by decide)) w
  have e : Crc.crc (List.replicate 32 0) = 420107693 := by decide +kernel
  unfold zeros32 at h ⊢
  rw [S_data, e] at h; exact h
theorem c_ones (w : World) : Calls Try.prog 10 #[.string (S (List.replicate 32 255))] w fun e w' => e = .returned (.int .u32 4285311755) ∧ Below w.heap.size w w' := by
  have h := Of_any (S (List.replicate 32 255)) (lit_size (List.replicate 32 255) (by decide)) w
  have e : Crc.crc (List.replicate 32 255) = 4285311755 := by decide +kernel
  rw [S_data, e] at h; exact h
theorem k0_Of (w : World) : Calls Try.prog 10 #[.string ⟨#[84, 104, 101, 32, 113, 117, 105, 99, 107, 32, 98, 114, 111, 119, 110, 32, 102, 111, 120, 32, 106, 117, 109, 112, 115, 32, 111, 118, 101, 114, 32, 116, 104, 101, 32, 108, 97, 122, 121, 32, 100, 111, 103]⟩] w fun e w' => e = .returned (.int .u32 1095738169) ∧ Below w.heap.size w w' := by
  have h := Of_any ⟨#[84, 104, 101, 32, 113, 117, 105, 99, 107, 32, 98, 114, 111, 119, 110, 32, 102, 111, 120, 32, 106, 117, 109, 112, 115, 32, 111, 118, 101, 114, 32, 116, 104, 101, 32, 108, 97, 122, 121, 32, 100, 111, 103]⟩ (lit_size [84, 104, 101, 32, 113, 117, 105, 99, 107, 32, 98, 114, 111, 119, 110, 32, 102, 111, 120, 32, 106, 117, 109, 112, 115, 32, 111, 118, 101, 114, 32, 116, 104, 101, 32, 108, 97, 122, 121, 32, 100, 111, 103] (by decide)) w
  have e : Crc.crc [84, 104, 101, 32, 113, 117, 105, 99, 107, 32, 98, 114, 111, 119, 110, 32, 102, 111, 120, 32, 106, 117, 109, 112, 115, 32, 111, 118, 101, 114, 32, 116, 104, 101, 32, 108, 97, 122, 121, 32, 100, 111, 103] = 1095738169 := by decide +kernel
  have e' : ((⟨#[84, 104, 101, 32, 113, 117, 105, 99, 107, 32, 98, 114, 111, 119, 110, 32, 102, 111, 120, 32, 106, 117, 109, 112, 115, 32, 111, 118, 101, 114, 32, 116, 104, 101, 32, 108, 97, 122, 121, 32, 100, 111, 103]⟩ : ByteArray)).data.toList = [84, 104, 101, 32, 113, 117, 105, 99, 107, 32, 98, 114, 111, 119, 110, 32, 102, 111, 120, 32, 106, 117, 109, 112, 115, 32, 111, 118, 101, 114, 32, 116, 104, 101, 32, 108, 97, 122, 121, 32, 100, 111, 103] := rfl
  rw [e', e] at h; exact h
theorem k1_Of (w : World) : Calls Try.prog 10 #[.string ⟨#[97, 98, 99]⟩] w fun e w' => e = .returned (.int .u32 891568578) ∧ Below w.heap.size w w' := by
  have h := Of_any ⟨#[97, 98, 99]⟩ (lit_size [97, 98, 99] (by decide)) w
  have e : Crc.crc [97, 98, 99] = 891568578 := by decide +kernel
  have e' : ((⟨#[97, 98, 99]⟩ : ByteArray)).data.toList = [97, 98, 99] := rfl
  rw [e', e] at h; exact h
theorem k2_Good (w : World) : Calls Try.prog 22 #[.string ⟨#[]⟩] w fun e w' => e = .returned (.bool false) ∧ Below w.heap.size w w' := by
  have h := Good_any ⟨#[]⟩ (lit_size [] (by decide)) w
  have e : Crc.good [] = false := by decide +kernel
  have e' : ((⟨#[]⟩ : ByteArray)).data.toList = [] := rfl
  rw [e', e] at h; exact h
theorem k3_Good (w : World) : Calls Try.prog 22 #[.string ⟨#[0, 0, 0]⟩] w fun e w' => e = .returned (.bool false) ∧ Below w.heap.size w w' := by
  have h := Good_any ⟨#[0, 0, 0]⟩ (lit_size [0, 0, 0] (by decide)) w
  have e : Crc.good [0, 0, 0] = false := by decide +kernel
  have e' : ((⟨#[0, 0, 0]⟩ : ByteArray)).data.toList = [0, 0, 0] := rfl
  rw [e', e] at h; exact h
theorem k4_Marked (w : World) : Calls Try.prog 24 #[.string ⟨#[]⟩] w fun e w' => e = .returned (.bool false) ∧ Below w.heap.size w w' := by
  have h := Marked_any ⟨#[]⟩ (lit_size [] (by decide)) w
  have e : Crc.marked [] = false := by decide +kernel
  have e' : ((⟨#[]⟩ : ByteArray)).data.toList = [] := rfl
  rw [e', e] at h; exact h
theorem k5_Marked (w : World) : Calls Try.prog 24 #[.string ⟨#[0, 0, 255, 255]⟩] w fun e w' => e = .returned (.bool true) ∧ Below w.heap.size w w' := by
  have h := Marked_any ⟨#[0, 0, 255, 255]⟩ (lit_size [0, 0, 255, 255] (by decide)) w
  have e : Crc.marked [0, 0, 255, 255] = true := by decide +kernel
  have e' : ((⟨#[0, 0, 255, 255]⟩ : ByteArray)).data.toList = [0, 0, 255, 255] := rfl
  rw [e', e] at h; exact h
theorem k6_Good (w : World) : Calls Try.prog 22 #[.string ⟨#[0, 0, 255, 255]⟩] w fun e w' => e = .returned (.bool false) ∧ Below w.heap.size w w' := by
  have h := Good_any ⟨#[0, 0, 255, 255]⟩ (lit_size [0, 0, 255, 255] (by decide)) w
  have e : Crc.good [0, 0, 255, 255] = false := by decide +kernel
  have e' : ((⟨#[0, 0, 255, 255]⟩ : ByteArray)).data.toList = [0, 0, 255, 255] := rfl
  rw [e', e] at h; exact h
theorem k7_Seal (w : World) : Calls Try.prog 16 #[.string ⟨#[97, 98, 99]⟩] w fun e w' => e = .returned (.string ⟨#[97, 98, 99, 194, 65, 36, 53]⟩) ∧ Below w.heap.size w w' := by
  have h := Seal_any ⟨#[97, 98, 99]⟩ (by have := lit_size [97, 98, 99] (by decide); show 3 + 4 ≤ maxLen; unfold maxLen; omega) w
  have e : S (Crc.seald [97, 98, 99]) = ⟨#[97, 98, 99, 194, 65, 36, 53]⟩ := by rw [show Crc.seald [97, 98, 99] = [97, 98, 99, 194, 65, 36, 53] from by decide +kernel]; rfl
  have e' : ((⟨#[97, 98, 99]⟩ : ByteArray)).data.toList = [97, 98, 99] := rfl
  rw [e', e] at h; exact h
theorem k8_Mark (w : World) : Calls Try.prog 18 #[.string ⟨#[97, 98, 99]⟩] w fun e w' => e = .returned (.string ⟨#[97, 98, 99, 194, 65, 219, 202]⟩) ∧ Below w.heap.size w w' := by
  have h := Mark_any ⟨#[97, 98, 99]⟩ (by have := lit_size [97, 98, 99] (by decide); show 3 + 4 ≤ maxLen; unfold maxLen; omega) w
  have e : S (Crc.mark [97, 98, 99]) = ⟨#[97, 98, 99, 194, 65, 219, 202]⟩ := by rw [show Crc.mark [97, 98, 99] = [97, 98, 99, 194, 65, 219, 202] from by decide +kernel]; rfl
  have e' : ((⟨#[97, 98, 99]⟩ : ByteArray)).data.toList = [97, 98, 99] := rfl
  rw [e', e] at h; exact h
theorem k9_Extend (w : World) : Calls Try.prog 12 #[.int .u32 3421780262, .string ⟨#[]⟩] w fun e w' => e = .returned (.int .u32 3421780262) ∧ Below w.heap.size w w' := by
  have h := Extend_any 3421780262 (by omega) ⟨#[]⟩ (lit_size [] (by decide)) w
  have e : Crc.ext 3421780262 [] = 3421780262 := by decide +kernel
  have e' : ((⟨#[]⟩ : ByteArray)).data.toList = [] := rfl
  rw [e', e] at h; exact h
set_option maxHeartbeats 2000000 in
theorem law_Known (w : World) : Calls Try.prog 9 #[] w fun e w' => e = .returned (.bool true) ∧ Below w.heap.size w w' := by
  have hb := Below.refl w.heap.size w
  have hmk := make32
  have hcv := conv32
  go_enter Try.func9, Try.ntmps9
  go_wp2_with fail
  clear hmk hcv
  go_loop [2, 3] (fun x i => ∃ k : Nat, k ≤ 32 ∧ i = .int .i64 k ∧ x = .string (S (List.replicate k 255))) (fun _ i => 32 - (intOf i).toNat)
  case atStart => exact ⟨0, by omega, rfl, rfl⟩
  case round =>
    obtain ⟨k, hk, rfl, rfl⟩ := hrel
    have hz : (S (List.replicate k 255)).size = k := by rw [S_size, List.length_replicate]
    by_cases hlt : k < 32
    · have HA := Lib.hid (ones_add k)
      generalize S (List.replicate k 255) = x at *
      go_wp2_with fail
      go_round
      case rel => exact ⟨k + 1, by omega, by go_num, str_eq HA.out⟩
      case measure => simp [intOf]; omega
    · obtain rfl : k = 32 := by omega
      have c1 := c_ones
      have C1 := Lib.hid c1
      clear c1 hz
      generalize S (List.replicate 32 255) = x at *
      have hb := hb.alloc hb.size (.cells Z32 5)
      go_wp2_with fail
      refine (carry hb (c_zeros _)).mono ?_
      clear hb
      rintro e w1 ⟨rfl, hb⟩
      go_wp2_with fail
      refine (carry hb (C1.out _)).mono ?_
      clear hb
      rintro e w1 ⟨rfl, hb⟩
      go_wp2_with fail
      refine (carry hb (k0_Of _)).mono ?_
      clear hb
      rintro e w1 ⟨rfl, hb⟩
      go_wp2_with fail
      refine (carry hb (k1_Of _)).mono ?_
      clear hb
      rintro e w1 ⟨rfl, hb⟩
      go_wp2_with fail
      refine (carry hb (k2_Good _)).mono ?_
      clear hb
      rintro e w1 ⟨rfl, hb⟩
      go_wp2_with fail
      refine (carry hb (k3_Good _)).mono ?_
      clear hb
      rintro e w1 ⟨rfl, hb⟩
      go_wp2_with fail
      refine (carry hb (k4_Marked _)).mono ?_
      clear hb
      rintro e w1 ⟨rfl, hb⟩
      go_wp2_with fail
      refine (carry hb (k5_Marked _)).mono ?_
      clear hb
      rintro e w1 ⟨rfl, hb⟩
      go_wp2_with fail
      refine (carry hb (k6_Good _)).mono ?_
      clear hb
      rintro e w1 ⟨rfl, hb⟩
      go_wp2_with fail
      refine (carry hb (works_any _)).mono ?_
      clear hb
      rintro e w1 ⟨rfl, hb⟩
      go_wp2_with fail
      refine (carry hb (k7_Seal _)).mono ?_
      clear hb
      rintro e w1 ⟨rfl, hb⟩
      go_wp2_with fail
      refine (carry hb (k8_Mark _)).mono ?_
      clear hb
      rintro e w1 ⟨rfl, hb⟩
      go_wp2_with fail
      refine (carry hb (k9_Extend _)).mono ?_
      clear hb
      rintro e w1 ⟨rfl, hb⟩
      go_wp2_with fail
      go_ret
      exact ⟨rfl, hb⟩
end CrcW
end Go.Proofs.Ytaefblpleoabgaa
