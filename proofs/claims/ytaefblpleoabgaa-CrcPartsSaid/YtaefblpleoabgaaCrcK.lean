/- The calls of the examples at closed arguments. (Printed by wip/gen/crcworks.py.) -/
import Derived.Test.YtaefblpleoabgaaCrcQ
namespace Go.Proofs.Ytaefblpleoabgaa
open Go.RowKit
namespace CrcW
theorem lit_size (l : List UInt8) (h : l.length ≤ 1000) : (⟨l.toArray⟩ : ByteArray).size ≤ maxLen := by
  show l.toArray.size ≤ maxLen
  unfold maxLen; simp; omega
theorem c0_Of (w : World) : Calls Try.prog 10 #[.string ⟨#[49, 50, 51, 52, 53, 54, 55, 56, 57]⟩] w fun e w' => e = .returned (.int .u32 3421780262) ∧ Below w.heap.size w w' := by
  have h := Of_any ⟨#[49, 50, 51, 52, 53, 54, 55, 56, 57]⟩ (lit_size [49, 50, 51, 52, 53, 54, 55, 56, 57] (by decide)) w
  have e : Crc.crc [49, 50, 51, 52, 53, 54, 55, 56, 57] = 3421780262 := by decide +kernel
  have e' : ((⟨#[49, 50, 51, 52, 53, 54, 55, 56, 57]⟩ : ByteArray)).data.toList = [49, 50, 51, 52, 53, 54, 55, 56, 57] := rfl
  rw [e', e] at h; exact h
theorem c1_Of (w : World) : Calls Try.prog 10 #[.string ⟨#[]⟩] w fun e w' => e = .returned (.int .u32 0) ∧ Below w.heap.size w w' := by
  have h := Of_any ⟨#[]⟩ (lit_size [] (by decide)) w
  have e : Crc.crc [] = 0 := by decide +kernel
  have e' : ((⟨#[]⟩ : ByteArray)).data.toList = [] := rfl
  rw [e', e] at h; exact h
theorem c2_Of (w : World) : Calls Try.prog 10 #[.string ⟨#[97]⟩] w fun e w' => e = .returned (.int .u32 3904355907) ∧ Below w.heap.size w w' := by
  have h := Of_any ⟨#[97]⟩ (lit_size [97] (by decide)) w
  have e : Crc.crc [97] = 3904355907 := by decide +kernel
  have e' : ((⟨#[97]⟩ : ByteArray)).data.toList = [97] := rfl
  rw [e', e] at h; exact h
theorem c3_Of (w : World) : Calls Try.prog 10 #[.string ⟨#[49, 50, 51, 52]⟩] w fun e w' => e = .returned (.int .u32 2615402659) ∧ Below w.heap.size w w' := by
  have h := Of_any ⟨#[49, 50, 51, 52]⟩ (lit_size [49, 50, 51, 52] (by decide)) w
  have e : Crc.crc [49, 50, 51, 52] = 2615402659 := by decide +kernel
  have e' : ((⟨#[49, 50, 51, 52]⟩ : ByteArray)).data.toList = [49, 50, 51, 52] := rfl
  rw [e', e] at h; exact h
theorem c4_Extend (w : World) : Calls Try.prog 12 #[.int .u32 2615402659, .string ⟨#[53, 54, 55, 56, 57]⟩] w fun e w' => e = .returned (.int .u32 3421780262) ∧ Below w.heap.size w w' := by
  have h := Extend_any 2615402659 (by omega) ⟨#[53, 54, 55, 56, 57]⟩ (lit_size [53, 54, 55, 56, 57] (by decide)) w
  have e : Crc.ext 2615402659 [53, 54, 55, 56, 57] = 3421780262 := by decide +kernel
  have e' : ((⟨#[53, 54, 55, 56, 57]⟩ : ByteArray)).data.toList = [53, 54, 55, 56, 57] := rfl
  rw [e', e] at h; exact h
theorem c5_Octets (w : World) : Calls Try.prog 14 #[.int .u32 3421780262] w fun e w' => e = .returned (.string ⟨#[38, 57, 244, 203]⟩) ∧ Below w.heap.size w w' := by
  have h := Octets_any 3421780262 (by omega) w
  have e : S (Crc.octets 3421780262) = ⟨#[38, 57, 244, 203]⟩ := by rw [show Crc.octets 3421780262 = [38, 57, 244, 203] from by decide +kernel]; rfl
  rw [e] at h; exact h
theorem c6_Seal (w : World) : Calls Try.prog 16 #[.string ⟨#[97]⟩] w fun e w' => e = .returned (.string ⟨#[97, 67, 190, 183, 232]⟩) ∧ Below w.heap.size w w' := by
  have h := Seal_any ⟨#[97]⟩ (by have := lit_size [97] (by decide); show 1 + 4 ≤ maxLen; unfold maxLen; omega) w
  have e : S (Crc.seald [97]) = ⟨#[97, 67, 190, 183, 232]⟩ := by rw [show Crc.seald [97] = [97, 67, 190, 183, 232] from by decide +kernel]; rfl
  have e' : ((⟨#[97]⟩ : ByteArray)).data.toList = [97] := rfl
  rw [e', e] at h; exact h
theorem c7_Good (w : World) : Calls Try.prog 22 #[.string ⟨#[97, 67, 190, 183, 232]⟩] w fun e w' => e = .returned (.bool true) ∧ Below w.heap.size w w' := by
  have h := Good_any ⟨#[97, 67, 190, 183, 232]⟩ (lit_size [97, 67, 190, 183, 232] (by decide)) w
  have e : Crc.good [97, 67, 190, 183, 232] = true := by decide +kernel
  have e' : ((⟨#[97, 67, 190, 183, 232]⟩ : ByteArray)).data.toList = [97, 67, 190, 183, 232] := rfl
  rw [e', e] at h; exact h
theorem c8_Good (w : World) : Calls Try.prog 22 #[.string ⟨#[97]⟩] w fun e w' => e = .returned (.bool false) ∧ Below w.heap.size w w' := by
  have h := Good_any ⟨#[97]⟩ (lit_size [97] (by decide)) w
  have e : Crc.good [97] = false := by decide +kernel
  have e' : ((⟨#[97]⟩ : ByteArray)).data.toList = [97] := rfl
  rw [e', e] at h; exact h
theorem c9_Good (w : World) : Calls Try.prog 22 #[.string ⟨#[0, 0, 0, 0]⟩] w fun e w' => e = .returned (.bool true) ∧ Below w.heap.size w w' := by
  have h := Good_any ⟨#[0, 0, 0, 0]⟩ (lit_size [0, 0, 0, 0] (by decide)) w
  have e : Crc.good [0, 0, 0, 0] = true := by decide +kernel
  have e' : ((⟨#[0, 0, 0, 0]⟩ : ByteArray)).data.toList = [0, 0, 0, 0] := rfl
  rw [e', e] at h; exact h
theorem c10_Mark (w : World) : Calls Try.prog 18 #[.string ⟨#[97]⟩] w fun e w' => e = .returned (.string ⟨#[97, 67, 190, 72, 23]⟩) ∧ Below w.heap.size w w' := by
  have h := Mark_any ⟨#[97]⟩ (by have := lit_size [97] (by decide); show 1 + 4 ≤ maxLen; unfold maxLen; omega) w
  have e : S (Crc.mark [97]) = ⟨#[97, 67, 190, 72, 23]⟩ := by rw [show Crc.mark [97] = [97, 67, 190, 72, 23] from by decide +kernel]; rfl
  have e' : ((⟨#[97]⟩ : ByteArray)).data.toList = [97] := rfl
  rw [e', e] at h; exact h
theorem c11_Marked (w : World) : Calls Try.prog 24 #[.string ⟨#[97, 67, 190, 72, 23]⟩] w fun e w' => e = .returned (.bool true) ∧ Below w.heap.size w w' := by
  have h := Marked_any ⟨#[97, 67, 190, 72, 23]⟩ (lit_size [97, 67, 190, 72, 23] (by decide)) w
  have e : Crc.marked [97, 67, 190, 72, 23] = true := by decide +kernel
  have e' : ((⟨#[97, 67, 190, 72, 23]⟩ : ByteArray)).data.toList = [97, 67, 190, 72, 23] := rfl
  rw [e', e] at h; exact h
theorem c12_Marked (w : World) : Calls Try.prog 24 #[.string ⟨#[97, 67, 190, 183, 232]⟩] w fun e w' => e = .returned (.bool false) ∧ Below w.heap.size w w' := by
  have h := Marked_any ⟨#[97, 67, 190, 183, 232]⟩ (lit_size [97, 67, 190, 183, 232] (by decide)) w
  have e : Crc.marked [97, 67, 190, 183, 232] = false := by decide +kernel
  have e' : ((⟨#[97, 67, 190, 183, 232]⟩ : ByteArray)).data.toList = [97, 67, 190, 183, 232] := rfl
  rw [e', e] at h; exact h
set_option maxHeartbeats 1000000 in
theorem works_any (w : World) : Calls Try.prog 20 #[] w fun e w' => e = .returned (.bool true) ∧ Below w.heap.size w w' := by
  have hb := Below.refl w.heap.size w
  go_enter Try.func20, Try.ntmps20
  go_wp2_with fail
  refine (carry hb (c0_Of _)).mono ?_
  clear hb
  rintro e w1 ⟨rfl, hb⟩
  go_wp2_with fail
  refine (carry hb (c1_Of _)).mono ?_
  clear hb
  rintro e w1 ⟨rfl, hb⟩
  go_wp2_with fail
  refine (carry hb (c2_Of _)).mono ?_
  clear hb
  rintro e w1 ⟨rfl, hb⟩
  go_wp2_with fail
  refine (carry hb (c3_Of _)).mono ?_
  clear hb
  rintro e w1 ⟨rfl, hb⟩
  go_wp2_with fail
  refine (carry hb (c4_Extend _)).mono ?_
  clear hb
  rintro e w1 ⟨rfl, hb⟩
  go_wp2_with fail
  refine (carry hb (c5_Octets _)).mono ?_
  clear hb
  rintro e w1 ⟨rfl, hb⟩
  go_wp2_with fail
  refine (carry hb (c6_Seal _)).mono ?_
  clear hb
  rintro e w1 ⟨rfl, hb⟩
  go_wp2_with fail
  refine (carry hb (c7_Good _)).mono ?_
  clear hb
  rintro e w1 ⟨rfl, hb⟩
  go_wp2_with fail
  refine (carry hb (c8_Good _)).mono ?_
  clear hb
  rintro e w1 ⟨rfl, hb⟩
  go_wp2_with fail
  refine (carry hb (c9_Good _)).mono ?_
  clear hb
  rintro e w1 ⟨rfl, hb⟩
  go_wp2_with fail
  refine (carry hb (c10_Mark _)).mono ?_
  clear hb
  rintro e w1 ⟨rfl, hb⟩
  go_wp2_with fail
  refine (carry hb (c11_Marked _)).mono ?_
  clear hb
  rintro e w1 ⟨rfl, hb⟩
  go_wp2_with fail
  refine (carry hb (c6_Seal _)).mono ?_
  clear hb
  rintro e w1 ⟨rfl, hb⟩
  go_wp2_with fail
  refine (carry hb (c12_Marked _)).mono ?_
  clear hb
  rintro e w1 ⟨rfl, hb⟩
  go_wp2_with fail
  go_ret
  exact ⟨rfl, hb⟩
end CrcW
end Go.Proofs.Ytaefblpleoabgaa
