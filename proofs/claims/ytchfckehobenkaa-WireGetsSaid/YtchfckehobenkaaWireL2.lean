/- WireGets: the walk of the law. -/
import Derived.Test.YtchfckehobenkaaWireL1
namespace Go.Proofs.Ytchfckehobenkaa
open Go.RowKit
namespace WireW
set_option maxRecDepth 100000 in
set_option maxHeartbeats 1000000 in
theorem law_Gets (s : ByteArray) (hs : s.size ≤ maxLen) (n : Int) (n1 : -9223372036854775808 ≤ n) (n2 : n ≤ 9223372036854775807) (k : Int) (k1 : -9223372036854775808 ≤ k) (k2 : k ≤ 9223372036854775807) (w : World) :
    Calls Try.prog 4 #[.string s, .int .i64 n, .int .i64 k] w fun e w' => e = .returned (.bool true) ∧ Below w.heap.size w w' := by
  unfold maxLen at hs
  have hb := Below.refl w.heap.size w
  go_enter Try.func4, Try.ntmps4
  go_upto_region 2 with fail
  go_cut [0, 44, 45] (fun s0 s44 s45 wx => w = wx ∧ ∃ (t : ByteArray) (x y z : Int), s0 = .string t ∧ t.size ≤ 20 ∧ s44 = .agg #[.int .i64 n, .int .i64 k, .int .i64 x, .int .i64 y, .int .i64 z, .int .i64 k] ∧ s45 = .int .i64 0 ∧ (∀ m ∈ [n, k, x, y, z], -9223372036854775808 ≤ m ∧ m ≤ 9223372036854775807))
  case first =>
    go_wp2_with fail
    all_goals
      go_meet
      first
        | refine ⟨rfl, s, _, _, _, rfl, by omega, rfl, rfl, fun m hm => ?_⟩
        | refine ⟨rfl, s.extract 0 20, _, _, _, rfl, by rw [ByteArray.size_extract]; omega, rfl, rfl, fun m hm => ?_⟩
      simp only [List.mem_cons, List.not_mem_nil, or_false] at hm
      rcases hm with rfl | rfl | rfl | rfl | rfl
      · exact ⟨n1, n2⟩
      · exact ⟨k1, k2⟩
      all_goals exact wrap64_range _
  case rest =>
    obtain ⟨rfl, t, x, y, z, rfl, ht, rfl, rfl, hm⟩ := hcut
    have tm := le_max ht (by omega)
    have HM := Lib.hid hm
    clear hs hm
    go_wp2_with fail
    go_loopw [45] (fun i wr => ∃ j : Nat, j ≤ 3 ∧ i = .int .i64 j ∧ Below w.heap.size w wr) (fun i _ => 3 - (intOf i).toNat)
    case atStart => exact ⟨0, by omega, rfl, hb⟩
    case round =>
      obtain ⟨j, hj, rfl, hb⟩ := hrel
      by_cases hlt : j < 3
      · obtain ⟨a, b, hy, a1, a2, b1, b2⟩ : ∃ a b : Int, (∀ W, (Instr.index 31 (.agg #[.int .i64 n, .int .i64 k, .int .i64 x, .int .i64 y, .int .i64 z, .int .i64 k]) (.int .i64 (j : Int))).run Try.prog W = .ok (.agg #[.int .i64 a, .int .i64 b]) W) ∧ -9223372036854775808 ≤ a ∧ a ≤ 9223372036854775807 ∧ -9223372036854775808 ≤ b ∧ b ≤ 9223372036854775807 := by
          have hm := HM.out
          have hj3 : j = 0 ∨ j = 1 ∨ j = 2 := by omega
          rcases hj3 with rfl | rfl | rfl
          · exact ⟨n, k, fun W => by kernel_rfl, (hm _ (by simp)).1, (hm _ (by simp)).2, (hm _ (by simp)).1, (hm _ (by simp)).2⟩
          · exact ⟨x, y, fun W => by kernel_rfl, (hm _ (by simp)).1, (hm _ (by simp)).2, (hm _ (by simp)).1, (hm _ (by simp)).2⟩
          · exact ⟨z, k, fun W => by kernel_rfl, (hm _ (by simp)).1, (hm _ (by simp)).2, (hm _ (by simp)).1, (hm _ (by simp)).2⟩
        go_wp2_with (first | (go_at_call 13; refine (Get_any t tm a b a1 a2 b1 b2 _).mono ?_; rintro e w1 ⟨rfl, rfl⟩) | (go_at_call 15; refine (GetSigned_any t tm a b a1 a2 b1 b2 _).mono ?_; rintro e w1 ⟨rfl, rfl⟩) | (go_at_call 17; refine (Field_any t tm a b a1 a2 b1 b2 _).mono ?_; rintro e w1 ⟨rfl, rfl⟩) | (go_at_call 14; refine (ref_Get t tm a b a1 a2 b1 b2 _).mono ?_; rintro e w1 ⟨rfl, rfl⟩) | (go_at_call 16; refine (ref_GetSigned t tm a b a1 a2 b1 b2 _).mono ?_; rintro e w1 ⟨rfl, rfl⟩) | (go_at_call 18; refine (ref_Field t tm a b a1 a2 b1 b2 _).mono ?_; rintro e w1 ⟨rfl, rfl⟩))
        go_roundw
        case rel => exact ⟨j + 1, by omega, by go_num, hb.alloc hb.size _⟩
        case measure => simp [intOf]; omega
      · go_wp2_with (go_at_call 12; refine (carry hb (works_any _)).mono ?_; rintro e w1 ⟨rfl, hb1⟩)
        go_ret
        exact ⟨rfl, hb1⟩
end WireW
end Go.Proofs.Ytchfckehobenkaa
