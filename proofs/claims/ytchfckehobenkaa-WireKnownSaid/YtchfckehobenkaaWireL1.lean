/- WirePuts: the walk of the law. -/
import Derived.Test.YtchfckehobenkaaWireK
import Derived.Deep.DeepCutAuto
namespace Go.Proofs.Ytchfckehobenkaa
open Go.RowKit
namespace WireW
set_option maxHeartbeats 1000000 in
theorem wrap64_range (n : Int) : -9223372036854775808 ≤ wrap64 n ∧ wrap64 n ≤ 9223372036854775807 := by unfold wrap64; omega
theorem ediv_range (n : Int) (e : Nat) (h1 : -9223372036854775808 ≤ n) (h2 : n ≤ 9223372036854775807) : -9223372036854775808 ≤ n / 2 ^ e ∧ n / 2 ^ e ≤ 9223372036854775807 := by
  have hp : (1 : Int) ≤ 2 ^ e := by
    have := Nat.one_le_two_pow (n := e)
    have h : ((2 ^ e : Nat) : Int) = (2 : Int) ^ e := by simp
    omega
  generalize (2 : Int) ^ e = d at *
  rcases Int.lt_or_le n 0 with hn | hn
  · have a : n ≤ n / d := Int.le_ediv_of_mul_le (by omega) (by
      have := Int.mul_le_mul_of_nonneg_left hp (show 0 ≤ -n by omega)
      rw [Int.mul_one, Int.neg_mul] at this; omega)
    have b : n / d < 0 := Int.ediv_neg_of_neg_of_pos hn (by omega)
    omega
  · have a : 0 ≤ n / d := Int.ediv_nonneg hn (by omega)
    have b : n / d ≤ n := Int.ediv_le_self _ hn
    omega
set_option maxRecDepth 100000 in
theorem law_Puts (s : ByteArray) (hs : s.size ≤ maxLen) (n : Int) (n1 : -9223372036854775808 ≤ n) (n2 : n ≤ 9223372036854775807) (sf : Nat) (hsf : sf < 256) (k : Int) (k1 : -9223372036854775808 ≤ k) (k2 : k ≤ 9223372036854775807) (w : World) :
    Calls Try.prog 3 #[.string s, .int .i64 n, .int .u8 sf, .int .i64 k] w fun e w' => e = .returned (.bool true) ∧ Below w.heap.size w w' := by
  unfold maxLen at hs
  have hb := Below.refl w.heap.size w
  go_enter Try.func3, Try.ntmps3
  go_upto_region 2 with fail
  go_cut [0, 31, 32] (fun s0 s31 s32 wx => w = wx ∧ ∃ (t : ByteArray) (x : Int), s0 = .string t ∧ t.size ≤ 20 ∧ s31 = .agg #[.int .i64 k, .int .i64 x, .int .i64 (-1)] ∧ s32 = .int .i64 0 ∧ -9223372036854775808 ≤ x ∧ x ≤ 9223372036854775807)
  case first =>
    go_wp2_with fail
    all_goals
      go_meet
      first
        | exact ⟨rfl, s, _, rfl, by omega, rfl, rfl, (wrap64_range _).1, (wrap64_range _).2⟩
        | exact ⟨rfl, s.extract 0 20, _, rfl, by rw [ByteArray.size_extract]; omega, rfl, rfl, (wrap64_range _).1, (wrap64_range _).2⟩
  case rest =>
    obtain ⟨rfl, t, x, rfl, ht, rfl, rfl, x1, x2⟩ := hcut
    have t20 : t.size ≤ 1000 := by omega
    have t28 := le_max8 t20
    clear hs
    go_wp2_with fail
    go_loopw [32] (fun i wr => ∃ j : Nat, j ≤ 3 ∧ i = .int .i64 j ∧ Below w.heap.size w wr) (fun i _ => 3 - (intOf i).toNat)
    case atStart => exact ⟨0, by omega, rfl, hb⟩
    case round =>
      obtain ⟨j, hj, rfl, hb⟩ := hrel
      by_cases hlt : j < 3
      · obtain ⟨y, hy, y1, y2⟩ : ∃ y : Int, (∀ W, (Instr.index 23 (.agg #[.int .i64 k, .int .i64 x, .int .i64 (-1)]) (.int .i64 (j : Int))).run Try.prog W = .ok (.int .i64 y) W) ∧ -9223372036854775808 ≤ y ∧ y ≤ 9223372036854775807 := by
          have hj3 : j = 0 ∨ j = 1 ∨ j = 2 := by omega
          rcases hj3 with rfl | rfl | rfl
          · exact ⟨k, fun W => by kernel_rfl, k1, k2⟩
          · exact ⟨x, fun W => by kernel_rfl, x1, x2⟩
          · exact ⟨-1, fun W => by kernel_rfl, by omega, by omega⟩
        go_upto_region 5 with fail
        go_cut [10, 54, 55] (fun s10 s54 s55 wx => wr = wx ∧ s10 = .int .i64 y ∧ ∃ m0 m1 m2 m3 m4 m5 : Int, s54 = .agg #[.int .i64 m0, .int .i64 m1, .int .i64 m2, .int .i64 m3, .int .i64 m4, .int .i64 m5] ∧ s55 = .int .i64 0 ∧ (∀ m ∈ [m0, m1, m2, m3, m4, m5], -9223372036854775808 ≤ m ∧ m ≤ 9223372036854775807))
        case first =>
          go_wp2_with fail
          all_goals
            go_meet
            refine ⟨rfl, rfl, _, _, _, _, _, _, rfl, rfl, fun m hm => ?_⟩
            simp only [List.mem_cons, List.not_mem_nil, or_false] at hm
            rcases hm with rfl | rfl | rfl | rfl | rfl | rfl
            · exact ⟨n1, n2⟩
            · exact ediv_range _ _ n1 n2
            all_goals exact wrap64_range _
        case rest =>
          obtain ⟨rfl, rfl, m0, m1, m2, m3, m4, m5, rfl, rfl, hm⟩ := hcut
          have HM := Lib.hid hm
          clear hm hy
          go_wp2_with fail
          obtain ⟨wo, hwo⟩ : ∃ wo : World, wo = wr := ⟨_, rfl⟩
          subst hwo
          go_loopw [55] (fun i wr => ∃ j : Nat, j ≤ 6 ∧ i = .int .i64 j ∧ Below w.heap.size w wr) (fun i _ => 6 - (intOf i).toNat)
          case atStart => exact ⟨0, by omega, rfl, hb⟩
          case round =>
            obtain ⟨i, hi, rfl, hb⟩ := hrel
            by_cases hlt6 : i < 6
            · obtain ⟨m, hy, m1, m2⟩ : ∃ m : Int, (∀ W, (Instr.index 24 (.agg #[.int .i64 m0, .int .i64 m1, .int .i64 m2, .int .i64 m3, .int .i64 m4, .int .i64 m5]) (.int .i64 (i : Int))).run Try.prog W = .ok (.int .i64 m) W) ∧ -9223372036854775808 ≤ m ∧ m ≤ 9223372036854775807 := by
                have hm := HM.out
                have hj3 : i = 0 ∨ i = 1 ∨ i = 2 ∨ i = 3 ∨ i = 4 ∨ i = 5 := by omega
                rcases hj3 with rfl | rfl | rfl | rfl | rfl | rfl
                · exact ⟨m0, fun W => by kernel_rfl, (hm _ (by simp)).1, (hm _ (by simp)).2⟩
                · exact ⟨m1, fun W => by kernel_rfl, (hm _ (by simp)).1, (hm _ (by simp)).2⟩
                · exact ⟨m2, fun W => by kernel_rfl, (hm _ (by simp)).1, (hm _ (by simp)).2⟩
                · exact ⟨m3, fun W => by kernel_rfl, (hm _ (by simp)).1, (hm _ (by simp)).2⟩
                · exact ⟨m4, fun W => by kernel_rfl, (hm _ (by simp)).1, (hm _ (by simp)).2⟩
                · exact ⟨m5, fun W => by kernel_rfl, (hm _ (by simp)).1, (hm _ (by simp)).2⟩
              go_wp2_with (first | (go_at_call 8; refine (carry hb (Put_any t t28 m y m1 m2 _)).mono ?_; clear hb; rintro e w1 ⟨rfl, hb⟩) | (go_at_call 9; refine (carry hb (ref_Put t t28 m y m1 m2 _)).mono ?_; clear hb; rintro e w1 ⟨rfl, hb⟩) | (go_at_call 10; refine (carry hb (PutSigned_any t t28 m y m1 m2 _)).mono ?_; clear hb; rintro e w1 ⟨rfl, hb⟩) | (go_at_call 11; refine (carry hb (ref_PutSigned t t28 m y m1 m2 _)).mono ?_; clear hb; rintro e w1 ⟨rfl, hb⟩))
              go_roundw
              case rel => exact ⟨i + 1, by omega, by go_num, hb⟩
              case measure => simp [intOf]; omega
            · go_wp2_with fail
              go_roundw
              case rel => exact ⟨j + 1, by omega, by go_num, hb⟩
              case measure => simp [intOf]; omega
      · go_wp2_with (go_at_call 12; refine (carry hb (works_any _)).mono ?_; rintro e w1 ⟨rfl, hb1⟩)
        go_ret
        exact ⟨rfl, hb1⟩
end WireW
end Go.Proofs.Ytchfckehobenkaa
