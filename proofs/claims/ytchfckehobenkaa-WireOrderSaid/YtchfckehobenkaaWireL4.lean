/- WireBack: the walk of the law. -/
import Derived.Test.YtchfckehobenkaaWireL3
import Derived.BigRegion
import Derived.Deep.RegionWith
import Derived.Lib.MinMax
namespace Go.Proofs.Ytchfckehobenkaa
open Go.RowKit
namespace WireW
theorem u64_mod (n p : Int) (h1 : 0 < p) (h2 : p ≤ 72057594037927936) : 0 ≤ wrap64 ((IntKind.u64.wrap n).tmod p) ∧ wrap64 ((IntKind.u64.wrap n).tmod p) < p := by
  have h : 0 ≤ IntKind.u64.wrap n := by show 0 ≤ n % 18446744073709551616; omega
  rw [Int.tmod_eq_emod_of_nonneg h]
  have a := Int.emod_nonneg (IntKind.u64.wrap n) (show p ≠ 0 by omega)
  have b := Int.emod_lt_of_pos (IntKind.u64.wrap n) h1
  unfold wrap64; omega
set_option maxRecDepth 100000 in
set_option maxHeartbeats 4000000 in
theorem law_Back (s : ByteArray) (hs : s.size ≤ maxLen) (n : Int) (n1 : -9223372036854775808 ≤ n) (n2 : n ≤ 9223372036854775807) (o : Nat) (ho : o < 256) (b : ByteArray) (hs' : b.size ≤ maxLen) (w : World) :
    Calls Try.prog 5 #[.string s, .int .i64 n, .int .u8 o, .string b] w fun e w' => e = .returned (.bool true) ∧ Below w.heap.size w w' := by
  unfold maxLen at hs hs'
  have hb := Below.refl w.heap.size w
  go_enter Try.func5, Try.ntmps5
  go_wp2_with (go_at_call 12; refine (carry hb (works_any _)).mono ?_; clear hb; rintro e w1 ⟨rfl, hb⟩)
  obtain ⟨k, hk, k2, k3⟩ : ∃ k : Nat, min (s.size : Int) 20 = (k : Int) ∧ k ≤ 20 ∧ k ≤ s.size := ⟨min s.size 20, by omega, by omega, by omega⟩
  obtain ⟨j, hj, j2, j3⟩ : ∃ k : Nat, min (b.size : Int) 20 = (k : Int) ∧ k ≤ 20 ∧ k ≤ b.size := ⟨min b.size 20, by omega, by omega, by omega⟩
  have hi : (k : Int) ≤ (s.size : Int) := by omega
  have hi' : (j : Int) ≤ (b.size : Int) := by omega
  have e1 : ∀ W, (Instr.slice 9 (.string s) none (some (.int .i64 (k : Int))) none).run Try.prog W = .ok (.string (s.extract 0 k)) W := fun W => by
    rw [run_slice_string_to_if W 9 s .i64 _ Try.underlying9, if_pos ⟨by omega, hi⟩]; rfl
  have e2 : ∀ W, (Instr.slice 9 (.string b) none (some (.int .i64 (j : Int))) none).run Try.prog W = .ok (.string (b.extract 0 j)) W := fun W => by
    rw [run_slice_string_to_if W 9 b .i64 _ Try.underlying9, if_pos ⟨by omega, hi'⟩]; rfl
  have ht : (s.extract 0 k).size ≤ 20 := by rw [ByteArray.size_extract]; omega
  have hc : (b.extract 0 j).size ≤ 20 := by rw [ByteArray.size_extract]; omega
  clear k3 j3 hi hi'
  generalize s.extract 0 k = t at *
  generalize b.extract 0 j = c at *
  go_region
  have hb2 := hb.drew
  clear hb
  generalize w1.drew = w2 at *
  go_upto_region 4 with fail
  go_cut [9] (fun s9 wx => w2 = wx ∧ ∃ K : Nat, s9 = .int .i64 (K : Int) ∧ 1 ≤ K ∧ K ≤ 7)
  case first =>
    go_wp2_with fail
    go_meet
    refine ⟨rfl, o % 7 + 1, ?_, ?_, ?_⟩
    · go_num
    · omega
    · omega
  case rest =>
    obtain ⟨rfl, K, rfl, k1, k7⟩ := hcut
    clear e1 e2 hk hj k2 j2 ho hs hs'
    have KK : K = 1 ∨ K = 2 ∨ K = 3 ∨ K = 4 ∨ K = 5 ∨ K = 6 ∨ K = 7 := by omega
    go_upto_region 5 with fail
    go_cut [9, 10] (fun s9 s10 wx => w2 = wx ∧ s9 = .int .i64 (K : Int) ∧ ∃ m : Int, s10 = .int .i64 m ∧ 0 ≤ m ∧ m < Wire.pw K)
    case first =>
      rcases KK with rfl | rfl | rfl | rfl | rfl | rfl | rfl
      all_goals
        go_wp2_with fail
        go_meet
        refine ⟨rfl, rfl, _, rfl, ?_⟩
        exact u64_mod _ _ (by decide) (by decide)
    case rest =>
      obtain ⟨rfl, rfl, m, rfl, m1, m2⟩ := hcut
      obtain ⟨sm, hsm, sm1, sm2⟩ : ∃ sm : Int, sm = n / 2 ^ (64 - 8 * K) ∧ -(Wire.pw K / 2) ≤ sm ∧ sm < Wire.pw K / 2 := by
        refine ⟨_, rfl, ?_⟩
        rcases KK with rfl | rfl | rfl | rfl | rfl | rfl | rfl <;> (simp only [Wire.pw]; omega)
      obtain ⟨p, u, v, tb, ub, vb, d, B⟩ := back t c ht hc n m sm K k1 k7 n1 n2 m1 m2 sm1 sm2
      have BB := Lib.hid B
      clear B
      go_upto_region 8 with (first | (go_at_call 8; refine (carry hb2 (BB.out.c1 _)).mono ?_; clear hb2; rintro e w1 ⟨rfl, hb2⟩) | (go_at_call 10; refine (carry hb2 (BB.out.c2 _)).mono ?_; clear hb2; rintro e w1 ⟨rfl, hb2⟩))
      go_cut [9, 15] (fun s9 s15 wx => w1 = wx ∧ s9 = .int .i64 (K : Int) ∧ s15 = .int .i64 sm)
      case first =>
        rcases KK with rfl | rfl | rfl | rfl | rfl | rfl | rfl
        all_goals
          go_wp2_with fail
          go_meet
          exact ⟨rfl, rfl, int_eq hsm.symm⟩
      case rest =>
        obtain ⟨rfl, rfl, rfl⟩ := hcut
        have lt := BB.out.lt
        have lu := BB.out.lu
        have lv := BB.out.lv
        have et := BB.out.et
        have eu := BB.out.eu
        have ev := BB.out.ev
        have ed : ∀ W, (Instr.slice 9 (.string p) (some (.int .i64 (t.size : Int))) none none).run Try.prog W = .ok (.string d) W := fun W => by
          rw [run_slice_string_from_if W 9 p .i64 _ Try.underlying9, if_pos ⟨by omega, by omega⟩, Int.toNat_natCast, BB.out.ed]
        clear KK hsm
        go_wp2_with (first
          | (go_at_call 10; refine (carry hb2 (BB.out.c3 _)).mono ?_; clear hb2; rintro e w1 ⟨rfl, hb2⟩)
          | (go_at_call_of 15 (Value.string ub); refine (carry0 hb2 (BB.out.c4 _)).mono ?_; clear hb2; rintro e w1 ⟨rfl, hb2⟩)
          | (go_at_call_of 15 (Value.string vb); refine (carry0 hb2 (BB.out.c5 _)).mono ?_; clear hb2; rintro e w1 ⟨rfl, hb2⟩)
          | (go_at_call 19; refine (carry0 hb2 (BB.out.c6 _)).mono ?_; clear hb2; rintro e w1 ⟨rfl, hb2⟩))
        refine (carry0 hb2 (BB.out.c7 _)).mono ?_
        clear hb2
        rintro e w1 ⟨rfl, hb2⟩
        go_wp2_with fail
        refine (carry0 hb2 (BB.out.c8 _)).mono ?_
        clear hb2
        rintro e w1 ⟨rfl, hb2⟩
        go_wp2_with fail
        go_ret
        exact ⟨rfl, hb2⟩
end WireW
end Go.Proofs.Ytchfckehobenkaa
