/- MeterRuns: the walk of the law. -/
import Derived.Test.YtgpknoakkkkapaaMtZ
import Derived.Test.YtgpknoakkkkapaaMtH
import Derived.Test.YtgpknoakkkkapaaMtY
import Derived.Test.YtgpknoakkkkapaaDraft
import Derived.Deep.DeepCutAuto
namespace Go.Proofs.Ytgpknoakkkkapaa
set_option linter.unusedSimpArgs false
set_option linter.unusedVariables false
open Go.RowKit
namespace MtW
theorem arr_take {w : World} {B : Nat} {A : Option Addr} {l : List (Int × Int)} (h : Tr.Arr w B A l) (n : Nat) : Tr.Arr w B A (l.take n) := fun i x hx => by
  rw [List.getElem?_take] at hx
  split at hx
  · exact h i x hx
  · cases hx
set_option maxRecDepth 100000 in
set_option maxHeartbeats 4000000 in
theorem law_Runs (b0 r0 b1 r1 : Int) (A : Option Addr) (l : List (Int × Int)) (cap : Nat) (x y : Nat) (hx : x < 4294967296) (hy : y < 4294967296) (G : Option Addr) (gs : List Int) (cg : Nat) (S : Option Addr) (ss : List Int) (cs : Nat) (n m : Nat) (hn : n < 4294967296) (hm : m < 4294967296) (w : World)
    (hA : Tr.Arr w w.heap.size A l) (hlc : l.length ≤ cap) (hcm : cap ≤ maxLen) (hG : Mem.Row w w.heap.size G (Mem.nums .u16 gs)) (hS : Mem.Row w w.heap.size S (Mem.nums .u16 ss)) (bG : ∀ n ∈ gs, 0 ≤ n ∧ n ≤ 65535) (bS : ∀ n ∈ ss, 0 ≤ n ∧ n ≤ 65535) (lG : gs.length ≤ maxLen) (lS : ss.length ≤ maxLen) :
    Calls Try.prog 4 #[.agg #[.int .i64 b0, .int .i64 r0, .int .i64 b1, .int .i64 r1], .slice A l.length cap, .agg #[.int .u32 x, .int .u32 y, .slice G gs.length cg, .slice S ss.length cs], .agg #[.int .u32 n, .int .u32 m]] w fun e w' => e = .returned (.bool true) ∧ Below w.heap.size w w' := by
  obtain ⟨b, r, b2, r2, p1, p2, p3, p4, p5, p6, p7, p8, _, _, PR⟩ := Pair_some x y hx hy (.slice G gs.length cg) (.slice S ss.length cs) (IntKind.u16.wrap (n : Int)) m (by show 0 ≤ (n : Int) % 65536; omega) (by show (n : Int) % 65536 < 65536; omega) (by omega) (by omega)
  have HP := Lib.hid PR
  have HA := Lib.hid (arr_take hA 40)
  have HG := Lib.hid hG
  have HS := Lib.hid hS
  have HBG := Lib.hid (And.intro bG (And.intro bS (And.intro lG lS)))
  clear PR hA hG hS bG bS lG lS
  unfold maxLen at hcm
  have l0 : (0 : Int) ≤ (l.length : Int) := by omega
  have l1 : (l.length : Int) ≤ (cap : Int) := by omega
  have hm0 : (0 : Int) ≤ min (l.length : Int) 40 := by omega
  have hm1 : min (l.length : Int) 40 ≤ (cap : Int) := by omega
  go_enter Try.func4, Try.ntmps4
  go_upto_region 1 with fail
  obtain ⟨W0, hW0⟩ : ∃ W0, (((w.alloc (.cells #[.int .i64 b0, .int .i64 r0, .int .i64 b1, .int .i64 r1] 24)).alloc (.cells #[.int .u32 x, .int .u32 y, .slice G gs.length cg, .slice S ss.length cs] 28)).alloc (.cells #[.int .u32 n, .int .u32 m] 29)) = W0 := ⟨_, rfl⟩
  have k0 : W0.cell? ⟨w.heap.size, 0, none⟩ = some (.int .i64 b0) := by rw [← hW0]; simp [go_sem]
  have k1 : W0.cell? ⟨w.heap.size, 1, none⟩ = some (.int .i64 r0) := by rw [← hW0]; simp [go_sem]
  have k2 : W0.cell? ⟨w.heap.size, 2, none⟩ = some (.int .i64 b1) := by rw [← hW0]; simp [go_sem]
  have k3 : W0.cell? ⟨w.heap.size, 3, none⟩ = some (.int .i64 r1) := by rw [← hW0]; simp [go_sem]
  have d0 : W0.cell? ⟨w.heap.size + 1, 0, none⟩ = some (.int .u32 x) := by rw [← hW0]; simp [go_sem]
  have d1 : W0.cell? ⟨w.heap.size + 1, 1, none⟩ = some (.int .u32 y) := by rw [← hW0]; simp [go_sem]
  have d2 : W0.cell? ⟨w.heap.size + 1, 2, none⟩ = some (.slice G gs.length cg) := by rw [← hW0]; simp [go_sem]
  have d3 : W0.cell? ⟨w.heap.size + 1, 3, none⟩ = some (.slice S ss.length cs) := by rw [← hW0]; simp [go_sem]
  have n0 : W0.cell? ⟨w.heap.size + 1 + 1, 0, none⟩ = some (.int .u32 n) := by rw [← hW0]; simp [go_sem]
  have n1 : W0.cell? ⟨w.heap.size + 1 + 1, 1, none⟩ = some (.int .u32 m) := by rw [← hW0]; simp [go_sem]
  have z0 : w.heap.size + 1 + 1 < W0.heap.size := by rw [← hW0]; simp
  have HW : Hid (Below w.heap.size w W0) := by rw [← hW0]; apply Lib.hid; (repeat' (first | (with_reducible exact Below.refl _ _) | (with_reducible refine Below.alloc ?_ ?_ _) | (with_reducible refine Below.setCell ?_ ?_ _) | (with_reducible refine Below.drew ?_) | (with_reducible assumption) | omega | (simp; done) | (simp; omega)))
  have HK := Lib.hid (And.intro k0 (And.intro k1 (And.intro k2 (And.intro k3 (And.intro d0 (And.intro d1 (And.intro d2 d3)))))))
  rw [hW0]
  clear hW0 k0 k1 k2 k3
  go_cut [1] (fun s wx => W0 = wx ∧ s = .slice A (l.take 40).length cap)
  case first =>
    have e40 : (l.take 40).length = min 40 l.length := List.length_take
    by_cases h40 : l.length ≤ 40
    · have hmn : min (l.length : Int) 40 = (l.length : Int) := by omega
      have he : (l.take 40).length = l.length := by omega
      have HE := Lib.hid he
      clear e40 he
      go_wp2_with fail
      all_goals
        go_meet
        exact ⟨rfl, by rw [HE.out]⟩
    · have hmn : min (l.length : Int) 40 = 40 := by omega
      have he : (l.take 40).length = 40 := by omega
      have HE := Lib.hid he
      clear e40 he
      go_wp2_with fail
      all_goals
        go_meet
        exact ⟨rfl, by rw [HE.out]⟩
  case rest =>
    obtain ⟨rfl, rfl⟩ := hcut
    have ht40 : (l.take 40).length ≤ 40 := by rw [List.length_take]; omega
    have HA0 := Lib.hid (Tr.Arr.of_lt (HA.out.below HW.out) HW.out.size)
    clear l0 l1 hm0 hm1 hlc hcm HA
    generalize l.take 40 = la at *
    go_wp2_with fail
    refine (HP.out _).mono ?_
    rintro e w1 ⟨rfl, hb⟩
    have s1 := hb.size
    have HB1 := Lib.hid hb
    have k0 := below_cell hb HK.out.1 (by omega)
    have k1 := below_cell hb HK.out.2.1 (by omega)
    have k2 := below_cell hb HK.out.2.2.1 (by omega)
    have k3 := below_cell hb HK.out.2.2.2.1 (by omega)
    clear hb d0 d1 d2 d3 n0 n1
    have le_w1_0_0 : w.heap.size ≤ w1.heap.size := by omega
    have le_w1_0_1 : w.heap.size ≤ w1.heap.size + 1 := by omega
    have le_w1_0_2 : w.heap.size ≤ w1.heap.size + 1 + 1 := by omega
    have le_w1_0_3 : w.heap.size ≤ w1.heap.size + 1 + 1 + 1 := by omega
    have lu_w1_0_1 : w.heap.size < w1.heap.size + 1 := by omega
    have lu_w1_0_2 : w.heap.size < w1.heap.size + 1 + 1 := by omega
    have lu_w1_0_3 : w.heap.size < w1.heap.size + 1 + 1 + 1 := by omega
    have lt_w1_0_0 : w.heap.size < w1.heap.size := by omega
    have lt_w1_0_1 : w.heap.size + 1 < w1.heap.size := by omega
    have lt_w1_0_2 : w.heap.size + 1 + 1 < w1.heap.size := by omega
    go_wp2_with fail
    obtain ⟨W1, hW1⟩ : ∃ W1, (w1.alloc (.cells #[.int .i64 b, .int .i64 r] 23)).alloc (.cells #[.int .i64 b2, .int .i64 r2] 23) = W1 := ⟨_, rfl⟩
    have HB2 : Hid (Below W0.heap.size W0 W1) := by rw [← hW1]; exact Lib.hid ((HB1.out.alloc HB1.out.size _).alloc (by have := HB1.out.size; simp; omega) _)
    have s2 := HB2.out.size
    rw [hW1]
    clear hW1 k0 k1 k2 k3 HB1 s1
    go_loopw [45] (fun i wr => ∃ k : Nat, k ≤ 4 ∧ i = .int .i64 k ∧ Below W1.heap.size W1 wr) (fun i _ => 4 - (intOf i).toNat)
    case atStart => exact ⟨0, by omega, rfl, Below.refl _ _⟩
    case round =>
      obtain ⟨k, hk, rfl, hbr⟩ := hrel
      obtain ⟨wo, rfl⟩ : ∃ wo : World, wo = wr := ⟨_, rfl⟩
      have HR := Lib.hid hbr
      have lr := hbr.size
      clear hbr
      have hw0 : Below W0.heap.size W0 wo := HB2.out.trans (HR.out.mono s2)
      by_cases hlt : k < 4
      · obtain ⟨kb, kr, kb2, kr2, hix⟩ : ∃ kb kr kb2 kr2 : Int, ∀ W, (Instr.index 38 (.agg #[.int .i64 b0, .int .i64 r0, .int .i64 b1, .int .i64 r1, .int .i64 b, .int .i64 r, .int .i64 b2, .int .i64 r2, .int .i64 b, .int .i64 r, .int .i64 b, .int .i64 r, .int .i64 b2, .int .i64 r2, .int .i64 b, .int .i64 r]) (.int .i64 (k : Int))).run Try.prog W = .ok (.agg #[.int .i64 kb, .int .i64 kr, .int .i64 kb2, .int .i64 kr2]) W := by
          have h4 : k = 0 ∨ k = 1 ∨ k = 2 ∨ k = 3 := by omega
          rcases h4 with rfl | rfl | rfl | rfl
          · exact ⟨b0, r0, b1, r1, fun W => by kernel_rfl⟩
          · exact ⟨b, r, b2, r2, fun W => by kernel_rfl⟩
          · exact ⟨b, r, b, r, fun W => by kernel_rfl⟩
          · exact ⟨b2, r2, b, r, fun W => by kernel_rfl⟩
        have d0 := below_cell hw0 HK.out.2.2.2.2.1 (by omega)
        have d1 := below_cell hw0 HK.out.2.2.2.2.2.1 (by omega)
        have d2 := below_cell hw0 HK.out.2.2.2.2.2.2.1 (by omega)
        have d3 := below_cell hw0 HK.out.2.2.2.2.2.2.2 (by omega)
        have hwo0 : Below w.heap.size w wo := HW.out.trans (hw0.mono HW.out.size)
        have HWO := Lib.hid hwo0
        have HW0 := Lib.hid hw0
        clear hw0 hwo0
        have le_wo_0_0 : w.heap.size ≤ wo.heap.size := by omega
        have le_wo_0_1 : w.heap.size ≤ wo.heap.size + 1 := by omega
        have le_wo_0_2 : w.heap.size ≤ wo.heap.size + 1 + 1 := by omega
        have le_wo_0_3 : w.heap.size ≤ wo.heap.size + 1 + 1 + 1 := by omega
        have lu_wo_0_1 : w.heap.size < wo.heap.size + 1 := by omega
        have lu_wo_0_2 : w.heap.size < wo.heap.size + 1 + 1 := by omega
        have lu_wo_0_3 : w.heap.size < wo.heap.size + 1 + 1 + 1 := by omega
        have lt_wo_0_0 : w.heap.size < wo.heap.size := by omega
        have lt_wo_0_1 : w.heap.size + 1 < wo.heap.size := by omega
        have lt_wo_0_2 : w.heap.size + 1 + 1 < wo.heap.size := by omega
        go_wp2_with fail
        obtain ⟨Wk, hWk⟩ : ∃ Wk, wo.alloc (.cells #[.int .i64 kb, .int .i64 kr, .int .i64 kb2, .int .i64 kr2] 24) = Wk := ⟨_, rfl⟩
        have K0 : Wk.cell? ⟨wo.heap.size, 0, none⟩ = some (.int .i64 kb) := by rw [← hWk]; simp [go_sem]
        have K1 : Wk.cell? ⟨wo.heap.size, 1, none⟩ = some (.int .i64 kr) := by rw [← hWk]; simp [go_sem]
        have K2 : Wk.cell? ⟨wo.heap.size, 2, none⟩ = some (.int .i64 kb2) := by rw [← hWk]; simp [go_sem]
        have K3 : Wk.cell? ⟨wo.heap.size, 3, none⟩ = some (.int .i64 kr2) := by rw [← hWk]; simp [go_sem]
        have Kz : wo.heap.size < Wk.heap.size := by rw [← hWk]; simp
        have hwk : Below wo.heap.size wo Wk := by rw [← hWk]; exact (Below.refl _ _).alloc (Nat.le_refl _) _
        rw [hWk]
        have HWK := Lib.hid (HWO.out.trans (hwk.mono HWO.out.size))
        have HRK := Lib.hid (HR.out.trans (hwk.mono lr))
        have HRK0 := Lib.hid (HW0.out.trans (hwk.mono HW0.out.size))
        have sk := hwk.size
        have HKK := Lib.hid (And.intro K0 (And.intro K1 (And.intro K2 K3)))
        clear hWk hwk hix d0 d1 d2 d3
        refine (DrW.Trace_any x y G gs cg S ss cs _ ((HG.out.below HWK.out).of_lt HWK.out.size) ((HS.out.below HWK.out).of_lt HWK.out.size) HBG.out.1 HBG.out.2.1 HBG.out.2.2.1 HBG.out.2.2.2).mono ?_
        rintro e w2 ⟨⟨v2, rfl, hown⟩, hb⟩
        obtain ⟨_, A2, c2, rfl, hA2⟩ := Mem.own_arr hown
        have HK2 := Lib.hid hb
        have sk2 := hb.size
        have HA2 := Lib.hid hA2
        have HA1 : Hid (Tr.Arr w2 w2.heap.size A la) := Lib.hid (Tr.Arr.of_lt (Tr.Arr.below HA0.out (HRK0.out.trans (hb.mono (by omega)))) (by omega))
        have ht30 : (Dr.trace gs ss).length ≤ 30 := by rw [Dr.trace_length]; omega
        clear hown hA2 hb K0 K1 K2 K3
        generalize Dr.trace gs ss = lb at *
        go_wp2_with fail
        go_loopw [52] (fun i wr => ∃ q : Nat, q ≤ 2 ∧ i = .int .i64 q ∧ Below w2.heap.size w2 wr) (fun i _ => 2 - (intOf i).toNat)
        case atStart => exact ⟨0, by omega, rfl, Below.refl _ _⟩
        case round =>
          obtain ⟨q, hq, rfl, hbr⟩ := hrel
          have HQ := Lib.hid hbr
          have lq := hbr.size
          by_cases hlt2 : q < 2
          · obtain ⟨Aq, tq, cq, hix, hAq, hlq⟩ : ∃ (Aq : Option Addr) (tq : List (Int × Int)) (cq : Nat), (∀ W, (Instr.index 52 (.agg #[.slice A la.length cap, .slice A2 lb.length c2]) (.int .i64 (q : Int))).run Try.prog W = .ok (.slice Aq tq.length cq) W) ∧ Tr.Arr w2 w2.heap.size Aq tq ∧ tq.length ≤ 100000 := by
              have h2 : q = 0 ∨ q = 1 := by omega
              rcases h2 with rfl | rfl
              · exact ⟨A, la, cap, fun W => by kernel_rfl, HA1.out, by omega⟩
              · exact ⟨A2, lb, c2, fun W => by kernel_rfl, HA2.out, by omega⟩
            have HAQ := Lib.hid hAq
            obtain ⟨L, E, hL, R1, R2⟩ := Run_both kb kr kb2 kr2 tq hlq
            have H1 := Lib.hid R1
            have H2 := Lib.hid R2
            have hkq : Below Wk.heap.size Wk wr := HK2.out.trans (hbr.mono HK2.out.size)
            have K0 := below_cell hkq HKK.out.1 (by omega)
            have K1 := below_cell hkq HKK.out.2.1 (by omega)
            have K2 := below_cell hkq HKK.out.2.2.1 (by omega)
            have K3 := below_cell hkq HKK.out.2.2.2 (by omega)
            have HKQ := Lib.hid hkq
            clear hbr hAq R1 R2 hkq
            go_wp2_with fail
            refine (H1.out Aq cq _ (Tr.Arr.of_lt (HAQ.out.below HQ.out) HQ.out.size)).mono ?_
            rintro e w3 ⟨⟨v3, rfl, hown3⟩, hb3⟩
            have HB3 := Lib.hid hb3
            have HQ3 : Hid (Below w2.heap.size w2 w3) := Lib.hid (HQ.out.trans (hb3.mono HQ.out.size))
            have HO3 := Lib.hid hown3
            clear K0 K1 K2 K3
            have hk3 : Below Wk.heap.size Wk w3 := HKQ.out.trans (hb3.mono HKQ.out.size)
            have K0 := below_cell hk3 HKK.out.1 (by omega)
            have K1 := below_cell hk3 HKK.out.2.1 (by omega)
            have K2 := below_cell hk3 HKK.out.2.2.1 (by omega)
            have K3 := below_cell hk3 HKK.out.2.2.2 (by omega)
            clear hb3 hown3 hk3
            go_wp2_with fail
            refine (H2.out Aq cq _ (Tr.Arr.of_lt (HAQ.out.below HQ3.out) HQ3.out.size)).mono ?_
            rintro e w4 ⟨⟨v4, rfl, hown4⟩, hb4⟩
            obtain ⟨A3, c3, rfl, hI3⟩ := own_slice (Mem.own_below HO3.out hb4)
            obtain ⟨A4, c4, rfl, hI4⟩ := own_slice hown4
            have HQ4 : Hid (Below w2.heap.size w2 w4) := Lib.hid (HQ3.out.trans (hb4.mono HQ3.out.size))
            have SM := Same_any A3 L c3 A4 L c4 w4 hI3 hI4 hL
            rw [decide_eq_true rfl] at SM
            have HSM := Lib.hid SM
            clear hown4 hb4 hI3 hI4 SM K0 K1 K2 K3 HO3 hix
            go_wp2_with fail
            refine (HSM.out).mono ?_
            rintro e w5 ⟨rfl, hb5⟩
            have HQ5 : Hid (Below w2.heap.size w2 w5) := Lib.hid (HQ4.out.trans (hb5.mono HQ4.out.size))
            clear hb5
            go_wp2_with fail
            go_roundw
            case rel => exact ⟨q + 1, by omega, by go_num, HQ5.out⟩
            case measure => simp [intOf]; omega
          · clear hbr
            go_wp2_with fail
            go_roundw
            case rel => exact ⟨k + 1, by omega, by go_num, HRK.out.trans ((HK2.out.trans (HQ.out.mono HK2.out.size)).mono (by omega))⟩
            case measure => simp [intOf]; omega
      · have HW0 := Lib.hid (HW.out.trans (hw0.mono HW.out.size))
        clear hw0
        go_wp2_with fail
        refine (works_any _).mono ?_
        rintro e w11 ⟨rfl, hb⟩
        have HW9 := Lib.hid (HW0.out.trans (hb.mono HW0.out.size))
        clear hb
        go_wp2_with fail
        go_ret
        exact ⟨rfl, HW9.out⟩
end MtW
end Go.Proofs.Ytgpknoakkkkapaa
