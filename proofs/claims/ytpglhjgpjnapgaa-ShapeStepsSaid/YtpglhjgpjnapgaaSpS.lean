/- ShapeSteps: the walk of the law. -/
import Derived.Test.YtpglhjgpjnapgaaSpD
import Derived.Deep.DeepCutAuto
namespace Go.Proofs.Ytpglhjgpjnapgaa
set_option linter.unusedSimpArgs false
set_option linter.unusedVariables false
open Go.RowKit
namespace SpW
set_option maxRecDepth 100000 in
set_option maxHeartbeats 8000000 in
theorem law_Steps (x y : Nat) (hx : x < 4294967296) (hy : y < 4294967296) (G : Option Addr) (gs : List Int) (cg : Nat) (S : Option Addr) (ss : List Int) (cs : Nat) (AD : Option Addr) (ds : List Int) (cd : Nat) (w : World)
    (hG : Mem.Row w w.heap.size G (Mem.nums .u16 gs)) (hS : Mem.Row w w.heap.size S (Mem.nums .u16 ss)) (bG : ∀ n ∈ gs, 0 ≤ n ∧ n ≤ 65535) (bS : ∀ n ∈ ss, 0 ≤ n ∧ n ≤ 65535) (lG : gs.length ≤ maxLen) (lS : ss.length ≤ maxLen)
    (hA : Mem.Row w w.heap.size AD (Mem.nums .u16 ds)) (bA : ∀ n ∈ ds, 0 ≤ n ∧ n ≤ 65535) (lc : ds.length ≤ cd) (cm : cd ≤ maxLen) :
    Calls Try.prog 5 #[.agg #[.int .u32 x, .int .u32 y, .slice G gs.length cg, .slice S ss.length cs], .slice AD ds.length cd] w fun e w' => e = .returned (.bool true) ∧ Below w.heap.size w w' := by
  obtain ⟨b, hb0⟩ : ∃ b : Int, 1 + (x : Int) % 1048576 = b := ⟨_, rfl⟩
  obtain ⟨r, hr0⟩ : ∃ r : Int, 1 + (y : Int) % 2097152 = r := ⟨_, rfl⟩
  have hbb : 1 ≤ b ∧ b ≤ 1048576 := by omega
  have hrr : 1 ≤ r ∧ r ≤ 2097152 := by omega
  have hok := Dr.trace_ok bG bS
  have hmem := Dr.trace_at bG bS
  have h30 : (Dr.trace gs ss).length ≤ 30 := by rw [Dr.trace_length]; omega
  have FT := Lib.hid (fun W hG hS => fitting_any x y hx hy G gs cg S ss cs b r hb0 hr0 W hG hS bG bS lG lS)
  generalize Dr.trace gs ss = l at *
  obtain ⟨fl1, fl2, fl3⟩ := Sp.fit_law hbb hrr hmem h30
  obtain ⟨sl1, sl2, sl3, sl4, sl5⟩ := Sp.steps_law (ds := ds) hbb hrr hok hmem h30 bA
  obtain ⟨LT, hLT⟩ : ∃ LT, Sp.late id 0 ds l = LT := ⟨_, rfl⟩
  rw [hLT] at sl1 sl2 sl3 sl4 sl5
  generalize Sp.fitB b l = fb at *
  generalize max r 1024 = fr at *
  have RG := Lib.hid (fun A cap W hA => Run_good fb fr A l cap fl1 hok fl2 fl3 W hA)
  have RL := (fun A cap W hA => Run_good fb fr A LT cap fl1 sl1 sl2 sl3 W hA)
  simp only [show LT.length = l.length from sl4] at RL
  have RL := Lib.hid RL
  have NW := New_any fb fr
  rw [show Bk.chk fb fr = 0 by unfold Bk.chk; rw [fl1]; rfl, show Sp.newT fb fr = fb * 1048576 by unfold Sp.newT; rw [fl1]; rfl] at NW
  have NW := Lib.hid NW
  obtain ⟨o1, o2, o3, o4⟩ := Bk.ok_iff.1 fl1
  have hst0 : Sp.St fb fr 0 (fb * 1048576) := ⟨o1, o2, o3, o4, by omega, by omega, by omega, by omega⟩
  have hrl := Sp.run_length fb fr l 0 (fb * 1048576)
  have hrt := Sp.run_length fb fr LT 0 (fb * 1048576)
  have HST0 := Lib.hid hst0
  have hll : LT.length = l.length := sl4
  have HLT := Lib.hid hLT
  have HG := Lib.hid hG
  have HS := Lib.hid hS
  have HM := Lib.hid hmem
  have HDS := Lib.hid hA
  have HBD := Lib.hid bA
  have HZ := Lib.hid fl2
  have HT := Lib.hid fl3
  have HMO := Lib.hid sl5
  have HRL := Lib.hid (And.intro hrl hrt)
  obtain ⟨ia, ha0, ha1, ha2, ha3⟩ := info_parts Mem.arr_info
  have IA := Lib.hid (And.intro ha0 (And.intro ha1 (And.intro ha2 ha3)))
  unfold maxLen at cm
  clear hmem hLT fl1 fl2 fl3 sl1 sl2 sl3 sl4 sl5 hok hG hS bG bS lG lS hA bA ha0 ha1 ha2 ha3 hb0 hr0 hst0 hrl hrt hbb hrr
  have A0 : Hid (Below w.heap.size w w) := Lib.hid (Below.refl _ _)
  go_enter Try.func5, Try.ntmps5
  go_wp2_with fail
  refine (works_any _).mono ?_
  rintro e w1 ⟨rfl, hb_⟩
  have s_w1 := hb_.size
  try simp only [World.size_alloc] at s_w1
  have hm_w1 : Below w.heap.size w w1 := Below.trans (b := (w.alloc (.cells #[.int .u32 x, .int .u32 y, .slice G gs.length cg, .slice S ss.length cs] 27))) (by (repeat' (first | (with_reducible exact Below.refl _ _) | (with_reducible refine Below.alloc ?_ ?_ _) | (with_reducible refine Below.setCell ?_ ?_ _) | (with_reducible refine Below.drew ?_) | (with_reducible assumption) | omega | (simp; done) | (simp; omega)))) (hb_.mono (by first | (simp; done) | (simp; omega)))
  have q_w1 := hm_w1.size
  replace HG := Lib.hid ((HG.out.below hm_w1).of_lt hm_w1.size)
  replace HS := Lib.hid ((HS.out.below hm_w1).of_lt hm_w1.size)
  replace HDS := Lib.hid ((HDS.out.below hm_w1).of_lt hm_w1.size)
  replace A0 := Lib.hid (A0.out.trans (hm_w1.mono A0.out.size))
  have c_d_0 : w1.cell? ⟨w.heap.size, 0, none⟩ = some (.int .u32 x) := by rw [(bcell hb_).1 _ _ (by first | (simp; done) | (simp; omega))]; simp [go_sem]
  have c_d_1 : w1.cell? ⟨w.heap.size, 1, none⟩ = some (.int .u32 y) := by rw [(bcell hb_).1 _ _ (by first | (simp; done) | (simp; omega))]; simp [go_sem]
  have c_d_2 : w1.cell? ⟨w.heap.size, 2, none⟩ = some (.slice G gs.length cg) := by rw [(bcell hb_).1 _ _ (by first | (simp; done) | (simp; omega))]; simp [go_sem]
  have c_d_3 : w1.cell? ⟨w.heap.size, 3, none⟩ = some (.slice S ss.length cs) := by rw [(bcell hb_).1 _ _ (by first | (simp; done) | (simp; omega))]; simp [go_sem]
  have lt_w1_0_0 : w.heap.size < w1.heap.size := by omega
  obtain ⟨le_w1_0_0, le_w1_0_1, le_w1_0_2, le_w1_0_3, lu_w1_0_1, lu_w1_0_2, lu_w1_0_3⟩ := lts lt_w1_0_0
  clear hm_w1
  clear hb_
  go_wp2_with fail
  refine (FT.out _ HG.out HS.out).mono ?_
  rintro e w2 ⟨⟨A, cap, rfl, hAA⟩, hb_⟩
  have hm_w2 : Below w1.heap.size w1 w2 := hb_
  have q_w2 := hm_w2.size
  replace c_d_0 := below_cell hm_w2 c_d_0 lt_w1_0_0
  replace c_d_1 := below_cell hm_w2 c_d_1 lt_w1_0_0
  replace c_d_2 := below_cell hm_w2 c_d_2 lt_w1_0_0
  replace c_d_3 := below_cell hm_w2 c_d_3 lt_w1_0_0
  replace HG := Lib.hid ((HG.out.below hm_w2).of_lt hm_w2.size)
  replace HS := Lib.hid ((HS.out.below hm_w2).of_lt hm_w2.size)
  replace HDS := Lib.hid ((HDS.out.below hm_w2).of_lt hm_w2.size)
  replace A0 := Lib.hid (A0.out.trans (hm_w2.mono A0.out.size))
  have lt_w2_0_0 : w.heap.size < w2.heap.size := by omega
  obtain ⟨le_w2_0_0, le_w2_0_1, le_w2_0_2, le_w2_0_3, lu_w2_0_1, lu_w2_0_2, lu_w2_0_3⟩ := lts lt_w2_0_0
  clear le_w1_0_0 le_w1_0_1 le_w1_0_2 le_w1_0_3 lu_w1_0_1 lu_w1_0_2 lu_w1_0_3 lt_w1_0_0
  clear hm_w2
  have HA := Lib.hid hAA
  clear hAA hb_ HG HS FT
  clear c_d_0
  clear c_d_1
  clear c_d_2
  clear c_d_3
  go_upto_region 4 with fail
  obtain ⟨W3, hW3⟩ : ∃ W3, (w2.alloc (.cells #[.int .i64 fb, .int .i64 fr] 23)) = W3 := ⟨_, rfl⟩
  have hm_W3 : Below w2.heap.size w2 W3 := by rw [← hW3]; (repeat' (first | (with_reducible exact Below.refl _ _) | (with_reducible refine Below.alloc ?_ ?_ _) | (with_reducible refine Below.setCell ?_ ?_ _) | (with_reducible refine Below.drew ?_) | (with_reducible assumption) | omega | (simp; done) | (simp; omega)))
  have q_W3 : w2.heap.size + 1 ≤ W3.heap.size := by rw [← hW3]; simp
  replace HDS := Lib.hid ((HDS.out.below hm_W3).of_lt hm_W3.size)
  replace HA := Lib.hid ((HA.out.below hm_W3).of_lt hm_W3.size)
  replace A0 := Lib.hid (A0.out.trans (hm_W3.mono A0.out.size))
  have c_b_0 : W3.cell? ⟨w2.heap.size, 0, none⟩ = some (.int .i64 fb) := by rw [← hW3]; simp [go_sem]
  have c_b_1 : W3.cell? ⟨w2.heap.size, 1, none⟩ = some (.int .i64 fr) := by rw [← hW3]; simp [go_sem]
  rw [hW3]
  have lt_W3_0_0 : w2.heap.size < W3.heap.size := by omega
  obtain ⟨le_W3_0_0, le_W3_0_1, le_W3_0_2, le_W3_0_3, lu_W3_0_1, lu_W3_0_2, lu_W3_0_3⟩ := lts lt_W3_0_0
  clear le_w2_0_0 le_w2_0_1 le_w2_0_2 le_w2_0_3 lu_w2_0_1 lu_w2_0_2 lu_w2_0_3 lt_w2_0_0
  clear hW3 hm_W3
  go_wp2_with fail
  refine (RG.out A cap _ HA.out).mono ?_
  rintro e w4 ⟨⟨A6, c6, rfl, hI6⟩, hb_⟩
  have hm_w4 : Below W3.heap.size W3 w4 := hb_
  have q_w4 := hm_w4.size
  replace c_b_0 := below_cell hm_w4 c_b_0 lt_W3_0_0
  replace c_b_1 := below_cell hm_w4 c_b_1 lt_W3_0_0
  replace HDS := Lib.hid ((HDS.out.below hm_w4).of_lt hm_w4.size)
  replace HA := Lib.hid ((HA.out.below hm_w4).of_lt hm_w4.size)
  replace A0 := Lib.hid (A0.out.trans (hm_w4.mono A0.out.size))
  have lt_w4_0_0 : w2.heap.size < w4.heap.size := by omega
  obtain ⟨le_w4_0_0, le_w4_0_1, le_w4_0_2, le_w4_0_3, lu_w4_0_1, lu_w4_0_2, lu_w4_0_3⟩ := lts lt_w4_0_0
  clear le_W3_0_0 le_W3_0_1 le_W3_0_2 le_W3_0_3 lu_W3_0_1 lu_W3_0_2 lu_W3_0_3 lt_W3_0_0
  clear hm_w4
  have HI := Lib.hid hI6
  clear hI6 hb_ RG
  go_wp2_with fail
  refine (NW.out _).mono ?_
  rintro e w5 ⟨rfl, hb_⟩
  have hm_w5 : Below w4.heap.size w4 w5 := hb_
  have q_w5 := hm_w5.size
  replace c_b_0 := below_cell hm_w5 c_b_0 lt_w4_0_0
  replace c_b_1 := below_cell hm_w5 c_b_1 lt_w4_0_0
  replace HDS := Lib.hid ((HDS.out.below hm_w5).of_lt hm_w5.size)
  replace HA := Lib.hid ((HA.out.below hm_w5).of_lt hm_w5.size)
  replace HI := Lib.hid ((HI.out.below hm_w5).of_lt hm_w5.size)
  replace A0 := Lib.hid (A0.out.trans (hm_w5.mono A0.out.size))
  have lt_w5_0_0 : w2.heap.size < w5.heap.size := by omega
  obtain ⟨le_w5_0_0, le_w5_0_1, le_w5_0_2, le_w5_0_3, lu_w5_0_1, lu_w5_0_2, lu_w5_0_3⟩ := lts lt_w5_0_0
  clear le_w4_0_0 le_w4_0_1 le_w4_0_2 le_w4_0_3 lu_w4_0_1 lu_w4_0_2 lu_w4_0_3 lt_w4_0_0
  clear hm_w5
  clear hb_
  clear NW
  have HDS_st := HDS
  have HA_st := HA
  have HI_st := HI
  have A0_st := A0
  have c_b_0_st := Lib.hid c_b_0
  have c_b_1_st := Lib.hid c_b_1
  have KW : Hid (Below w5.heap.size w5 w5) := Lib.hid (Below.refl _ _)
  go_upto_region 8 with fail
  obtain ⟨W6, hW6⟩ : ∃ W6, (w5.alloc (.cells #[.int .i64 0, .int .i64 (fb * 1048576)] 29)) = W6 := ⟨_, rfl⟩
  have hm_W6 : Below w5.heap.size w5 W6 := by rw [← hW6]; (repeat' (first | (with_reducible exact Below.refl _ _) | (with_reducible refine Below.alloc ?_ ?_ _) | (with_reducible refine Below.setCell ?_ ?_ _) | (with_reducible refine Below.drew ?_) | (with_reducible assumption) | omega | (simp; done) | (simp; omega)))
  have q_W6 : w5.heap.size + 1 ≤ W6.heap.size := by rw [← hW6]; simp
  replace c_b_0 := below_cell hm_W6 c_b_0 lt_w5_0_0
  replace c_b_1 := below_cell hm_W6 c_b_1 lt_w5_0_0
  replace HDS := Lib.hid ((HDS.out.below hm_W6).of_lt hm_W6.size)
  replace HA := Lib.hid ((HA.out.below hm_W6).of_lt hm_W6.size)
  replace HI := Lib.hid ((HI.out.below hm_W6).of_lt hm_W6.size)
  replace A0 := Lib.hid (A0.out.trans (hm_W6.mono A0.out.size))
  replace KW := Lib.hid (KW.out.trans (hm_W6.mono KW.out.size))
  have c_s_0 : W6.cell? ⟨w5.heap.size, 0, none⟩ = some (.int .i64 0) := by rw [← hW6]; simp [go_sem]
  have f_s_0 : W6.frozen? ⟨w5.heap.size, 0, none⟩ = false := by rw [← hW6]; simp [go_sem]
  have c_s_1 : W6.cell? ⟨w5.heap.size, 1, none⟩ = some (.int .i64 (fb * 1048576)) := by rw [← hW6]; simp [go_sem]
  have f_s_1 : W6.frozen? ⟨w5.heap.size, 1, none⟩ = false := by rw [← hW6]; simp [go_sem]
  rw [hW6]
  have lt_W6_0_0 : w2.heap.size < W6.heap.size := by omega
  obtain ⟨le_W6_0_0, le_W6_0_1, le_W6_0_2, le_W6_0_3, lu_W6_0_1, lu_W6_0_2, lu_W6_0_3⟩ := lts lt_W6_0_0
  have lt_W6_1_0 : w5.heap.size < W6.heap.size := by omega
  obtain ⟨le_W6_1_0, le_W6_1_1, le_W6_1_2, le_W6_1_3, lu_W6_1_1, lu_W6_1_2, lu_W6_1_3⟩ := lts lt_W6_1_0
  clear le_w5_0_0 le_w5_0_1 le_w5_0_2 le_w5_0_3 lu_w5_0_1 lu_w5_0_2 lu_w5_0_3 lt_w5_0_0
  clear hW6 hm_W6
  go_wp2_with (at_builtin; refine Mem.wpList_append _ rfl (.tmp 51) (.tmp 52) _ rfl W6.heap.size 31 ia _ 2 16 Try.underlying46 IA.out.1 IA.out.2.1 IA.out.2.2.1 IA.out.2.2.2 rfl (by omega) (.slice (some ⟨W6.heap.size, 0, none⟩) 0 0) 0 [] rfl (Mem.own_lit_at W6 W6.heap.size 31 2 _ rfl (Nat.le_refl _)) W6.heap.size A l.length cap (Mem.arrs l) rfl (Mem.arrs_length l) ((Mem.arr_row HA.out).below ((Below.refl _ _).alloc (Nat.le_refl _) _)) (Mem.arrs_oneCell l) (by unfold maxLen; omega) (by omega) (by simp) ?_; intro v11 W7 hown hgr hat hltz; have HO : Hid (W7.ownsRow W6.heap.size 31 2 v11 l.length (Mem.arrs l)) := Lib.hid (by simpa using hown); have hb_ : Below W6.heap.size W6 W7 := Below.grown ((Below.refl _ _).alloc (Nat.le_refl _) _) hgr (by simp) (fun k hk => (hltz k hk).1); clear hown hgr hat hltz)
  have HX0 : Hid (It.Box2 W6 w5.heap.size 0 (fb * 1048576)) := Lib.hid ⟨c_s_0, c_s_1, f_s_0, f_s_1⟩
  have HX7 : Hid (It.Box2 W7 w5.heap.size 0 (fb * 1048576)) := Lib.hid (HX0.out.below hb_ (by omega))
  have HB7 := Lib.hid (KW.out.trans (hb_.mono (by omega)))
  clear hb_ KW
  obtain ⟨A5, c5, rfl, _, _, _⟩ := Mem.own_row HO.out
  have sW7 := HB7.out.size
  skip
  clear c_b_0
  clear c_b_1
  clear c_s_0 f_s_0
  clear c_s_1 f_s_1
  clear le_W6_0_0 le_W6_0_1 le_W6_0_2 le_W6_0_3 lu_W6_0_1 lu_W6_0_2 lu_W6_0_3 lt_W6_0_0
  clear le_W6_1_0 le_W6_1_1 le_W6_1_2 le_W6_1_3 lu_W6_1_1 lu_W6_1_2 lu_W6_1_3 lt_W6_1_0
  clear HDS HA HI A0
  have HDS := HDS_st
  clear HDS_st
  have HA := HA_st
  clear HA_st
  have HI := HI_st
  clear HI_st
  have A0 := A0_st
  clear A0_st
  have c_b_0 := c_b_0_st.out
  clear c_b_0_st
  have c_b_1 := c_b_1_st.out
  clear c_b_1_st
  have lt_w5_0_0 : w2.heap.size < w5.heap.size := by omega
  obtain ⟨le_w5_0_0, le_w5_0_1, le_w5_0_2, le_w5_0_3, lu_w5_0_1, lu_w5_0_2, lu_w5_0_3⟩ := lts lt_w5_0_0
  have HAf := HA
  have HDf := HDS
  have HIf := HI
  go_loopw [12, 13] (fun last i wr => ∃ (k : Nat) (pre : List (Int × Int)) (t sl sv : Int), k ≤ l.length ∧ i = .int .i64 k ∧ last = .int .i64 t ∧ pre.length = k ∧ LT = pre ++ Sp.late id t (ds.drop k) (l.drop k) ∧ 0 ≤ t ∧ t ≤ 2031585 ∧ wr.ownsRow W6.heap.size 31 2 (.slice A5 l.length c5) l.length (Mem.arrs (pre ++ l.drop k)) ∧ It.Box2 wr w5.heap.size sl sv ∧ Sp.St fb fr sl sv ∧ Sp.run fb fr 0 (fb * 1048576) l = (Sp.run fb fr 0 (fb * 1048576) l).take k ++ Sp.run fb fr sl sv (l.drop k) ∧ Below w5.heap.size w5 wr) (fun _ i _ => l.length - (intOf i).toNat)
  case atStart => exact ⟨0, [], 0, 0, fb * 1048576, by omega, rfl, rfl, rfl, by simpa using HLT.out.symm, by omega, by omega, HO.out, HX7.out, HST0.out, by simp, HB7.out⟩
  case round =>
    obtain ⟨k, pre, t, sl, sv, hk, rfl, rfl, hpl, hLT, ht0, ht1, hown, hbox, hsst, hrun, hbr⟩ := hrel
    obtain ⟨wo, rfl⟩ : ∃ wo : World, wo = wr := ⟨_, rfl⟩
    have KW := Lib.hid hbr
    have hm_wo : Below w5.heap.size w5 wo := hbr
    have q_wo := hm_wo.size
    replace c_b_0 := below_cell hm_wo c_b_0 lt_w5_0_0
    replace c_b_1 := below_cell hm_wo c_b_1 lt_w5_0_0
    replace HDS := Lib.hid ((HDS.out.below hm_wo).of_lt hm_wo.size)
    replace HA := Lib.hid ((HA.out.below hm_wo).of_lt hm_wo.size)
    replace HI := Lib.hid ((HI.out.below hm_wo).of_lt hm_wo.size)
    replace A0 := Lib.hid (A0.out.trans (hm_wo.mono A0.out.size))
    have lt_wo_0_0 : w2.heap.size < wo.heap.size := by omega
    obtain ⟨le_wo_0_0, le_wo_0_1, le_wo_0_2, le_wo_0_3, lu_wo_0_1, lu_wo_0_2, lu_wo_0_3⟩ := lts lt_wo_0_0
    clear le_w5_0_0 le_w5_0_1 le_w5_0_2 le_w5_0_3 lu_w5_0_1 lu_w5_0_2 lu_w5_0_3 lt_w5_0_0
    clear hm_wo
    clear hbr
    have HOW := Lib.hid hown
    have HL1 := Lib.hid hLT
    have HBX := Lib.hid hbox
    have HSS := Lib.hid hsst
    have HRN := Lib.hid hrun
    clear hown hLT hbox hsst hrun
    by_cases hlt : k < l.length
    · obtain ⟨⟨x1, x2⟩, hx⟩ : ∃ x, l[k]? = some x := ⟨l[k], List.getElem?_eq_getElem hlt⟩
      obtain ⟨ad, rfl, hbk, hc0, hc1⟩ := (HAf.out.below KW.out) k (x1, x2) hx
      have HX := Lib.hid hx
      have hm := HM.out (x1, x2) (List.mem_of_getElem? hx)
      have hz := HZ.out (x1, x2) (List.mem_of_getElem? hx)
      simp only at hm hz
      obtain ⟨g5, rfl, hg5a, hg5b⟩ := Mem.own_some HOW.out (by omega)
      have hdr : l.drop k = (x1, x2) :: l.drop (k + 1) := by
        obtain ⟨hk', he⟩ := List.getElem?_eq_some_iff.1 hx
        rw [← he]; exact List.drop_eq_getElem_cons hk'
      have hat : (pre ++ l.drop k)[k]? = some (x1, x2) := by rw [hdr, List.getElem?_append_right (by omega), hpl, Nat.sub_self]; rfl
      have hst := Sp.late_step (f := id) (t := t) (ds := ds) hx
      have hst := HL1.out.trans (by rw [hst])
      have hrs := Sp.run_step (b := fb) (r := fr) (l := sl) (v := sv) hx
      have hrn2 := HRN.out.trans (by rw [hrs])
      have htk : ((Sp.run fb fr 0 (fb * 1048576) l).take k).length = k := by rw [List.length_take, HRL.out.1]; omega
      have hTm : Sp.time fb fr sl sv x1 x2 ∈ Sp.run fb fr 0 (fb * 1048576) l := by rw [hrn2]; simp
      have hTle := HT.out _ hTm
      have hTk : (Sp.run fb fr 0 (fb * 1048576) l)[k]? = some (Sp.time fb fr sl sv x1 x2) := by rw [hrn2, List.getElem?_append_right (by omega), htk, Nat.sub_self]; rfl
      obtain ⟨ad6, rfl, hb6, he6⟩ := (HIf.out.below KW.out) k _ hTk
      have hnx := Sp.next_st (a := x1) HSS.out hm.2.2.1 hz hTle
      have EG := Elig_good fb fr sl sv x1 x2 (Sp.chk_of HSS.out) hm.1 (by omega) hm.2.2.1 hz hTle
      have htn := take_next htk hrn2
      have hTge := Sp.time_ge (b := fb) (r := fr) (l := sl) (v := sv) (a := x1) (z := x2) HSS.out.r0
      generalize Sp.time fb fr sl sv x1 x2 = T at *
      generalize Sp.left fb fr sl sv x1 x2 = Y at *
      have CKN := Check_any fb fr T Y
      rw [Sp.chk_of hnx] at CKN
      have HRN2 : Hid (Sp.run fb fr 0 (fb * 1048576) l = (Sp.run fb fr 0 (fb * 1048576) l).take (k + 1) ++ Sp.run fb fr T Y (l.drop (k + 1))) := Lib.hid (by rw [htn]; simpa using hrn2)
      have HEG := Lib.hid EG
      have HCK := Lib.hid CKN
      have HNX := Lib.hid hnx
      have HDR := Lib.hid hdr
      have HAT := Lib.hid hat
      have i0 : (0 : Int) ≤ (k : Int) := by omega
      have i1 : (k : Int) < (l.length : Int) := by omega
      clear hx hdr hat hrs hrn2 htk hTm hTle hTk hnx EG CKN htn hTge
      have q5 : w5.heap.size < wo.heap.size := by omega
      go_upto_region 13 with fail
      have HSx : Hid (∀ w', Below wo.heap.size wo w' → (Below wo.heap.size wo w' ∧ w'.cell? ⟨w2.heap.size, 0, none⟩ = some (.int .i64 fb) ∧ w'.cell? ⟨w2.heap.size, 1, none⟩ = some (.int .i64 fr) ∧ w'.cell? ⟨w5.heap.size, 0, none⟩ = some (.int .i64 sl) ∧ w'.cell? ⟨w5.heap.size, 1, none⟩ = some (.int .i64 sv) ∧ w'.cell? (ad.add (k * 2)) = some (.int .i64 x1) ∧ w'.cell? ⟨(ad.add (k * 2)).block, (ad.add (k * 2)).off + 1, none⟩ = some (.int .i64 x2))) := Lib.hid (fun w' h => ⟨h, below_cell h c_b_0 lt_wo_0_0, below_cell h c_b_1 lt_wo_0_0, below_cell h HBX.out.c0 q5, below_cell h HBX.out.c1 q5, (h.cell (by rw [Tr.block_add]; omega)).trans hc0, (h.cell (by show (ad.add (k * 2)).block < _; rw [Tr.block_add]; omega)).trans hc1⟩)
      go_cut [14, 15, 16] (fun s14 s15 s16 wx => ∃ g15 : Nat, s14 = .int .i64 T ∧ s15 = .pointer (some ⟨g15, 0, none⟩) ∧ s16 = .int .i64 0 ∧ wo.heap.size ≤ g15 ∧ g15 < wx.heap.size ∧ It.Box2 wx g15 T Y ∧ Below wo.heap.size wo wx)
      case first =>
        go_region_held3 (fun w' => Below wo.heap.size wo w' ∧ w'.cell? ⟨w2.heap.size, 0, none⟩ = some (.int .i64 fb) ∧ w'.cell? ⟨w2.heap.size, 1, none⟩ = some (.int .i64 fr) ∧ w'.cell? ⟨w5.heap.size, 0, none⟩ = some (.int .i64 sl) ∧ w'.cell? ⟨w5.heap.size, 1, none⟩ = some (.int .i64 sv) ∧ w'.cell? (ad.add (k * 2)) = some (.int .i64 x1) ∧ w'.cell? ⟨(ad.add (k * 2)).block, (ad.add (k * 2)).off + 1, none⟩ = some (.int .i64 x2))
          ((refine HSx.out _ ?_; first | assumption | (repeat' (first | (with_reducible exact Below.refl _ _) | (with_reducible refine Below.alloc ?_ ?_ _) | (with_reducible refine Below.setCell ?_ ?_ _) | (with_reducible refine Below.drew ?_) | (with_reducible assumption) | omega | (simp; done) | (simp; omega)))))
          (first | (go_at_call_of 13 (Value.agg #[.int .i64 fb, .int .i64 fr]); go_split_ands; refine (HEG.out _).mono ?_; rintro e wE ⟨rfl, hrE⟩; have hbE := carry2 (w := wo) (by assumption) hrE; have sE := hbE.size; obtain ⟨hcE, hzE⟩ := bcell hrE; have rE := hrE.size; try simp only [World.size_alloc, World.size_drew] at rE))
        all_goals
          go_wp2_with fail
          go_meet
          first
          | exact ⟨wE.heap.size, rfl, rfl, rfl, sE, by simp, ⟨by simp [go_sem], by simp [go_sem], by simp [go_sem], by simp [go_sem]⟩, hbE.alloc sE _⟩
          | (have t0 : wE.cell? ⟨wo.heap.size, 0, none⟩ = some (.int .i64 0) := by rw [hcE _ _ (by simp)]; simp [go_sem]
             have t1 : wE.cell? ⟨wo.heap.size, 1, none⟩ = some (.int .i64 0) := by rw [hcE _ _ (by simp)]; simp [go_sem]
             have z0 : wE.frozen? ⟨wo.heap.size, 0, none⟩ = false := by rw [hzE _ _ (by simp)]; simp [go_sem]
             have z1 : wE.frozen? ⟨wo.heap.size, 1, none⟩ = false := by rw [hzE _ _ (by simp)]; simp [go_sem]
             exact ⟨wo.heap.size, rfl, rfl, rfl, Nat.le_refl _, by simp [World.setCell]; omega, ((⟨t0, t1, z0, z1⟩ : It.Box2 wE wo.heap.size 0 0).set0 T).set1 Y, (hbE.setCell (p := ⟨wo.heap.size, 0, none⟩) (Nat.le_refl _) _).setCell (p := ⟨wo.heap.size, 1, none⟩) (Nat.le_refl _) _⟩)
      case rest =>
        clear HSx
        obtain ⟨g15, rfl, rfl, rfl, hg15a, hg15b, hbn, hbc⟩ := hcut
        obtain ⟨W9, rfl⟩ : ∃ W9 : World, W9 = wc := ⟨_, rfl⟩
        have HBN := Lib.hid hbn
        have HOW9 := Lib.hid (Mem.own_below HOW.out hbc)
        have HBX9 := Lib.hid (HBX.out.below hbc q5)
        have he9 := (hbc.cell (by rw [Tr.block_add]; omega)).trans he6
        have hm_W9 : Below wo.heap.size wo W9 := hbc
        have q_W9 := hm_W9.size
        replace c_b_0 := below_cell hm_W9 c_b_0 lt_wo_0_0
        replace c_b_1 := below_cell hm_W9 c_b_1 lt_wo_0_0
        replace HDS := Lib.hid ((HDS.out.below hm_W9).of_lt hm_W9.size)
        replace HA := Lib.hid ((HA.out.below hm_W9).of_lt hm_W9.size)
        replace HI := Lib.hid ((HI.out.below hm_W9).of_lt hm_W9.size)
        replace A0 := Lib.hid (A0.out.trans (hm_W9.mono A0.out.size))
        replace KW := Lib.hid (KW.out.trans (hm_W9.mono KW.out.size))
        have lt_W9_0_0 : w2.heap.size < W9.heap.size := by omega
        obtain ⟨le_W9_0_0, le_W9_0_1, le_W9_0_2, le_W9_0_3, lu_W9_0_1, lu_W9_0_2, lu_W9_0_3⟩ := lts lt_W9_0_0
        clear le_wo_0_0 le_wo_0_1 le_wo_0_2 le_wo_0_3 lu_wo_0_1 lu_wo_0_2 lu_wo_0_3 lt_wo_0_0
        clear hm_W9
        have n0 := hbn.c0
        have n1 := hbn.c1
        clear hbc hbn HOW HBX he6 hc0 hc1
        go_wp2_with fail
        refine (HCK.out _).mono ?_
        rintro e w10 ⟨rfl, hb_⟩
        have HBN0 := Lib.hid (HBN.out.below hb_ (by omega))
        have HOW := Lib.hid (Mem.own_below HOW9.out hb_)
        have HBX := Lib.hid (HBX9.out.below hb_ (by omega))
        have hm_w10 : Below W9.heap.size W9 w10 := hb_
        have q_w10 := hm_w10.size
        replace c_b_0 := below_cell hm_w10 c_b_0 lt_W9_0_0
        replace c_b_1 := below_cell hm_w10 c_b_1 lt_W9_0_0
        replace HDS := Lib.hid ((HDS.out.below hm_w10).of_lt hm_w10.size)
        replace HA := Lib.hid ((HA.out.below hm_w10).of_lt hm_w10.size)
        replace HI := Lib.hid ((HI.out.below hm_w10).of_lt hm_w10.size)
        replace A0 := Lib.hid (A0.out.trans (hm_w10.mono A0.out.size))
        replace KW := Lib.hid (KW.out.trans (hm_w10.mono KW.out.size))
        have lt_w10_0_0 : w2.heap.size < w10.heap.size := by omega
        obtain ⟨le_w10_0_0, le_w10_0_1, le_w10_0_2, le_w10_0_3, lu_w10_0_1, lu_w10_0_2, lu_w10_0_3⟩ := lts lt_w10_0_0
        clear le_W9_0_0 le_W9_0_1 le_W9_0_2 le_W9_0_3 lu_W9_0_1 lu_W9_0_2 lu_W9_0_3 lt_W9_0_0
        clear hm_w10
        obtain ⟨n0', n1', nz0, nz1⟩ := HBN0.out
        obtain ⟨p0, p1, pz0, pz1⟩ := HBX.out
        have lw5 : w5.heap.size < w10.heap.size := by omega
        have lg15 : g15 < w10.heap.size := by omega
        clear hb_ n0 n1 he9 HOW9 HBX9 HBN HBN0 HCK HEG
        have qv : w10.heap.size ≤ w10.heap.size := Nat.le_refl _
        go_upto_region 17 with fail
        obtain ⟨W11, hW11⟩ : ∃ W11, (w10.setCell ⟨w5.heap.size, 0, none⟩ (.int .i64 T)).setCell ⟨w5.heap.size, 1, none⟩ (.int .i64 Y) = W11 := ⟨_, rfl⟩
        have hu : It.Upd w5.heap.size w10 W11 := by rw [← hW11]; exact (It.Upd.set _ 0 _).trans (It.Upd.set _ 1 _)
        have HBX2 : Hid (It.Box2 W11 w5.heap.size T Y) := by rw [← hW11]; exact Lib.hid ((HBX.out.set0 T).set1 Y)
        have HOW2 := Lib.hid (own_upd HOW.out hu (.inl (by omega)))
        have hk11 : Below w5.heap.size w5 W11 := hu.below KW.out KW.out.size (Nat.le_refl _)
        have KV := Lib.hid hk11
        rw [hW11]
        have q11 := hu.size
        clear c_b_0
        clear c_b_1
        clear hW11 hu hk11 HBX HOW p0 p1 pz0 pz1 n0' n1' nz0 nz1
        obtain ⟨ad', ha', _, hc0, hc1⟩ := (HAf.out.below KV.out) k (x1, x2) HX.out
        injection ha' with ha'
        subst ha'
        obtain ⟨e0, e1, z0, z1⟩ := Mem.own_at HOW2.out HAT.out
        have lg5 : g5 < W11.heap.size := by omega
        by_cases hd : k < ds.length
        · obtain ⟨dv, hdk⟩ : ∃ g, ds[k]? = some g := ⟨ds[k], List.getElem?_eq_getElem hd⟩
          obtain ⟨dd, rfl, _, hdc⟩ := (HDf.out.below KV.out).at_ hdk
          have bd := HBD.out dv (List.mem_of_getElem? hdk)
          have j1 : (k : Int) < (ds.length : Int) := by omega
          rw [hdk] at hst
          have HST := Lib.hid hst
          clear hdk hst
          go_upto_region 18 with fail
          go_region
          go_wp2_with fail
          go_roundw
          case rel =>
            refine ⟨k + 1, pre ++ [(max (x1 + dv) t, x2)], max (x1 + dv) t, T, Y, by omega, by go_num, rfl, by simp [hpl], by rw [HST.out]; simp, by omega, by omega, ?_, ?_, HNX.out, HRN2.out, by have hb := KV.out; (repeat' (first | (with_reducible exact Below.refl _ _) | (with_reducible refine Below.alloc ?_ ?_ _) | (with_reducible refine Below.setCell ?_ ?_ _) | (with_reducible refine Below.drew ?_) | (with_reducible assumption) | omega | (simp; done) | (simp; omega)))⟩
            · have h := (((HOW2.out.stored (k * 2) (.int .i64 (x1 + dv))).1.stored (k * 2) (.int .i64 (max (x1 + dv) t))).1).drew
              rw [HDR.out, Sp.set_arrs hpl, Sp.set_arrs hpl] at h
              simpa using h
            · exact ((HBX2.out.upd (by omega) (It.Upd.set (p := g5) _ (k * 2) _)).upd (by omega) (It.Upd.set (p := g5) _ (k * 2) _)).drew
          case measure => simp [intOf]; omega
        · have hst2 : LT = pre ++ (max x1 t, x2) :: Sp.late id (max x1 t) (ds.drop (k + 1)) (l.drop (k + 1)) := by
            rw [hst, List.getElem?_eq_none (by omega)]; simp
          have HST := Lib.hid hst2
          clear hst hst2
          go_wp2_with fail
          go_roundw
          case rel =>
            refine ⟨k + 1, pre ++ [(max x1 t, x2)], max x1 t, T, Y, by omega, by go_num, rfl, by simp [hpl], by rw [HST.out]; simp, by omega, by omega, ?_, ?_, HNX.out, HRN2.out, by have hb := KV.out; (repeat' (first | (with_reducible exact Below.refl _ _) | (with_reducible refine Below.alloc ?_ ?_ _) | (with_reducible refine Below.setCell ?_ ?_ _) | (with_reducible refine Below.drew ?_) | (with_reducible assumption) | omega | (simp; done) | (simp; omega)))⟩
            · have h := (HOW2.out.stored (k * 2) (.int .i64 (max x1 t))).1
              rw [HDR.out, Sp.set_arrs hpl] at h
              simpa using h
            · exact HBX2.out.upd (by omega) (It.Upd.set (p := g5) _ (k * 2) _)
          case measure => simp [intOf]; omega
    · have ekl : k = l.length := by omega
      have hLe : LT = pre := by rw [HL1.out, List.drop_eq_nil_of_le (show l.length ≤ k by omega)]; simp [Sp.late]
      have HL5 : Hid (Tr.Arr wo wo.heap.size A5 LT) := Lib.hid (by have h := HOW.out; rw [List.drop_eq_nil_of_le (show l.length ≤ k by omega), List.append_nil, ← hLe] at h; exact Mem.arr_own h)
      clear hLe HL1 HOW HBX HSS HRN KW HAf HDf HIf HA HDS
      go_wp2_with fail
      refine (RL.out A5 c5 _ HL5.out).mono ?_
      rintro e w16 ⟨⟨A7, c7, rfl, hI7⟩, hb_⟩
      have hm_w16 : Below wo.heap.size wo w16 := hb_
      have q_w16 := hm_w16.size
      replace c_b_0 := below_cell hm_w16 c_b_0 lt_wo_0_0
      replace c_b_1 := below_cell hm_w16 c_b_1 lt_wo_0_0
      replace HI := Lib.hid ((HI.out.below hm_w16).of_lt hm_w16.size)
      replace HL5 := Lib.hid ((HL5.out.below hm_w16).of_lt hm_w16.size)
      replace A0 := Lib.hid (A0.out.trans (hm_w16.mono A0.out.size))
      have lt_w16_0_0 : w2.heap.size < w16.heap.size := by omega
      obtain ⟨le_w16_0_0, le_w16_0_1, le_w16_0_2, le_w16_0_3, lu_w16_0_1, lu_w16_0_2, lu_w16_0_3⟩ := lts lt_w16_0_0
      clear le_wo_0_0 le_wo_0_1 le_wo_0_2 le_wo_0_3 lu_wo_0_1 lu_wo_0_2 lu_wo_0_3 lt_wo_0_0
      clear hm_w16
      have HJ := Lib.hid hI7
      clear hI7 hb_ RL HL5
      clear c_b_0
      clear c_b_1
      go_wp2_with fail
      go_loopw [19] (fun i wr => ∃ j : Nat, j ≤ l.length ∧ i = .int .i64 j ∧ Below w16.heap.size w16 wr) (fun i _ => l.length - (intOf i).toNat)
      case atStart => exact ⟨0, by omega, rfl, Below.refl _ _⟩
      case round =>
        obtain ⟨j, hj, rfl, hbr⟩ := hrel
        obtain ⟨wj, rfl⟩ : ∃ wj : World, wj = wr := ⟨_, rfl⟩
        have K6 := Lib.hid hbr
        have hm_wj : Below w16.heap.size w16 wj := hbr
        have q_wj := hm_wj.size
        replace HI := Lib.hid ((HI.out.below hm_wj).of_lt hm_wj.size)
        replace HJ := Lib.hid ((HJ.out.below hm_wj).of_lt hm_wj.size)
        replace A0 := Lib.hid (A0.out.trans (hm_wj.mono A0.out.size))
        clear le_w16_0_0 le_w16_0_1 le_w16_0_2 le_w16_0_3 lu_w16_0_1 lu_w16_0_2 lu_w16_0_3 lt_w16_0_0
        clear hm_wj
        clear hbr
        by_cases hlt2 : j < l.length
        · obtain ⟨o, ho⟩ : ∃ x, (Sp.run fb fr 0 (fb * 1048576) l)[j]? = some x := ⟨(Sp.run fb fr 0 (fb * 1048576) l)[j]'(by have := HRL.out.1; omega), List.getElem?_eq_getElem _⟩
          obtain ⟨p, hp⟩ : ∃ x, (Sp.run fb fr 0 (fb * 1048576) LT)[j]? = some x := ⟨(Sp.run fb fr 0 (fb * 1048576) LT)[j]'(by have := HRL.out.2; omega), List.getElem?_eq_getElem _⟩
          have hkey := HMO.out j o p ho hp
          obtain ⟨ad6, rfl, _, he0⟩ := HI.out j o ho
          obtain ⟨ad7, rfl, _, he1⟩ := HJ.out j p hp
          have k1 : decide (p < o) = false := decide_eq_false (by omega)
          have i0 : (0 : Int) ≤ (j : Int) := by omega
          have i1 : (j : Int) < (l.length : Int) := by omega
          clear ho hp hkey
          go_upto_region 27 with fail
          go_quiet (fail)
          go_wp2_with fail
          go_roundw
          case rel => exact ⟨j + 1, by omega, by go_num, belowN K6.out _⟩
          case measure => simp [intOf]; omega
        · go_wp2_with fail
          go_ret
          exact ⟨rfl, A0.out⟩
end SpW
end Go.Proofs.Ytpglhjgpjnapgaa
