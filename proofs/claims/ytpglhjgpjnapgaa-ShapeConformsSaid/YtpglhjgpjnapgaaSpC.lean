/- ShapeConforms: the walk of the law. -/
import Derived.Test.YtpglhjgpjnapgaaSpG
import Derived.Test.YtpglhjgpjnapgaaIterC
import Derived.Deep.DeepCutAuto
import Derived.Deep.RegionWith
import Derived.Test.YtpglhjgpjnapgaaStq
namespace Go.Proofs.Ytpglhjgpjnapgaa
set_option linter.unusedSimpArgs false
set_option linter.unusedVariables false
open Go.RowKit
namespace SpW
set_option maxRecDepth 100000 in
set_option maxHeartbeats 8000000 in
theorem law_Conforms (x y : Nat) (hx : x < 4294967296) (hy : y < 4294967296) (G : Option Addr) (gs : List Int) (cg : Nat) (S : Option Addr) (ss : List Int) (cs : Nat) (w : World)
    (hG : Mem.Row w w.heap.size G (Mem.nums .u16 gs)) (hS : Mem.Row w w.heap.size S (Mem.nums .u16 ss)) (bG : ∀ n ∈ gs, 0 ≤ n ∧ n ≤ 65535) (bS : ∀ n ∈ ss, 0 ≤ n ∧ n ≤ 65535) (lG : gs.length ≤ maxLen) (lS : ss.length ≤ maxLen) :
    Calls Try.prog 7 #[.agg #[.int .u32 x, .int .u32 y, .slice G gs.length cg, .slice S ss.length cs]] w fun e w' => e = .returned (.bool true) ∧ Below w.heap.size w w' := by
  obtain ⟨b, hb0⟩ : ∃ b : Int, 1 + (x : Int) % 1048576 = b := ⟨_, rfl⟩
  obtain ⟨r, hr0⟩ : ∃ r : Int, 1 + (y : Int) % 2097152 = r := ⟨_, rfl⟩
  have hbb : 1 ≤ b ∧ b ≤ 1048576 := by omega
  have hrr : 1 ≤ r ∧ r ≤ 2097152 := by omega
  have hok := Dr.trace_ok bG bS
  have hmem := Dr.trace_at bG bS
  have h30 : (Dr.trace gs ss).length ≤ 30 := by rw [Dr.trace_length]; omega
  have FT := Lib.hid (fun W hG hS => fitting_any x y hx hy G gs cg S ss cs b r hb0 hr0 W hG hS bG bS lG lS)
  generalize Dr.trace gs ss = l at *
  obtain ⟨fl1, fl2, fl3⟩ := Sp.fit_law hbb hrr hmem h30
  generalize Sp.fitB b l = fb at *
  generalize max r 1024 = fr at *
  obtain ⟨cl1, cl2, cl3, cl4⟩ := Sp.conf_law fl1 hok hmem fl2 fl3
  have hsl := Sp.shaped_length fb fr l 0 (fb * 1048576)
  have hrl := Sp.run_length fb fr l 0 (fb * 1048576)
  obtain ⟨SH, hSH⟩ : ∃ SH, Sp.shaped fb fr 0 (fb * 1048576) l = SH := ⟨_, rfl⟩
  rw [hSH] at cl1 cl2 cl3 cl4 hsl
  have RG := Lib.hid (fun A cap W hA => Run_good fb fr A l cap fl1 hok fl2 fl3 W hA)
  have RL := (fun A cap W hA => Run_good fb fr A SH cap fl1 cl1 cl2 (by rw [cl3]; exact fl3) W hA)
  simp only [hsl, cl3] at RL
  have RL := Lib.hid RL
  obtain ⟨o1, o2, o3, o4⟩ := Bk.ok_iff.1 fl1
  have CF := Lib.hid (fun A m n cap (hn : m.length = n) hok W hA => ItW.conforms_good fb fr A m n cap hn o1 o2 o3 o4 hok W hA)
  obtain ⟨R, hR⟩ : ∃ R, Sp.run fb fr 0 (fb * 1048576) l = R := ⟨_, rfl⟩
  have SM := Lib.hid (fun A B ca cb W hA hB => SmW.Same_any A R ca B R cb W hA hB (by rw [← hR, hrl]; omega))
  rw [hR] at RG RL cl4 hrl
  have HG := Lib.hid hG
  have HS := Lib.hid hS
  have HM := Lib.hid hmem
  have HCL := Lib.hid cl4
  obtain ⟨ia, ha0, ha1, ha2, ha3⟩ := info_parts Mem.arr_info
  have IA := Lib.hid (And.intro ha0 (And.intro ha1 (And.intro ha2 ha3)))
  clear hmem hSH hR fl1 fl2 fl3 cl1 cl2 cl3 cl4 hok hG hS bG bS lG lS ha0 ha1 ha2 ha3 hb0 hr0 hbb hrr
  have A0 : Hid (Below w.heap.size w w) := Lib.hid (Below.refl _ _)
  go_enter Try.func7, Try.ntmps7
  go_wp2_with fail
  refine (works_any _).mono ?_
  rintro e w1 ⟨rfl, hb_⟩
  have s_w1 := hb_.size
  try simp only [World.size_alloc] at s_w1
  have hm_w1 : Below w.heap.size w w1 := Below.trans (b := (w.alloc (.cells #[.int .u32 x, .int .u32 y, .slice G gs.length cg, .slice S ss.length cs] 27))) (by (repeat' (first | (with_reducible exact Below.refl _ _) | (with_reducible refine Below.alloc ?_ ?_ _) | (with_reducible refine Below.setCell ?_ ?_ _) | (with_reducible refine Below.drew ?_) | (with_reducible assumption) | omega | (simp; done) | (simp; omega)))) (hb_.mono (by first | (simp; done) | (simp; omega)))
  have q_w1 := hm_w1.size
  replace HG := Lib.hid ((HG.out.below hm_w1).of_lt hm_w1.size)
  replace HS := Lib.hid ((HS.out.below hm_w1).of_lt hm_w1.size)
  replace A0 := Lib.hid (A0.out.trans (hm_w1.mono A0.out.size))
  have c_d_0 : w1.cell? ⟨w.heap.size, 0, none⟩ = some (.int .u32 x) := by rw [(bcell hb_).1 _ _ (by first | (simp; done) | (simp; omega))]; simp [go_sem]
  have c_d_1 : w1.cell? ⟨w.heap.size, 1, none⟩ = some (.int .u32 y) := by rw [(bcell hb_).1 _ _ (by first | (simp; done) | (simp; omega))]; simp [go_sem]
  have c_d_2 : w1.cell? ⟨w.heap.size, 2, none⟩ = some (.slice G gs.length cg) := by rw [(bcell hb_).1 _ _ (by first | (simp; done) | (simp; omega))]; simp [go_sem]
  have c_d_3 : w1.cell? ⟨w.heap.size, 3, none⟩ = some (.slice S ss.length cs) := by rw [(bcell hb_).1 _ _ (by first | (simp; done) | (simp; omega))]; simp [go_sem]
  have lt_w1_0_0 : w.heap.size < w1.heap.size := by omega
  obtain ⟨le_w1_0_0, le_w1_0_1, le_w1_0_2, le_w1_0_3, lu_w1_0_1, lu_w1_0_2, lu_w1_0_3⟩ := lts lt_w1_0_0
  clear hm_w1
  clear hb_
  go_wp2_with fail
  refine (FT.out _ HG.out HS.out).mono ?_
  rintro e w2 ⟨⟨A, cap, rfl, hAA⟩, hb_⟩
  have hm_w2 : Below w1.heap.size w1 w2 := hb_
  have q_w2 := hm_w2.size
  replace c_d_0 := below_cell hm_w2 c_d_0 lt_w1_0_0
  replace c_d_1 := below_cell hm_w2 c_d_1 lt_w1_0_0
  replace c_d_2 := below_cell hm_w2 c_d_2 lt_w1_0_0
  replace c_d_3 := below_cell hm_w2 c_d_3 lt_w1_0_0
  replace HG := Lib.hid ((HG.out.below hm_w2).of_lt hm_w2.size)
  replace HS := Lib.hid ((HS.out.below hm_w2).of_lt hm_w2.size)
  replace A0 := Lib.hid (A0.out.trans (hm_w2.mono A0.out.size))
  have lt_w2_0_0 : w.heap.size < w2.heap.size := by omega
  obtain ⟨le_w2_0_0, le_w2_0_1, le_w2_0_2, le_w2_0_3, lu_w2_0_1, lu_w2_0_2, lu_w2_0_3⟩ := lts lt_w2_0_0
  clear le_w1_0_0 le_w1_0_1 le_w1_0_2 le_w1_0_3 lu_w1_0_1 lu_w1_0_2 lu_w1_0_3 lt_w1_0_0
  clear hm_w2
  have HA := Lib.hid hAA
  clear hAA hb_ HG HS FT
  clear c_d_0
  clear c_d_1
  clear c_d_2
  clear c_d_3
  go_upto_region 4 with fail
  obtain ⟨W3, hW3⟩ : ∃ W3, (w2.alloc (.cells #[.int .i64 fb, .int .i64 fr] 23)) = W3 := ⟨_, rfl⟩
  have hm_W3 : Below w2.heap.size w2 W3 := by rw [← hW3]; (repeat' (first | (with_reducible exact Below.refl _ _) | (with_reducible refine Below.alloc ?_ ?_ _) | (with_reducible refine Below.setCell ?_ ?_ _) | (with_reducible refine Below.drew ?_) | (with_reducible assumption) | omega | (simp; done) | (simp; omega)))
  have q_W3 : w2.heap.size + 1 ≤ W3.heap.size := by rw [← hW3]; simp
  replace HA := Lib.hid ((HA.out.below hm_W3).of_lt hm_W3.size)
  replace A0 := Lib.hid (A0.out.trans (hm_W3.mono A0.out.size))
  have c_b_0 : W3.cell? ⟨w2.heap.size, 0, none⟩ = some (.int .i64 fb) := by rw [← hW3]; simp [go_sem]
  have c_b_1 : W3.cell? ⟨w2.heap.size, 1, none⟩ = some (.int .i64 fr) := by rw [← hW3]; simp [go_sem]
  rw [hW3]
  have lt_W3_0_0 : w2.heap.size < W3.heap.size := by omega
  obtain ⟨le_W3_0_0, le_W3_0_1, le_W3_0_2, le_W3_0_3, lu_W3_0_1, lu_W3_0_2, lu_W3_0_3⟩ := lts lt_W3_0_0
  clear le_w2_0_0 le_w2_0_1 le_w2_0_2 le_w2_0_3 lu_w2_0_1 lu_w2_0_2 lu_w2_0_3 lt_w2_0_0
  clear hW3 hm_W3
  go_wp2_with fail
  refine (RG.out A cap _ HA.out).mono ?_
  rintro e w4 ⟨⟨A6, c6, rfl, hI6⟩, hb_⟩
  have hm_w4 : Below W3.heap.size W3 w4 := hb_
  have q_w4 := hm_w4.size
  replace c_b_0 := below_cell hm_w4 c_b_0 lt_W3_0_0
  replace c_b_1 := below_cell hm_w4 c_b_1 lt_W3_0_0
  replace HA := Lib.hid ((HA.out.below hm_w4).of_lt hm_w4.size)
  replace A0 := Lib.hid (A0.out.trans (hm_w4.mono A0.out.size))
  have lt_w4_0_0 : w2.heap.size < w4.heap.size := by omega
  obtain ⟨le_w4_0_0, le_w4_0_1, le_w4_0_2, le_w4_0_3, lu_w4_0_1, lu_w4_0_2, lu_w4_0_3⟩ := lts lt_w4_0_0
  clear le_W3_0_0 le_W3_0_1 le_W3_0_2 le_W3_0_3 lu_W3_0_1 lu_W3_0_2 lu_W3_0_3 lt_W3_0_0
  clear hm_w4
  have HI := Lib.hid hI6
  clear hI6 hb_ RG
  have HA_st := HA
  have HI_st := HI
  have A0_st := A0
  have c_b_0_st := Lib.hid c_b_0
  have c_b_1_st := Lib.hid c_b_1
  go_wp2_with (at_builtin; refine Mem.wpList_append _ rfl (.tmp 34) (.tmp 35) _ rfl w4.heap.size 31 ia _ 2 16 Try.underlying46 IA.out.1 IA.out.2.1 IA.out.2.2.1 IA.out.2.2.2 rfl (by omega) (.slice (some ⟨w4.heap.size, 0, none⟩) 0 0) 0 [] rfl (Mem.own_lit_at w4 w4.heap.size 31 2 _ rfl (Nat.le_refl _)) w4.heap.size A l.length cap (Mem.arrs l) rfl (Mem.arrs_length l) ((Mem.arr_row HA.out).below ((Below.refl _ _).alloc (Nat.le_refl _) _)) (Mem.arrs_oneCell l) (by unfold maxLen; omega) (by omega) (by simp) ?_; intro v11 W7 hown hgr hat hltz; have HO : Hid (W7.ownsRow w4.heap.size 31 2 v11 l.length (Mem.arrs l)) := Lib.hid (by simpa using hown); have hb_ : Below w4.heap.size w4 W7 := Below.grown ((Below.refl _ _).alloc (Nat.le_refl _) _) hgr (by simp) (fun k hk => (hltz k hk).1); clear hown hgr hat hltz)
  have HB7 := Lib.hid hb_
  clear hb_
  obtain ⟨A5, c5, rfl, hlc5, _, _⟩ := Mem.own_row HO.out
  have sW7 := HB7.out.size
  clear c_b_0
  clear c_b_1
  clear le_w4_0_0 le_w4_0_1 le_w4_0_2 le_w4_0_3 lu_w4_0_1 lu_w4_0_2 lu_w4_0_3 lt_w4_0_0
  clear HA HI A0
  have HA := HA_st
  clear HA_st
  have HI := HI_st
  clear HI_st
  have A0 := A0_st
  clear A0_st
  have c_b_0 := c_b_0_st.out
  clear c_b_0_st
  have c_b_1 := c_b_1_st.out
  clear c_b_1_st
  have lt_w4_0_0 : w2.heap.size < w4.heap.size := by omega
  obtain ⟨le_w4_0_0, le_w4_0_1, le_w4_0_2, le_w4_0_3, lu_w4_0_1, lu_w4_0_2, lu_w4_0_3⟩ := lts lt_w4_0_0
  have HAf := HA
  have C4 : Hid (w4.cell? ⟨w2.heap.size, 0, none⟩ = some (.int .i64 fb) ∧ w4.cell? ⟨w2.heap.size, 1, none⟩ = some (.int .i64 fr) ∧ w2.heap.size < w4.heap.size) := Lib.hid ⟨c_b_0, c_b_1, by omega⟩
  have HIf := HI
  go_loopw [8] (fun i wr => ∃ k : Nat, k ≤ l.length ∧ i = .int .i64 k ∧ wr.ownsRow w4.heap.size 31 2 (.slice A5 l.length c5) l.length (Mem.arrs (SH.take k ++ l.drop k)) ∧ Below w4.heap.size w4 wr) (fun i _ => l.length - (intOf i).toNat)
  case atStart => exact ⟨0, by omega, rfl, by simpa using HO.out, HB7.out⟩
  case round =>
    obtain ⟨k, hk, rfl, hown, hbr⟩ := hrel
    obtain ⟨wo, rfl⟩ : ∃ wo : World, wo = wr := ⟨_, rfl⟩
    have KW := Lib.hid hbr
    have hm_wo : Below w4.heap.size w4 wo := hbr
    have q_wo := hm_wo.size
    replace c_b_0 := below_cell hm_wo c_b_0 lt_w4_0_0
    replace c_b_1 := below_cell hm_wo c_b_1 lt_w4_0_0
    replace HA := Lib.hid ((HA.out.below hm_wo).of_lt hm_wo.size)
    replace HI := Lib.hid ((HI.out.below hm_wo).of_lt hm_wo.size)
    replace A0 := Lib.hid (A0.out.trans (hm_wo.mono A0.out.size))
    have lt_wo_0_0 : w2.heap.size < wo.heap.size := by omega
    obtain ⟨le_wo_0_0, le_wo_0_1, le_wo_0_2, le_wo_0_3, lu_wo_0_1, lu_wo_0_2, lu_wo_0_3⟩ := lts lt_wo_0_0
    clear le_w4_0_0 le_w4_0_1 le_w4_0_2 le_w4_0_3 lu_w4_0_1 lu_w4_0_2 lu_w4_0_3 lt_w4_0_0
    clear hm_wo
    clear hbr
    have HOW := Lib.hid hown
    clear hown
    by_cases hlt : k < l.length
    · obtain ⟨⟨x1, x2⟩, hx⟩ : ∃ x, l[k]? = some x := ⟨l[k], List.getElem?_eq_getElem hlt⟩
      have HX := Lib.hid hx
      have hm := HM.out (x1, x2) (List.mem_of_getElem? hx)
      simp only at hm
      obtain ⟨T, hT⟩ : ∃ T, R[k]? = some T := ⟨R[k]'(by omega), List.getElem?_eq_getElem _⟩
      obtain ⟨t1, t2, t3, t4, t5, t6, t7, t8⟩ := HCL.out k x1 x2 T hx hT
      obtain ⟨ad6, rfl, hb6, he6⟩ := (HIf.out.below KW.out) k T hT
      obtain ⟨g5, rfl, hg5a, hg5b⟩ := Mem.own_some HOW.out (by omega)
      have hpl : (SH.take k).length = k := by rw [List.length_take]; omega
      have hdr : l.drop k = (x1, x2) :: l.drop (k + 1) := by
        obtain ⟨hk', he⟩ := List.getElem?_eq_some_iff.1 hx
        rw [← he]; exact List.drop_eq_getElem_cons hk'
      have hat : (SH.take k ++ l.drop k)[k]? = some (x1, x2) := by rw [hdr, List.getElem?_append_right (by omega), hpl, Nat.sub_self]; rfl
      obtain ⟨e0, e1, z0, z1⟩ := Mem.own_at HOW.out hat
      have i0 : (0 : Int) ≤ (k : Int) := by omega
      have i1 : (k : Int) < (l.length : Int) := by omega
      have HT := Lib.hid hT
      have HDR := Lib.hid hdr
      have H4 := Lib.hid t4
      have H5 := Lib.hid t5
      have H6 := Lib.hid t6
      have H7 := Lib.hid t7
      have H8 := Lib.hid t8
      clear hx hT hdr hat t4 t5 t6 t7 t8
      go_upto_region 12 with fail
      obtain ⟨W8, hW8⟩ : ∃ W8, wo.setCell ⟨g5, k * 2, none⟩ (.int .i64 T) = W8 := ⟨_, rfl⟩
      have hown8 := (HOW.out.stored (k * 2) (.int .i64 T)).1
      rw [HDR.out, Sp.set_arrs hpl] at hown8
      have hl8 : SH.take k ++ (T, x2) :: l.drop (k + 1) = SH.take (k + 1) ++ l.drop (k + 1) := by rw [H4.out]; simp
      rw [hl8, hW8] at hown8
      have HOW8 := Lib.hid hown8
      have HK8 : Hid (Below w4.heap.size w4 W8) := by rw [← hW8]; exact Lib.hid (by have hb := KW.out; (repeat' (first | (with_reducible exact Below.refl _ _) | (with_reducible refine Below.alloc ?_ ?_ _) | (with_reducible refine Below.setCell ?_ ?_ _) | (with_reducible refine Below.drew ?_) | (with_reducible assumption) | omega | (simp; done) | (simp; omega))))
      have q8 : wo.heap.size ≤ W8.heap.size := by rw [← hW8]; simp [World.setCell]
      rw [hW8]
      clear hW8 hown8 hl8 e0 e1 z0 z1 he6 HOW
      obtain ⟨ad, rfl, hbk, hc0, hc1⟩ := (HAf.out.below HK8.out) k (x1, x2) HX.out
      obtain ⟨ad6', ha', hb6', he6⟩ := (HIf.out.below HK8.out) k T HT.out
      injection ha' with ha'
      subst ha'
      have HSHk : Hid (Tr.Arr W8 W8.heap.size (some ⟨g5, 0, none⟩) (SH.take (k + 1))) := Lib.hid (fun i z hz => by
        have h := Mem.arr_own HOW8.out
        refine h i z ?_
        rw [List.getElem?_append_left (by have := (List.getElem?_eq_some_iff.1 hz).1; exact this)]; exact hz)
      have k1 : decide (T < x1) = false := decide_eq_false (by omega)
      have hn1 : (SH.take (k + 1)).length = k + 1 := by rw [List.length_take]; omega
      have F12 : Hid (∀ (W : World), Tr.Arr W W.heap.size (some ⟨g5, 0, none⟩) (SH.take (k + 1)) → Calls Try.prog 21 #[.agg #[.int .i64 fb, .int .i64 fr], .slice (some ⟨g5, 0, none⟩) (k + 1) c5] W fun e w' => e = .returned (.bool true) ∧ Below W.heap.size W w') := Lib.hid (fun W h => by
        have := CF.out (some ⟨g5, 0, none⟩) (SH.take (k + 1)) (k + 1) c5 hn1 (by rw [H4.out]; exact H5.out) W h
        rw [H4.out, H6.out] at this; exact this)
      have kc : (k : Int) + 1 ≤ (c5 : Int) := by omega
      have cb0 := below_cell HK8.out C4.out.1 C4.out.2.2
      have cb1 := below_cell HK8.out C4.out.2.1 C4.out.2.2
      clear c_b_0
      clear c_b_1
      have lw2 : w2.heap.size < W8.heap.size := by omega
      go_cut [85] (fun s85 wx => s85 = .bool false ∧ Below W8.heap.size W8 wx)
      case first =>
        by_cases hk0 : 0 < k
        · obtain ⟨p, hp⟩ : ∃ p, R[k - 1]? = some p := ⟨R[k - 1]'(by omega), List.getElem?_eq_getElem _⟩
          have hpT := H7.out p hk0 hp
          obtain ⟨ad7, ha7, hb7, he7⟩ := (HIf.out.below HK8.out) (k - 1) p hp
          injection ha7 with ha7
          subst ha7
          have k2 : decide (T < p) = false := decide_eq_false (by omega)
          have qq : IntKind.i64.wrap ((k : Int) - 1) = (k : Int) - 1 := IntWalk.i64_in _ (by omega)
          have k3 : (0 : Int) < (k : Int) := by omega
          have j0 : (0 : Int) ≤ (k : Int) - 1 := by omega
          have j1 : (k : Int) - 1 < (l.length : Int) := by omega
          have j2 : ((k : Int) - 1).toNat = k - 1 := by omega
          have j3 : (1 : Int) ≤ (k : Int) := by omega
          clear hp hpT
          have q1 : IntKind.i64.wrap ((k : Int) + 1) = (k : Int) + 1 := IntWalk.i64_in _ (by omega)
          have q2 : (0 : Int) ≤ (k : Int) + 1 := by omega
          have q3 : ((k : Int) + 1).toNat = k + 1 := by omega
          refine wp_region_still_tail 32 (by kernel_rfl) (by kernel_rfl) ?_
          simp only [List.take_succ_cons, List.take_zero, List.drop_succ_cons, List.drop_zero]
          change wpStill _ _ (World.drew W8) (fun a' => wpList _ _ _ _ a' (World.drew W8)) _ _
          refine It.still_of_quiet _ _ ?_
          repeat (go_big_quiet_step (fail))
          refine wpQuiet_nil ?_
          go_wp2_with fail
          have F12' := F12.out _ (Mem.arr_drew HSHk.out)
          try simp only [Nat.zero_add] at F12'
          refine F12'.mono ?_
          clear F12'
          rintro e wE ⟨rfl, hrE⟩
          have hbE : Below W8.heap.size W8 wE := (Below.drew (Below.refl _ _)).trans hrE
          all_goals
            go_wp2_with fail
            go_meet
            exact ⟨rfl, hbE⟩
        · obtain rfl : k = 0 := by omega
          have f6 : W8.cell? ad6 = some (.int .i64 T) := by have := he6; simpa [Addr.add] using this
          have fc : W8.cell? ad = some (.int .i64 x1) := by have := hc0; simpa [Addr.add] using this
          simp only [show ((0 : Nat) : Int) = 0 from rfl]
          refine wp_region_still_tail 32 (by kernel_rfl) (by kernel_rfl) ?_
          simp only [List.take_succ_cons, List.take_zero, List.drop_succ_cons, List.drop_zero]
          change wpStill _ _ (World.drew W8) (fun a' => wpList _ _ _ _ a' (World.drew W8)) _ _
          refine It.still_of_quiet _ _ ?_
          repeat (go_big_quiet_step (fail))
          refine wpQuiet_nil ?_
          go_wp2_with fail
          have F12' := F12.out _ (Mem.arr_drew HSHk.out)
          try simp only [Nat.zero_add] at F12'
          refine F12'.mono ?_
          clear F12'
          rintro e wE ⟨rfl, hrE⟩
          have hbE : Below W8.heap.size W8 wE := (Below.drew (Below.refl _ _)).trans hrE
          all_goals
            go_wp2_with fail
            go_meet
            exact ⟨rfl, hbE⟩
      case rest =>
        obtain ⟨rfl, hbc⟩ := hcut
        obtain ⟨W9, rfl⟩ : ∃ W9 : World, W9 = wc := ⟨_, rfl⟩
        have K9 := Lib.hid (HK8.out.trans (hbc.mono HK8.out.size))
        have HOW9 := Lib.hid (Mem.own_below HOW8.out hbc)
        have he9 := (hbc.cell (by rw [Tr.block_add]; omega)).trans he6
        have hc9 := (hbc.cell (by rw [Tr.block_add]; omega)).trans hc0
        have HSH9 := Lib.hid ((HSHk.out.below hbc).of_lt hbc.size)
        have q9 := hbc.size
        have cd0 := below_cell hbc cb0 lw2
        have cd1 := below_cell hbc cb1 lw2
        have lw9 : w2.heap.size < W9.heap.size := by omega
        clear hbc he6 hc0 hc1 cb0 cb1 HOW8 HSHk F12
        go_upto_region 14 with fail
        have q1 : IntKind.i64.wrap ((k : Int) + 1) = (k : Int) + 1 := IntWalk.i64_in _ (by omega)
        have q2 : (0 : Int) ≤ (k : Int) + 1 := by omega
        have q3 : ((k : Int) + 1).toNat = k + 1 := by omega
        by_cases e1 : T = x1
        · subst e1
          go_quiet (fail)
          go_wp2_with fail
          go_roundw
          case rel => exact ⟨k + 1, by omega, by go_num, Mem.own_below HOW9.out (belowN (Below.refl _ _) _), belowN K9.out _⟩
          case measure => simp [intOf]; omega
        · have n1 : (T == x1) = false := by simpa using e1
          have n2 : decide (T = x1) = false := decide_eq_false e1
          by_cases hk0 : 0 < k
          · obtain ⟨p, hp⟩ : ∃ p, R[k - 1]? = some p := ⟨R[k - 1]'(by omega), List.getElem?_eq_getElem _⟩
            obtain ⟨ad7, ha7, hb7, he7⟩ := (HIf.out.below K9.out) (k - 1) p hp
            injection ha7 with ha7
            subst ha7
            have qq : IntKind.i64.wrap ((k : Int) - 1) = (k : Int) - 1 := IntWalk.i64_in _ (by omega)
            have k3 : (0 : Int) < (k : Int) := by omega
            have j0 : (0 : Int) ≤ (k : Int) - 1 := by omega
            have j1 : (k : Int) - 1 < (l.length : Int) := by omega
            have j2 : ((k : Int) - 1).toNat = k - 1 := by omega
            have k4 : decide ((0 : Int) < (k : Int)) = true := decide_eq_true k3
            by_cases e2 : T = p
            · subst e2
              go_quiet (fail)
              go_wp2_with fail
              go_roundw
              case rel => exact ⟨k + 1, by omega, by go_num, Mem.own_below HOW9.out (belowN (Below.refl _ _) _), belowN K9.out _⟩
              case measure => simp [intOf]; omega
            · have n3 : (T == p) = false := by simpa using e2
              have n4 : decide (T = p) = false := decide_eq_false e2
              go_quiet (fail)
              obtain ⟨f1, f2⟩ := H8.out e1 (fun p' _ hp' => by rw [hp] at hp'; injection hp' with hp'; subst hp'; exact fun h => e2 h.symm)
              go_upto_region 15 with fail
              obtain ⟨X, hX⟩ : ∃ X : World, W9.drewN nq = X := ⟨_, rfl⟩
              have hbX : Below W9.heap.size W9 X := by rw [← hX]; exact belowN (Below.refl _ _) _
              rw [hX]
              have HSHX := Lib.hid ((HSH9.out.below hbX).of_lt hbX.size)
              have HOWX := Lib.hid (Mem.own_below HOW9.out hbX)
              have KX := Lib.hid (K9.out.trans (hbX.mono K9.out.size))
              have ce0 := below_cell hbX cd0 lw9
              have ce1 := below_cell hbX cd1 lw9
              have qX := hbX.size
              clear hbX hX he9 hc9 cd0 cd1 HSH9 HOW9
              go_wp2_with (at_builtin; refine Mem.wpList_append _ rfl (.tmp 112) (.tmp 116) _ rfl X.heap.size 31 ia _ 2 16 Try.underlying46 IA.out.1 IA.out.2.1 IA.out.2.2.1 IA.out.2.2.2 rfl (by omega) (.slice (some ⟨X.heap.size, 0, none⟩) 0 0) 0 [] rfl (Mem.own_lit_at X X.heap.size 31 2 _ rfl (Nat.le_refl _)) X.heap.size (some ⟨g5, 0, none⟩) (k + 1) c5 (Mem.arrs (SH.take (k + 1))) rfl (by rw [Mem.arrs_length, hn1]) ((Mem.arr_row HSHX.out).below ((Below.refl _ _).alloc (Nat.le_refl _) _)) (Mem.arrs_oneCell (SH.take (k + 1))) (by unfold maxLen; omega) (by omega) (by simp) ?_; intro v9 W10 hown hgr hat hltz; have HE : Hid (W10.ownsRow X.heap.size 31 2 v9 (k + 1) (Mem.arrs (SH.take (k + 1)))) := Lib.hid (by simpa using hown); have hb_ : Below X.heap.size X W10 := Below.grown ((Below.refl _ _).alloc (Nat.le_refl _) _) hgr (by simp) (fun z hz => (hltz z hz).1); clear hown hgr hat hltz)
              have HB10 := Lib.hid hb_
              have q10 := hb_.size
              clear hb_
              obtain ⟨A9, c9, rfl, hlc9, _, _⟩ := Mem.own_row HE.out
              obtain ⟨g9, rfl, hg9a, hg9b⟩ := Mem.own_some HE.out (by omega)
              have hat9 : (SH.take (k + 1))[k]? = some (T, x2) := by rw [H4.out, List.getElem?_append_right (by omega), hpl, Nat.sub_self]; rfl
              obtain ⟨e0, e3, z0, z1⟩ := Mem.own_at HE.out hat9
              have i2 : (k : Int) < ((k + 1 : Nat) : Int) := by omega
              have i3 : (k : Int) < (k : Int) + 1 := by omega
              have qT : IntKind.i64.wrap (T - 1) = T - 1 := IntWalk.i64_in _ (by omega)
              clear hat9
              go_upto_region 17 with fail
              obtain ⟨W11, hW11⟩ : ∃ W11, W10.setCell ⟨g9, k * 2, none⟩ (.int .i64 (T - 1)) = W11 := ⟨_, rfl⟩
              have hown11 := (HE.out.stored (k * 2) (.int .i64 (T - 1))).1
              rw [H4.out, Sp.set_arrs hpl, hW11] at hown11
              have HB11 : Hid (Below X.heap.size X W11) := by rw [← hW11]; exact Lib.hid (by have hb := HB10.out; (repeat' (first | (with_reducible exact Below.refl _ _) | (with_reducible refine Below.alloc ?_ ?_ _) | (with_reducible refine Below.setCell ?_ ?_ _) | (with_reducible refine Below.drew ?_) | (with_reducible assumption) | omega | (simp; done) | (simp; omega))))
              rw [hW11]
              have cf0 := below_cell HB11.out ce0 (by omega)
              have cf1 := below_cell HB11.out ce1 (by omega)
              have hn9 : (SH.take k ++ [(T - 1, x2)]).length = k + 1 := by rw [List.length_append, hpl]; rfl
              have CFc := CF.out (some ⟨g9, 0, none⟩) (SH.take k ++ [(T - 1, x2)]) (k + 1) c9 hn9 f1 W11 (Mem.arr_own hown11)
              rw [f2] at CFc
              have HCF := Lib.hid CFc
              clear CFc hown11 e0 e3 z0 z1 hW11 HE f1 f2
              go_wp2_with fail
              refine HCF.out.mono ?_
              rintro e w12 ⟨rfl, hbE⟩
              have HBE := Lib.hid (HB11.out.trans (hbE.mono HB11.out.size))
              clear hbE
              go_wp2_with fail
              go_roundw
              case rel => exact ⟨k + 1, by omega, by go_num, Mem.own_below HOWX.out HBE.out, KX.out.trans (HBE.out.mono KX.out.size)⟩
              case measure => simp [intOf]; omega
          · obtain rfl : k = 0 := by omega
            have f6 : W9.cell? ad6 = some (.int .i64 T) := by have := he9; simpa [Addr.add] using this
            have fc : W9.cell? ad = some (.int .i64 x1) := by have := hc9; simpa [Addr.add] using this
            simp only [show ((0 : Nat) : Int) = 0 from rfl]
            go_quiet (fail)
            obtain ⟨f1, f2⟩ := H8.out e1 (fun p' h0 => absurd h0 (by omega))
            go_upto_region 15 with fail
            obtain ⟨X, hX⟩ : ∃ X : World, W9.drewN nq = X := ⟨_, rfl⟩
            have hbX : Below W9.heap.size W9 X := by rw [← hX]; exact belowN (Below.refl _ _) _
            rw [hX]
            have HSHX := Lib.hid ((HSH9.out.below hbX).of_lt hbX.size)
            have HOWX := Lib.hid (Mem.own_below HOW9.out hbX)
            have KX := Lib.hid (K9.out.trans (hbX.mono K9.out.size))
            have ce0 := below_cell hbX cd0 lw9
            have ce1 := below_cell hbX cd1 lw9
            have qX := hbX.size
            clear hbX hX he9 hc9 cd0 cd1 HSH9 HOW9
            go_wp2_with (at_builtin; refine Mem.wpList_append _ rfl (.tmp 112) (.tmp 116) _ rfl X.heap.size 31 ia _ 2 16 Try.underlying46 IA.out.1 IA.out.2.1 IA.out.2.2.1 IA.out.2.2.2 rfl (by omega) (.slice (some ⟨X.heap.size, 0, none⟩) 0 0) 0 [] rfl (Mem.own_lit_at X X.heap.size 31 2 _ rfl (Nat.le_refl _)) X.heap.size (some ⟨g5, 0, none⟩) 1 c5 (Mem.arrs (SH.take (0 + 1))) rfl (by rw [Mem.arrs_length]; omega) ((Mem.arr_row HSHX.out).below ((Below.refl _ _).alloc (Nat.le_refl _) _)) (Mem.arrs_oneCell (SH.take (0 + 1))) (by unfold maxLen; omega) (by omega) (by simp) ?_; intro v9 W10 hown hgr hat hltz; have HE : Hid (W10.ownsRow X.heap.size 31 2 v9 1 (Mem.arrs (SH.take (0 + 1)))) := Lib.hid (by simpa using hown); have hb_ : Below X.heap.size X W10 := Below.grown ((Below.refl _ _).alloc (Nat.le_refl _) _) hgr (by simp) (fun z hz => (hltz z hz).1); clear hown hgr hat hltz)
            have HB10 := Lib.hid hb_
            have q10 := hb_.size
            clear hb_
            obtain ⟨A9, c9, rfl, hlc9, _, _⟩ := Mem.own_row HE.out
            obtain ⟨g9, rfl, hg9a, hg9b⟩ := Mem.own_some HE.out (by omega)
            have hat9 : (SH.take (0 + 1))[0]? = some (T, x2) := by rw [H4.out, List.getElem?_append_right (by omega), hpl, Nat.sub_self]; rfl
            obtain ⟨e0, e3, z0, z1⟩ := Mem.own_at HE.out hat9
            have i2 : (0 : Int) < ((1 : Nat) : Int) := by omega
            have i3 : (0 : Int) < (0 : Int) + 1 := by omega
            have qT : IntKind.i64.wrap (T - 1) = T - 1 := IntWalk.i64_in _ (by omega)
            clear hat9
            rw [Nat.zero_mul] at e0 z0
            go_upto_region 17 with fail
            obtain ⟨W11, hW11⟩ : ∃ W11, W10.setCell ⟨g9, 0, none⟩ (.int .i64 (T - 1)) = W11 := ⟨_, rfl⟩
            have hown11 := (HE.out.stored (0 * 2) (.int .i64 (T - 1))).1
            rw [H4.out, Sp.set_arrs hpl, Nat.zero_mul, hW11] at hown11
            have HB11 : Hid (Below X.heap.size X W11) := by rw [← hW11]; exact Lib.hid (by have hb := HB10.out; (repeat' (first | (with_reducible exact Below.refl _ _) | (with_reducible refine Below.alloc ?_ ?_ _) | (with_reducible refine Below.setCell ?_ ?_ _) | (with_reducible refine Below.drew ?_) | (with_reducible assumption) | omega | (simp; done) | (simp; omega))))
            rw [hW11]
            have cf0 := below_cell HB11.out ce0 (by omega)
            have cf1 := below_cell HB11.out ce1 (by omega)
            have hn9 : (SH.take 0 ++ [(T - 1, x2)]).length = 1 := by rw [List.length_append, hpl]; rfl
            have CFc := CF.out (some ⟨g9, 0, none⟩) (SH.take 0 ++ [(T - 1, x2)]) 1 c9 hn9 f1 W11 (Mem.arr_own hown11)
            rw [f2] at CFc
            have HCF := Lib.hid CFc
            clear CFc hown11 e0 e3 z0 z1 hW11 HE f1 f2
            go_wp2_with fail
            refine HCF.out.mono ?_
            rintro e w12 ⟨rfl, hbE⟩
            have HBE := Lib.hid (HB11.out.trans (hbE.mono HB11.out.size))
            clear hbE
            go_wp2_with fail
            go_roundw
            case rel => exact ⟨0 + 1, by omega, by go_num, Mem.own_below HOWX.out HBE.out, KX.out.trans (HBE.out.mono KX.out.size)⟩
            case measure => simp [intOf]; omega
    · obtain rfl : k = l.length := by omega
      have hown2 := HOW.out
      rw [List.drop_length, List.append_nil, show SH.take l.length = SH by rw [← hsl]; exact List.take_length] at hown2
      have HSHf := Lib.hid (Mem.arr_own hown2)
      clear hown2
      go_wp2_with fail
      refine (RL.out A5 c5 _ HSHf.out).mono ?_
      rintro e w12 ⟨⟨A12, c12, rfl, hI12⟩, hb_⟩
      have hm_w12 : Below wo.heap.size wo w12 := hb_
      have q_w12 := hm_w12.size
      replace c_b_0 := below_cell hm_w12 c_b_0 lt_wo_0_0
      replace c_b_1 := below_cell hm_w12 c_b_1 lt_wo_0_0
      replace HA := Lib.hid ((HA.out.below hm_w12).of_lt hm_w12.size)
      replace HI := Lib.hid ((HI.out.below hm_w12).of_lt hm_w12.size)
      replace A0 := Lib.hid (A0.out.trans (hm_w12.mono A0.out.size))
      replace KW := Lib.hid (KW.out.trans (hm_w12.mono KW.out.size))
      have lt_w12_0_0 : w2.heap.size < w12.heap.size := by omega
      obtain ⟨le_w12_0_0, le_w12_0_1, le_w12_0_2, le_w12_0_3, lu_w12_0_1, lu_w12_0_2, lu_w12_0_3⟩ := lts lt_w12_0_0
      clear le_wo_0_0 le_wo_0_1 le_wo_0_2 le_wo_0_3 lu_wo_0_1 lu_wo_0_2 lu_wo_0_3 lt_wo_0_0
      clear hm_w12
      have HI12 := Lib.hid hI12
      clear hI12 hb_ HSHf HOW
      have HSc := SM.out A12 A6 c12 c6 _ HI12.out HI.out
      rw [hrl] at HSc
      have HSm := Lib.hid HSc
      clear HSc
      go_wp2_with fail
      refine HSm.out.mono ?_
      rintro e w13 ⟨rfl, hb_⟩
      have hm_w13 : Below w12.heap.size w12 w13 := hb_
      have q_w13 := hm_w13.size
      replace c_b_0 := below_cell hm_w13 c_b_0 lt_w12_0_0
      replace c_b_1 := below_cell hm_w13 c_b_1 lt_w12_0_0
      replace HA := Lib.hid ((HA.out.below hm_w13).of_lt hm_w13.size)
      replace HI := Lib.hid ((HI.out.below hm_w13).of_lt hm_w13.size)
      replace A0 := Lib.hid (A0.out.trans (hm_w13.mono A0.out.size))
      replace KW := Lib.hid (KW.out.trans (hm_w13.mono KW.out.size))
      have lt_w13_0_0 : w2.heap.size < w13.heap.size := by omega
      obtain ⟨le_w13_0_0, le_w13_0_1, le_w13_0_2, le_w13_0_3, lu_w13_0_1, lu_w13_0_2, lu_w13_0_3⟩ := lts lt_w13_0_0
      clear le_w12_0_0 le_w12_0_1 le_w12_0_2 le_w12_0_3 lu_w12_0_1 lu_w12_0_2 lu_w12_0_3 lt_w12_0_0
      clear hm_w13
      clear hb_
      go_wp2_with fail
      go_ret
      exact ⟨by simp, A0.out⟩
end SpW
end Go.Proofs.Ytpglhjgpjnapgaa
