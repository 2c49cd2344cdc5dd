/- MeterGreens: the walk of the law. -/
import Derived.BigCall
import Derived.Test.YtgpknoakkkkapaaAny2
import Derived.Test.YtgpknoakkkkapaaMtAl
namespace Go.Proofs.Ytgpknoakkkkapaa
set_option linter.unusedSimpArgs false
set_option linter.unusedVariables false
open Go.RowKit
namespace MtW
set_option maxRecDepth 100000 in
set_option maxHeartbeats 4000000 in
theorem law_Greens (x y : Nat) (hx : x < 4294967296) (hy : y < 4294967296) (G : Option Addr) (gs : List Int) (cg : Nat) (S : Option Addr) (ss : List Int) (cs : Nat) (n m : Nat) (hn : n < 4294967296) (hm : m < 4294967296) (w : World)
    (hG : Mem.Row w w.heap.size G (Mem.nums .u16 gs)) (hS : Mem.Row w w.heap.size S (Mem.nums .u16 ss)) (bG : ∀ n ∈ gs, 0 ≤ n ∧ n ≤ 65535) (bS : ∀ n ∈ ss, 0 ≤ n ∧ n ≤ 65535) (lG : gs.length ≤ maxLen) (lS : ss.length ≤ maxLen) :
    Calls Try.prog 7 #[.agg #[.int .u32 x, .int .u32 y, .slice G gs.length cg, .slice S ss.length cs], .agg #[.int .u32 n, .int .u32 m]] w fun e w' => e = .returned (.bool true) ∧ Below w.heap.size w w' := by
  obtain ⟨b, r, b2, r2, p1, p2, p3, p4, p5, p6, p7, p8, e1, e2, PR⟩ := Pair_some x y hx hy (.slice G gs.length cg) (.slice S ss.length cs) (IntKind.u16.wrap (n : Int)) m (by show 0 ≤ (n : Int) % 65536; omega) (by show (n : Int) % 65536 < 65536; omega) (by omega) (by omega)
  have hne : Mt.newE b r b2 r2 = 0 := Mt.newE_ok p1 p2 p3 p5 (by omega) p7 p8
  have hok := Dr.trace_ok bG bS
  have CT := fun W hG hS => DrW.Trace_any x y G gs cg S ss cs W hG hS bG bS lG lS
  have h30 : (Dr.trace gs ss).length ≤ 30 := by rw [Dr.trace_length]; omega
  generalize Dr.trace gs ss = l at *
  obtain ⟨ia, ha0, ha1, ha2, ha3⟩ := info_parts Mem.arr_info
  have IA := Lib.hid (And.intro ha0 (And.intro ha1 (And.intro ha2 ha3)))
  have HP := Lib.hid PR
  have HN := Lib.hid hne
  have HOK := Lib.hid hok
  have HCT := Lib.hid CT
  have HG := Lib.hid hG
  have HS := Lib.hid hS
  clear PR hne hok CT hG hS bG bS lG lS e1 e2 ha0 ha1 ha2 ha3
  go_enter Try.func7, Try.ntmps7
  go_wp2_with fail
  refine (works_any _).mono ?_
  rintro e w1 ⟨rfl, hb_⟩
  have s_w1 := hb_.size
  try simp only [World.size_alloc] at s_w1
  have hm_w1 : Below w.heap.size w w1 := Below.trans (b := ((w.alloc (.cells #[.int .u32 x, .int .u32 y, .slice G gs.length cg, .slice S ss.length cs] 28)).alloc (.cells #[.int .u32 n, .int .u32 m] 29))) (by (repeat' (first | (with_reducible exact Below.refl _ _) | (with_reducible refine Below.alloc ?_ ?_ _) | (with_reducible refine Below.setCell ?_ ?_ _) | (with_reducible refine Below.drew ?_) | (with_reducible assumption) | omega | (simp; done) | (simp; omega)))) (hb_.mono (by first | (simp; done) | (simp; omega)))
  have q_w1 := hm_w1.size
  have c_d_0 : w1.cell? ⟨w.heap.size, 0, none⟩ = some (.int .u32 x) := by rw [(bcell hb_).1 _ _ (by first | (simp; done) | (simp; omega))]; simp [go_sem]
  have c_d_1 : w1.cell? ⟨w.heap.size, 1, none⟩ = some (.int .u32 y) := by rw [(bcell hb_).1 _ _ (by first | (simp; done) | (simp; omega))]; simp [go_sem]
  have c_d_2 : w1.cell? ⟨w.heap.size, 2, none⟩ = some (.slice G gs.length cg) := by rw [(bcell hb_).1 _ _ (by first | (simp; done) | (simp; omega))]; simp [go_sem]
  have c_d_3 : w1.cell? ⟨w.heap.size, 3, none⟩ = some (.slice S ss.length cs) := by rw [(bcell hb_).1 _ _ (by first | (simp; done) | (simp; omega))]; simp [go_sem]
  have c_n_0 : w1.cell? ⟨w.heap.size + 1, 0, none⟩ = some (.int .u32 n) := by rw [(bcell hb_).1 _ _ (by first | (simp; done) | (simp; omega))]; simp [go_sem]
  have c_n_1 : w1.cell? ⟨w.heap.size + 1, 1, none⟩ = some (.int .u32 m) := by rw [(bcell hb_).1 _ _ (by first | (simp; done) | (simp; omega))]; simp [go_sem]
  have H_w1 := Lib.hid hm_w1
  have lt_w1_0_1 : w.heap.size + 1 < w1.heap.size := by omega
  have lt_w1_0_0 : w.heap.size < w1.heap.size := Nat.lt_of_succ_lt lt_w1_0_1
  obtain ⟨le_w1_0_0, le_w1_0_1, le_w1_0_2, le_w1_0_3, lu_w1_0_1, lu_w1_0_2, lu_w1_0_3⟩ := lts lt_w1_0_0
  clear hb_ hm_w1
  go_wp2_with fail
  refine (HP.out _).mono ?_
  rintro e w2 ⟨rfl, hb_⟩
  have s_w2 := hb_.size
  try simp only [World.size_alloc] at s_w2
  have hm_w2 : Below w1.heap.size w1 w2 := hb_
  have q_w2 := hm_w2.size
  replace c_d_0 := below_cell hm_w2 c_d_0 (by omega)
  replace c_d_1 := below_cell hm_w2 c_d_1 (by omega)
  replace c_d_2 := below_cell hm_w2 c_d_2 (by omega)
  replace c_d_3 := below_cell hm_w2 c_d_3 (by omega)
  replace c_n_0 := below_cell hm_w2 c_n_0 (by omega)
  replace c_n_1 := below_cell hm_w2 c_n_1 (by omega)
  have H_w2 := Lib.hid (H_w1.out.trans (hm_w2.mono (by omega)))
  have lt_w2_0_1 : w.heap.size + 1 < w2.heap.size := by omega
  have lt_w2_0_0 : w.heap.size < w2.heap.size := Nat.lt_of_succ_lt lt_w2_0_1
  obtain ⟨le_w2_0_0, le_w2_0_1, le_w2_0_2, le_w2_0_3, lu_w2_0_1, lu_w2_0_2, lu_w2_0_3⟩ := lts lt_w2_0_0
  clear le_w1_0_0 le_w1_0_1 le_w1_0_2 le_w1_0_3 lu_w1_0_1 lu_w1_0_2 lu_w1_0_3 lt_w1_0_0 lt_w1_0_1
  clear hb_ hm_w2
  clear c_n_0 c_n_1
  go_wp2_with fail
  obtain ⟨W3, hW3⟩ : ∃ W3, ((w2.alloc (.cells #[.int .i64 b, .int .i64 r] 23)).alloc (.cells #[.int .i64 b2, .int .i64 r2] 23)) = W3 := ⟨_, rfl⟩
  have hm_W3 : Below w2.heap.size w2 W3 := by rw [← hW3]; (repeat' (first | (with_reducible exact Below.refl _ _) | (with_reducible refine Below.alloc ?_ ?_ _) | (with_reducible refine Below.setCell ?_ ?_ _) | (with_reducible refine Below.drew ?_) | (with_reducible assumption) | omega | (simp; done) | (simp; omega)))
  have q_W3 : w2.heap.size + 2 ≤ W3.heap.size := by rw [← hW3]; simp
  replace c_d_0 := below_cell hm_W3 c_d_0 (by omega)
  replace c_d_1 := below_cell hm_W3 c_d_1 (by omega)
  replace c_d_2 := below_cell hm_W3 c_d_2 (by omega)
  replace c_d_3 := below_cell hm_W3 c_d_3 (by omega)
  have c_c_0 : W3.cell? ⟨w2.heap.size, 0, none⟩ = some (.int .i64 b) := by rw [← hW3]; simp [go_sem]
  have c_c_1 : W3.cell? ⟨w2.heap.size, 1, none⟩ = some (.int .i64 r) := by rw [← hW3]; simp [go_sem]
  have c_p_0 : W3.cell? ⟨w2.heap.size + 1, 0, none⟩ = some (.int .i64 b2) := by rw [← hW3]; simp [go_sem]
  have c_p_1 : W3.cell? ⟨w2.heap.size + 1, 1, none⟩ = some (.int .i64 r2) := by rw [← hW3]; simp [go_sem]
  have H_W3 := Lib.hid (H_w2.out.trans (hm_W3.mono (by have := H_w2.out.size; omega)))
  rw [hW3]
  clear hW3 hm_W3
  have lt_W3_0_0 : w.heap.size < W3.heap.size := by omega
  obtain ⟨le_W3_0_0, le_W3_0_1, le_W3_0_2, le_W3_0_3, lu_W3_0_1, lu_W3_0_2, lu_W3_0_3⟩ := lts lt_W3_0_0
  have lt_W3_1_1 : w2.heap.size + 1 < W3.heap.size := by omega
  have lt_W3_1_0 : w2.heap.size < W3.heap.size := Nat.lt_of_succ_lt lt_W3_1_1
  obtain ⟨le_W3_1_0, le_W3_1_1, le_W3_1_2, le_W3_1_3, lu_W3_1_1, lu_W3_1_2, lu_W3_1_3⟩ := lts lt_W3_1_0
  clear le_w2_0_0 le_w2_0_1 le_w2_0_2 le_w2_0_3 lu_w2_0_1 lu_w2_0_2 lu_w2_0_3 lt_w2_0_0 lt_w2_0_1
  refine (HCT.out _ ((HG.out.below H_W3.out).of_lt H_W3.out.size) ((HS.out.below H_W3.out).of_lt H_W3.out.size)).mono ?_
  rintro e w4 ⟨⟨vT, rfl, hoT⟩, hb_⟩
  obtain ⟨_, Ac, cc, rfl, hAc⟩ := Mem.own_arr hoT
  have HA4 := Lib.hid hAc
  clear hAc hoT
  have s_w4 := hb_.size
  try simp only [World.size_alloc] at s_w4
  have hm_w4 : Below W3.heap.size W3 w4 := hb_
  have q_w4 := hm_w4.size
  replace c_d_0 := below_cell hm_w4 c_d_0 (by omega)
  replace c_d_1 := below_cell hm_w4 c_d_1 (by omega)
  replace c_d_2 := below_cell hm_w4 c_d_2 (by omega)
  replace c_d_3 := below_cell hm_w4 c_d_3 (by omega)
  replace c_c_0 := below_cell hm_w4 c_c_0 (by omega)
  replace c_c_1 := below_cell hm_w4 c_c_1 (by omega)
  replace c_p_0 := below_cell hm_w4 c_p_0 (by omega)
  replace c_p_1 := below_cell hm_w4 c_p_1 (by omega)
  have H_w4 := Lib.hid (H_W3.out.trans (hm_w4.mono (by omega)))
  have lt_w4_0_0 : w.heap.size < w4.heap.size := by omega
  obtain ⟨le_w4_0_0, le_w4_0_1, le_w4_0_2, le_w4_0_3, lu_w4_0_1, lu_w4_0_2, lu_w4_0_3⟩ := lts lt_w4_0_0
  have lt_w4_1_1 : w2.heap.size + 1 < w4.heap.size := by omega
  have lt_w4_1_0 : w2.heap.size < w4.heap.size := Nat.lt_of_succ_lt lt_w4_1_1
  obtain ⟨le_w4_1_0, le_w4_1_1, le_w4_1_2, le_w4_1_3, lu_w4_1_1, lu_w4_1_2, lu_w4_1_3⟩ := lts lt_w4_1_0
  clear le_W3_0_0 le_W3_0_1 le_W3_0_2 le_W3_0_3 lu_W3_0_1 lu_W3_0_2 lu_W3_0_3 lt_W3_0_0
  clear le_W3_1_0 le_W3_1_1 le_W3_1_2 le_W3_1_3 lu_W3_1_1 lu_W3_1_2 lu_W3_1_3 lt_W3_1_0 lt_W3_1_1
  clear hb_ hm_w4
  clear c_d_0 c_d_1 c_d_2 c_d_3
  go_wp2_with fail
  refine (Run_good b r b2 r2 Ac l cc _ HA4.out (by omega) HN.out (chk_of_ok HOK.out)).mono ?_
  rintro e w5 ⟨⟨v5, rfl, hown⟩, hb_⟩
  have hlr := Mt.run_length b r b2 r2 l
  obtain ⟨A5, c5, rfl, hI5⟩ := own_slice hown
  have HI5 := Lib.hid hI5
  have HA5 := Lib.hid (Tr.Arr.of_lt (HA4.out.below hb_) hb_.size)
  clear hown hI5
  have s_w5 := hb_.size
  try simp only [World.size_alloc] at s_w5
  have hm_w5 : Below w4.heap.size w4 w5 := hb_
  have q_w5 := hm_w5.size
  replace c_c_0 := below_cell hm_w5 c_c_0 (by omega)
  replace c_c_1 := below_cell hm_w5 c_c_1 (by omega)
  replace c_p_0 := below_cell hm_w5 c_p_0 (by omega)
  replace c_p_1 := below_cell hm_w5 c_p_1 (by omega)
  have H_w5 := Lib.hid (H_w4.out.trans (hm_w5.mono (by omega)))
  have lt_w5_0_1 : w2.heap.size + 1 < w5.heap.size := by omega
  have lt_w5_0_0 : w2.heap.size < w5.heap.size := Nat.lt_of_succ_lt lt_w5_0_1
  obtain ⟨le_w5_0_0, le_w5_0_1, le_w5_0_2, le_w5_0_3, lu_w5_0_1, lu_w5_0_2, lu_w5_0_3⟩ := lts lt_w5_0_0
  clear le_w4_0_0 le_w4_0_1 le_w4_0_2 le_w4_0_3 lu_w4_0_1 lu_w4_0_2 lu_w4_0_3 lt_w4_0_0
  clear le_w4_1_0 le_w4_1_1 le_w4_1_2 le_w4_1_3 lu_w4_1_1 lu_w4_1_2 lu_w4_1_3 lt_w4_1_0 lt_w4_1_1
  clear hb_ hm_w5
  have HRR := Lib.hid (Mt.run_ref (b := b) (b2 := b2) (r := r) (r2 := r2) (by omega) (by omega) l (Mt.okFrom_of HOK.out))
  have HLR := Lib.hid hlr
  clear HCT HP hlr
  generalize Mt.run b r b2 r2 l = R at *
  have HCC1 := fun W A lc n cc hn hok h => ItW.conforms_good b r A lc n cc hn p1 (by omega) (by omega) p4 hok W h
  have HCC2 := fun W A lc n cc hn hok h => ItW.conforms_good b2 r2 A lc n cc hn p5 (by omega) (by omega) p8 hok W h
  have HC1 := Lib.hid HCC1
  have HC2 := Lib.hid HCC2
  clear HCC1 HCC2
  go_wp2_with fail
  go_loopw [10, 11, 12] (fun v u i wr => ∃ (k : Nat) (g q : List (Int × Int)) (A1 A2 : Option Addr) (c1 c2 : Nat) (pre : List Int), k ≤ l.length ∧ i = .int .i64 k ∧ v = .slice A1 g.length c1 ∧ u = .slice A2 q.length c2 ∧ Tr.Arr wr wr.heap.size A1 g ∧ Tr.Arr wr wr.heap.size A2 q ∧ R = pre ++ Mt.refFrom b r b2 r2 g q (l.drop k) ∧ pre.length = k ∧ Tr.okFrom 0 (g ++ l.drop k) = true ∧ Tr.okFrom 0 (q ++ l.drop k) = true ∧ g.length ≤ k ∧ q.length ≤ k ∧ Fits.fits b r g = true ∧ Fits.fits b2 r2 q = true ∧ Below w5.heap.size w5 wr) (fun _ _ i _ => l.length - (intOf i).toNat)
  case atStart => exact ⟨0, [], [], none, none, 0, 0, [], by omega, rfl, rfl, rfl, fun i x hx => by simp at hx, fun i x hx => by simp at hx, by simpa using HRR.out, rfl, Mt.okFrom_of HOK.out, Mt.okFrom_of HOK.out, Nat.le_refl _, Nat.le_refl _, rfl, rfl, Below.refl _ _⟩
  case round =>
    obtain ⟨k, g, q, A1, A2, c1, c2, pre, hk, rfl, rfl, rfl, hA1, hA2, hR, hpre, hokg, hokq, lg, lq, hfg, hfq, hbr⟩ := hrel
    have HA1 := Lib.hid hA1
    have HA2 := Lib.hid hA2
    have HRk := Lib.hid hR
    have HOKS := Lib.hid (And.intro hokg hokq)
    have HFS := Lib.hid (And.intro hfg hfq)
    have HBR := Lib.hid hbr
    have HBW := Lib.hid (H_w5.out.trans (hbr.mono (by omega)))
    replace c_c_0 := below_cell hbr c_c_0 (by omega)
    replace c_c_1 := below_cell hbr c_c_1 (by omega)
    replace c_p_0 := below_cell hbr c_p_0 (by omega)
    replace c_p_1 := below_cell hbr c_p_1 (by omega)
    have q_wr := hbr.size
    have lt_wr_0_1 : w2.heap.size + 1 < wr.heap.size := by omega
    have lt_wr_0_0 : w2.heap.size < wr.heap.size := Nat.lt_of_succ_lt lt_wr_0_1
    obtain ⟨le_wr_0_0, le_wr_0_1, le_wr_0_2, le_wr_0_3, lu_wr_0_1, lu_wr_0_2, lu_wr_0_3⟩ := lts lt_wr_0_0
    clear le_w5_0_0 le_w5_0_1 le_w5_0_2 le_w5_0_3 lu_w5_0_1 lu_w5_0_2 lu_w5_0_3 lt_w5_0_0 lt_w5_0_1
    clear hA1 hA2 hR hokg hokq hfg hfq hbr
    by_cases hlt : k < l.length
    · obtain ⟨⟨x1, x2⟩, hx⟩ : ∃ x, l[k]? = some x := ⟨l[k], List.getElem?_eq_getElem hlt⟩
      obtain ⟨adT, rfl, bT, hT0, hT1⟩ := (HA5.out.below HBR.out) k (x1, x2) hx
      have hdr : l.drop k = (x1, x2) :: l.drop (k + 1) := by
        obtain ⟨hk', he⟩ := List.getElem?_eq_some_iff.1 hx
        rw [← he]; exact List.drop_eq_getElem_cons hk'
      have HDR := Lib.hid hdr
      have i0 : (0 : Int) ≤ (k : Int) := by omega
      have i1 : (k : Int) < (l.length : Int) := by omega
      clear hdr hx
      go_upto_region 12 with fail
      obtain ⟨X, rfl⟩ : ∃ X : World, X = wr := ⟨_, rfl⟩
      have HR1 : Hid (Mem.Row X X.heap.size A1 (Mem.arrs g)) := Lib.hid (Mem.arr_row HA1.out)
      have HR2 : Hid (Mem.Row X X.heap.size A2 (Mem.arrs q)) := Lib.hid (Mem.arr_row HA2.out)
      have hcT0 : ∀ w', Below X.heap.size X w' → w'.cell? (adT.add (k * 2)) = some (.int .i64 x1) := fun w' h => (h.cell (by rw [Tr.block_add]; omega)).trans hT0
      have hcT1 : ∀ w', Below X.heap.size X w' → w'.cell? ⟨(adT.add (k * 2)).block, (adT.add (k * 2)).off + 1, none⟩ = some (.int .i64 x2) := fun w' h => (h.cell (by show (adT.add (k * 2)).block < _; rw [Tr.block_add]; omega)).trans hT1
      have HT0 := Lib.hid hcT0
      have HT1 := Lib.hid hcT1
      clear hcT0 hcT1 hT0 hT1
      refine AnyW.wp_region_from [51, 52, 53, 54, 55, 56, 57, 58, 59, 60, 61, 62, 63, 64, 65, 66, 67, 68, 13, 14] (by kernel_rfl) (AnyW.Data X.heap.size 33 g q A1 A2 (some adT) c1 c2 cc l.length k (.pointer (some (adT.add (k * 2)))) x1 x2 X) (by kernel_rfl) ?_ (fun x => AnyW.Data.start x _ (Below.drew (Below.refl _ _))) ?_
      · refine ⟨?_, ?_, ?_, ?_, ?_, ?_, ?_, ?_, ?_, ?_, ?_, ?_, ?_, ?_, ?_, ?_, ?_, ?_, ?_, ?_, trivial⟩
        · intro D a w hD hdep hI K hK
          obtain ⟨x, κ, rfl, hd⟩ := hI
          simp only [AnyW.withs, Act.put, List.setIfInBounds_toArray, List.set_cons_succ, List.set_cons_zero]
          go_simp
          refine hK _ _ ⟨AnyW.upd x 0 (.slice (some ⟨w.heap.size, 0, none⟩) 0 0), AnyW.upd κ w.heap.size 0, (by simp [AnyW.withs, AnyW.upd, Act.put]), (hd.alloc 0 _).pure 0 _ ⟨by simp, by simp, by simp, by simp⟩ (fun _ => AnyW.Held.new κ w hd.below.size #[] (by unfold maxLen; omega) rfl)⟩
        · intro D a w hD hdep hI K hK
          obtain ⟨x, κ, rfl, hd⟩ := hI
          simp only [AnyW.withs, Act.put, List.setIfInBounds_toArray, List.set_cons_succ, List.set_cons_zero]
          go_simp
          refine hK _ _ ⟨AnyW.upd x 1 (.slice A1 g.length c1), κ, (by simp [AnyW.withs, AnyW.upd, Act.put]), hd.pure 1 _ ⟨by simp, by simp, by simp, by simp⟩ rfl⟩
        · intro D a w hD hdep hI K hK
          obtain ⟨x, κ, rfl, hd⟩ := hI
          simp only [AnyW.withs, Act.put, List.setIfInBounds_toArray, List.set_cons_succ, List.set_cons_zero]
          have h0 : AnyW.Held κ X.heap.size 0 33 w (x 0) 0 [] := hd.fact 0 (hdep.get 0 (by kernel_rfl)) hD
          have h1 : x 1 = .slice A1 g.length c1 := hd.fact 1 (hdep.get 1 (by kernel_rfl))
          have hsz := hd.below.size
          rw [if_pos (show Region.wanted _ _ = true from rfl)]
          refine Mem.wp_append _ (.tmp 51) (.tmp 52) _ (by rfl) X.heap.size 33 ia _ 2 16 Try.underlying50 IA.out.1 IA.out.2.1 IA.out.2.2.1 IA.out.2.2.2 rfl (by omega) (x 0) 0 [] (by rfl) h0.1 X.heap.size A1 g.length c1 (Mem.arrs g) (by exact h1) (Mem.arrs_length g) (HR1.out.below hd.below) (Mem.arrs_oneCell g) (by unfold maxLen; omega) (by omega) hsz ?_
          intro v w' hown hg hat hlt'
          rw [Nat.zero_add, List.nil_append] at hown
          refine hK _ _ ⟨AnyW.upd x 2 (v), _, (by simp [AnyW.withs, AnyW.upd, Act.put] <;> simp [h1]), hd.app 2 0 (by simp) hD ⟨by simp, by simp⟩ hg h0.2 (Below.grown hd.below hg hsz (fun k hk => (hlt' k hk).1)) v (fun _ => h0.app hown hat)⟩
        · intro D a w hD hdep hI K hK
          obtain ⟨x, κ, rfl, hd⟩ := hI
          simp only [AnyW.withs, Act.put, List.setIfInBounds_toArray, List.set_cons_succ, List.set_cons_zero]
          go_simp
          refine hK _ _ ⟨AnyW.upd x 3 (.slice (some adT) l.length cc), κ, (by simp [AnyW.withs, AnyW.upd, Act.put]), hd.pure 3 _ ⟨by simp, by simp, by simp, by simp⟩ rfl⟩
        · intro D a w hD hdep hI K hK
          obtain ⟨x, κ, rfl, hd⟩ := hI
          simp only [AnyW.withs, Act.put, List.setIfInBounds_toArray, List.set_cons_succ, List.set_cons_zero]
          go_simp
          refine hK _ _ ⟨AnyW.upd x 4 (.int .i64 k), κ, (by simp [AnyW.withs, AnyW.upd, Act.put]), hd.pure 4 _ ⟨by simp, by simp, by simp, by simp⟩ rfl⟩
        · intro D a w hD hdep hI K hK
          obtain ⟨x, κ, rfl, hd⟩ := hI
          simp only [AnyW.withs, Act.put, List.setIfInBounds_toArray, List.set_cons_succ, List.set_cons_zero]
          have h3 : x 3 = .slice (some adT) l.length cc := hd.fact 3 (hdep.get 3 (by kernel_rfl))
          have h4 : x 4 = .int .i64 k := hd.fact 4 (hdep.get 4 (by kernel_rfl))
          go_simp
          refine hK _ _ ⟨AnyW.upd x 5 (.pointer (some (adT.add (k * 2)))), κ, (by simp [AnyW.withs, AnyW.upd, Act.put] <;> simp [h3, h4]), hd.pure 5 _ ⟨by simp, by simp, by simp, by simp⟩ rfl⟩
        · intro D a w hD hdep hI K hK
          obtain ⟨x, κ, rfl, hd⟩ := hI
          simp only [AnyW.withs, Act.put, List.setIfInBounds_toArray, List.set_cons_succ, List.set_cons_zero]
          have h5 : x 5 = .pointer (some (adT.add (k * 2))) := hd.fact 5 (hdep.get 5 (by kernel_rfl))
          have t0 := HT0.out w hd.below
          have t1 := HT1.out w hd.below
          go_simp
          refine hK _ _ ⟨AnyW.upd x 6 (.agg #[.int .i64 x1, .int .i64 x2]), κ, (by simp [AnyW.withs, AnyW.upd, Act.put] <;> simp [h5]), hd.pure 6 _ ⟨by simp, by simp, by simp, by simp⟩ rfl⟩
        · intro D a w hD hdep hI K hK
          obtain ⟨x, κ, rfl, hd⟩ := hI
          simp only [AnyW.withs, Act.put, List.setIfInBounds_toArray, List.set_cons_succ, List.set_cons_zero]
          have h6 : x 6 = .agg #[.int .i64 x1, .int .i64 x2] := hd.fact 6 (hdep.get 6 (by kernel_rfl))
          go_simp
          refine hK _ _ ⟨AnyW.upd x 7 (.slice (some ⟨w.heap.size, 0, none⟩) 1 1), AnyW.upd κ w.heap.size 1, (by simp [AnyW.withs, AnyW.upd, Act.put] <;> simp [h6]), (hd.alloc 1 _).pure 7 _ ⟨by simp, by simp, by simp, by simp⟩ (AnyW.Held.new κ w hd.below.size #[.int .i64 x1, .int .i64 x2] (by unfold maxLen; omega) rfl)⟩
        · intro D a w hD hdep hI K hK
          obtain ⟨x, κ, rfl, hd⟩ := hI
          simp only [AnyW.withs, Act.put, List.setIfInBounds_toArray, List.set_cons_succ, List.set_cons_zero]
          have d2 := hdep.get 2 (by kernel_rfl)
          have h2 : AnyW.Held κ X.heap.size 0 33 w (x 2) g.length (Mem.arrs g) := hd.fact 2 d2 hD
          have h7 : AnyW.Held κ X.heap.size 1 33 w (x 7) 1 [.int .i64 x1, .int .i64 x2] := hd.fact 7 (hdep.get 7 (by kernel_rfl))
          obtain ⟨A7, c7, e7, _, hr7, _⟩ := Mem.own_row h7.1
          have hsz := hd.below.size
          rw [if_pos (show Region.wanted _ _ = true from rfl)]
          refine Mem.wp_append _ (.tmp 53) (.tmp 58) _ (by rfl) X.heap.size 33 ia _ 2 16 Try.underlying50 IA.out.1 IA.out.2.1 IA.out.2.2.1 IA.out.2.2.2 rfl (by omega) (x 2) g.length (Mem.arrs g) (by rfl) h2.1 w.heap.size A7 1 c7 [.int .i64 x1, .int .i64 x2] (by exact e7) rfl hr7 (Mem.arrs_oneCell [(x1, x2)]) (by unfold maxLen; omega) (by omega) hsz ?_
          intro v w' hown hg hat hlt'
          have ea : (Mem.arrs g ++ [.int .i64 x1, .int .i64 x2]) = Mem.arrs (g ++ [(x1, x2)]) := by rw [Mem.arrs_append, Mem.arrs_one]
          rw [ea] at hown
          refine hK _ _ ⟨AnyW.upd x 8 (v), _, (by simp [AnyW.withs, AnyW.upd, Act.put]), hd.app 8 0 (by simp) hD ⟨by simp [d2], by simp [d2]⟩ hg h2.2 (Below.grown hd.below hg hsz (fun k hk => (hlt' k hk).1)) v (h2.app hown hat)⟩
        · intro D a w hD hdep hI K hK
          obtain ⟨x, κ, rfl, hd⟩ := hI
          simp only [AnyW.withs, Act.put, List.setIfInBounds_toArray, List.set_cons_succ, List.set_cons_zero]
          go_simp
          refine hK _ _ ⟨AnyW.upd x 9 (.slice (some ⟨w.heap.size, 0, none⟩) 0 0), AnyW.upd κ w.heap.size 2, (by simp [AnyW.withs, AnyW.upd, Act.put]), (hd.alloc 2 _).pure 9 _ ⟨by simp, by simp, by simp, by simp⟩ (fun _ => AnyW.Held.new κ w hd.below.size #[] (by unfold maxLen; omega) rfl)⟩
        · intro D a w hD hdep hI K hK
          obtain ⟨x, κ, rfl, hd⟩ := hI
          simp only [AnyW.withs, Act.put, List.setIfInBounds_toArray, List.set_cons_succ, List.set_cons_zero]
          go_simp
          refine hK _ _ ⟨AnyW.upd x 10 (.slice A2 q.length c2), κ, (by simp [AnyW.withs, AnyW.upd, Act.put]), hd.pure 10 _ ⟨by simp, by simp, by simp, by simp⟩ rfl⟩
        · intro D a w hD hdep hI K hK
          obtain ⟨x, κ, rfl, hd⟩ := hI
          simp only [AnyW.withs, Act.put, List.setIfInBounds_toArray, List.set_cons_succ, List.set_cons_zero]
          have h0 : AnyW.Held κ X.heap.size 2 33 w (x 9) 0 [] := hd.fact 9 (hdep.get 9 (by kernel_rfl)) hD
          have h1 : x 10 = .slice A2 q.length c2 := hd.fact 10 (hdep.get 10 (by kernel_rfl))
          have hsz := hd.below.size
          rw [if_pos (show Region.wanted _ _ = true from rfl)]
          refine Mem.wp_append _ (.tmp 60) (.tmp 61) _ (by rfl) X.heap.size 33 ia _ 2 16 Try.underlying50 IA.out.1 IA.out.2.1 IA.out.2.2.1 IA.out.2.2.2 rfl (by omega) (x 9) 0 [] (by rfl) h0.1 X.heap.size A2 q.length c2 (Mem.arrs q) (by exact h1) (Mem.arrs_length q) (HR2.out.below hd.below) (Mem.arrs_oneCell q) (by unfold maxLen; omega) (by omega) hsz ?_
          intro v w' hown hg hat hlt'
          rw [Nat.zero_add, List.nil_append] at hown
          refine hK _ _ ⟨AnyW.upd x 11 (v), _, (by simp [AnyW.withs, AnyW.upd, Act.put] <;> simp [h1]), hd.app 11 2 (by simp) hD ⟨by simp, by simp⟩ hg h0.2 (Below.grown hd.below hg hsz (fun k hk => (hlt' k hk).1)) v (fun _ => h0.app hown hat)⟩
        · intro D a w hD hdep hI K hK
          obtain ⟨x, κ, rfl, hd⟩ := hI
          simp only [AnyW.withs, Act.put, List.setIfInBounds_toArray, List.set_cons_succ, List.set_cons_zero]
          go_simp
          refine hK _ _ ⟨AnyW.upd x 12 (.slice (some adT) l.length cc), κ, (by simp [AnyW.withs, AnyW.upd, Act.put]), hd.pure 12 _ ⟨by simp, by simp, by simp, by simp⟩ rfl⟩
        · intro D a w hD hdep hI K hK
          obtain ⟨x, κ, rfl, hd⟩ := hI
          simp only [AnyW.withs, Act.put, List.setIfInBounds_toArray, List.set_cons_succ, List.set_cons_zero]
          go_simp
          refine hK _ _ ⟨AnyW.upd x 13 (.int .i64 k), κ, (by simp [AnyW.withs, AnyW.upd, Act.put]), hd.pure 13 _ ⟨by simp, by simp, by simp, by simp⟩ rfl⟩
        · intro D a w hD hdep hI K hK
          obtain ⟨x, κ, rfl, hd⟩ := hI
          simp only [AnyW.withs, Act.put, List.setIfInBounds_toArray, List.set_cons_succ, List.set_cons_zero]
          have h3 : x 12 = .slice (some adT) l.length cc := hd.fact 12 (hdep.get 12 (by kernel_rfl))
          have h4 : x 13 = .int .i64 k := hd.fact 13 (hdep.get 13 (by kernel_rfl))
          go_simp
          refine hK _ _ ⟨AnyW.upd x 14 (.pointer (some (adT.add (k * 2)))), κ, (by simp [AnyW.withs, AnyW.upd, Act.put] <;> simp [h3, h4]), hd.pure 14 _ ⟨by simp, by simp, by simp, by simp⟩ rfl⟩
        · intro D a w hD hdep hI K hK
          obtain ⟨x, κ, rfl, hd⟩ := hI
          simp only [AnyW.withs, Act.put, List.setIfInBounds_toArray, List.set_cons_succ, List.set_cons_zero]
          have h5 : x 14 = .pointer (some (adT.add (k * 2))) := hd.fact 14 (hdep.get 14 (by kernel_rfl))
          have t0 := HT0.out w hd.below
          have t1 := HT1.out w hd.below
          go_simp
          refine hK _ _ ⟨AnyW.upd x 15 (.agg #[.int .i64 x1, .int .i64 x2]), κ, (by simp [AnyW.withs, AnyW.upd, Act.put] <;> simp [h5]), hd.pure 15 _ ⟨by simp, by simp, by simp, by simp⟩ rfl⟩
        · intro D a w hD hdep hI K hK
          obtain ⟨x, κ, rfl, hd⟩ := hI
          simp only [AnyW.withs, Act.put, List.setIfInBounds_toArray, List.set_cons_succ, List.set_cons_zero]
          have h6 : x 15 = .agg #[.int .i64 x1, .int .i64 x2] := hd.fact 15 (hdep.get 15 (by kernel_rfl))
          go_simp
          refine hK _ _ ⟨AnyW.upd x 16 (.slice (some ⟨w.heap.size, 0, none⟩) 1 1), AnyW.upd κ w.heap.size 3, (by simp [AnyW.withs, AnyW.upd, Act.put] <;> simp [h6]), (hd.alloc 3 _).pure 16 _ ⟨by simp, by simp, by simp, by simp⟩ (AnyW.Held.new κ w hd.below.size #[.int .i64 x1, .int .i64 x2] (by unfold maxLen; omega) rfl)⟩
        · intro D a w hD hdep hI K hK
          obtain ⟨x, κ, rfl, hd⟩ := hI
          simp only [AnyW.withs, Act.put, List.setIfInBounds_toArray, List.set_cons_succ, List.set_cons_zero]
          have d2 := hdep.get 11 (by kernel_rfl)
          have h2 : AnyW.Held κ X.heap.size 2 33 w (x 11) q.length (Mem.arrs q) := hd.fact 11 d2 hD
          have h7 : AnyW.Held κ X.heap.size 3 33 w (x 16) 1 [.int .i64 x1, .int .i64 x2] := hd.fact 16 (hdep.get 16 (by kernel_rfl))
          obtain ⟨A7, c7, e7, _, hr7, _⟩ := Mem.own_row h7.1
          have hsz := hd.below.size
          rw [if_pos (show Region.wanted _ _ = true from rfl)]
          refine Mem.wp_append _ (.tmp 62) (.tmp 67) _ (by rfl) X.heap.size 33 ia _ 2 16 Try.underlying50 IA.out.1 IA.out.2.1 IA.out.2.2.1 IA.out.2.2.2 rfl (by omega) (x 11) q.length (Mem.arrs q) (by rfl) h2.1 w.heap.size A7 1 c7 [.int .i64 x1, .int .i64 x2] (by exact e7) rfl hr7 (Mem.arrs_oneCell [(x1, x2)]) (by unfold maxLen; omega) (by omega) hsz ?_
          intro v w' hown hg hat hlt'
          have ea : (Mem.arrs q ++ [.int .i64 x1, .int .i64 x2]) = Mem.arrs (q ++ [(x1, x2)]) := by rw [Mem.arrs_append, Mem.arrs_one]
          rw [ea] at hown
          refine hK _ _ ⟨AnyW.upd x 17 (v), _, (by simp [AnyW.withs, AnyW.upd, Act.put]), hd.app 17 2 (by simp) hD ⟨by simp [d2], by simp [d2]⟩ hg h2.2 (Below.grown hd.below hg hsz (fun k hk => (hlt' k hk).1)) v (h2.app hown hat)⟩
        · intro D a w hD hdep hI K hK
          obtain ⟨x, κ, rfl, hd⟩ := hI
          simp only [AnyW.withs, Act.put, List.setIfInBounds_toArray, List.set_cons_succ, List.set_cons_zero]
          have d8 := hdep.get 8 (by kernel_rfl)
          go_simp
          refine hK _ _ ⟨AnyW.upd x 18 (x 8), κ, (by simp [AnyW.withs, AnyW.upd, Act.put]), hd.pure 18 _ ⟨by simp, by simp, by simp [d8], by simp [d8]⟩ (hd.fact 8 d8)⟩
        · intro D a w hD hdep hI K hK
          obtain ⟨x, κ, rfl, hd⟩ := hI
          simp only [AnyW.withs, Act.put, List.setIfInBounds_toArray, List.set_cons_succ, List.set_cons_zero]
          have d8 := hdep.get 17 (by kernel_rfl)
          go_simp
          refine hK _ _ ⟨AnyW.upd x 19 (x 17), κ, (by simp [AnyW.withs, AnyW.upd, Act.put]), hd.pure 19 _ ⟨by simp, by simp, by simp [d8], by simp [d8]⟩ (hd.fact 17 d8)⟩
      · intro D wq xs κ hall hd
        have o18 : wq.ownsRow X.heap.size 33 2 (xs 18) (g.length + 1) (Mem.arrs (g ++ [(x1, x2)])) := (hd.fact 18 (hall 18 (by decide))).1
        have o19 : wq.ownsRow X.heap.size 33 2 (xs 19) (q.length + 1) (Mem.arrs (q ++ [(x1, x2)])) := (hd.fact 19 (hall 19 (by decide))).1
        have hbq := hd.below
        simp only [AnyW.withs, Act.put, List.setIfInBounds_toArray, List.set_cons_succ, List.set_cons_zero]
        clear hall hd HT0 HT1 HR1 HR2 IA
        generalize xs 0 = y0 at *
        generalize xs 1 = y1 at *
        generalize xs 2 = y2 at *
        generalize xs 3 = y3 at *
        generalize xs 4 = y4 at *
        generalize xs 5 = y5 at *
        generalize xs 6 = y6 at *
        generalize xs 7 = y7 at *
        generalize xs 8 = y8 at *
        generalize xs 9 = y9 at *
        generalize xs 10 = y10 at *
        generalize xs 11 = y11 at *
        generalize xs 12 = y12 at *
        generalize xs 13 = y13 at *
        generalize xs 14 = y14 at *
        generalize xs 15 = y15 at *
        generalize xs 16 = y16 at *
        generalize xs 17 = y17 at *
        generalize xs 18 = y18 at *
        generalize xs 19 = y19 at *
        clear κ D
        obtain ⟨_, A18, c18, rfl, hA18⟩ := Mem.own_arr o18
        obtain ⟨_, A19, c19, rfl, hA19⟩ := Mem.own_arr o19
        clear o18 o19
        generalize hn18 : (g ++ [(x1, x2)]).length = n18 at *
        generalize hn19 : (q ++ [(x1, x2)]).length = n19 at *
        have HN18 := Lib.hid hn18
        have HN19 := Lib.hid hn19
        clear hn18 hn19
        have HA18 := Lib.hid hA18
        have HA19 := Lib.hid hA19
        have HA1q := Lib.hid ((HA1.out.below hbq).of_lt hbq.size)
        have HA2q := Lib.hid ((HA2.out.below hbq).of_lt hbq.size)
        have HBQ := Lib.hid (HBR.out.trans (hbq.mono (by have := HBR.out.size; omega)))
        have hRk : R[k]? = some (Mt.refK b r b2 r2 g q (x1, x2)) := by rw [HRk.out, HDR.out, List.getElem?_append_right (by omega), hpre, Nat.sub_self]; rfl
        obtain ⟨adI, rfl, bI, hcI⟩ := (HI5.out.below HBQ.out) k _ hRk
        have hokG : Tr.ok (g ++ [(x1, x2)]) = true := by
          have := Tr.okFrom_prefix (a := g ++ [(x1, x2)]) (b := l.drop (k + 1)) (last := 0) (by have := HOKS.out.1; rw [HDR.out] at this; simpa using this)
          unfold Tr.ok; rw [this, Bool.and_true, decide_eq_true_iff]; simp; omega
        have hokQ : Tr.ok (q ++ [(x1, x2)]) = true := by
          have := Tr.okFrom_prefix (a := q ++ [(x1, x2)]) (b := l.drop (k + 1)) (last := 0) (by have := HOKS.out.2; rw [HDR.out] at this; simpa using this)
          unfold Tr.ok; rw [this, Bool.and_true, decide_eq_true_iff]; simp; omega
        have hokg1 : Tr.okFrom 0 (g ++ l.drop (k + 1)) = true := Tr.okFrom_skip (x := (x1, x2)) (by have := HOKS.out.1; rw [HDR.out] at this; exact this)
        have hokq1 : Tr.okFrom 0 (q ++ l.drop (k + 1)) = true := Tr.okFrom_skip (x := (x1, x2)) (by have := HOKS.out.2; rw [HDR.out] at this; exact this)
        have hokg2 : Tr.okFrom 0 (g ++ [(x1, x2)] ++ l.drop (k + 1)) = true := by have := HOKS.out.1; rw [HDR.out] at this; simpa using this
        have hokq2 : Tr.okFrom 0 (q ++ [(x1, x2)] ++ l.drop (k + 1)) = true := by have := HOKS.out.2; rw [HDR.out] at this; simpa using this
        have HO := Lib.hid (And.intro hokG (And.intro hokQ (And.intro hokg1 (And.intro hokq1 (And.intro hokg2 hokq2)))))
        clear hokG hokQ hokg1 hokq1 hokg2 hokq2 hA18 hA19 hRk
        have C1 := HC1.out wq A18 (g ++ [(x1, x2)]) n18 c18 HN18.out HO.out.1 HA18.out
        have C2 := HC2.out wq A19 (q ++ [(x1, x2)]) n19 c19 HN19.out HO.out.2.1 HA19.out
        replace c_c_0 := below_cell hbq c_c_0 (by omega)
        replace c_c_1 := below_cell hbq c_c_1 (by omega)
        replace c_p_0 := below_cell hbq c_p_0 (by omega)
        replace c_p_1 := below_cell hbq c_p_1 (by omega)
        have q_wq := hbq.size
        have lt_wq_0_1 : w2.heap.size + 1 < wq.heap.size := by omega
        have lt_wq_0_0 : w2.heap.size < wq.heap.size := Nat.lt_of_succ_lt lt_wq_0_1
        obtain ⟨le_wq_0_0, le_wq_0_1, le_wq_0_2, le_wq_0_3, lu_wq_0_1, lu_wq_0_2, lu_wq_0_3⟩ := lts lt_wq_0_0
        clear le_wr_0_0 le_wr_0_1 le_wr_0_2 le_wr_0_3 lu_wr_0_1 lu_wr_0_2 lu_wr_0_3 lt_wr_0_0 lt_wr_0_1
        clear hbq
        cases hf2 : Fits.fits b2 r2 (q ++ [(x1, x2)])
        · have ek : Mt.refK b r b2 r2 g q (x1, x2) = 2 := by unfold Mt.refK; rw [if_pos hf2]
          rw [ek] at hcI
          rw [hf2] at C2
          have HCm := Lib.hid C2
          clear C1 C2
          go_wp2_with fail
          refine HCm.out.mono ?_
          rintro e wE ⟨rfl, hbE⟩
          have HE := Lib.hid hbE
          clear hbE HCm
          go_wp2_with fail
          go_roundw
          case rel => exact ⟨k + 1, g, q, A1, A2, c1, c2, pre ++ [2], by omega, by go_num, by first | rfl | rw [HN18.out], by first | rfl | rw [HN19.out], ((HA1q.out.below HE.out).of_lt HE.out.size), ((HA2q.out.below HE.out).of_lt HE.out.size), (by refine HRk.out.trans ?_; rw [HDR.out, Mt.refFrom, ek]; simp [Mt.refG, Mt.refP]), by first | omega | (simp; omega), HO.out.2.2.1, HO.out.2.2.2.1, by first | omega | (simp; omega), by first | omega | (simp; omega), HFS.out.1, HFS.out.2, (HBQ.out.trans (HE.out.mono (by have := HBQ.out.size; omega)))⟩
          case measure => simp [intOf]; omega
        · cases hf1 : Fits.fits b r (g ++ [(x1, x2)])
          · have ek : Mt.refK b r b2 r2 g q (x1, x2) = 1 := by unfold Mt.refK; rw [if_neg (by rw [hf2]; simp), if_pos hf1]
            rw [ek] at hcI
            rw [hf1] at C1
            have HCm := Lib.hid C1
            clear C1 C2
            go_wp2_with fail
            refine HCm.out.mono ?_
            rintro e wE ⟨rfl, hbE⟩
            have HE := Lib.hid hbE
            clear hbE HCm
            go_wp2_with fail
            go_roundw
            case rel => exact ⟨k + 1, g, q ++ [(x1, x2)], A1, A19, c1, c19, pre ++ [1], by omega, by go_num, by first | rfl | rw [HN18.out], by first | rfl | rw [HN19.out], ((HA1q.out.below HE.out).of_lt HE.out.size), ((HA19.out.below HE.out).of_lt HE.out.size), (by refine HRk.out.trans ?_; rw [HDR.out, Mt.refFrom, ek]; simp [Mt.refG, Mt.refP]), by first | omega | (simp; omega), HO.out.2.2.1, HO.out.2.2.2.2.2, by first | omega | (simp; omega), by first | omega | (simp; omega), HFS.out.1, hf2, (HBQ.out.trans (HE.out.mono (by have := HBQ.out.size; omega)))⟩
            case measure => simp [intOf]; omega
          · have ek : Mt.refK b r b2 r2 g q (x1, x2) = 0 := by unfold Mt.refK; rw [if_neg (by rw [hf2]; simp), if_neg (by rw [hf1]; simp)]
            rw [ek] at hcI
            clear C1 C2
            go_wp2_with fail
            go_roundw
            case rel => exact ⟨k + 1, g ++ [(x1, x2)], q ++ [(x1, x2)], A18, A19, c18, c19, pre ++ [0], by omega, by go_num, by first | rfl | rw [HN18.out], by first | rfl | rw [HN19.out], HA18.out, HA19.out, (by refine HRk.out.trans ?_; rw [HDR.out, Mt.refFrom, ek]; simp [Mt.refG, Mt.refP]), by first | omega | (simp; omega), HO.out.2.2.2.2.1, HO.out.2.2.2.2.2, by first | omega | (simp; omega), by first | omega | (simp; omega), hf1, hf2, HBQ.out⟩
            case measure => simp [intOf]; omega
    · obtain ⟨W8, rfl⟩ : ∃ W8 : World, W8 = wr := ⟨_, rfl⟩
      have hkl : l.drop k = [] := List.drop_eq_nil_of_le (by omega)
      have hok1 : Tr.ok g = true := by have := HOKS.out.1; rw [hkl, List.append_nil] at this; unfold Tr.ok; rw [this, Bool.and_true, decide_eq_true_iff]; omega
      have hok2 : Tr.ok q = true := by have := HOKS.out.2; rw [hkl, List.append_nil] at this; unfold Tr.ok; rw [this, Bool.and_true, decide_eq_true_iff]; omega
      have C1 := HC1.out W8 A1 g g.length c1 rfl hok1 HA1.out
      rw [HFS.out.1] at C1
      have HCm := Lib.hid C1
      have HQ2 := Lib.hid hok2
      clear C1 hok1 hok2 hkl
      go_wp2_with fail
      refine HCm.out.mono ?_
      rintro e wE ⟨rfl, hbE⟩
      have C2 := HC2.out wE A2 q q.length c2 rfl HQ2.out ((HA2.out.below hbE).of_lt hbE.size)
      rw [HFS.out.2] at C2
      have HCn := Lib.hid C2
      have HBE := Lib.hid (HBW.out.trans (hbE.mono (by have := HBW.out.size; omega)))
      replace c_c_0 := below_cell hbE c_c_0 (by omega)
      replace c_c_1 := below_cell hbE c_c_1 (by omega)
      replace c_p_0 := below_cell hbE c_p_0 (by omega)
      replace c_p_1 := below_cell hbE c_p_1 (by omega)
      clear C2 hbE HCm
      go_wp2_with fail
      refine HCn.out.mono ?_
      rintro e wF ⟨rfl, hbF⟩
      have HBF := Lib.hid (HBE.out.trans (hbF.mono (by have := HBE.out.size; omega)))
      clear hbF HCn
      go_wp2_with fail
      go_ret
      exact ⟨rfl, HBF.out⟩
end MtW
end Go.Proofs.Ytgpknoakkkkapaa
