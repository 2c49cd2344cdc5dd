/- CreditSmooth: the walk of the law. -/
import Derived.Test.YtoglmfpmeajbeaaCrL1
import Derived.Test.YtoglmfpmeajbeaaCrC
import Derived.Test.YtoglmfpmeajbeaaCrD
import Derived.Test.YtoglmfpmeajbeaaCrX
import Derived.Test.YtoglmfpmeajbeaaOwn
import Derived.Test.YtoglmfpmeajbeaaIter3
import Derived.Test.YtoglmfpmeajbeaaStq
import Derived.Deep.DeepCutAuto
namespace Go.Proofs.Ytoglmfpmeajbeaa
set_option linter.unusedSimpArgs false
set_option linter.unusedVariables false
open Go.RowKit
namespace CrW
set_option maxRecDepth 100000 in
set_option maxHeartbeats 8000000 in
theorem law_Smooth (x y : Nat) (hx : x < 4294967296) (hy : y < 4294967296) (d0 d1 : Int) (G : Option Addr) (gs : List Int) (cg : Nat) (S : Option Addr) (ss : List Int) (cs : Nat) (w : World) (hG : Mem.Row w w.heap.size G (Mem.nums .u16 gs)) (hS : Mem.Row w w.heap.size S (Mem.nums .u16 ss)) (bG : ∀ n ∈ gs, 0 ≤ n ∧ n ≤ 65535) (bS : ∀ n ∈ ss, 0 ≤ n ∧ n ≤ 65535) (lG : gs.length ≤ maxLen) (lS : ss.length ≤ maxLen) :
    Calls Try.prog 7 #[.agg #[.int .u32 x, .int .u32 y], .agg #[.int .u32 d0, .int .u32 d1, .slice G gs.length cg, .slice S ss.length cs]] w fun e w' => e = .returned (.bool true) ∧ Below w.heap.size w w' := by
  have CO := Lib.hid (Of_u x y hx hy)
  have hok := Cr.of_ok (x := x) (y := y % 65536) hx
  obtain ⟨o1, ho1⟩ : ∃ o, Cr.ofR x (1 + ((y % 65536 : Nat) : Int) % 1000) = o := ⟨_, rfl⟩
  obtain ⟨o2, ho2⟩ : ∃ o : Int, 1 + ((y % 65536 : Nat) : Int) % 1000 = o := ⟨_, rfl⟩
  rw [ho1, ho2] at CO hok
  clear ho1 ho2
  have qy : IntKind.u16.wrap (y : Int) = ((y % 65536 : Nat) : Int) := by show (y : Int) % 65536 = _; omega
  obtain ⟨tf1, tf2, tf3, tf4⟩ := Cr.trace_facts bG bS
  have CT := Lib.hid (fun W hG hS => Trace_low d0 d1 G gs cg S ss cs W hG hS bG bS lG lS)
  generalize Cr.trace gs ss = l at *
  have HOK := Lib.hid hok
  have HT1 := Lib.hid tf1
  have HT2 := Lib.hid tf2
  have HM := Lib.hid tf3
  have h30 := tf4
  have HG := Lib.hid hG
  have HS := Lib.hid hS
  clear hok tf1 tf2 tf3 tf4 bG bS lG lS hG hS
  obtain ⟨ia, ha0, ha1, ha2, ha3⟩ := info_parts Mem.arr_info
  have IA := Lib.hid (And.intro ha0 (And.intro ha1 (And.intro ha2 ha3)))
  clear ha0 ha1 ha2 ha3
  have hokA : ∀ j x1 x2, l[j]? = some (x1, x2) → (0 ≤ x1 ∧ x1 ≤ 1073741824) ∧ (0 ≤ ([] : List Int).getD j 0 ∧ ([] : List Int).getD j 0 ≤ 1073741824) ∧ (1 ≤ x2 ∧ x2 ≤ 1542) := fun j x1 x2 h => by
    have a := HM.out (x1, x2) (List.mem_of_getElem? h)
    simp only at a
    refine ⟨by omega, by simp, by omega⟩
  have RG := Lib.hid (fun A cap W hA hF => Run_go o1 o2 A l cap none [] 0 HOK.out (by omega) HT1.out (by simp) hokA W hA hF)
  simp only [List.length_nil] at RG
  have SL := fun hg => Cr.smooth_law (tr := l) HOK.out HM.out h30 hg
  have SG := fun k s x hs hx => Cr.sent_get (r := o1) (p := o2) (a := 0) (l := 0) (its := Cr.items [] l) (k := k) (s := s) (x := x) hs hx
  have IG := fun k x hx => Cr.items_get (fr := []) (tr := l) (k := k) (x := x) hx
  have hsl := Cr.starts_length o1 o2 (Cr.items [] l) 0 0
  rw [Cr.items_length] at hsl
  have HSL := Lib.hid SL
  have HSG := Lib.hid (fun k s x hs hx => SG k s (x.1, x.2, ([] : List Int).getD k 0) hs (IG k x hx))
  clear SL SG IG HT1 HT2 hokA
  have rp := Cr.ok_iff.1 HOK.out
  have A0 : Hid (Below w.heap.size w w) := Lib.hid (Below.refl _ _)
  go_enter Try.func7, Try.ntmps7
  go_wp2_with fail
  refine (works_any _).mono ?_
  rintro e w1 ⟨rfl, hb_⟩
  have s_w1 := hb_.size
  try simp only [World.size_alloc] at s_w1
  have hm_w1 : Below w.heap.size w w1 := Below.trans (b := ((w.alloc (.cells #[.int .u32 x, .int .u32 y] 27)).alloc (.cells #[.int .u32 d0, .int .u32 d1, .slice G gs.length cg, .slice S ss.length cs] 44))) (by (repeat' (first | (with_reducible exact Below.refl _ _) | (with_reducible refine Below.alloc ?_ ?_ _) | (with_reducible refine Below.setCell ?_ ?_ _) | (with_reducible refine Below.drew ?_) | (with_reducible assumption) | omega | (simp; done) | (simp; omega)))) (hb_.mono (by first | (simp; done) | (simp; omega)))
  have q_w1 := hm_w1.size
  replace HG := Lib.hid ((HG.out.below hm_w1).of_lt hm_w1.size)
  replace HS := Lib.hid ((HS.out.below hm_w1).of_lt hm_w1.size)
  replace A0 := Lib.hid (A0.out.trans (hm_w1.mono A0.out.size))
  have c_n_0 : w1.cell? ⟨w.heap.size, 0, none⟩ = some (.int .u32 x) := by rw [(bcell hb_).1 _ _ (by first | (simp; done) | (simp; omega))]; simp [go_sem]
  have c_n_1 : w1.cell? ⟨w.heap.size, 1, none⟩ = some (.int .u32 y) := by rw [(bcell hb_).1 _ _ (by first | (simp; done) | (simp; omega))]; simp [go_sem]
  have c_d_0 : w1.cell? ⟨w.heap.size + 1, 0, none⟩ = some (.int .u32 d0) := by rw [(bcell hb_).1 _ _ (by first | (simp; done) | (simp; omega))]; simp [go_sem]
  have c_d_1 : w1.cell? ⟨w.heap.size + 1, 1, none⟩ = some (.int .u32 d1) := by rw [(bcell hb_).1 _ _ (by first | (simp; done) | (simp; omega))]; simp [go_sem]
  have c_d_2 : w1.cell? ⟨w.heap.size + 1, 2, none⟩ = some (.slice G gs.length cg) := by rw [(bcell hb_).1 _ _ (by first | (simp; done) | (simp; omega))]; simp [go_sem]
  have c_d_3 : w1.cell? ⟨w.heap.size + 1, 3, none⟩ = some (.slice S ss.length cs) := by rw [(bcell hb_).1 _ _ (by first | (simp; done) | (simp; omega))]; simp [go_sem]
  have lt_w1_0_1 : w.heap.size + 1 < w1.heap.size := by omega
  have lt_w1_0_0 : w.heap.size < w1.heap.size := Nat.lt_of_succ_lt lt_w1_0_1
  obtain ⟨le_w1_0_0, le_w1_0_1, le_w1_0_2, le_w1_0_3, lu_w1_0_1, lu_w1_0_2, lu_w1_0_3⟩ := lts lt_w1_0_0
  clear hm_w1
  clear hb_
  go_upto_region 3 with fail
  have HSx : Hid (∀ w', Below w1.heap.size w1 w' → (Below w1.heap.size w1 w' ∧ w'.cell? ⟨w.heap.size + 1, 0, none⟩ = some (.int .u32 d0) ∧ w'.cell? ⟨w.heap.size + 1, 1, none⟩ = some (.int .u32 d1) ∧ w'.cell? ⟨w.heap.size + 1, 2, none⟩ = some (.slice G gs.length cg) ∧ w'.cell? ⟨w.heap.size + 1, 3, none⟩ = some (.slice S ss.length cs) ∧ w'.cell? ⟨w.heap.size, 0, none⟩ = some (.int .u32 x) ∧ w'.cell? ⟨w.heap.size, 1, none⟩ = some (.int .u32 y))) := Lib.hid (fun w' h => ⟨h, below_cell h c_d_0 lt_w1_0_1, below_cell h c_d_1 lt_w1_0_1, below_cell h c_d_2 lt_w1_0_1, below_cell h c_d_3 lt_w1_0_1, below_cell h c_n_0 lt_w1_0_0, below_cell h c_n_1 lt_w1_0_0⟩)
  go_cut [5, 6] (fun sb sl wx => ∃ (g : Nat) (A : Option Addr) (cap : Nat), sb = .pointer (some ⟨g, 0, none⟩) ∧ sl = .slice A l.length cap ∧ g < wx.heap.size ∧ w1.heap.size ≤ g ∧ wx.cell? ⟨g, 0, none⟩ = some (.int .i64 o1) ∧ wx.cell? ⟨g, 1, none⟩ = some (.int .i64 o2) ∧ wx.frozen? ⟨g, 0, none⟩ = false ∧ wx.frozen? ⟨g, 1, none⟩ = false ∧ Tr.Arr wx wx.heap.size A l ∧ (∀ ad, A = some ad → w1.heap.size ≤ ad.block) ∧ Below w1.heap.size w1 wx)
  case first =>
    go_region_held3 (fun w' => Below w1.heap.size w1 w' ∧ w'.cell? ⟨w.heap.size + 1, 0, none⟩ = some (.int .u32 d0) ∧ w'.cell? ⟨w.heap.size + 1, 1, none⟩ = some (.int .u32 d1) ∧ w'.cell? ⟨w.heap.size + 1, 2, none⟩ = some (.slice G gs.length cg) ∧ w'.cell? ⟨w.heap.size + 1, 3, none⟩ = some (.slice S ss.length cs) ∧ w'.cell? ⟨w.heap.size, 0, none⟩ = some (.int .u32 x) ∧ w'.cell? ⟨w.heap.size, 1, none⟩ = some (.int .u32 y))
      ((refine HSx.out _ ?_; first | assumption | (repeat' (first | (with_reducible exact Below.refl _ _) | (with_reducible refine Below.alloc ?_ ?_ _) | (with_reducible refine Below.setCell ?_ ?_ _) | (with_reducible refine Below.drew ?_) | (with_reducible assumption) | omega | (simp; done) | (simp; omega)))))
      (first
        | (go_at_call_of 8 (Value.int .u32 x); go_split_ands; refine (CO.out _).mono ?_; rintro e wB ⟨rfl, hrB⟩; have hbB := carry2 (w := w1) (by assumption) hrB; have sB := hbB.size; obtain ⟨hcB, hzB⟩ := bcell hrB; have rB := hrB.size; try simp only [World.size_alloc, World.size_drew] at rB; try (have ltB : w1.heap.size < wB.heap.size := by omega))
        | (go_at_call_of 16 (Value.agg #[.int .u32 d0, .int .u32 d1, .slice G gs.length cg, .slice S ss.length cs]); go_split_ands; refine (CT.out _ (Mem.Row.of_lt (HG.out.below (by assumption)) (by first | (simp; done) | (simp; omega) | omega)) (Mem.Row.of_lt (HS.out.below (by assumption)) (by first | (simp; done) | (simp; omega) | omega))).mono ?_; rintro e wT ⟨⟨AT, capT, rfl, hAT, hNT⟩, hrT⟩; have hbT := carry2 (w := w1) (by assumption) hrT; have sT := hbT.size; obtain ⟨hcT, hzT⟩ := bcell hrT; have rT := hrT.size; try simp only [World.size_alloc, World.size_drew] at rT hNT))
    all_goals
      go_wp2_with fail
      go_meet
      first
      | exact ⟨wT.heap.size, AT, capT, rfl, rfl, by simp, sT, by simp [go_sem], by simp [go_sem], by simp [go_sem], by simp [go_sem], (hAT.below ((Below.refl _ _).alloc (Nat.le_refl _) _)).of_lt (by simp), (fun ad h => by have := hNT ad h; omega), hbT.alloc sT _⟩
      | (have t0 : wT.cell? ⟨wB.heap.size, 0, none⟩ = some (.int .i64 0) := by rw [hcT _ _ (by simp)]; simp [go_sem]
         have t1 : wT.cell? ⟨wB.heap.size, 1, none⟩ = some (.int .i64 0) := by rw [hcT _ _ (by simp)]; simp [go_sem]
         have z0 : wT.frozen? ⟨wB.heap.size, 0, none⟩ = false := by rw [hzT _ _ (by simp)]; simp [go_sem]
         have z1 : wT.frozen? ⟨wB.heap.size, 1, none⟩ = false := by rw [hzT _ _ (by simp)]; simp [go_sem]
         have hne : l = [] ∨ ∀ ad, AT = some ad → ad.block ≠ wB.heap.size := .inr fun ad h => by have := hNT ad h; omega
         exact ⟨wB.heap.size, AT, capT, rfl, rfl, by simp [World.setCell]; omega, sB, (cell2 _ _ t0 t1).1, (cell2 _ _ t0 t1).2, by rw [World.frozen?_setCell, World.frozen?_setCell]; exact z0, by rw [World.frozen?_setCell, World.frozen?_setCell]; exact z1, ((Mem.arr_set (Mem.arr_set hAT hne 0 _) hne 1 _).of_lt (by simp [World.setCell])), (fun ad h => by have := hNT ad h; omega), (hbT.setCell (p := ⟨wB.heap.size, 0, none⟩) sB _).setCell (p := ⟨wB.heap.size, 1, none⟩) sB _⟩)
      | (have t0 : wT.cell? ⟨w1.heap.size, 0, none⟩ = some (.int .i64 0) := by rw [hcT _ _ (by omega), hcB _ _ (by simp)]; simp [go_sem]
         have t1 : wT.cell? ⟨w1.heap.size, 1, none⟩ = some (.int .i64 0) := by rw [hcT _ _ (by omega), hcB _ _ (by simp)]; simp [go_sem]
         have z0 : wT.frozen? ⟨w1.heap.size, 0, none⟩ = false := by rw [hzT _ _ (by omega), hzB _ _ (by simp)]; simp [go_sem]
         have z1 : wT.frozen? ⟨w1.heap.size, 1, none⟩ = false := by rw [hzT _ _ (by omega), hzB _ _ (by simp)]; simp [go_sem]
         have hne : l = [] ∨ ∀ ad, AT = some ad → ad.block ≠ w1.heap.size := .inr fun ad h => by have := hNT ad h; omega
         exact ⟨w1.heap.size, AT, capT, rfl, rfl, by simp [World.setCell]; omega, Nat.le_refl _, (cell2 _ _ t0 t1).1, (cell2 _ _ t0 t1).2, by rw [World.frozen?_setCell, World.frozen?_setCell]; exact z0, by rw [World.frozen?_setCell, World.frozen?_setCell]; exact z1, ((Mem.arr_set (Mem.arr_set hAT hne 0 _) hne 1 _).of_lt (by simp [World.setCell])), (fun ad h => by have := hNT ad h; omega), (hbT.setCell (p := ⟨w1.heap.size, 0, none⟩) (Nat.le_refl _) _).setCell (p := ⟨w1.heap.size, 1, none⟩) (Nat.le_refl _) _⟩)
  case rest =>
    clear HSx CO CT
    obtain ⟨g, A, cap, rfl, rfl, hg_lt, hg_ge, c_g_0, c_g_1, f_g_0, f_g_1, hHA, hlo_g, hbc⟩ := hcut
    obtain ⟨W2, rfl⟩ : ∃ W2 : World, W2 = wc := ⟨_, rfl⟩
    have hm_W2 : Below w1.heap.size w1 W2 := hbc
    have q_W2 := hm_W2.size
    replace c_n_0 := below_cell hm_W2 c_n_0 lt_w1_0_0
    replace c_n_1 := below_cell hm_W2 c_n_1 lt_w1_0_0
    replace c_d_0 := below_cell hm_W2 c_d_0 lt_w1_0_1
    replace c_d_1 := below_cell hm_W2 c_d_1 lt_w1_0_1
    replace c_d_2 := below_cell hm_W2 c_d_2 lt_w1_0_1
    replace c_d_3 := below_cell hm_W2 c_d_3 lt_w1_0_1
    replace HG := Lib.hid ((HG.out.below hm_W2).of_lt hm_W2.size)
    replace HS := Lib.hid ((HS.out.below hm_W2).of_lt hm_W2.size)
    replace A0 := Lib.hid (A0.out.trans (hm_W2.mono A0.out.size))
    have lt_W2_0_1 : w.heap.size + 1 < W2.heap.size := by omega
    have lt_W2_0_0 : w.heap.size < W2.heap.size := Nat.lt_of_succ_lt lt_W2_0_1
    obtain ⟨le_W2_0_0, le_W2_0_1, le_W2_0_2, le_W2_0_3, lu_W2_0_1, lu_W2_0_2, lu_W2_0_3⟩ := lts lt_W2_0_0
    clear le_w1_0_0 le_w1_0_1 le_w1_0_2 le_w1_0_3 lu_w1_0_1 lu_w1_0_2 lu_w1_0_3 lt_w1_0_0 lt_w1_0_1
    clear hm_W2
    clear hbc
    have lt_W2_0_1 : w.heap.size + 1 < W2.heap.size := by omega
    have lt_W2_0_0 : w.heap.size < W2.heap.size := Nat.lt_of_succ_lt lt_W2_0_1
    obtain ⟨le_W2_0_0, le_W2_0_1, le_W2_0_2, le_W2_0_3, lu_W2_0_1, lu_W2_0_2, lu_W2_0_3⟩ := lts lt_W2_0_0
    have lt_W2_1_0 : g < W2.heap.size := by omega
    obtain ⟨le_W2_1_0, le_W2_1_1, le_W2_1_2, le_W2_1_3, lu_W2_1_1, lu_W2_1_2, lu_W2_1_3⟩ := lts lt_W2_1_0
    clear le_W2_0_0 le_W2_0_1 le_W2_0_2 le_W2_0_3 lu_W2_0_1 lu_W2_0_2 lu_W2_0_3 lt_W2_0_0 lt_W2_0_1
    have hge_g := hg_ge
    clear hg_lt hg_ge
    have HA : Hid (Tr.Arr W2 W2.heap.size A l) := Lib.hid hHA
    clear hHA
    clear HG HS
    clear c_n_0
    clear c_n_1
    clear c_d_0
    clear c_d_1
    clear c_d_2
    clear c_d_3
    go_wp2_with fail
    refine (RG.out A cap _ HA.out (fun i x hx => by simp at hx)).mono ?_
    rintro e w5 ⟨h5, hb_⟩
    have hm_w5 : Below W2.heap.size W2 w5 := hb_
    have q_w5 := hm_w5.size
    replace c_g_0 := below_cell hm_w5 c_g_0 lt_W2_1_0
    replace f_g_0 := (hm_w5.frozen (p := ⟨g, 0, none⟩) lt_W2_1_0).trans f_g_0
    replace c_g_1 := below_cell hm_w5 c_g_1 lt_W2_1_0
    replace f_g_1 := (hm_w5.frozen (p := ⟨g, 1, none⟩) lt_W2_1_0).trans f_g_1
    replace HA := Lib.hid ((HA.out.below hm_w5).of_lt hm_w5.size)
    replace A0 := Lib.hid (A0.out.trans (hm_w5.mono A0.out.size))
    have lt_w5_0_0 : g < w5.heap.size := by omega
    obtain ⟨le_w5_0_0, le_w5_0_1, le_w5_0_2, le_w5_0_3, lu_w5_0_1, lu_w5_0_2, lu_w5_0_3⟩ := lts lt_w5_0_0
    clear le_W2_0_0 le_W2_0_1 le_W2_0_2 le_W2_0_3 lu_W2_0_1 lu_W2_0_2 lu_W2_0_3 lt_W2_0_0 lt_W2_0_1
    clear le_W2_1_0 le_W2_1_1 le_W2_1_2 le_W2_1_3 lu_W2_1_1 lu_W2_1_2 lu_W2_1_3 lt_W2_1_0
    clear hm_w5
    clear hb_ RG
    have lg5 : g < w5.heap.size := by omega
    rcases h5 with ⟨hg, rfl⟩ | ⟨hg, A7, c7, rfl, hI7⟩
    · clear hg HSL HSG HM HA rp
      go_wp2_with fail
      go_ret
      exact ⟨rfl, by have hb := A0.out; have := hb.size; (repeat' (first | (with_reducible exact Below.refl _ _) | (with_reducible refine Below.alloc ?_ ?_ _) | (with_reducible refine Below.setCell ?_ ?_ _) | (with_reducible refine Below.drew ?_) | (with_reducible assumption) | omega | (simp; done) | (simp; omega)))⟩
    · have HI : Hid (Tr.Ints w5 w5.heap.size A7 (Cr.starts o1 o2 0 0 (Cr.items [] l))) := Lib.hid hI7
      clear hI7
      obtain ⟨sl1, sl2, sl3, sl4, sl5⟩ := HSL.out hg
      generalize Cr.endA o1 o2 0 0 (Cr.items [] l) = ea at *
      generalize Cr.endL o1 o2 0 0 (Cr.items [] l) = el at *
      generalize Cr.starts o1 o2 0 0 (Cr.items [] l) = R at *
      generalize Cr.sent o1 o2 0 0 (Cr.items [] l) = SN at *
      have CF := Lib.hid (fun A cap W hA => ItW.Conforms_good (Cr.bst 1 l) o1 A SN cap sl3 (by omega) (by omega) (by omega) sl1 W hA)
      rw [sl2, sl5] at CF
      have HBL := Lib.hid sl4
      have hsn := sl5
      clear sl1 sl2 sl3 sl4 sl5 hg HSL HOK
      have HA_st := HA
      have HI_st := HI
      have A0_st := A0
      have c_g_0_st := Lib.hid c_g_0
      have f_g_0_st := Lib.hid f_g_0
      have c_g_1_st := Lib.hid c_g_1
      have f_g_1_st := Lib.hid f_g_1
      have KW : Hid (Below w5.heap.size w5 w5) := Lib.hid (Below.refl _ _)
      go_upto_region 8 with fail
      obtain ⟨W6, hW6⟩ : ∃ W6, ((w5.alloc (.cells #[.int .i64 ea, .int .i64 el] 25)).alloc (.cells #[.int .i64 1, .int .i64 o1] 60)) = W6 := ⟨_, rfl⟩
      have hm_W6 : Below w5.heap.size w5 W6 := by rw [← hW6]; (repeat' (first | (with_reducible exact Below.refl _ _) | (with_reducible refine Below.alloc ?_ ?_ _) | (with_reducible refine Below.setCell ?_ ?_ _) | (with_reducible refine Below.drew ?_) | (with_reducible assumption) | omega | (simp; done) | (simp; omega)))
      have q_W6 : w5.heap.size + 2 ≤ W6.heap.size := by rw [← hW6]; simp
      replace c_g_0 := below_cell hm_W6 c_g_0 lt_w5_0_0
      replace f_g_0 := (hm_W6.frozen (p := ⟨g, 0, none⟩) lt_w5_0_0).trans f_g_0
      replace c_g_1 := below_cell hm_W6 c_g_1 lt_w5_0_0
      replace f_g_1 := (hm_W6.frozen (p := ⟨g, 1, none⟩) lt_w5_0_0).trans f_g_1
      replace HA := Lib.hid ((HA.out.below hm_W6).of_lt hm_W6.size)
      replace HI := Lib.hid ((HI.out.below hm_W6).of_lt hm_W6.size)
      replace A0 := Lib.hid (A0.out.trans (hm_W6.mono A0.out.size))
      replace KW := Lib.hid (KW.out.trans (hm_W6.mono KW.out.size))
      have c_b_0 : W6.cell? ⟨w5.heap.size + 1, 0, none⟩ = some (.int .i64 1) := by rw [← hW6]; simp [go_sem]
      have f_b_0 : W6.frozen? ⟨w5.heap.size + 1, 0, none⟩ = false := by rw [← hW6]; simp [go_sem]
      have c_b_1 : W6.cell? ⟨w5.heap.size + 1, 1, none⟩ = some (.int .i64 o1) := by rw [← hW6]; simp [go_sem]
      have f_b_1 : W6.frozen? ⟨w5.heap.size + 1, 1, none⟩ = false := by rw [← hW6]; simp [go_sem]
      rw [hW6]
      have lt_W6_0_0 : g < W6.heap.size := by omega
      obtain ⟨le_W6_0_0, le_W6_0_1, le_W6_0_2, le_W6_0_3, lu_W6_0_1, lu_W6_0_2, lu_W6_0_3⟩ := lts lt_W6_0_0
      have lt_W6_1_1 : w5.heap.size + 1 < W6.heap.size := by omega
      have lt_W6_1_0 : w5.heap.size < W6.heap.size := Nat.lt_of_succ_lt lt_W6_1_1
      obtain ⟨le_W6_1_0, le_W6_1_1, le_W6_1_2, le_W6_1_3, lu_W6_1_1, lu_W6_1_2, lu_W6_1_3⟩ := lts lt_W6_1_0
      clear le_w5_0_0 le_w5_0_1 le_w5_0_2 le_w5_0_3 lu_w5_0_1 lu_w5_0_2 lu_w5_0_3 lt_w5_0_0
      clear hW6 hm_W6
      go_wp2_with (at_builtin; refine Mem.wpList_append _ rfl (.tmp 46) (.tmp 47) _ rfl W6.heap.size 49 ia _ 2 16 Try.underlying45 IA.out.1 IA.out.2.1 IA.out.2.2.1 IA.out.2.2.2 rfl (by omega) (.slice (some ⟨W6.heap.size, 0, none⟩) 0 0) 0 [] rfl (Mem.own_lit_at W6 W6.heap.size 49 2 _ rfl (Nat.le_refl _)) W6.heap.size A l.length cap (Mem.arrs l) rfl (Mem.arrs_length l) ((Mem.arr_row HA.out).below ((Below.refl _ _).alloc (Nat.le_refl _) _)) (Mem.arrs_oneCell l) (by unfold maxLen; omega) (by omega) (by simp) ?_; intro v11 W7 hown hgr hat hltz; have HO : Hid (W7.ownsRow W6.heap.size 49 2 v11 l.length (Mem.arrs l)) := Lib.hid (by simpa using hown); have hb_ : Below W6.heap.size W6 W7 := Below.grown ((Below.refl _ _).alloc (Nat.le_refl _) _) hgr (by simp) (fun k hk => (hltz k hk).1); clear hown hgr hat hltz)
      have HX7 : Hid (It.Box2 W7 (w5.heap.size + 1) 1 o1) := Lib.hid ((⟨c_b_0, c_b_1, f_b_0, f_b_1⟩ : It.Box2 W6 (w5.heap.size + 1) 1 o1).below hb_ (by omega))
      have HB7 := Lib.hid (KW.out.trans (hb_.mono (by omega)))
      have sW7 := hb_.size
      clear hb_ KW
      obtain ⟨A5, c5, rfl, _, _, _⟩ := Mem.own_row HO.out
      have lgb : w5.heap.size + 1 < W6.heap.size := by omega
      clear c_g_0 f_g_0
      clear c_g_1 f_g_1
      clear c_b_0 f_b_0
      clear c_b_1 f_b_1
      clear le_W6_0_0 le_W6_0_1 le_W6_0_2 le_W6_0_3 lu_W6_0_1 lu_W6_0_2 lu_W6_0_3 lt_W6_0_0
      clear le_W6_1_0 le_W6_1_1 le_W6_1_2 le_W6_1_3 lu_W6_1_1 lu_W6_1_2 lu_W6_1_3 lt_W6_1_0 lt_W6_1_1
      clear HA HI A0
      have HA := HA_st
      clear HA_st
      have HI := HI_st
      clear HI_st
      have A0 := A0_st
      clear A0_st
      have c_g_0 := c_g_0_st.out
      clear c_g_0_st
      have f_g_0 := f_g_0_st.out
      clear f_g_0_st
      have c_g_1 := c_g_1_st.out
      clear c_g_1_st
      have f_g_1 := f_g_1_st.out
      clear f_g_1_st
      have lt_w5_0_0 : g < w5.heap.size := by omega
      obtain ⟨le_w5_0_0, le_w5_0_1, le_w5_0_2, le_w5_0_3, lu_w5_0_1, lu_w5_0_2, lu_w5_0_3⟩ := lts lt_w5_0_0
      have HAf := HA
      have HIf := HI
      go_wp2_with fail
      go_loopw [12] (fun i wr => ∃ (k : Nat) (bb : Int), k ≤ l.length ∧ i = .int .i64 k ∧ wr.ownsRow W6.heap.size 49 2 (.slice A5 l.length c5) l.length (Mem.arrs (SN.take k ++ l.drop k)) ∧ It.Box2 wr (w5.heap.size + 1) bb o1 ∧ Cr.bst 1 l = Cr.bst bb (l.drop k) ∧ 1 ≤ bb ∧ bb ≤ 1543 ∧ Below w5.heap.size w5 wr) (fun i _ => l.length - (intOf i).toNat)
      case atStart => exact ⟨0, 1, by omega, rfl, by simpa using HO.out, HX7.out, rfl, by omega, by omega, HB7.out⟩
      case round =>
        obtain ⟨k, bb, hk, rfl, hown, hbox, hbst, hb1, hb2, hbr⟩ := hrel
        obtain ⟨wo, rfl⟩ : ∃ wo : World, wo = wr := ⟨_, rfl⟩
        have KW := Lib.hid hbr
        have hm_wo : Below w5.heap.size w5 wo := hbr
        have q_wo := hm_wo.size
        replace c_g_0 := below_cell hm_wo c_g_0 lt_w5_0_0
        replace f_g_0 := (hm_wo.frozen (p := ⟨g, 0, none⟩) lt_w5_0_0).trans f_g_0
        replace c_g_1 := below_cell hm_wo c_g_1 lt_w5_0_0
        replace f_g_1 := (hm_wo.frozen (p := ⟨g, 1, none⟩) lt_w5_0_0).trans f_g_1
        replace HA := Lib.hid ((HA.out.below hm_wo).of_lt hm_wo.size)
        replace HI := Lib.hid ((HI.out.below hm_wo).of_lt hm_wo.size)
        replace A0 := Lib.hid (A0.out.trans (hm_wo.mono A0.out.size))
        have lt_wo_0_0 : g < wo.heap.size := by omega
        obtain ⟨le_wo_0_0, le_wo_0_1, le_wo_0_2, le_wo_0_3, lu_wo_0_1, lu_wo_0_2, lu_wo_0_3⟩ := lts lt_wo_0_0
        clear le_w5_0_0 le_w5_0_1 le_w5_0_2 le_w5_0_3 lu_w5_0_1 lu_w5_0_2 lu_w5_0_3 lt_w5_0_0
        clear hm_wo
        clear hbr
        have HOW := Lib.hid hown
        have HBX := Lib.hid hbox
        have HBS := Lib.hid hbst
        clear hown hbox hbst
        skip
        by_cases hlt : k < l.length
        · obtain ⟨⟨x1, x2⟩, hx⟩ : ∃ x, l[k]? = some x := ⟨l[k], List.getElem?_eq_getElem hlt⟩
          obtain ⟨T, hT⟩ : ∃ z, R[k]? = some z := ⟨R[k]'(by omega), List.getElem?_eq_getElem _⟩
          obtain ⟨ad, rfl, hbk, hc0, hc1⟩ := (HAf.out.below KW.out) k (x1, x2) hx
          obtain ⟨ad7, rfl, hb7, he7⟩ := (HIf.out.below KW.out) k T hT
          have hm := HM.out (x1, x2) (List.mem_of_getElem? hx)
          simp only at hm
          have hSN := HSG.out k T (x1, x2) hT hx
          simp only at hSN
          have htn : SN.take (k + 1) = SN.take k ++ [(T, x2)] := by rw [List.take_add_one, hSN]; rfl
          obtain ⟨g5, rfl, hg5a, hg5b⟩ := Mem.own_some HOW.out (by omega)
          have hpl : (SN.take k).length = k := by rw [List.length_take]; omega
          have hdr := Cr.drop_at hx
          have hat : (SN.take k ++ l.drop k)[k]? = some (x1, x2) := by rw [hdr, List.getElem?_append_right (by omega), hpl, Nat.sub_self]; rfl
          have hbs2 := Cr.bst_step (b := bb) hx
          have HBS2 := Lib.hid (HBS.out.trans hbs2)
          have HTN := Lib.hid htn
          have HDR := Lib.hid hdr
          have HAT := Lib.hid hat
          have q1 : IntKind.i64.wrap (x2 + 1) = x2 + 1 := IntWalk.i64_in _ (by omega)
          have i0 : (0 : Int) ≤ (k : Int) := by omega
          have i1 : (k : Int) < (l.length : Int) := by omega
          clear hx hT hSN htn hdr hat hbs2 HBS
          obtain ⟨b0, b1, y0, y1⟩ := HBX.out
          go_upto_region 12 with fail
          refine wp_region_still_tail 10 (by kernel_rfl) (by kernel_rfl) ?_
          simp only [List.take_succ_cons, List.take_zero, List.drop_succ_cons, List.drop_zero]
          change wpStill _ _ (World.drew wo) (fun a' => wpList _ _ _ _ a' (World.drew wo)) _ _
          refine It.still_of_quiet _ _ ?_
          repeat (go_big_quiet_step (fail))
          refine wpQuiet_nil ?_
          go_upto_region 13 with fail
          obtain ⟨W8, hW8⟩ : ∃ W8, (wo.setCell ⟨w5.heap.size + 1, 0, none⟩ (.int .i64 (max bb (x2 + 1)))).drew = W8 := ⟨_, rfl⟩
          have hu : It.Upd (w5.heap.size + 1) wo W8 := by rw [← hW8]; exact (It.Upd.set _ 0 _).drew
          have HBX2 : Hid (It.Box2 W8 (w5.heap.size + 1) (max bb (x2 + 1)) o1) := by rw [← hW8]; exact Lib.hid (HBX.out.set0 _).drew
          have HOW2 := Lib.hid (It.own_put HOW.out hu lgb)
          have KV : Hid (Below w5.heap.size w5 W8) := Lib.hid (hu.below KW.out KW.out.size (by omega))
          have q8 := hu.size
          have he7Y := hu.cell (by rw [Tr.block_add]; omega) he7
          rw [hW8]
          clear hW8 hu b0 b1 y0 y1 hc0 hc1 he7 HBX HOW
          obtain ⟨e0, e1, z0, z1⟩ := Mem.own_at HOW2.out HAT.out
          clear c_g_0 f_g_0
          clear c_g_1 f_g_1
          go_wp2_with fail
          go_roundw
          case rel =>
            refine ⟨k + 1, max bb (x2 + 1), by omega, by go_num, ?_, ?_, HBS2.out, by omega, by omega, by have hb := KV.out; (repeat' (first | (with_reducible exact Below.refl _ _) | (with_reducible refine Below.alloc ?_ ?_ _) | (with_reducible refine Below.setCell ?_ ?_ _) | (with_reducible refine Below.drew ?_) | (with_reducible assumption) | omega | (simp; done) | (simp; omega)))⟩
            · have h := (HOW2.out.stored (k * 2) (.int .i64 T)).1
              rw [HDR.out, Mem.set_arrs0 hpl] at h
              rw [HTN.out, List.append_assoc]
              exact h
            · exact HBX2.out.upd (by omega) (It.Upd.set (p := g5) _ (k * 2) _)
          case measure => simp [intOf]; omega
        · have ekl : k = l.length := by omega
          have h := HOW.out
          rw [List.drop_eq_nil_of_le (show l.length ≤ k by omega), List.append_nil, List.take_of_length_le (by omega)] at h
          have HL5 : Hid (Tr.Arr wo wo.heap.size A5 SN) := Lib.hid (Mem.arr_own h)
          have hbb := HBS.out
          rw [List.drop_eq_nil_of_le (show l.length ≤ k by omega)] at hbb
          have hbb : Cr.bst 1 l = bb := hbb
          rw [hbb] at CF
          clear hbb h
          obtain ⟨b0, b1, y0, y1⟩ := HBX.out
          go_wp2_with fail
          refine (CF.out A5 c5 _ HL5.out).mono ?_
          rintro e w16 ⟨rfl, hb_⟩
          have hend := A0.out.trans (hb_.mono A0.out.size)
          clear hb_
          go_wp2_with fail
          go_ret
          exact ⟨rfl, hend⟩
end CrW
end Go.Proofs.Ytoglmfpmeajbeaa
