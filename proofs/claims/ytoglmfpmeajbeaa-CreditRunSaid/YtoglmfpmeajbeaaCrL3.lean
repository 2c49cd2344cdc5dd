/- CreditRun: the walk of the law. -/
import Derived.Test.YtoglmfpmeajbeaaCrL1
import Derived.Test.YtoglmfpmeajbeaaCrC
import Derived.Test.YtoglmfpmeajbeaaCrX
import Derived.Deep.DeepCutAuto
import Derived.Deep.CutBlock
namespace Go.Proofs.Ytoglmfpmeajbeaa
set_option linter.unusedSimpArgs false
set_option linter.unusedVariables false
open Go.RowKit
namespace CrW
set_option maxRecDepth 100000 in
set_option maxHeartbeats 8000000 in
theorem law_Run (x y : Nat) (hx : x < 4294967296) (hy : y < 4294967296) (d0 d1 : Int) (G : Option Addr) (gs : List Int) (cg : Nat) (S : Option Addr) (ss : List Int) (cs : Nat) (AD : Option Addr) (ds : List Int) (cd : Nat) (late : Int) (late0 : 0 ≤ late) (late1 : late ≤ 65535) (w : World) (hG : Mem.Row w w.heap.size G (Mem.nums .u16 gs)) (hS : Mem.Row w w.heap.size S (Mem.nums .u16 ss)) (bG : ∀ n ∈ gs, 0 ≤ n ∧ n ≤ 65535) (bS : ∀ n ∈ ss, 0 ≤ n ∧ n ≤ 65535) (lG : gs.length ≤ maxLen) (lS : ss.length ≤ maxLen)
    (hA : Mem.Row w w.heap.size AD (Mem.nums .u16 ds)) (bA : ∀ n ∈ ds, 0 ≤ n ∧ n ≤ 65535) (lc : ds.length ≤ cd) (cm : cd ≤ maxLen) :
    Calls Try.prog 5 #[.agg #[.int .u32 x, .int .u32 y], .agg #[.int .u32 d0, .int .u32 d1, .slice G gs.length cg, .slice S ss.length cs], .slice AD ds.length cd, .int .u16 late] w fun e w' => e = .returned (.bool true) ∧ Below w.heap.size w w' := by
  have CO := Lib.hid (Of_u x y hx hy)
  have hok := Cr.of_ok (x := x) (y := y % 65536) hx
  obtain ⟨o1, ho1⟩ : ∃ o, Cr.ofR x (1 + ((y % 65536 : Nat) : Int) % 1000) = o := ⟨_, rfl⟩
  obtain ⟨o2, ho2⟩ : ∃ o : Int, 1 + ((y % 65536 : Nat) : Int) % 1000 = o := ⟨_, rfl⟩
  rw [ho1, ho2] at CO hok
  clear ho1 ho2
  have qy : IntKind.u16.wrap (y : Int) = ((y % 65536 : Nat) : Int) := by show (y : Int) % 65536 = _; omega
  obtain ⟨tf1, tf2, tf3, tf4⟩ := Cr.trace_facts bG bS
  have CT := Lib.hid (fun W hG hS => Trace_low d0 d1 G gs cg S ss cs W hG hS bG bS lG lS)
  generalize Cr.trace gs ss = l at *
  have HOK := Lib.hid hok
  have HT1 := Lib.hid tf1
  have HT2 := Lib.hid tf2
  have HM := Lib.hid tf3
  have h30 := tf4
  have HG := Lib.hid hG
  have HS := Lib.hid hS
  clear hok tf1 tf2 tf3 tf4 bG bS lG lS hG hS
  have HDS := Lib.hid hA
  have HBD := Lib.hid bA
  unfold maxLen at cm
  clear hA bA
  obtain ⟨i0_, hi0, hz0, hz1, hz2⟩ := info_parts Mem.int_info
  have II := Lib.hid (And.intro hi0 (And.intro hz0 (And.intro hz1 hz2)))
  clear hi0 hz0 hz1 hz2
  have A0 : Hid (Below w.heap.size w w) := Lib.hid (Below.refl _ _)
  go_enter Try.func5, Try.ntmps5
  go_wp2_with fail
  refine (works_any _).mono ?_
  rintro e w1 ⟨rfl, hb_⟩
  have s_w1 := hb_.size
  try simp only [World.size_alloc] at s_w1
  have hm_w1 : Below w.heap.size w w1 := Below.trans (b := ((w.alloc (.cells #[.int .u32 x, .int .u32 y] 27)).alloc (.cells #[.int .u32 d0, .int .u32 d1, .slice G gs.length cg, .slice S ss.length cs] 44))) (by (repeat' (first | (with_reducible exact Below.refl _ _) | (with_reducible refine Below.alloc ?_ ?_ _) | (with_reducible refine Below.setCell ?_ ?_ _) | (with_reducible refine Below.drew ?_) | (with_reducible assumption) | omega | (simp; done) | (simp; omega)))) (hb_.mono (by first | (simp; done) | (simp; omega)))
  have q_w1 := hm_w1.size
  replace HG := Lib.hid ((HG.out.below hm_w1).of_lt hm_w1.size)
  replace HS := Lib.hid ((HS.out.below hm_w1).of_lt hm_w1.size)
  replace HDS := Lib.hid ((HDS.out.below hm_w1).of_lt hm_w1.size)
  replace A0 := Lib.hid (A0.out.trans (hm_w1.mono A0.out.size))
  have c_n_0 : w1.cell? ⟨w.heap.size, 0, none⟩ = some (.int .u32 x) := by rw [(bcell hb_).1 _ _ (by first | (simp; done) | (simp; omega))]; simp [go_sem]
  have c_n_1 : w1.cell? ⟨w.heap.size, 1, none⟩ = some (.int .u32 y) := by rw [(bcell hb_).1 _ _ (by first | (simp; done) | (simp; omega))]; simp [go_sem]
  have c_d_0 : w1.cell? ⟨w.heap.size + 1, 0, none⟩ = some (.int .u32 d0) := by rw [(bcell hb_).1 _ _ (by first | (simp; done) | (simp; omega))]; simp [go_sem]
  have c_d_1 : w1.cell? ⟨w.heap.size + 1, 1, none⟩ = some (.int .u32 d1) := by rw [(bcell hb_).1 _ _ (by first | (simp; done) | (simp; omega))]; simp [go_sem]
  have c_d_2 : w1.cell? ⟨w.heap.size + 1, 2, none⟩ = some (.slice G gs.length cg) := by rw [(bcell hb_).1 _ _ (by first | (simp; done) | (simp; omega))]; simp [go_sem]
  have c_d_3 : w1.cell? ⟨w.heap.size + 1, 3, none⟩ = some (.slice S ss.length cs) := by rw [(bcell hb_).1 _ _ (by first | (simp; done) | (simp; omega))]; simp [go_sem]
  have lt_w1_0_1 : w.heap.size + 1 < w1.heap.size := by omega
  have lt_w1_0_0 : w.heap.size < w1.heap.size := Nat.lt_of_succ_lt lt_w1_0_1
  obtain ⟨le_w1_0_0, le_w1_0_1, le_w1_0_2, le_w1_0_3, lu_w1_0_1, lu_w1_0_2, lu_w1_0_3⟩ := lts lt_w1_0_0
  clear hm_w1
  clear hb_
  go_upto_region 3 with fail
  have HSx : Hid (∀ w', Below w1.heap.size w1 w' → (Below w1.heap.size w1 w' ∧ w'.cell? ⟨w.heap.size + 1, 0, none⟩ = some (.int .u32 d0) ∧ w'.cell? ⟨w.heap.size + 1, 1, none⟩ = some (.int .u32 d1) ∧ w'.cell? ⟨w.heap.size + 1, 2, none⟩ = some (.slice G gs.length cg) ∧ w'.cell? ⟨w.heap.size + 1, 3, none⟩ = some (.slice S ss.length cs) ∧ w'.cell? ⟨w.heap.size, 0, none⟩ = some (.int .u32 x) ∧ w'.cell? ⟨w.heap.size, 1, none⟩ = some (.int .u32 y))) := Lib.hid (fun w' h => ⟨h, below_cell h c_d_0 lt_w1_0_1, below_cell h c_d_1 lt_w1_0_1, below_cell h c_d_2 lt_w1_0_1, below_cell h c_d_3 lt_w1_0_1, below_cell h c_n_0 lt_w1_0_0, below_cell h c_n_1 lt_w1_0_0⟩)
  go_cut [9, 10] (fun sb sl wx => ∃ (g : Nat) (A : Option Addr) (cap : Nat), sb = .pointer (some ⟨g, 0, none⟩) ∧ sl = .slice A l.length cap ∧ g < wx.heap.size ∧ w1.heap.size ≤ g ∧ wx.cell? ⟨g, 0, none⟩ = some (.int .i64 o1) ∧ wx.cell? ⟨g, 1, none⟩ = some (.int .i64 o2) ∧ wx.frozen? ⟨g, 0, none⟩ = false ∧ wx.frozen? ⟨g, 1, none⟩ = false ∧ Tr.Arr wx wx.heap.size A l ∧ (∀ ad, A = some ad → w1.heap.size ≤ ad.block) ∧ Below w1.heap.size w1 wx)
  case first =>
    go_region_held3 (fun w' => Below w1.heap.size w1 w' ∧ w'.cell? ⟨w.heap.size + 1, 0, none⟩ = some (.int .u32 d0) ∧ w'.cell? ⟨w.heap.size + 1, 1, none⟩ = some (.int .u32 d1) ∧ w'.cell? ⟨w.heap.size + 1, 2, none⟩ = some (.slice G gs.length cg) ∧ w'.cell? ⟨w.heap.size + 1, 3, none⟩ = some (.slice S ss.length cs) ∧ w'.cell? ⟨w.heap.size, 0, none⟩ = some (.int .u32 x) ∧ w'.cell? ⟨w.heap.size, 1, none⟩ = some (.int .u32 y))
      ((refine HSx.out _ ?_; first | assumption | (repeat' (first | (with_reducible exact Below.refl _ _) | (with_reducible refine Below.alloc ?_ ?_ _) | (with_reducible refine Below.setCell ?_ ?_ _) | (with_reducible refine Below.drew ?_) | (with_reducible assumption) | omega | (simp; done) | (simp; omega)))))
      (first
        | (go_at_call_of 8 (Value.int .u32 x); go_split_ands; refine (CO.out _).mono ?_; rintro e wB ⟨rfl, hrB⟩; have hbB := carry2 (w := w1) (by assumption) hrB; have sB := hbB.size; obtain ⟨hcB, hzB⟩ := bcell hrB; have rB := hrB.size; try simp only [World.size_alloc, World.size_drew] at rB; try (have ltB : w1.heap.size < wB.heap.size := by omega))
        | (go_at_call_of 16 (Value.agg #[.int .u32 d0, .int .u32 d1, .slice G gs.length cg, .slice S ss.length cs]); go_split_ands; refine (CT.out _ (Mem.Row.of_lt (HG.out.below (by assumption)) (by first | (simp; done) | (simp; omega) | omega)) (Mem.Row.of_lt (HS.out.below (by assumption)) (by first | (simp; done) | (simp; omega) | omega))).mono ?_; rintro e wT ⟨⟨AT, capT, rfl, hAT, hNT⟩, hrT⟩; have hbT := carry2 (w := w1) (by assumption) hrT; have sT := hbT.size; obtain ⟨hcT, hzT⟩ := bcell hrT; have rT := hrT.size; try simp only [World.size_alloc, World.size_drew] at rT hNT))
    all_goals
      go_wp2_with fail
      go_meet
      first
      | exact ⟨wT.heap.size, AT, capT, rfl, rfl, by simp, sT, by simp [go_sem], by simp [go_sem], by simp [go_sem], by simp [go_sem], (hAT.below ((Below.refl _ _).alloc (Nat.le_refl _) _)).of_lt (by simp), (fun ad h => by have := hNT ad h; omega), hbT.alloc sT _⟩
      | (have t0 : wT.cell? ⟨wB.heap.size, 0, none⟩ = some (.int .i64 0) := by rw [hcT _ _ (by simp)]; simp [go_sem]
         have t1 : wT.cell? ⟨wB.heap.size, 1, none⟩ = some (.int .i64 0) := by rw [hcT _ _ (by simp)]; simp [go_sem]
         have z0 : wT.frozen? ⟨wB.heap.size, 0, none⟩ = false := by rw [hzT _ _ (by simp)]; simp [go_sem]
         have z1 : wT.frozen? ⟨wB.heap.size, 1, none⟩ = false := by rw [hzT _ _ (by simp)]; simp [go_sem]
         have hne : l = [] ∨ ∀ ad, AT = some ad → ad.block ≠ wB.heap.size := .inr fun ad h => by have := hNT ad h; omega
         exact ⟨wB.heap.size, AT, capT, rfl, rfl, by simp [World.setCell]; omega, sB, (cell2 _ _ t0 t1).1, (cell2 _ _ t0 t1).2, by rw [World.frozen?_setCell, World.frozen?_setCell]; exact z0, by rw [World.frozen?_setCell, World.frozen?_setCell]; exact z1, ((Mem.arr_set (Mem.arr_set hAT hne 0 _) hne 1 _).of_lt (by simp [World.setCell])), (fun ad h => by have := hNT ad h; omega), (hbT.setCell (p := ⟨wB.heap.size, 0, none⟩) sB _).setCell (p := ⟨wB.heap.size, 1, none⟩) sB _⟩)
      | (have t0 : wT.cell? ⟨w1.heap.size, 0, none⟩ = some (.int .i64 0) := by rw [hcT _ _ (by omega), hcB _ _ (by simp)]; simp [go_sem]
         have t1 : wT.cell? ⟨w1.heap.size, 1, none⟩ = some (.int .i64 0) := by rw [hcT _ _ (by omega), hcB _ _ (by simp)]; simp [go_sem]
         have z0 : wT.frozen? ⟨w1.heap.size, 0, none⟩ = false := by rw [hzT _ _ (by omega), hzB _ _ (by simp)]; simp [go_sem]
         have z1 : wT.frozen? ⟨w1.heap.size, 1, none⟩ = false := by rw [hzT _ _ (by omega), hzB _ _ (by simp)]; simp [go_sem]
         have hne : l = [] ∨ ∀ ad, AT = some ad → ad.block ≠ w1.heap.size := .inr fun ad h => by have := hNT ad h; omega
         exact ⟨w1.heap.size, AT, capT, rfl, rfl, by simp [World.setCell]; omega, Nat.le_refl _, (cell2 _ _ t0 t1).1, (cell2 _ _ t0 t1).2, by rw [World.frozen?_setCell, World.frozen?_setCell]; exact z0, by rw [World.frozen?_setCell, World.frozen?_setCell]; exact z1, ((Mem.arr_set (Mem.arr_set hAT hne 0 _) hne 1 _).of_lt (by simp [World.setCell])), (fun ad h => by have := hNT ad h; omega), (hbT.setCell (p := ⟨w1.heap.size, 0, none⟩) (Nat.le_refl _) _).setCell (p := ⟨w1.heap.size, 1, none⟩) (Nat.le_refl _) _⟩)
  case rest =>
    clear HSx CO CT
    obtain ⟨g, A, cap, rfl, rfl, hg_lt, hg_ge, c_g_0, c_g_1, f_g_0, f_g_1, hHA, hlo_g, hbc⟩ := hcut
    obtain ⟨W2, rfl⟩ : ∃ W2 : World, W2 = wc := ⟨_, rfl⟩
    have hm_W2 : Below w1.heap.size w1 W2 := hbc
    have q_W2 := hm_W2.size
    replace c_n_0 := below_cell hm_W2 c_n_0 lt_w1_0_0
    replace c_n_1 := below_cell hm_W2 c_n_1 lt_w1_0_0
    replace c_d_0 := below_cell hm_W2 c_d_0 lt_w1_0_1
    replace c_d_1 := below_cell hm_W2 c_d_1 lt_w1_0_1
    replace c_d_2 := below_cell hm_W2 c_d_2 lt_w1_0_1
    replace c_d_3 := below_cell hm_W2 c_d_3 lt_w1_0_1
    replace HG := Lib.hid ((HG.out.below hm_W2).of_lt hm_W2.size)
    replace HS := Lib.hid ((HS.out.below hm_W2).of_lt hm_W2.size)
    replace HDS := Lib.hid ((HDS.out.below hm_W2).of_lt hm_W2.size)
    replace A0 := Lib.hid (A0.out.trans (hm_W2.mono A0.out.size))
    have lt_W2_0_1 : w.heap.size + 1 < W2.heap.size := by omega
    have lt_W2_0_0 : w.heap.size < W2.heap.size := Nat.lt_of_succ_lt lt_W2_0_1
    obtain ⟨le_W2_0_0, le_W2_0_1, le_W2_0_2, le_W2_0_3, lu_W2_0_1, lu_W2_0_2, lu_W2_0_3⟩ := lts lt_W2_0_0
    clear le_w1_0_0 le_w1_0_1 le_w1_0_2 le_w1_0_3 lu_w1_0_1 lu_w1_0_2 lu_w1_0_3 lt_w1_0_0 lt_w1_0_1
    clear hm_W2
    clear hbc
    have lt_W2_0_1 : w.heap.size + 1 < W2.heap.size := by omega
    have lt_W2_0_0 : w.heap.size < W2.heap.size := Nat.lt_of_succ_lt lt_W2_0_1
    obtain ⟨le_W2_0_0, le_W2_0_1, le_W2_0_2, le_W2_0_3, lu_W2_0_1, lu_W2_0_2, lu_W2_0_3⟩ := lts lt_W2_0_0
    have lt_W2_1_0 : g < W2.heap.size := by omega
    obtain ⟨le_W2_1_0, le_W2_1_1, le_W2_1_2, le_W2_1_3, lu_W2_1_1, lu_W2_1_2, lu_W2_1_3⟩ := lts lt_W2_1_0
    clear le_W2_0_0 le_W2_0_1 le_W2_0_2 le_W2_0_3 lu_W2_0_1 lu_W2_0_2 lu_W2_0_3 lt_W2_0_0 lt_W2_0_1
    have hge_g := hg_ge
    clear hg_lt hg_ge
    have HA : Hid (Tr.Arr W2 W2.heap.size A l) := Lib.hid hHA
    clear hHA
    clear HG HS
    clear c_n_0
    clear c_n_1
    clear c_d_0
    clear c_d_1
    clear c_d_2
    clear c_d_3
    obtain ⟨N, hN⟩ : ∃ N, min ds.length l.length = N := ⟨_, rfl⟩
    have n1 : N ≤ ds.length := by omega
    have n2 : N ≤ l.length := by omega
    have hN2 : N = ds.length ∨ N = l.length := by omega
    clear hN
    go_upto_block 0 with fail
    go_cut [11] (fun s11 wx => ∃ (A11 : Option Addr) (c11 : Nat), s11 = .slice A11 N c11 ∧ Tr.Ints wx wx.heap.size A11 (Cr.frees ds N) ∧ Below W2.heap.size W2 wx)
    case first =>
      go_wp2_with fail
      go_loopw [12, 11] (fun i v wr => ∃ k : Nat, k ≤ N ∧ i = .int .i64 k ∧ wr.ownsRow W2.heap.size 3 1 v k (Mem.ints (Cr.frees ds k)) ∧ Below W2.heap.size W2 wr) (fun i _ _ => N - (intOf i).toNat)
      case atStart => exact ⟨0, by omega, rfl, ⟨rfl, .inl ⟨rfl, rfl⟩⟩, Below.refl _ _⟩
      case round =>
        obtain ⟨k, hk, rfl, hown, hbr⟩ := hrel
        obtain ⟨wo, rfl⟩ : ∃ wo : World, wo = wr := ⟨_, rfl⟩
        have KW := Lib.hid hbr
        have hm_wo : Below W2.heap.size W2 wo := hbr
        have q_wo := hm_wo.size
        replace c_g_0 := below_cell hm_wo c_g_0 lt_W2_1_0
        replace f_g_0 := (hm_wo.frozen (p := ⟨g, 0, none⟩) lt_W2_1_0).trans f_g_0
        replace c_g_1 := below_cell hm_wo c_g_1 lt_W2_1_0
        replace f_g_1 := (hm_wo.frozen (p := ⟨g, 1, none⟩) lt_W2_1_0).trans f_g_1
        replace HDS := Lib.hid ((HDS.out.below hm_wo).of_lt hm_wo.size)
        replace HA := Lib.hid ((HA.out.below hm_wo).of_lt hm_wo.size)
        replace A0 := Lib.hid (A0.out.trans (hm_wo.mono A0.out.size))
        have lt_wo_0_0 : g < wo.heap.size := by omega
        obtain ⟨le_wo_0_0, le_wo_0_1, le_wo_0_2, le_wo_0_3, lu_wo_0_1, lu_wo_0_2, lu_wo_0_3⟩ := lts lt_wo_0_0
        clear le_W2_0_0 le_W2_0_1 le_W2_0_2 le_W2_0_3 lu_W2_0_1 lu_W2_0_2 lu_W2_0_3 lt_W2_0_0 lt_W2_0_1
        clear le_W2_1_0 le_W2_1_1 le_W2_1_2 le_W2_1_3 lu_W2_1_1 lu_W2_1_2 lu_W2_1_3 lt_W2_1_0
        clear hm_wo
        clear hbr
        have HO := Lib.hid hown
        clear hown
        by_cases hlt : k < N
        · obtain ⟨dv, hdk⟩ : ∃ g, ds[k]? = some g := ⟨ds[k]'(by omega), List.getElem?_eq_getElem _⟩
          obtain ⟨ad, rfl, hbk, hc0⟩ := HDS.out.at_ hdk
          have bd := HBD.out dv (List.mem_of_getElem? hdk)
          have HSN := Lib.hid (Cr.frees_snoc hdk)
          clear hdk
          have i0 : (0 : Int) ≤ (k : Int) := by omega
          have i1 : (k : Int) < (ds.length : Int) := by omega
          have i2 : (k : Int) < (l.length : Int) := by omega
          have q1 : IntKind.i64.wrap dv = dv := IntWalk.i64_in _ (by omega)
          have q2 : IntKind.i64.wrap (dv * 16) = dv * 16 := IntWalk.i64_in _ (by omega)
          go_wp2_with (at_builtin; refine Mem.wpList_append _ rfl (.tmp 48) (.tmp 55) _ rfl W2.heap.size 3 i0_ _ 1 8 Try.underlying47 II.out.1 II.out.2.1 II.out.2.2.1 II.out.2.2.2 rfl (by omega) _ k (Mem.ints (Cr.frees ds k)) rfl (HO.out.alloc _) (wo.heap.size + 1) (some ⟨wo.heap.size, 0, none⟩) 1 1 [.int .i64 (dv * 16)] rfl rfl (Mem.Row.one (by simp [go_sem]) (Nat.lt_succ_self _)) (by intro u hu; simp at hu; subst hu; rfl) (by unfold maxLen; omega) (by omega) (by simp; omega) ?_; intro v4 w4 hown4 hg4 hat4 hlt4; have HO4 := Lib.hid hown4; have HB4 : Hid (Below W2.heap.size W2 w4) := Lib.hid (Below.grown (by have hb := KW.out; (repeat' (first | (with_reducible exact Below.refl _ _) | (with_reducible refine Below.alloc ?_ ?_ _) | (with_reducible refine Below.setCell ?_ ?_ _) | (with_reducible refine Below.drew ?_) | (with_reducible assumption) | omega | (simp; done) | (simp; omega)))) hg4 (by simp; omega) (fun k hk => (hlt4 k hk).1)); clear hown4 hg4 hat4 hlt4)
          go_roundw
          case rel => exact ⟨k + 1, by omega, by go_num, by rw [HSN.out, Mem.ints_snoc]; exact HO4.out, HB4.out⟩
          case measure => simp [intOf]; omega
        · have ekN : k = N := by omega
          subst ekN
          obtain ⟨A11, c11, rfl, hI⟩ := SmW.own_slice HO.out
          have HI := Lib.hid hI
          clear hI HO hlt hk
          by_cases hN3 : k < ds.length
          · have i2 : (k : Int) < (ds.length : Int) := by omega
            have i3 : ¬ (k : Int) < (l.length : Int) := by omega
            go_wp2_with fail
            go_meet
            exact ⟨A11, c11, rfl, HI.out, KW.out⟩
          · have i2 : ¬ (k : Int) < (ds.length : Int) := by omega
            skip
            go_wp2_with fail
            go_meet
            exact ⟨A11, c11, rfl, HI.out, KW.out⟩
    case rest =>
      obtain ⟨A11, c11, rfl, hI, hbc⟩ := hcut
      obtain ⟨wo, rfl⟩ : ∃ wo : World, wo = wc := ⟨_, rfl⟩
      have hm_wo : Below W2.heap.size W2 wo := hbc
      have q_wo := hm_wo.size
      replace c_g_0 := below_cell hm_wo c_g_0 lt_W2_1_0
      replace f_g_0 := (hm_wo.frozen (p := ⟨g, 0, none⟩) lt_W2_1_0).trans f_g_0
      replace c_g_1 := below_cell hm_wo c_g_1 lt_W2_1_0
      replace f_g_1 := (hm_wo.frozen (p := ⟨g, 1, none⟩) lt_W2_1_0).trans f_g_1
      replace HDS := Lib.hid ((HDS.out.below hm_wo).of_lt hm_wo.size)
      replace HA := Lib.hid ((HA.out.below hm_wo).of_lt hm_wo.size)
      replace A0 := Lib.hid (A0.out.trans (hm_wo.mono A0.out.size))
      have lt_wo_0_0 : g < wo.heap.size := by omega
      obtain ⟨le_wo_0_0, le_wo_0_1, le_wo_0_2, le_wo_0_3, lu_wo_0_1, lu_wo_0_2, lu_wo_0_3⟩ := lts lt_wo_0_0
      clear le_W2_0_0 le_W2_0_1 le_W2_0_2 le_W2_0_3 lu_W2_0_1 lu_W2_0_2 lu_W2_0_3 lt_W2_0_0 lt_W2_0_1
      clear le_W2_1_0 le_W2_1_1 le_W2_1_2 le_W2_1_3 lu_W2_1_1 lu_W2_1_2 lu_W2_1_3 lt_W2_1_0
      clear hm_wo
      clear hbc
      have hfl := Cr.frees_length n1
      have hfi := fun j => Cr.frees_in (n := N) HBD.out j
      generalize Cr.frees ds N = fr at *
      have HF : Hid (Tr.Ints wo wo.heap.size A11 fr) := Lib.hid hI
      clear hI
      clear HDS HBD
      have hokA : ∀ j x1 x2, l[j]? = some (x1, x2) → (0 ≤ x1 ∧ x1 ≤ 1073741824) ∧ (0 ≤ fr.getD j 0 ∧ fr.getD j 0 ≤ 1073741824) ∧ (1 ≤ x2 ∧ x2 ≤ 1542) := fun j x1 x2 h => by
        have a := HM.out (x1, x2) (List.mem_of_getElem? h)
        have b := hfi j
        simp only at a
        omega
      have RG := Lib.hid (fun W hA hF => Run_go o1 o2 A l cap A11 fr c11 HOK.out (by omega) HT1.out (by omega) hokA W hA hF)
      have hil := Cr.items_length fr l
      have hsl := Cr.starts_length o1 o2 (Cr.items fr l) 0 0
      have HARG := Lib.hid hokA
      clear hokA hfi HT1 HT2
      rw [hfl] at RG
      skip
      go_wp2_with fail
      refine (RG.out _ HA.out HF.out).mono ?_
      rintro e w5 ⟨h5, hb_⟩
      have hm_w5 : Below wo.heap.size wo w5 := hb_
      have q_w5 := hm_w5.size
      replace c_g_0 := below_cell hm_w5 c_g_0 lt_wo_0_0
      replace f_g_0 := (hm_w5.frozen (p := ⟨g, 0, none⟩) lt_wo_0_0).trans f_g_0
      replace c_g_1 := below_cell hm_w5 c_g_1 lt_wo_0_0
      replace f_g_1 := (hm_w5.frozen (p := ⟨g, 1, none⟩) lt_wo_0_0).trans f_g_1
      replace HA := Lib.hid ((HA.out.below hm_w5).of_lt hm_w5.size)
      replace HF := Lib.hid ((HF.out.below hm_w5).of_lt hm_w5.size)
      replace A0 := Lib.hid (A0.out.trans (hm_w5.mono A0.out.size))
      have lt_w5_0_0 : g < w5.heap.size := by omega
      obtain ⟨le_w5_0_0, le_w5_0_1, le_w5_0_2, le_w5_0_3, lu_w5_0_1, lu_w5_0_2, lu_w5_0_3⟩ := lts lt_w5_0_0
      clear le_wo_0_0 le_wo_0_1 le_wo_0_2 le_wo_0_3 lu_wo_0_1 lu_wo_0_2 lu_wo_0_3 lt_wo_0_0
      clear hm_w5
      clear hb_ RG
      rcases h5 with ⟨hg, rfl⟩ | ⟨hg, A7, c7, rfl, hI7⟩
      · clear hg HARG HM HF HA
        go_wp2_with fail
        go_ret
        exact ⟨rfl, by have hb := A0.out; have := hb.size; (repeat' (first | (with_reducible exact Below.refl _ _) | (with_reducible refine Below.alloc ?_ ?_ _) | (with_reducible refine Below.setCell ?_ ?_ _) | (with_reducible refine Below.drew ?_) | (with_reducible assumption) | omega | (simp; done) | (simp; omega)))⟩
      · skip
        have HI : Hid (Tr.Ints w5 w5.heap.size A7 (Cr.starts o1 o2 0 0 (Cr.items fr l))) := Lib.hid hI7
        clear hI7
        obtain ⟨ea, hea⟩ : ∃ z, Cr.endA o1 o2 0 0 (Cr.items fr l) = z := ⟨_, rfl⟩
        obtain ⟨el, hel⟩ : ∃ z, Cr.endL o1 o2 0 0 (Cr.items fr l) = z := ⟨_, rfl⟩
        rw [hea, hel]
        obtain ⟨R, hR⟩ : ∃ z, Cr.starts o1 o2 0 0 (Cr.items fr l) = z := ⟨_, rfl⟩
        rw [hR] at HI hsl
        rw [hil] at hsl
        have HEA := Lib.hid hea
        have HEL := Lib.hid hel
        have HR := Lib.hid hR
        have HGD := Lib.hid hg
        clear hea hel hR hg hil
        go_upto_region 12 with fail
        obtain ⟨W6, hW6⟩ : ∃ W6, (w5.alloc (.cells #[.int .i64 ea, .int .i64 el] 25)) = W6 := ⟨_, rfl⟩
        have hm_W6 : Below w5.heap.size w5 W6 := by rw [← hW6]; (repeat' (first | (with_reducible exact Below.refl _ _) | (with_reducible refine Below.alloc ?_ ?_ _) | (with_reducible refine Below.setCell ?_ ?_ _) | (with_reducible refine Below.drew ?_) | (with_reducible assumption) | omega | (simp; done) | (simp; omega)))
        have q_W6 : w5.heap.size + 1 ≤ W6.heap.size := by rw [← hW6]; simp
        replace c_g_0 := below_cell hm_W6 c_g_0 lt_w5_0_0
        replace f_g_0 := (hm_W6.frozen (p := ⟨g, 0, none⟩) lt_w5_0_0).trans f_g_0
        replace c_g_1 := below_cell hm_W6 c_g_1 lt_w5_0_0
        replace f_g_1 := (hm_W6.frozen (p := ⟨g, 1, none⟩) lt_w5_0_0).trans f_g_1
        replace HA := Lib.hid ((HA.out.below hm_W6).of_lt hm_W6.size)
        replace HF := Lib.hid ((HF.out.below hm_W6).of_lt hm_W6.size)
        replace HI := Lib.hid ((HI.out.below hm_W6).of_lt hm_W6.size)
        replace A0 := Lib.hid (A0.out.trans (hm_W6.mono A0.out.size))
        have c_e_0 : W6.cell? ⟨w5.heap.size, 0, none⟩ = some (.int .i64 ea) := by rw [← hW6]; simp [go_sem]
        have c_e_1 : W6.cell? ⟨w5.heap.size, 1, none⟩ = some (.int .i64 el) := by rw [← hW6]; simp [go_sem]
        rw [hW6]
        have lt_W6_0_0 : g < W6.heap.size := by omega
        obtain ⟨le_W6_0_0, le_W6_0_1, le_W6_0_2, le_W6_0_3, lu_W6_0_1, lu_W6_0_2, lu_W6_0_3⟩ := lts lt_W6_0_0
        have lt_W6_1_0 : w5.heap.size < W6.heap.size := by omega
        obtain ⟨le_W6_1_0, le_W6_1_1, le_W6_1_2, le_W6_1_3, lu_W6_1_1, lu_W6_1_2, lu_W6_1_3⟩ := lts lt_W6_1_0
        clear le_w5_0_0 le_w5_0_1 le_w5_0_2 le_w5_0_3 lu_w5_0_1 lu_w5_0_2 lu_w5_0_3 lt_w5_0_0
        clear hW6 hm_W6
        have HA6 := HA
        have HF6 := HF
        have HI6 := HI
        have l_g : g < W6.heap.size := by omega
        have l_e : w5.heap.size < W6.heap.size := by omega
        go_upto_region 13 with fail
        have K6 : Hid (Below W6.heap.size W6 W6) := Lib.hid (Below.refl _ _)
        obtain ⟨W7, hW7⟩ : ∃ W7, (W6.alloc (.cells #[.int .i64 0, .int .i64 0] 25)) = W7 := ⟨_, rfl⟩
        have hm_W7 : Below W6.heap.size W6 W7 := by rw [← hW7]; (repeat' (first | (with_reducible exact Below.refl _ _) | (with_reducible refine Below.alloc ?_ ?_ _) | (with_reducible refine Below.setCell ?_ ?_ _) | (with_reducible refine Below.drew ?_) | (with_reducible assumption) | omega | (simp; done) | (simp; omega)))
        have q_W7 : W6.heap.size + 1 ≤ W7.heap.size := by rw [← hW7]; simp
        replace c_g_0 := below_cell hm_W7 c_g_0 lt_W6_0_0
        replace f_g_0 := (hm_W7.frozen (p := ⟨g, 0, none⟩) lt_W6_0_0).trans f_g_0
        replace c_g_1 := below_cell hm_W7 c_g_1 lt_W6_0_0
        replace f_g_1 := (hm_W7.frozen (p := ⟨g, 1, none⟩) lt_W6_0_0).trans f_g_1
        replace c_e_0 := below_cell hm_W7 c_e_0 lt_W6_1_0
        replace c_e_1 := below_cell hm_W7 c_e_1 lt_W6_1_0
        replace HA := Lib.hid ((HA.out.below hm_W7).of_lt hm_W7.size)
        replace HF := Lib.hid ((HF.out.below hm_W7).of_lt hm_W7.size)
        replace HI := Lib.hid ((HI.out.below hm_W7).of_lt hm_W7.size)
        replace A0 := Lib.hid (A0.out.trans (hm_W7.mono A0.out.size))
        replace K6 := Lib.hid (K6.out.trans (hm_W7.mono K6.out.size))
        have c_c_0 : W7.cell? ⟨W6.heap.size, 0, none⟩ = some (.int .i64 0) := by rw [← hW7]; simp [go_sem]
        have f_c_0 : W7.frozen? ⟨W6.heap.size, 0, none⟩ = false := by rw [← hW7]; simp [go_sem]
        have c_c_1 : W7.cell? ⟨W6.heap.size, 1, none⟩ = some (.int .i64 0) := by rw [← hW7]; simp [go_sem]
        have f_c_1 : W7.frozen? ⟨W6.heap.size, 1, none⟩ = false := by rw [← hW7]; simp [go_sem]
        rw [hW7]
        have lt_W7_0_0 : g < W7.heap.size := by omega
        obtain ⟨le_W7_0_0, le_W7_0_1, le_W7_0_2, le_W7_0_3, lu_W7_0_1, lu_W7_0_2, lu_W7_0_3⟩ := lts lt_W7_0_0
        have lt_W7_1_0 : w5.heap.size < W7.heap.size := by omega
        obtain ⟨le_W7_1_0, le_W7_1_1, le_W7_1_2, le_W7_1_3, lu_W7_1_1, lu_W7_1_2, lu_W7_1_3⟩ := lts lt_W7_1_0
        have lt_W7_2_0 : W6.heap.size < W7.heap.size := by omega
        obtain ⟨le_W7_2_0, le_W7_2_1, le_W7_2_2, le_W7_2_3, lu_W7_2_1, lu_W7_2_2, lu_W7_2_3⟩ := lts lt_W7_2_0
        clear le_W6_0_0 le_W6_0_1 le_W6_0_2 le_W6_0_3 lu_W6_0_1 lu_W6_0_2 lu_W6_0_3 lt_W6_0_0
        clear le_W6_1_0 le_W6_1_1 le_W6_1_2 le_W6_1_3 lu_W6_1_1 lu_W6_1_2 lu_W6_1_3 lt_W6_1_0
        clear hW7 hm_W7
        have KX := K6
        clear K6
        have HC0 : Hid (It.Box2 W7 W6.heap.size 0 0) := Lib.hid ⟨c_c_0, c_c_1, f_c_0, f_c_1⟩
        clear c_c_0 f_c_0
        clear c_c_1 f_c_1
        have lgc : W6.heap.size < W7.heap.size := by omega
        have k_g_0 := Lib.hid c_g_0
        have k_g_1 := Lib.hid c_g_1
        have k_e_0 := Lib.hid c_e_0
        have k_e_1 := Lib.hid c_e_1
        have HA7 := HA
        have HF7 := HF
        have HI7 := HI
        have HB7 : Hid (Below w.heap.size w W7) := A0
        skip
        clear c_g_0 f_g_0
        clear c_g_1 f_g_1
        clear c_e_0
        clear c_e_1
        clear le_W7_0_0 le_W7_0_1 le_W7_0_2 le_W7_0_3 lu_W7_0_1 lu_W7_0_2 lu_W7_0_3 lt_W7_0_0
        clear le_W7_1_0 le_W7_1_1 le_W7_1_2 le_W7_1_3 lu_W7_1_1 lu_W7_1_2 lu_W7_1_3 lt_W7_1_0
        clear le_W7_2_0 le_W7_2_1 le_W7_2_2 le_W7_2_3 lu_W7_2_1 lu_W7_2_2 lu_W7_2_3 lt_W7_2_0
        clear HA HF HI A0
        go_wp2_with fail
        go_loopw [17] (fun i wr => ∃ (k2 : Nat) (a lv : Int), k2 ≤ l.length ∧ i = .int .i64 k2 ∧ It.Box2 wr W6.heap.size a lv ∧ Cr.stOk a lv = true ∧ R = R.take k2 ++ Cr.starts o1 o2 a lv ((Cr.items fr l).drop k2) ∧ ea = Cr.endA o1 o2 a lv ((Cr.items fr l).drop k2) ∧ el = Cr.endL o1 o2 a lv ((Cr.items fr l).drop k2) ∧ Cr.good o1 o2 a lv ((Cr.items fr l).drop k2) = true ∧ (∀ s0 z1 z2, 0 < k2 → R[k2 - 1]? = some s0 → l[k2 - 1]? = some (z1, z2) → a = s0 + z2 * o2) ∧ It.Upd W6.heap.size W7 wr) (fun i _ => l.length - (intOf i).toNat)
        case atStart => exact ⟨0, 0, 0, by omega, rfl, HC0.out, rfl, by simpa using HR.out.symm, HEA.out.symm, HEL.out.symm, HGD.out, fun _ _ _ h => by omega, It.Upd.refl _ _⟩
        case round =>
          obtain ⟨k2, a, lv, hk2, rfl, hbx, hst, h1, h2, h3, h4, h5, hup⟩ := hrel
          obtain ⟨wq, rfl⟩ : ∃ wq : World, wq = wr := ⟨_, rfl⟩
          have HBX := Lib.hid hbx
          obtain ⟨c_c_0, c_c_1, f_c_0, f_c_1⟩ := hbx
          have c_g_0 := hup.cell (a := ⟨g, 0, none⟩) (by show g ≠ W6.heap.size; omega) k_g_0.out
          have c_g_1 := hup.cell (a := ⟨g, 1, none⟩) (by show g ≠ W6.heap.size; omega) k_g_1.out
          have c_e_0 := hup.cell (a := ⟨w5.heap.size, 0, none⟩) (by show w5.heap.size ≠ W6.heap.size; omega) k_e_0.out
          have c_e_1 := hup.cell (a := ⟨w5.heap.size, 1, none⟩) (by show w5.heap.size ≠ W6.heap.size; omega) k_e_1.out
          have q_wq := hup.size
          have hb6 : Below W6.heap.size W6 wq := hup.below KX.out (by omega) (Nat.le_refl _)
          have hbw : Below w.heap.size w wq := hup.below HB7.out (by omega) (by omega)
          have A0 := Lib.hid hbw
          have HST := Lib.hid hst
          have H1 := Lib.hid h1
          have H2 := Lib.hid h2
          have H3 := Lib.hid h3
          have H4 := Lib.hid h4
          have H5 := Lib.hid h5
          have HU := Lib.hid hup
          have HA : Hid (Tr.Arr wq wq.heap.size A l) := Lib.hid (Tr.Arr.of_lt (HA6.out.below hb6) hb6.size)
          have HF : Hid (Tr.Ints wq wq.heap.size A11 fr) := Lib.hid (Tr.Ints.of_lt (HF6.out.below hb6) hb6.size)
          have HI : Hid (Tr.Ints wq wq.heap.size A7 R) := Lib.hid (Tr.Ints.of_lt (HI6.out.below hb6) hb6.size)
          clear hst h1 h2 h3 h4 h5 hup hb6 hbw
          have lt_wq_0_0 : g < wq.heap.size := by omega
          obtain ⟨le_wq_0_0, le_wq_0_1, le_wq_0_2, le_wq_0_3, lu_wq_0_1, lu_wq_0_2, lu_wq_0_3⟩ := lts lt_wq_0_0
          have lt_wq_1_0 : w5.heap.size < wq.heap.size := by omega
          obtain ⟨le_wq_1_0, le_wq_1_1, le_wq_1_2, le_wq_1_3, lu_wq_1_1, lu_wq_1_2, lu_wq_1_3⟩ := lts lt_wq_1_0
          have lt_wq_2_0 : W6.heap.size < wq.heap.size := by omega
          obtain ⟨le_wq_2_0, le_wq_2_1, le_wq_2_2, le_wq_2_3, lu_wq_2_1, lu_wq_2_2, lu_wq_2_3⟩ := lts lt_wq_2_0
          have KQ : Hid (Below wq.heap.size wq wq) := Lib.hid (Below.refl _ _)
          by_cases hlt2 : k2 < l.length
          · obtain ⟨⟨x1, x2⟩, hx⟩ : ∃ x, l[k2]? = some x := ⟨l[k2], List.getElem?_eq_getElem hlt2⟩
            obtain ⟨ad, rfl, hbk, hc0, hc1⟩ := HA.out k2 (x1, x2) hx
            have hm := HARG.out k2 x1 x2 hx
            have hin : Cr.argOk x1 (fr.getD k2 0) x2 = true := decide_eq_true (by omega)
            have hat := Cr.at_step (r := o1) (p := o2) (a := a) (l := lv) (Cr.items_get (fr := fr) hx)
            simp only at hat
            obtain ⟨t1, t2, t3, t4, t5⟩ := hat
            clear t2
            have j1 := H1.out
            rw [t1] at j1
            have j2 := H2.out
            rw [t3] at j2
            have j3 := H3.out
            rw [t4] at j3
            have j4 := H4.out
            rw [t5, Bool.and_eq_true] at j4
            have rp := Cr.ok_iff.1 HOK.out
            have ss1 := Cr.stOk_iff.1 HST.out
            have ss2 := Cr.stOk_iff.1 j4.1
            have TT := Step_any o1 o2 a lv x1 (fr.getD k2 0) x2
            have hE : Cr.stepE o1 o2 a lv x1 (fr.getD k2 0) x2 = 0 := by unfold Cr.stepE; rw [if_neg (by rw [HOK.out, HST.out]; simp), if_neg (by rw [hin]; simp), if_pos j4.1]
            unfold Cr.sX at TT
            rw [hE] at TT
            simp only [if_true] at TT
            have hge : a ≤ Cr.start o1 a lv x1 (fr.getD k2 0) := by have u1 := (Cr.start_spec (a := a) (l := lv) (t := x1) (free := fr.getD k2 0) rp.2.2.1).2.1; have u2 := (Cr.beg_le (a := a) (t := x1)).1; omega
            have hdefA : Cr.outA o1 o2 a lv x1 (fr.getD k2 0) x2 = Cr.start o1 a lv x1 (fr.getD k2 0) + x2 * o2 := rfl
            have CKS := CheckState_b (Cr.outA o1 o2 a lv x1 (fr.getD k2 0) x2) (Cr.outL o1 o2 a lv x1 (fr.getD k2 0) x2)
            rw [show Cr.stChk _ _ = 0 by unfold Cr.stChk; rw [j4.1]; rfl] at CKS
            generalize Cr.outL o1 o2 a lv x1 (fr.getD k2 0) x2 = L2 at *
            generalize Cr.outA o1 o2 a lv x1 (fr.getD k2 0) x2 = A2 at *
            generalize Cr.start o1 a lv x1 (fr.getD k2 0) = T at *
            have htk : (R.take k2).length = k2 := by rw [List.length_take]; omega
            have hTk : R[k2]? = some T := by rw [j1, List.getElem?_append_right (by omega), htk, Nat.sub_self]; rfl
            have htn : R.take (k2 + 1) = R.take k2 ++ [T] := by rw [List.take_add_one, hTk]; rfl
            have j1' : R = R.take (k2 + 1) ++ Cr.starts o1 o2 A2 L2 ((Cr.items fr l).drop (k2 + 1)) := by rw [htn, List.append_assoc]; exact j1
            have h5n : ∀ s0 z1 z2, 0 < k2 + 1 → R[k2 + 1 - 1]? = some s0 → l[k2 + 1 - 1]? = some (z1, z2) → A2 = s0 + z2 * o2 := fun s0 z1 z2 _ e1 e2 => by rw [Nat.add_sub_cancel] at e1 e2; rw [hTk] at e1; rw [hx] at e2; cases e1; cases e2; exact hdefA
            obtain ⟨ad7, rfl, hb7, he7⟩ := HI.out k2 T hTk
            have TT := Lib.hid TT
            have CKS := Lib.hid CKS
            have G1 := Lib.hid j1'
            have G2 := Lib.hid j2
            have G3 := Lib.hid j3
            have G4 := Lib.hid j4.2
            have G0 := Lib.hid j4.1
            have G5 := Lib.hid h5n
            have HX := Lib.hid hx
            have HTk := Lib.hid hTk
            have i0 : (0 : Int) ≤ (k2 : Int) := by omega
            have i1 : (k2 : Int) < (l.length : Int) := by omega
            clear j1 j1' j2 j3 j4 htk hTk htn h5n hin t1 t3 t4 t5 hE H1 H2 H3 H4 hx hdefA
            obtain ⟨f, hfk⟩ : ∃ f, fr.getD k2 0 = f := ⟨_, rfl⟩
            have hfe : k2 < fr.length → fr[k2]? = some f := fun h => by rw [← hfk, List.getD_eq_getElem?_getD, List.getElem?_eq_getElem h]; rfl
            have hf0 : ¬ k2 < fr.length → f = 0 := fun h => by rw [← hfk, List.getD_eq_getElem?_getD, List.getElem?_eq_none (by omega)]; rfl
            rw [hfk] at TT
            clear hfk
            go_upto_if 89 with fail
            go_cut [18] (fun s18 wx => s18 = .int .i64 f ∧ wq = wx)
            case first =>
              by_cases hkf : k2 < fr.length
              · obtain ⟨af, rfl, hbf, hcf⟩ := HF.out k2 f (hfe hkf)
                have i2 : (k2 : Int) < (N : Int) := by omega
                clear hfe hf0
                go_wp2_with fail
                go_meet
                exact ⟨rfl, rfl⟩
              · have i2 : ¬ (k2 : Int) < (N : Int) := by omega
                have hf := hf0 hkf
                subst hf
                clear hfe hf0
                go_wp2_with fail
                all_goals go_meet
                all_goals exact ⟨rfl, rfl⟩
            case rest =>
              obtain ⟨rfl, rfl⟩ := hcut
              clear hfe hf0
              go_upto_region 19 with fail
              have HSx : Hid (∀ w', Below wq.heap.size wq w' → (Below wq.heap.size wq w' ∧ w'.cell? ⟨g, 0, none⟩ = some (.int .i64 o1) ∧ w'.cell? ⟨g, 1, none⟩ = some (.int .i64 o2) ∧ w'.cell? ⟨w5.heap.size, 0, none⟩ = some (.int .i64 ea) ∧ w'.cell? ⟨w5.heap.size, 1, none⟩ = some (.int .i64 el) ∧ w'.cell? ⟨W6.heap.size, 0, none⟩ = some (.int .i64 a) ∧ w'.cell? ⟨W6.heap.size, 1, none⟩ = some (.int .i64 lv) ∧ w'.cell? (ad.add (k2 * 2)) = some (.int .i64 x1) ∧ w'.cell? ⟨(ad.add (k2 * 2)).block, (ad.add (k2 * 2)).off + 1, none⟩ = some (.int .i64 x2))) := Lib.hid (fun w' h => ⟨h, below_cell h c_g_0 lt_wq_0_0, below_cell h c_g_1 lt_wq_0_0, below_cell h c_e_0 lt_wq_1_0, below_cell h c_e_1 lt_wq_1_0, below_cell h c_c_0 lt_wq_2_0, below_cell h c_c_1 lt_wq_2_0, (h.cell (by rw [Tr.block_add]; omega)).trans hc0, (h.cell (by show (ad.add (k2 * 2)).block < _; rw [Tr.block_add]; omega)).trans hc1⟩)
              go_cut [19, 20, 21] (fun s19 s20 s21 wx => ∃ g20 : Nat, s19 = .int .i64 T ∧ s20 = .pointer (some ⟨g20, 0, none⟩) ∧ s21 = .int .i64 0 ∧ wq.heap.size ≤ g20 ∧ g20 < wx.heap.size ∧ It.Box2 wx g20 A2 L2 ∧ Below wq.heap.size wq wx)
              case first =>
                go_region_held3 (fun w' => Below wq.heap.size wq w' ∧ w'.cell? ⟨g, 0, none⟩ = some (.int .i64 o1) ∧ w'.cell? ⟨g, 1, none⟩ = some (.int .i64 o2) ∧ w'.cell? ⟨w5.heap.size, 0, none⟩ = some (.int .i64 ea) ∧ w'.cell? ⟨w5.heap.size, 1, none⟩ = some (.int .i64 el) ∧ w'.cell? ⟨W6.heap.size, 0, none⟩ = some (.int .i64 a) ∧ w'.cell? ⟨W6.heap.size, 1, none⟩ = some (.int .i64 lv) ∧ w'.cell? (ad.add (k2 * 2)) = some (.int .i64 x1) ∧ w'.cell? ⟨(ad.add (k2 * 2)).block, (ad.add (k2 * 2)).off + 1, none⟩ = some (.int .i64 x2))
                  ((refine HSx.out _ ?_; first | assumption | (repeat' (first | (with_reducible exact Below.refl _ _) | (with_reducible refine Below.alloc ?_ ?_ _) | (with_reducible refine Below.setCell ?_ ?_ _) | (with_reducible refine Below.drew ?_) | (with_reducible assumption) | omega | (simp; done) | (simp; omega)))))
                  (first | (go_at_call_of 13 (Value.agg #[.int .i64 o1, .int .i64 o2]); go_split_ands; refine (TT.out _).mono ?_; rintro e wE ⟨rfl, hrE⟩; have hbE := carry2 (w := wq) (by assumption) hrE; have sE := hbE.size; obtain ⟨hcE, hzE⟩ := bcell hrE; have rE := hrE.size; try simp only [World.size_alloc, World.size_drew] at rE))
                all_goals
                  go_wp2_with fail
                  go_meet
                  first
                  | exact ⟨wE.heap.size, rfl, rfl, rfl, sE, by simp, ⟨by simp [go_sem], by simp [go_sem], by simp [go_sem], by simp [go_sem]⟩, hbE.alloc sE _⟩
                  | (have t0 : wE.cell? ⟨wq.heap.size, 0, none⟩ = some (.int .i64 0) := by rw [hcE _ _ (by simp)]; simp [go_sem]
                     have t1 : wE.cell? ⟨wq.heap.size, 1, none⟩ = some (.int .i64 0) := by rw [hcE _ _ (by simp)]; simp [go_sem]
                     have z0 : wE.frozen? ⟨wq.heap.size, 0, none⟩ = false := by rw [hzE _ _ (by simp)]; simp [go_sem]
                     have z1 : wE.frozen? ⟨wq.heap.size, 1, none⟩ = false := by rw [hzE _ _ (by simp)]; simp [go_sem]
                     exact ⟨wq.heap.size, rfl, rfl, rfl, Nat.le_refl _, by simp [World.setCell]; omega, ((⟨t0, t1, z0, z1⟩ : It.Box2 wE wq.heap.size 0 0).set0 _).set1 _, (hbE.setCell (p := ⟨wq.heap.size, 0, none⟩) (Nat.le_refl _) _).setCell (p := ⟨wq.heap.size, 1, none⟩) (Nat.le_refl _) _⟩)
              case rest =>
                clear HSx TT
                obtain ⟨g20, rfl, rfl, rfl, hg20a, hg20b, hbn, hbc⟩ := hcut
                obtain ⟨Y, rfl⟩ : ∃ Y : World, Y = wc := ⟨_, rfl⟩
                have HBN := Lib.hid hbn
                have n0 := hbn.c0
                have n1' := hbn.c1
                have hc1Y := (hbc.cell (by show (ad.add (k2 * 2)).block < _; rw [Tr.block_add]; omega)).trans hc1
                have he7Y := (hbc.cell (by rw [Tr.block_add]; omega)).trans he7
                have hm_Y : Below wq.heap.size wq Y := hbc
                have q_Y := hm_Y.size
                replace c_g_0 := below_cell hm_Y c_g_0 lt_wq_0_0
                replace c_g_1 := below_cell hm_Y c_g_1 lt_wq_0_0
                replace c_e_0 := below_cell hm_Y c_e_0 lt_wq_1_0
                replace c_e_1 := below_cell hm_Y c_e_1 lt_wq_1_0
                replace c_c_0 := below_cell hm_Y c_c_0 lt_wq_2_0
                replace f_c_0 := (hm_Y.frozen (p := ⟨W6.heap.size, 0, none⟩) lt_wq_2_0).trans f_c_0
                replace c_c_1 := below_cell hm_Y c_c_1 lt_wq_2_0
                replace f_c_1 := (hm_Y.frozen (p := ⟨W6.heap.size, 1, none⟩) lt_wq_2_0).trans f_c_1
                replace HA := Lib.hid ((HA.out.below hm_Y).of_lt hm_Y.size)
                replace HF := Lib.hid ((HF.out.below hm_Y).of_lt hm_Y.size)
                replace HI := Lib.hid ((HI.out.below hm_Y).of_lt hm_Y.size)
                replace A0 := Lib.hid (A0.out.trans (hm_Y.mono A0.out.size))
                replace KQ := Lib.hid (KQ.out.trans (hm_Y.mono KQ.out.size))
                have lt_Y_0_0 : g < Y.heap.size := by omega
                obtain ⟨le_Y_0_0, le_Y_0_1, le_Y_0_2, le_Y_0_3, lu_Y_0_1, lu_Y_0_2, lu_Y_0_3⟩ := lts lt_Y_0_0
                have lt_Y_1_0 : w5.heap.size < Y.heap.size := by omega
                obtain ⟨le_Y_1_0, le_Y_1_1, le_Y_1_2, le_Y_1_3, lu_Y_1_1, lu_Y_1_2, lu_Y_1_3⟩ := lts lt_Y_1_0
                have lt_Y_2_0 : W6.heap.size < Y.heap.size := by omega
                obtain ⟨le_Y_2_0, le_Y_2_1, le_Y_2_2, le_Y_2_3, lu_Y_2_1, lu_Y_2_2, lu_Y_2_3⟩ := lts lt_Y_2_0
                clear le_wq_0_0 le_wq_0_1 le_wq_0_2 le_wq_0_3 lu_wq_0_1 lu_wq_0_2 lu_wq_0_3 lt_wq_0_0
                clear le_wq_1_0 le_wq_1_1 le_wq_1_2 le_wq_1_3 lu_wq_1_1 lu_wq_1_2 lu_wq_1_3 lt_wq_1_0
                clear le_wq_2_0 le_wq_2_1 le_wq_2_2 le_wq_2_3 lu_wq_2_1 lu_wq_2_2 lu_wq_2_3 lt_wq_2_0
                clear hm_Y
                clear hbc hbn hc0 hc1 he7
                go_upto_region 20 with fail
                go_cut [149] (fun s149 wx => s149 = .bool false ∧ Below Y.heap.size Y wx)
                case first =>
                  by_cases hk0 : 0 < k2
                  · obtain ⟨s0, hs0⟩ : ∃ z, R[k2 - 1]? = some z := ⟨R[k2 - 1]'(by omega), List.getElem?_eq_getElem _⟩
                    obtain ⟨⟨z1, z2⟩, hz⟩ : ∃ z, l[k2 - 1]? = some z := ⟨l[k2 - 1]'(by omega), List.getElem?_eq_getElem _⟩
                    have haz := H5.out s0 z1 z2 hk0 hs0 hz
                    obtain ⟨adx, hax, hbx7, hex7⟩ := HI.out (k2 - 1) s0 hs0
                    injection hax with hax
                    subst hax
                    obtain ⟨ady, hay, hby, _, hey⟩ := HA.out (k2 - 1) (z1, z2) hz
                    injection hay with hay
                    subst hay
                    have hmz := HARG.out (k2 - 1) z1 z2 hz
                    have m4 := Int.mul_le_mul hmz.2.2.2 rp.2.1 (by omega) (by omega)
                    have m5 := Int.mul_nonneg (show 0 ≤ z2 by omega) (show 0 ≤ o2 by omega)
                    have v1 : IntKind.i64.wrap ((k2 : Int) - 1) = (k2 : Int) - 1 := IntWalk.i64_in _ (by omega)
                    have v2 : (0 : Int) ≤ (k2 : Int) - 1 := by omega
                    have v3 : ((k2 : Int) - 1).toNat = k2 - 1 := by omega
                    have v4 : (k2 : Int) - 1 < (l.length : Int) := by omega
                    have v5 : IntKind.i64.wrap (z2 * o2) = z2 * o2 := IntWalk.i64_in _ (by omega)
                    have v6 : IntKind.i64.wrap (s0 + z2 * o2) = s0 + z2 * o2 := IntWalk.i64_in _ (by omega)
                    have v7 : decide (T < s0 + z2 * o2) = false := decide_eq_false (by omega)
                    have v8 : (0 : Int) < (k2 : Int) := by omega
                    have v9 : 0 < k2 := hk0
                    clear hs0 hz haz hmz m4 m5 hge hm
                    refine wp_region_still_tail 35 (by kernel_rfl) (by kernel_rfl) ?_
                    simp only [List.take_succ_cons, List.take_zero, List.drop_succ_cons, List.drop_zero]
                    change wpStill _ _ (World.drew Y) (fun a' => wpList _ _ _ _ a' (World.drew Y)) _ _
                    refine It.still_of_quiet _ _ ?_
                    repeat (go_big_quiet_step (fail))
                    refine wpQuiet_nil ?_
                    go_wp2_with fail
                    refine (CKS.out _).mono ?_
                    rintro e wF ⟨rfl, hrF⟩
                    have hbF : Below Y.heap.size Y wF := (Below.drew (Below.refl _ _)).trans hrF
                    go_wp2_with fail
                    go_meet
                    exact ⟨rfl, hbF⟩
                  · have ek0 : k2 = 0 := by omega
                    subst ek0
                    have he70 : Y.cell? ad7 = some (.int .i64 T) := by simpa [Addr.add] using he7Y
                    refine wp_region_still_tail 35 (by kernel_rfl) (by kernel_rfl) ?_
                    simp only [List.take_succ_cons, List.take_zero, List.drop_succ_cons, List.drop_zero]
                    change wpStill _ _ (World.drew Y) (fun a' => wpList _ _ _ _ a' (World.drew Y)) _ _
                    refine It.still_of_quiet _ _ ?_
                    repeat (go_big_quiet_step (fail))
                    refine wpQuiet_nil ?_
                    go_wp2_with fail
                    refine (CKS.out _).mono ?_
                    rintro e wF ⟨rfl, hrF⟩
                    have hbF : Below Y.heap.size Y wF := (Below.drew (Below.refl _ _)).trans hrF
                    go_wp2_with fail
                    go_meet
                    exact ⟨rfl, hbF⟩
                case rest =>
                  obtain ⟨rfl, hbc⟩ := hcut
                  obtain ⟨Z, rfl⟩ : ∃ Z : World, Z = wc := ⟨_, rfl⟩
                  have HBZ : Hid (It.Box2 Z g20 A2 L2) := Lib.hid (HBN.out.below hbc hg20b)
                  have hm_Z : Below Y.heap.size Y Z := hbc
                  have q_Z := hm_Z.size
                  replace c_g_0 := below_cell hm_Z c_g_0 lt_Y_0_0
                  replace c_g_1 := below_cell hm_Z c_g_1 lt_Y_0_0
                  replace c_e_0 := below_cell hm_Z c_e_0 lt_Y_1_0
                  replace c_e_1 := below_cell hm_Z c_e_1 lt_Y_1_0
                  replace c_c_0 := below_cell hm_Z c_c_0 lt_Y_2_0
                  replace f_c_0 := (hm_Z.frozen (p := ⟨W6.heap.size, 0, none⟩) lt_Y_2_0).trans f_c_0
                  replace c_c_1 := below_cell hm_Z c_c_1 lt_Y_2_0
                  replace f_c_1 := (hm_Z.frozen (p := ⟨W6.heap.size, 1, none⟩) lt_Y_2_0).trans f_c_1
                  replace HA := Lib.hid ((HA.out.below hm_Z).of_lt hm_Z.size)
                  replace HF := Lib.hid ((HF.out.below hm_Z).of_lt hm_Z.size)
                  replace HI := Lib.hid ((HI.out.below hm_Z).of_lt hm_Z.size)
                  replace A0 := Lib.hid (A0.out.trans (hm_Z.mono A0.out.size))
                  replace KQ := Lib.hid (KQ.out.trans (hm_Z.mono KQ.out.size))
                  have lt_Z_0_0 : g < Z.heap.size := by omega
                  obtain ⟨le_Z_0_0, le_Z_0_1, le_Z_0_2, le_Z_0_3, lu_Z_0_1, lu_Z_0_2, lu_Z_0_3⟩ := lts lt_Z_0_0
                  have lt_Z_1_0 : w5.heap.size < Z.heap.size := by omega
                  obtain ⟨le_Z_1_0, le_Z_1_1, le_Z_1_2, le_Z_1_3, lu_Z_1_1, lu_Z_1_2, lu_Z_1_3⟩ := lts lt_Z_1_0
                  have lt_Z_2_0 : W6.heap.size < Z.heap.size := by omega
                  obtain ⟨le_Z_2_0, le_Z_2_1, le_Z_2_2, le_Z_2_3, lu_Z_2_1, lu_Z_2_2, lu_Z_2_3⟩ := lts lt_Z_2_0
                  clear le_Y_0_0 le_Y_0_1 le_Y_0_2 le_Y_0_3 lu_Y_0_1 lu_Y_0_2 lu_Y_0_3 lt_Y_0_0
                  clear le_Y_1_0 le_Y_1_1 le_Y_1_2 le_Y_1_3 lu_Y_1_1 lu_Y_1_2 lu_Y_1_3 lt_Y_1_0
                  clear le_Y_2_0 le_Y_2_1 le_Y_2_2 le_Y_2_3 lu_Y_2_1 lu_Y_2_2 lu_Y_2_3 lt_Y_2_0
                  clear hm_Z
                  clear hbc n0 n1' hc1Y he7Y CKS
                  obtain ⟨m0, m1, _, _⟩ := HBZ.out
                  have hZC : It.Box2 Z W6.heap.size a lv := ⟨c_c_0, c_c_1, f_c_0, f_c_1⟩
                  have HZC := Lib.hid hZC
                  clear hZC
                  go_wp2_with fail
                  go_roundw
                  case rel =>
                    refine ⟨k2 + 1, A2, L2, by omega, by go_num, ?_, G0.out, ?_, ?_, ?_, ?_, ?_, ?_⟩
                    · exact (HZC.out.set0 _).set1 _
                    · exact G1.out
                    · exact G2.out
                    · exact G3.out
                    · exact G4.out
                    · exact G5.out
                    · exact (HU.out.trans (It.Upd.of_below KQ.out)).trans ((It.Upd.set _ 0 _).trans (It.Upd.set _ 1 _))
                  case measure =>
                    have hlt3 := hlt2
                    clear ss1 ss2 rp
                    simp [intOf]; omega
          · have ekl : k2 = l.length := by omega
            have hd : (Cr.items fr l).drop k2 = [] := List.drop_eq_nil_of_le (by rw [Cr.items_length]; omega)
            have j2 := H2.out
            have j3 := H3.out
            rw [hd] at j2 j3
            simp only [Cr.endA, Cr.endL] at j2 j3
            subst j2 j3
            clear hd H1 H2 H3 H4 H5 HA HF HI KQ
            have rp := Cr.ok_iff.1 HOK.out
            have ss1 := Cr.stOk_iff.1 HST.out
            have lin := Cr.late_in (r := o1) rp.2.2.1 ss1.2.2.1
            have q1 : IntKind.i64.wrap (ea + 1) = ea + 1 := IntWalk.i64_in _ (by omega)
            have q2 : IntKind.i64.wrap late = late := IntWalk.i64_in _ (by omega)
            have q3 : IntKind.i64.wrap (ea + 1 + late) = ea + 1 + late := IntWalk.i64_in _ (by omega)
            have q4 : IntKind.i64.wrap (-el) = -el := IntWalk.i64_in _ (by omega)
            have q5 : (max 0 (-el)).tdiv o1 = max 0 (-el) / o1 := Int.tdiv_eq_ediv_of_nonneg (by omega)
            have q6 : IntKind.i64.wrap (max 0 (-el) / o1) = max 0 (-el) / o1 := IntWalk.i64_in _ (by omega)
            have q7 : IntKind.i64.wrap (ea + 1 + late + max 0 (-el) / o1) = ea + 1 + late + max 0 (-el) / o1 := IntWalk.i64_in _ (by omega)
            have q8 : IntKind.i64.wrap (ea + 1 + late + max 0 (-el) / o1 + 1) = ea + 1 + late + max 0 (-el) / o1 + 1 := IntWalk.i64_in _ (by omega)
            have q9 : o1 ≠ 0 := by omega
            have LA := Cr.late_all (r := o1) (p := o2) (a := ea) (l := el) late HOK.out HST.out late0
            have nlt : ¬ (k2 : Int) < (l.length : Int) := by omega
            go_upto_region 23 with fail
            refine wp_region_still_tail 15 (by kernel_rfl) (by kernel_rfl) ?_
            simp only [List.take_succ_cons, List.take_zero, List.drop_succ_cons, List.drop_zero]
            change wpStill _ _ (World.drew wq) (fun a' => wpList _ _ _ _ a' (World.drew wq)) _ _
            refine It.still_of_quiet _ _ ?_
            repeat (go_big_quiet_step (fail))
            refine wpQuiet_nil ?_
            skip
            obtain ⟨rest, hrest⟩ : ∃ z, ea + 1 + late + max 0 (-el) / o1 + 1 = z := ⟨_, rfl⟩
            rw [hrest] at LA q8
            have hr1 : ea + 1 ≤ rest := by omega
            have hr0 : 0 ≤ rest := by omega
            have SR := Lib.hid (Step_any o1 o2 ea el (min rest 1073741824) 0 64)
            try rw [hrest]
            clear q1 q2 q3 q4 q5 q6 q7 lin ss1 hrest
            by_cases hbig : 536870912 < rest
            · clear LA
              obtain ⟨y1, y2, y3, y4, N1⟩ : ∃ y1 y2 y3 y4 : Int, ∀ w, Calls Try.prog 13 #[.agg #[.int .i64 o1, .int .i64 o2], .agg #[.int .i64 ea, .int .i64 el], .int .i64 (min rest 1073741824), .int .i64 0, .int .i64 64] w fun e w' => e = .returned (.tuple #[.int .i64 y1, .agg #[.int .i64 y2, .int .i64 y3], .int .i64 y4]) ∧ Below w.heap.size w w' := ⟨_, _, _, _, SR.out⟩
              have NS := Lib.hid N1
              clear N1 SR
              go_wp2_with fail
              refine (NS.out _).mono ?_
              rintro e w9 ⟨rfl, hb_⟩
              have hb_ : Below wq.heap.size wq w9 := (Below.drew (Below.refl _ _)).trans hb_
              have hm_w9 : Below wq.heap.size wq w9 := hb_
              have q_w9 := hm_w9.size
              replace c_g_0 := below_cell hm_w9 c_g_0 lt_wq_0_0
              replace c_g_1 := below_cell hm_w9 c_g_1 lt_wq_0_0
              replace c_e_0 := below_cell hm_w9 c_e_0 lt_wq_1_0
              replace c_e_1 := below_cell hm_w9 c_e_1 lt_wq_1_0
              replace c_c_0 := below_cell hm_w9 c_c_0 lt_wq_2_0
              replace f_c_0 := (hm_w9.frozen (p := ⟨W6.heap.size, 0, none⟩) lt_wq_2_0).trans f_c_0
              replace c_c_1 := below_cell hm_w9 c_c_1 lt_wq_2_0
              replace f_c_1 := (hm_w9.frozen (p := ⟨W6.heap.size, 1, none⟩) lt_wq_2_0).trans f_c_1
              replace A0 := Lib.hid (A0.out.trans (hm_w9.mono A0.out.size))
              have lt_w9_0_0 : g < w9.heap.size := by omega
              obtain ⟨le_w9_0_0, le_w9_0_1, le_w9_0_2, le_w9_0_3, lu_w9_0_1, lu_w9_0_2, lu_w9_0_3⟩ := lts lt_w9_0_0
              have lt_w9_1_0 : w5.heap.size < w9.heap.size := by omega
              obtain ⟨le_w9_1_0, le_w9_1_1, le_w9_1_2, le_w9_1_3, lu_w9_1_1, lu_w9_1_2, lu_w9_1_3⟩ := lts lt_w9_1_0
              have lt_w9_2_0 : W6.heap.size < w9.heap.size := by omega
              obtain ⟨le_w9_2_0, le_w9_2_1, le_w9_2_2, le_w9_2_3, lu_w9_2_1, lu_w9_2_2, lu_w9_2_3⟩ := lts lt_w9_2_0
              clear le_wq_0_0 le_wq_0_1 le_wq_0_2 le_wq_0_3 lu_wq_0_1 lu_wq_0_2 lu_wq_0_3 lt_wq_0_0
              clear le_wq_1_0 le_wq_1_1 le_wq_1_2 le_wq_1_3 lu_wq_1_1 lu_wq_1_2 lu_wq_1_3 lt_wq_1_0
              clear le_wq_2_0 le_wq_2_1 le_wq_2_2 le_wq_2_3 lu_wq_2_1 lu_wq_2_2 lu_wq_2_3 lt_wq_2_0
              clear hm_w9
              clear hb_
              go_wp2_with fail
              go_ret
              exact ⟨rfl, by have hb := A0.out; have := hb.size; (repeat' (first | (with_reducible exact Below.refl _ _) | (with_reducible refine Below.alloc ?_ ?_ _) | (with_reducible refine Below.setCell ?_ ?_ _) | (with_reducible refine Below.drew ?_) | (with_reducible assumption) | omega | (simp; done) | (simp; omega)))⟩
            · obtain ⟨la1, la2, la3, la4⟩ := LA (by omega)
              have hmin : min rest 1073741824 = rest := by omega
              have SR2 := SR.out
              rw [hmin] at SR2
              unfold Cr.sX at SR2
              rw [la1, la2, la3, la4] at SR2
              simp only [if_true] at SR2
              have NS := Lib.hid SR2
              clear SR2 SR LA la1 la2 la3 la4
              have rp1 := (Cr.prod_bound rp.1 rp.2.1 rp.2.2.1 rp.2.2.2.1).1
              have p1 : IntKind.i64.wrap (64 * o2) = 64 * o2 := IntWalk.i64_in _ (by omega)
              have p2 : IntKind.i64.wrap (rest + 64 * o2) = rest + 64 * o2 := IntWalk.i64_in _ (by omega)
              have p3 : IntKind.i64.wrap (o1 * o2) = o1 * o2 := IntWalk.i64_in _ (by omega)
              have p4 : IntKind.i64.wrap (o1 * o2 - 1048576) = o1 * o2 - 1048576 := IntWalk.i64_in _ (by omega)
              have p5 : IntKind.i64.wrap ((o1 * o2 - 1048576) * 64) = (o1 * o2 - 1048576) * 64 := IntWalk.i64_in _ (by omega)
              clear rp rp1
              go_wp2_with fail
              refine (NS.out _).mono ?_
              rintro e w9 ⟨rfl, hb_⟩
              have hb_ : Below wq.heap.size wq w9 := (Below.drew (Below.refl _ _)).trans hb_
              have hm_w9 : Below wq.heap.size wq w9 := hb_
              have q_w9 := hm_w9.size
              replace c_g_0 := below_cell hm_w9 c_g_0 lt_wq_0_0
              replace c_g_1 := below_cell hm_w9 c_g_1 lt_wq_0_0
              replace c_e_0 := below_cell hm_w9 c_e_0 lt_wq_1_0
              replace c_e_1 := below_cell hm_w9 c_e_1 lt_wq_1_0
              replace c_c_0 := below_cell hm_w9 c_c_0 lt_wq_2_0
              replace f_c_0 := (hm_w9.frozen (p := ⟨W6.heap.size, 0, none⟩) lt_wq_2_0).trans f_c_0
              replace c_c_1 := below_cell hm_w9 c_c_1 lt_wq_2_0
              replace f_c_1 := (hm_w9.frozen (p := ⟨W6.heap.size, 1, none⟩) lt_wq_2_0).trans f_c_1
              replace A0 := Lib.hid (A0.out.trans (hm_w9.mono A0.out.size))
              have lt_w9_0_0 : g < w9.heap.size := by omega
              obtain ⟨le_w9_0_0, le_w9_0_1, le_w9_0_2, le_w9_0_3, lu_w9_0_1, lu_w9_0_2, lu_w9_0_3⟩ := lts lt_w9_0_0
              have lt_w9_1_0 : w5.heap.size < w9.heap.size := by omega
              obtain ⟨le_w9_1_0, le_w9_1_1, le_w9_1_2, le_w9_1_3, lu_w9_1_1, lu_w9_1_2, lu_w9_1_3⟩ := lts lt_w9_1_0
              have lt_w9_2_0 : W6.heap.size < w9.heap.size := by omega
              obtain ⟨le_w9_2_0, le_w9_2_1, le_w9_2_2, le_w9_2_3, lu_w9_2_1, lu_w9_2_2, lu_w9_2_3⟩ := lts lt_w9_2_0
              clear le_wq_0_0 le_wq_0_1 le_wq_0_2 le_wq_0_3 lu_wq_0_1 lu_wq_0_2 lu_wq_0_3 lt_wq_0_0
              clear le_wq_1_0 le_wq_1_1 le_wq_1_2 le_wq_1_3 lu_wq_1_1 lu_wq_1_2 lu_wq_1_3 lt_wq_1_0
              clear le_wq_2_0 le_wq_2_1 le_wq_2_2 le_wq_2_3 lu_wq_2_1 lu_wq_2_2 lu_wq_2_3 lt_wq_2_0
              clear hm_w9
              clear hb_
              go_wp2_with fail
              go_ret
              exact ⟨rfl, by have hb := A0.out; have := hb.size; (repeat' (first | (with_reducible exact Below.refl _ _) | (with_reducible refine Below.alloc ?_ ?_ _) | (with_reducible refine Below.setCell ?_ ?_ _) | (with_reducible refine Below.drew ?_) | (with_reducible assumption) | omega | (simp; done) | (simp; omega)))⟩
end CrW
end Go.Proofs.Ytoglmfpmeajbeaa
