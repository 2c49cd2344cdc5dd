/- Shaping: the law's fitting. -/
import Derived.Test.YtpglhjgpjnapgaaSpL
import Derived.Test.YtpglhjgpjnapgaaSpB
import Derived.Test.YtpglhjgpjnapgaaConf
import Derived.Test.YtpglhjgpjnapgaaUpd
import Derived.Deep.DeepCutAuto
namespace Go.Proofs.Ytpglhjgpjnapgaa
set_option linter.unusedSimpArgs false
set_option linter.unusedVariables false
open Go.RowKit
namespace Sp
def fitB (b : Int) : List (Int × Int) → Int
  | [] => b
  | x :: l => fitB (max b x.2) l
theorem fitB_step {b : Int} {l : List (Int × Int)} {k : Nat} {x : Int × Int} (hx : l[k]? = some x) : fitB b (l.drop k) = fitB (max b x.2) (l.drop (k + 1)) := by
  obtain ⟨hk, rfl⟩ := List.getElem?_eq_some_iff.1 hx
  rw [List.drop_eq_getElem_cons hk]; rfl
theorem fitB_ge (l : List (Int × Int)) : ∀ b, b ≤ fitB b l ∧ ∀ x ∈ l, x.2 ≤ fitB b l := by
  induction l with
  | nil => intro b; exact ⟨Int.le_refl _, fun x hx => by simp at hx⟩
  | cons c l ih =>
    intro b
    have := ih (max b c.2)
    refine ⟨by unfold fitB; omega, fun x hx => ?_⟩
    unfold fitB
    rcases List.mem_cons.1 hx with rfl | hx
    · omega
    · exact this.2 x hx
theorem fitB_le (l : List (Int × Int)) (m : Int) : ∀ b, b ≤ m → (∀ x ∈ l, x.2 ≤ m) → fitB b l ≤ m := by
  induction l with
  | nil => intro b h _; exact h
  | cons c l ih =>
    intro b h hl
    unfold fitB
    exact ih _ (by have := hl c (by simp); omega) (fun x hx => hl x (by simp [hx]))
end Sp
namespace SpW
set_option maxRecDepth 100000 in
set_option maxHeartbeats 8000000 in
theorem fitting_any (x y : Nat) (hx : x < 4294967296) (hy : y < 4294967296) (G : Option Addr) (gs : List Int) (cg : Nat) (S : Option Addr) (ss : List Int) (cs : Nat) (b r : Int) (hb0 : 1 + (x : Int) % 1048576 = b) (hr0 : 1 + (y : Int) % 2097152 = r) (w : World)
    (hG : Mem.Row w w.heap.size G (Mem.nums .u16 gs)) (hS : Mem.Row w w.heap.size S (Mem.nums .u16 ss)) (bG : ∀ n ∈ gs, 0 ≤ n ∧ n ≤ 65535) (bS : ∀ n ∈ ss, 0 ≤ n ∧ n ≤ 65535) (lG : gs.length ≤ maxLen) (lS : ss.length ≤ maxLen) :
    Calls Try.prog 18 #[.agg #[.int .u32 x, .int .u32 y, .slice G gs.length cg, .slice S ss.length cs]] w fun e w' => (∃ A cap, e = .returned (.tuple #[.agg #[.int .i64 (Sp.fitB b (Dr.trace gs ss)), .int .i64 (max r 1024)], .slice A (Dr.trace gs ss).length cap]) ∧ Tr.Arr w' w'.heap.size A (Dr.trace gs ss)) ∧ Below w.heap.size w w' := by
  have hbb : 1 ≤ b ∧ b ≤ 1048576 := by omega
  have hrr : 1 ≤ r ∧ r ≤ 2097152 := by omega
  have CB := MtW.Bucket_any x y hx hy (.slice G gs.length cg) (.slice S ss.length cs)
  rw [hb0, hr0] at CB
  have CB := Lib.hid CB
  have CT := Lib.hid (fun W hG hS => DrW.Trace_own x y G gs cg S ss cs W hG hS bG bS lG lS)
  have htr := Dr.trace_at bG bS
  have h30 : (Dr.trace gs ss).length ≤ 30 := by rw [Dr.trace_length]; omega
  generalize Dr.trace gs ss = l at *
  have HG := Lib.hid hG
  have HS := Lib.hid hS
  have HM := Lib.hid htr
  clear htr hG hS bG bS lG lS hb0 hr0
  have A0 : Hid (Below w.heap.size w w) := Lib.hid (Below.refl _ _)
  go_enter Try.func18, Try.ntmps18
  go_upto_region 1 with fail
  obtain ⟨W1, hW1⟩ : ∃ W1, ((w.alloc (.cells #[.int .u32 x, .int .u32 y, .slice G gs.length cg, .slice S ss.length cs] 27)).alloc (.cells #[.int .i64 0, .int .i64 0] 23)) = W1 := ⟨_, rfl⟩
  have hm_W1 : Below w.heap.size w W1 := by rw [← hW1]; (repeat' (first | (with_reducible exact Below.refl _ _) | (with_reducible refine Below.alloc ?_ ?_ _) | (with_reducible refine Below.setCell ?_ ?_ _) | (with_reducible refine Below.drew ?_) | (with_reducible assumption) | omega | (simp; done) | (simp; omega)))
  have q_W1 : w.heap.size + 2 ≤ W1.heap.size := by rw [← hW1]; simp
  replace HG := Lib.hid ((HG.out.below hm_W1).of_lt hm_W1.size)
  replace HS := Lib.hid ((HS.out.below hm_W1).of_lt hm_W1.size)
  replace A0 := Lib.hid (A0.out.trans (hm_W1.mono A0.out.size))
  have c_d_0 : W1.cell? ⟨w.heap.size, 0, none⟩ = some (.int .u32 x) := by rw [← hW1]; simp [go_sem]
  have c_d_1 : W1.cell? ⟨w.heap.size, 1, none⟩ = some (.int .u32 y) := by rw [← hW1]; simp [go_sem]
  have c_d_2 : W1.cell? ⟨w.heap.size, 2, none⟩ = some (.slice G gs.length cg) := by rw [← hW1]; simp [go_sem]
  have c_d_3 : W1.cell? ⟨w.heap.size, 3, none⟩ = some (.slice S ss.length cs) := by rw [← hW1]; simp [go_sem]
  have c_res_0 : W1.cell? ⟨w.heap.size + 1, 0, none⟩ = some (.int .i64 0) := by rw [← hW1]; simp [go_sem]
  have f_res_0 : W1.frozen? ⟨w.heap.size + 1, 0, none⟩ = false := by rw [← hW1]; simp [go_sem]
  have c_res_1 : W1.cell? ⟨w.heap.size + 1, 1, none⟩ = some (.int .i64 0) := by rw [← hW1]; simp [go_sem]
  have f_res_1 : W1.frozen? ⟨w.heap.size + 1, 1, none⟩ = false := by rw [← hW1]; simp [go_sem]
  rw [hW1]
  have lt_W1_0_1 : w.heap.size + 1 < W1.heap.size := by omega
  have lt_W1_0_0 : w.heap.size < W1.heap.size := Nat.lt_of_succ_lt lt_W1_0_1
  obtain ⟨le_W1_0_0, le_W1_0_1, le_W1_0_2, le_W1_0_3, lu_W1_0_1, lu_W1_0_2, lu_W1_0_3⟩ := lts lt_W1_0_0
  clear hW1 hm_W1
  have A1 := A0
  have HSx : Hid (∀ w', Below W1.heap.size W1 w' → (Below W1.heap.size W1 w' ∧ w'.cell? ⟨w.heap.size, 0, none⟩ = some (.int .u32 x) ∧ w'.cell? ⟨w.heap.size, 1, none⟩ = some (.int .u32 y) ∧ w'.cell? ⟨w.heap.size, 2, none⟩ = some (.slice G gs.length cg) ∧ w'.cell? ⟨w.heap.size, 3, none⟩ = some (.slice S ss.length cs))) := Lib.hid (fun w' h => ⟨h, below_cell h c_d_0 lt_W1_0_0, below_cell h c_d_1 lt_W1_0_0, below_cell h c_d_2 lt_W1_0_0, below_cell h c_d_3 lt_W1_0_0⟩)
  go_cut [4, 5] (fun sb sl wx => ∃ (g : Nat) (A : Option Addr) (cap : Nat), sb = .pointer (some ⟨g, 0, none⟩) ∧ sl = .slice A l.length cap ∧ g < wx.heap.size ∧ W1.heap.size ≤ g ∧ wx.cell? ⟨g, 0, none⟩ = some (.int .i64 b) ∧ wx.cell? ⟨g, 1, none⟩ = some (.int .i64 r) ∧ wx.frozen? ⟨g, 0, none⟩ = false ∧ wx.frozen? ⟨g, 1, none⟩ = false ∧ Tr.Arr wx wx.heap.size A l ∧ (l = [] ∨ ∀ ad, A = some ad → ad.block ≠ g) ∧ (∀ ad, A = some ad → W1.heap.size ≤ ad.block) ∧ Below W1.heap.size W1 wx)
  case first =>
    go_region_held3 (fun w' => Below W1.heap.size W1 w' ∧ w'.cell? ⟨w.heap.size, 0, none⟩ = some (.int .u32 x) ∧ w'.cell? ⟨w.heap.size, 1, none⟩ = some (.int .u32 y) ∧ w'.cell? ⟨w.heap.size, 2, none⟩ = some (.slice G gs.length cg) ∧ w'.cell? ⟨w.heap.size, 3, none⟩ = some (.slice S ss.length cs))
      ((refine HSx.out _ ?_; first | assumption | (repeat' (first | (with_reducible exact Below.refl _ _) | (with_reducible refine Below.alloc ?_ ?_ _) | (with_reducible refine Below.setCell ?_ ?_ _) | (with_reducible refine Below.drew ?_) | (with_reducible assumption) | omega | (simp; done) | (simp; omega)))))
      (first
        | (go_at_call_of 8 (Value.agg #[.int .u32 x, .int .u32 y, .slice G gs.length cg, .slice S ss.length cs]); go_split_ands; refine (CB.out _).mono ?_; rintro e wB ⟨rfl, hrB⟩; have hbB := carry2 (w := W1) (by assumption) hrB; have sB := hbB.size; obtain ⟨hcB, hzB⟩ := bcell hrB; have rB := hrB.size; try simp only [World.size_alloc, World.size_drew] at rB; try (have ltB : W1.heap.size < wB.heap.size := by omega))
        | (go_at_call_of 28 (Value.agg #[.int .u32 x, .int .u32 y, .slice G gs.length cg, .slice S ss.length cs]); go_split_ands; refine (CT.out _ (Mem.Row.of_lt (HG.out.below (by assumption)) (by first | (simp; done) | (simp; omega) | omega)) (Mem.Row.of_lt (HS.out.below (by assumption)) (by first | (simp; done) | (simp; omega) | omega))).mono ?_; rintro e wT ⟨⟨AT, capT, rfl, hAT, hNT⟩, hrT⟩; have hbT := carry2 (w := W1) (by assumption) hrT; have sT := hbT.size; obtain ⟨hcT, hzT⟩ := bcell hrT; have rT := hrT.size; try simp only [World.size_alloc, World.size_drew] at rT hNT))
    all_goals
      go_wp2_with fail
      go_meet
      first
      | exact ⟨wT.heap.size, AT, capT, rfl, rfl, by simp, sT, by simp [go_sem], by simp [go_sem], by simp [go_sem], by simp [go_sem], (hAT.below ((Below.refl _ _).alloc (Nat.le_refl _) _)).of_lt (by simp), Mem.arr_old hAT, (fun ad h => by have := hNT ad h; omega), hbT.alloc sT _⟩
      | (have t0 : wT.cell? ⟨wB.heap.size, 0, none⟩ = some (.int .i64 0) := by rw [hcT _ _ (by simp)]; simp [go_sem]
         have t1 : wT.cell? ⟨wB.heap.size, 1, none⟩ = some (.int .i64 0) := by rw [hcT _ _ (by simp)]; simp [go_sem]
         have z0 : wT.frozen? ⟨wB.heap.size, 0, none⟩ = false := by rw [hzT _ _ (by simp)]; simp [go_sem]
         have z1 : wT.frozen? ⟨wB.heap.size, 1, none⟩ = false := by rw [hzT _ _ (by simp)]; simp [go_sem]
         have hne : l = [] ∨ ∀ ad, AT = some ad → ad.block ≠ wB.heap.size := .inr fun ad h => by have := hNT ad h; omega
         exact ⟨wB.heap.size, AT, capT, rfl, rfl, by simp [World.setCell]; omega, sB, (cell2 _ _ t0 t1).1, (cell2 _ _ t0 t1).2, by rw [World.frozen?_setCell, World.frozen?_setCell]; exact z0, by rw [World.frozen?_setCell, World.frozen?_setCell]; exact z1, ((Mem.arr_set (Mem.arr_set hAT hne 0 _) hne 1 _).of_lt (by simp [World.setCell])), hne, (fun ad h => by have := hNT ad h; omega), (hbT.setCell (p := ⟨wB.heap.size, 0, none⟩) sB _).setCell (p := ⟨wB.heap.size, 1, none⟩) sB _⟩)
      | (have t0 : wT.cell? ⟨W1.heap.size, 0, none⟩ = some (.int .i64 0) := by rw [hcT _ _ (by omega), hcB _ _ (by simp)]; simp [go_sem]
         have t1 : wT.cell? ⟨W1.heap.size, 1, none⟩ = some (.int .i64 0) := by rw [hcT _ _ (by omega), hcB _ _ (by simp)]; simp [go_sem]
         have z0 : wT.frozen? ⟨W1.heap.size, 0, none⟩ = false := by rw [hzT _ _ (by omega), hzB _ _ (by simp)]; simp [go_sem]
         have z1 : wT.frozen? ⟨W1.heap.size, 1, none⟩ = false := by rw [hzT _ _ (by omega), hzB _ _ (by simp)]; simp [go_sem]
         have hne : l = [] ∨ ∀ ad, AT = some ad → ad.block ≠ W1.heap.size := .inr fun ad h => by have := hNT ad h; omega
         exact ⟨W1.heap.size, AT, capT, rfl, rfl, by simp [World.setCell]; omega, Nat.le_refl _, (cell2 _ _ t0 t1).1, (cell2 _ _ t0 t1).2, by rw [World.frozen?_setCell, World.frozen?_setCell]; exact z0, by rw [World.frozen?_setCell, World.frozen?_setCell]; exact z1, ((Mem.arr_set (Mem.arr_set hAT hne 0 _) hne 1 _).of_lt (by simp [World.setCell])), hne, (fun ad h => by have := hNT ad h; omega), (hbT.setCell (p := ⟨W1.heap.size, 0, none⟩) (Nat.le_refl _) _).setCell (p := ⟨W1.heap.size, 1, none⟩) (Nat.le_refl _) _⟩)
  case rest =>
    clear HSx
    obtain ⟨g, A, cap, rfl, rfl, hg_lt, hg_ge, c_g_0, c_g_1, f_g_0, f_g_1, hHA, hne_g, hlo_g, hbc⟩ := hcut
    obtain ⟨W2, rfl⟩ : ∃ W2 : World, W2 = wc := ⟨_, rfl⟩
    have hm_W2 : Below W1.heap.size W1 W2 := hbc
    have q_W2 := hm_W2.size
    replace c_d_0 := below_cell hm_W2 c_d_0 lt_W1_0_0
    replace c_d_1 := below_cell hm_W2 c_d_1 lt_W1_0_0
    replace c_d_2 := below_cell hm_W2 c_d_2 lt_W1_0_0
    replace c_d_3 := below_cell hm_W2 c_d_3 lt_W1_0_0
    replace c_res_0 := below_cell hm_W2 c_res_0 lt_W1_0_1
    replace f_res_0 := (hm_W2.frozen (p := ⟨w.heap.size + 1, 0, none⟩) lt_W1_0_1).trans f_res_0
    replace c_res_1 := below_cell hm_W2 c_res_1 lt_W1_0_1
    replace f_res_1 := (hm_W2.frozen (p := ⟨w.heap.size + 1, 1, none⟩) lt_W1_0_1).trans f_res_1
    replace HG := Lib.hid ((HG.out.below hm_W2).of_lt hm_W2.size)
    replace HS := Lib.hid ((HS.out.below hm_W2).of_lt hm_W2.size)
    replace A0 := Lib.hid (A0.out.trans (hm_W2.mono A0.out.size))
    have lt_W2_0_1 : w.heap.size + 1 < W2.heap.size := by omega
    have lt_W2_0_0 : w.heap.size < W2.heap.size := Nat.lt_of_succ_lt lt_W2_0_1
    obtain ⟨le_W2_0_0, le_W2_0_1, le_W2_0_2, le_W2_0_3, lu_W2_0_1, lu_W2_0_2, lu_W2_0_3⟩ := lts lt_W2_0_0
    clear le_W1_0_0 le_W1_0_1 le_W1_0_2 le_W1_0_3 lu_W1_0_1 lu_W1_0_2 lu_W1_0_3 lt_W1_0_0 lt_W1_0_1
    clear hm_W2
    clear hbc
    have lt_W2_0_1 : w.heap.size + 1 < W2.heap.size := by omega
    have lt_W2_0_0 : w.heap.size < W2.heap.size := Nat.lt_of_succ_lt lt_W2_0_1
    obtain ⟨le_W2_0_0, le_W2_0_1, le_W2_0_2, le_W2_0_3, lu_W2_0_1, lu_W2_0_2, lu_W2_0_3⟩ := lts lt_W2_0_0
    have lt_W2_1_0 : g < W2.heap.size := by omega
    obtain ⟨le_W2_1_0, le_W2_1_1, le_W2_1_2, le_W2_1_3, lu_W2_1_1, lu_W2_1_2, lu_W2_1_3⟩ := lts lt_W2_1_0
    clear le_W2_0_0 le_W2_0_1 le_W2_0_2 le_W2_0_3 lu_W2_0_1 lu_W2_0_2 lu_W2_0_3 lt_W2_0_0 lt_W2_0_1
    have hge_g := hg_ge
    clear hg_lt hg_ge
    have HA : Hid (Tr.Arr W2 W2.heap.size A l) := Lib.hid hHA
    clear hHA
    have hne_res : l = [] ∨ ∀ ad, A = some ad → ad.block ≠ w.heap.size + 1 := .inr (fun ad h => by have := hlo_g ad h; omega)
    clear CB CT HG HS
    clear c_d_0
    clear c_d_1
    clear c_d_2
    clear c_d_3
    go_wp2_with fail
    have HX2 : Hid (It.Box2 W2 g b r) := Lib.hid ⟨c_g_0, c_g_1, f_g_0, f_g_1⟩
    have HR2 : Hid (It.Box2 W2 (w.heap.size + 1) 0 0) := Lib.hid ⟨c_res_0, c_res_1, f_res_0, f_res_1⟩
    clear c_res_0 f_res_0
    clear c_res_1 f_res_1
    clear c_g_0 f_g_0
    clear c_g_1 f_g_1
    go_loopw [6] (fun i wr => ∃ (k : Nat) (bb : Int), k ≤ l.length ∧ i = .int .i64 k ∧ It.Box2 wr g bb r ∧ Sp.fitB b l = Sp.fitB bb (l.drop k) ∧ 1 ≤ bb ∧ bb ≤ 1048576 ∧ It.Upd g W2 wr) (fun i _ => l.length - (intOf i).toNat)
    case atStart => exact ⟨0, b, by omega, rfl, HX2.out, rfl, hbb.1, hbb.2, It.Upd.refl _ _⟩
    case round =>
      obtain ⟨k, bb, hk, rfl, hbox, hfit, bb0, bb1, hu⟩ := hrel
      obtain ⟨wo, rfl⟩ : ∃ wo : World, wo = wr := ⟨_, rfl⟩
      have HU := Lib.hid hu
      have HF := Lib.hid hfit
      have HBX := Lib.hid hbox
      have HA' : Hid (Tr.Arr wo wo.heap.size A l) := Lib.hid ((It.arr_upd HA.out hne_g hu).of_lt hu.size)
      have q := hu.size
      have lg : g < wo.heap.size := by omega
      have hres : w.heap.size + 1 ≠ g := by omega
      have hres' := HR2.out.upd hres hu
      have HRS := Lib.hid hres'
      obtain ⟨k0, k1, k2, k3⟩ := hbox
      clear hu hfit hres'
      by_cases hlt : k < l.length
      · obtain ⟨⟨x1, x2⟩, hx⟩ : ∃ x, l[k]? = some x := ⟨l[k], List.getElem?_eq_getElem hlt⟩
        obtain ⟨ad, rfl, hbk, hc0, hc1⟩ := HA'.out k (x1, x2) hx
        have hm := HM.out (x1, x2) (List.mem_of_getElem? hx)
        have hst := Sp.fitB_step (b := bb) hx
        have HST := Lib.hid (HF.out.trans hst)
        have i0 : (0 : Int) ≤ (k : Int) := by omega
        have i1 : (k : Int) < (l.length : Int) := by omega
        clear hx hst
        go_upto_region 5 with fail
        go_region
        go_wp2_with fail
        go_roundw
        case rel => exact ⟨k + 1, max bb x2, by omega, by go_num, (HBX.out.set0 _).drew, HST.out, by omega, by simp only at hm; omega, (HU.out.trans (It.Upd.set wo 0 _)).drew⟩
        case measure => simp [intOf]; omega
      · have hfe : Sp.fitB b l = bb := by rw [HF.out, List.drop_eq_nil_of_le (by omega)]; rfl
        have HFE := Lib.hid hfe
        obtain ⟨r0, r1, rf0, rf1⟩ := HRS.out
        have HB9 : Hid (Below w.heap.size w wo) := Lib.hid (HU.out.below A0.out A0.out.size (by omega))
        clear hfe
        have lr : w.heap.size + 1 < wo.heap.size := by omega
        have hres2 : ¬ w.heap.size + 1 = g := hres
        have hres3 : ¬ g = w.heap.size + 1 := fun h => hres h.symm
        go_wp2_with fail
        have hb2 := HRS.out.upd hres (It.Upd.set (p := g) wo 1 (.int .i64 (max r 1024)))
        obtain ⟨p0, p1⟩ := cell2 (.int .i64 bb) (.int .i64 (max r 1024)) hb2.c0 hb2.c1
        exact bodyPost_ret (v := .tuple #[.agg #[.int .i64 bb, .int .i64 (max r 1024)], .slice A l.length cap]) (by simp [results, Try.results18, go_sem, p0, p1]) rfl ⟨⟨A, cap, by rw [HFE.out], ((Mem.arr_set (Mem.arr_set (Mem.arr_set HA'.out hne_g 1 _) (hne_res) 0 _) (hne_res) 1 _)).of_lt (by simp [World.setCell])⟩, ((HB9.out.setCell (p := ⟨g, 1, none⟩) (by show _ ≤ g; omega) _).setCell (p := ⟨w.heap.size + 1, 0, none⟩) (by show _ ≤ w.heap.size + 1; omega) _).setCell (p := ⟨w.heap.size + 1, 1, none⟩) (by show _ ≤ w.heap.size + 1; omega) _⟩
end SpW
end Go.Proofs.Ytpglhjgpjnapgaa
