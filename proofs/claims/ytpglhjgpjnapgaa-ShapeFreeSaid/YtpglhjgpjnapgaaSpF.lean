/- ShapeFree: the walk of the law. -/
import Derived.Test.YtpglhjgpjnapgaaSpL
import Derived.Test.YtpglhjgpjnapgaaSpB
import Derived.Test.YtpglhjgpjnapgaaConf
import Derived.Test.YtpglhjgpjnapgaaOwn
import Derived.Deep.DeepCutAuto
import Derived.StillTailTactics
namespace Go.Proofs.Ytpglhjgpjnapgaa
set_option linter.unusedSimpArgs false
set_option linter.unusedVariables false
open Go.RowKit
namespace Sp
/-- All that the law needs of the late trace. -/
theorem free_law {b r D : Int} {l : List (Int × Int)} {ds : List Int} (hb : 1 ≤ b ∧ b ≤ 1048576) (hr : 1 ≤ r ∧ r ≤ 2097152) (hok : Tr.ok l = true) (hf : Fits.fits b r l = true) (hm : ∀ x ∈ l, 0 ≤ x.1 ∧ x.1 ≤ 1966050 ∧ 1 ≤ x.2 ∧ x.2 ≤ 65536) (d0 : 0 ≤ D) (d1 : D < 1073741824) :
    Tr.ok (late (fun d => d % (D + 1)) 0 ds l) = true ∧ (∀ x ∈ late (fun d => d % (D + 1)) 0 ds l, x.2 ≤ b) ∧ (∀ t ∈ run b r 0 (b * 1048576) (late (fun d => d % (D + 1)) 0 ds l), t ≤ 1099511627776) ∧ (late (fun d => d % (D + 1)) 0 ds l).length = l.length ∧
    ∀ (i : Nat) (x y : Int × Int) (o : Int), l[i]? = some x → (late (fun d => d % (D + 1)) 0 ds l)[i]? = some y → (run b r 0 (b * 1048576) (late (fun d => d % (D + 1)) 0 ds l))[i]? = some o → y.1 ≤ o ∧ o ≤ x.1 + D := by
  have hof : Tr.okFrom 0 l = true ∧ l.length ≤ 200 := by unfold Tr.ok at hok; rw [Bool.and_eq_true, decide_eq_true_iff] at hok; exact ⟨hok.2, hok.1⟩
  have hfd : ∀ d : Int, 0 ≤ d % (D + 1) ∧ d % (D + 1) ≤ D := fun d => ⟨Int.emod_nonneg _ (by omega), by have := Int.emod_lt_of_pos d (show 0 < D + 1 by omega); omega⟩
  have hlen := late_length (fun d => d % (D + 1)) l 0 ds
  have hrel := late_rel (f := fun d => d % (D + 1)) (D := D) l 0 0 ds hof.1 (by omega) (fun d _ => hfd d) (hfd 0)
  have hlok := late_ok (f := fun d => d % (D + 1)) (D := D) l 0 0 ds hof.1 (by omega) (fun x hx => by have := hm x hx; omega) (fun d _ => hfd d) (hfd 0)
  have hz := fits_le hf
  have hlev := (Fits.levs_fits (b := b) (r := r) (by omega) hof.1).2 hf
  have key := free (b := b) (r := r) (D := D) l (late (fun d => d % (D + 1)) 0 ds l) 0 (b * 1048576) 0 (b * 1048576) ⟨hb.1, hb.2, hr.1, hr.2, by omega, by omega, by omega, by omega⟩ (by omega) d0 (by
      unfold lev; have := Int.mul_nonneg (show 0 ≤ r by omega) (show 0 ≤ 0 + D - 0 by omega); omega) hlev (fun x hx => ⟨(hm x hx).2.2.1, hz x hx⟩) hof.1 (fun x hx => by have := hm x hx; omega) hlen (fun i x y hx hy => by have := hrel i x y hx hy; omega)
  generalize late (fun d => d % (D + 1)) 0 ds l = m at *
  refine ⟨by unfold Tr.ok; rw [Bool.and_eq_true, decide_eq_true_iff]; exact ⟨by omega, hlok⟩, fun y hy => ?_, fun t ht => ?_, hlen, key⟩
  · obtain ⟨i, hi, rfl⟩ := List.mem_iff_getElem.1 hy
    obtain ⟨x, hx⟩ : ∃ x, l[i]? = some x := ⟨l[i]'(by omega), List.getElem?_eq_getElem _⟩
    have := hrel i x _ hx (List.getElem?_eq_getElem hi)
    rw [this.1]; exact hz x (List.mem_of_getElem? hx)
  · obtain ⟨i, hi, rfl⟩ := List.mem_iff_getElem.1 ht
    have hi' := hi
    rw [run_length] at hi'
    obtain ⟨x, hx⟩ : ∃ x, l[i]? = some x := ⟨l[i]'(by omega), List.getElem?_eq_getElem _⟩
    have := key i x _ _ hx (List.getElem?_eq_getElem hi') (List.getElem?_eq_getElem hi)
    have := hm x (List.mem_of_getElem? hx)
    omega
end Sp
namespace SpW
set_option maxRecDepth 100000 in
set_option maxHeartbeats 8000000 in
theorem law_Free (x y : Nat) (hx : x < 4294967296) (hy : y < 4294967296) (G : Option Addr) (gs : List Int) (cg : Nat) (S : Option Addr) (ss : List Int) (cs : Nat) (bound : Int) (u0 : 0 ≤ bound) (u1 : bound ≤ 4294967295) (AD : Option Addr) (ds : List Int) (cd : Nat) (w : World)
    (hG : Mem.Row w w.heap.size G (Mem.nums .u16 gs)) (hS : Mem.Row w w.heap.size S (Mem.nums .u16 ss)) (bG : ∀ n ∈ gs, 0 ≤ n ∧ n ≤ 65535) (bS : ∀ n ∈ ss, 0 ≤ n ∧ n ≤ 65535) (lG : gs.length ≤ maxLen) (lS : ss.length ≤ maxLen)
    (hA : Mem.Row w w.heap.size AD (Mem.nums .u32 ds)) (bA : ∀ n ∈ ds, 0 ≤ n ∧ n ≤ 4294967295) (lc : ds.length ≤ cd) (cm : cd ≤ maxLen) :
    Calls Try.prog 4 #[.agg #[.int .u32 x, .int .u32 y, .slice G gs.length cg, .slice S ss.length cs], .int .u32 bound, .slice AD ds.length cd] w fun e w' => e = .returned (.bool true) ∧ Below w.heap.size w w' := by
  obtain ⟨b, hb0⟩ : ∃ b : Int, 1 + (x : Int) % 1048576 = b := ⟨_, rfl⟩
  obtain ⟨r, hr0⟩ : ∃ r : Int, 1 + (y : Int) % 2097152 = r := ⟨_, rfl⟩
  have hbb : 1 ≤ b ∧ b ≤ 1048576 := by omega
  have hrr : 1 ≤ r ∧ r ≤ 2097152 := by omega
  have CB := MtW.Bucket_any x y hx hy (.slice G gs.length cg) (.slice S ss.length cs)
  rw [hb0, hr0] at CB
  have CB := Lib.hid CB
  have hok := Dr.trace_ok bG bS
  have htr := Dr.trace_at bG bS
  have h30 : (Dr.trace gs ss).length ≤ 30 := by rw [Dr.trace_length]; omega
  have hcf := Dr.conf_ok (b := b) (r := r) hok
  have hmem := Dr.confFrom_mem (b := b) (r := r) (Dr.trace gs ss) [] (by simp) htr
  have CC := Lib.hid (fun W hG hS => DrW.Conforming_own x y hx hy G gs cg S ss cs b r hb0 hr0 W hG hS bG bS lG lS)
  have hmem : ∀ x ∈ Dr.conf b r (Dr.trace gs ss), 0 ≤ x.1 ∧ x.1 ≤ 1966050 ∧ 1 ≤ x.2 ∧ x.2 ≤ 65536 := hmem
  generalize Dr.conf b r (Dr.trace gs ss) = l at *
  have hl200 : l.length ≤ 200 := by have h := hcf.1; unfold Tr.ok at h; rw [Bool.and_eq_true, decide_eq_true_iff] at h; exact h.1
  have hof : Tr.okFrom 0 l = true := by have h := hcf.1; unfold Tr.ok at h; rw [Bool.and_eq_true] at h; exact h.2
  obtain ⟨Dm, hDm⟩ : ∃ Dm : Int, bound % 1073741824 = Dm := ⟨_, rfl⟩
  have d0 : 0 ≤ Dm ∧ Dm < 1073741824 := by omega
  have hd1 : bound.tmod 1073741824 = Dm := by rw [← hDm]; exact Int.tmod_eq_emod_of_nonneg u0
  have FP := Sp.free_law (b := b) (r := r) (D := Dm) (ds := ds) hbb hrr hcf.1 hcf.2 hmem d0.1 d0.2
  obtain ⟨LT, hLT⟩ : ∃ LT, Sp.late (fun d => d % (Dm + 1)) 0 ds l = LT := ⟨_, rfl⟩
  rw [hLT] at FP
  obtain ⟨fp1, fp2, fp3, fp4, fp5⟩ := FP
  have RG := (fun A cap W hA => Run_good b r A LT cap (Bk.ok_iff.2 ⟨hbb.1, hbb.2, hrr.1, hrr.2⟩) fp1 fp2 fp3 W hA)
  simp only [show LT.length = l.length from fp4] at RG
  have RG := Lib.hid RG
  have HLT := Lib.hid hLT
  have HF := Lib.hid (And.intro fp4 fp5)
  have HG := Lib.hid hG
  have HS := Lib.hid hS
  have HM := Lib.hid hmem
  have HDS := Lib.hid hA
  have HBD := Lib.hid bA
  obtain ⟨ia, ha0, ha1, ha2, ha3⟩ := info_parts Mem.arr_info
  have IA := Lib.hid (And.intro ha0 (And.intro ha1 (And.intro ha2 ha3)))
  have hll : LT.length = l.length := fp4
  unfold maxLen at cm
  clear hcf hmem hof hLT fp1 fp2 fp3 fp4 fp5 hok htr h30 hG hS bG bS lG lS hA bA ha0 ha1 ha2 ha3 hb0 hr0 hDm
  have A0 : Hid (Below w.heap.size w w) := Lib.hid (Below.refl _ _)
  go_enter Try.func4, Try.ntmps4
  go_wp2_with fail
  refine (works_any _).mono ?_
  rintro e w1 ⟨rfl, hb_⟩
  have s_w1 := hb_.size
  try simp only [World.size_alloc] at s_w1
  have hm_w1 : Below w.heap.size w w1 := Below.trans (b := (w.alloc (.cells #[.int .u32 x, .int .u32 y, .slice G gs.length cg, .slice S ss.length cs] 27))) (by (repeat' (first | (with_reducible exact Below.refl _ _) | (with_reducible refine Below.alloc ?_ ?_ _) | (with_reducible refine Below.setCell ?_ ?_ _) | (with_reducible refine Below.drew ?_) | (with_reducible assumption) | omega | (simp; done) | (simp; omega)))) (hb_.mono (by first | (simp; done) | (simp; omega)))
  have q_w1 := hm_w1.size
  replace HG := Lib.hid ((HG.out.below hm_w1).of_lt hm_w1.size)
  replace HS := Lib.hid ((HS.out.below hm_w1).of_lt hm_w1.size)
  replace HDS := Lib.hid ((HDS.out.below hm_w1).of_lt hm_w1.size)
  replace A0 := Lib.hid (A0.out.trans (hm_w1.mono A0.out.size))
  have c_d_0 : w1.cell? ⟨w.heap.size, 0, none⟩ = some (.int .u32 x) := by rw [(bcell hb_).1 _ _ (by first | (simp; done) | (simp; omega))]; simp [go_sem]
  have c_d_1 : w1.cell? ⟨w.heap.size, 1, none⟩ = some (.int .u32 y) := by rw [(bcell hb_).1 _ _ (by first | (simp; done) | (simp; omega))]; simp [go_sem]
  have c_d_2 : w1.cell? ⟨w.heap.size, 2, none⟩ = some (.slice G gs.length cg) := by rw [(bcell hb_).1 _ _ (by first | (simp; done) | (simp; omega))]; simp [go_sem]
  have c_d_3 : w1.cell? ⟨w.heap.size, 3, none⟩ = some (.slice S ss.length cs) := by rw [(bcell hb_).1 _ _ (by first | (simp; done) | (simp; omega))]; simp [go_sem]
  have lt_w1_0_0 : w.heap.size < w1.heap.size := by omega
  obtain ⟨le_w1_0_0, le_w1_0_1, le_w1_0_2, le_w1_0_3, lu_w1_0_1, lu_w1_0_2, lu_w1_0_3⟩ := lts lt_w1_0_0
  clear hm_w1
  clear hb_
  go_upto_region 3 with fail
  have HSx : Hid (∀ w', Below w1.heap.size w1 w' → (Below w1.heap.size w1 w' ∧ w'.cell? ⟨w.heap.size, 0, none⟩ = some (.int .u32 x) ∧ w'.cell? ⟨w.heap.size, 1, none⟩ = some (.int .u32 y) ∧ w'.cell? ⟨w.heap.size, 2, none⟩ = some (.slice G gs.length cg) ∧ w'.cell? ⟨w.heap.size, 3, none⟩ = some (.slice S ss.length cs))) := Lib.hid (fun w' h => ⟨h, below_cell h c_d_0 lt_w1_0_0, below_cell h c_d_1 lt_w1_0_0, below_cell h c_d_2 lt_w1_0_0, below_cell h c_d_3 lt_w1_0_0⟩)
  go_cut [7, 8] (fun sb sl wx => ∃ (g : Nat) (A : Option Addr) (cap : Nat), sb = .pointer (some ⟨g, 0, none⟩) ∧ sl = .slice A l.length cap ∧ g < wx.heap.size ∧ w1.heap.size ≤ g ∧ wx.cell? ⟨g, 0, none⟩ = some (.int .i64 b) ∧ wx.cell? ⟨g, 1, none⟩ = some (.int .i64 r) ∧ wx.frozen? ⟨g, 0, none⟩ = false ∧ wx.frozen? ⟨g, 1, none⟩ = false ∧ Tr.Arr wx wx.heap.size A l ∧ (l = [] ∨ ∀ ad, A = some ad → ad.block ≠ g) ∧ Below w1.heap.size w1 wx)
  case first =>
    go_region_held3 (fun w' => Below w1.heap.size w1 w' ∧ w'.cell? ⟨w.heap.size, 0, none⟩ = some (.int .u32 x) ∧ w'.cell? ⟨w.heap.size, 1, none⟩ = some (.int .u32 y) ∧ w'.cell? ⟨w.heap.size, 2, none⟩ = some (.slice G gs.length cg) ∧ w'.cell? ⟨w.heap.size, 3, none⟩ = some (.slice S ss.length cs))
      ((refine HSx.out _ ?_; first | assumption | (repeat' (first | (with_reducible exact Below.refl _ _) | (with_reducible refine Below.alloc ?_ ?_ _) | (with_reducible refine Below.setCell ?_ ?_ _) | (with_reducible refine Below.drew ?_) | (with_reducible assumption) | omega | (simp; done) | (simp; omega)))))
      (first
        | (go_at_call_of 8 (Value.agg #[.int .u32 x, .int .u32 y, .slice G gs.length cg, .slice S ss.length cs]); go_split_ands; refine (CB.out _).mono ?_; rintro e wB ⟨rfl, hrB⟩; have hbB := carry2 (w := w1) (by assumption) hrB; have sB := hbB.size; obtain ⟨hcB, hzB⟩ := bcell hrB; have rB := hrB.size; try simp only [World.size_alloc, World.size_drew] at rB; try (have ltB : w1.heap.size < wB.heap.size := by omega))
        | (go_at_call_of 16 (Value.agg #[.int .u32 x, .int .u32 y, .slice G gs.length cg, .slice S ss.length cs]); go_split_ands; refine (CC.out _ (Mem.Row.of_lt (HG.out.below (by assumption)) (by first | (simp; done) | (simp; omega) | omega)) (Mem.Row.of_lt (HS.out.below (by assumption)) (by first | (simp; done) | (simp; omega) | omega))).mono ?_; rintro e wT ⟨⟨AT, capT, rfl, hAT, hNT⟩, hrT⟩; have hbT := carry2 (w := w1) (by assumption) hrT; have sT := hbT.size; obtain ⟨hcT, hzT⟩ := bcell hrT; have rT := hrT.size; try simp only [World.size_alloc, World.size_drew] at rT hNT))
    all_goals
      go_wp2_with fail
      go_meet
      first
      | exact ⟨wT.heap.size, AT, capT, rfl, rfl, by simp, sT, by simp [go_sem], by simp [go_sem], by simp [go_sem], by simp [go_sem], (hAT.below ((Below.refl _ _).alloc (Nat.le_refl _) _)).of_lt (by simp), Mem.arr_old hAT, hbT.alloc sT _⟩
      | (have t0 : wT.cell? ⟨wB.heap.size, 0, none⟩ = some (.int .i64 0) := by rw [hcT _ _ (by simp)]; simp [go_sem]
         have t1 : wT.cell? ⟨wB.heap.size, 1, none⟩ = some (.int .i64 0) := by rw [hcT _ _ (by simp)]; simp [go_sem]
         have z0 : wT.frozen? ⟨wB.heap.size, 0, none⟩ = false := by rw [hzT _ _ (by simp)]; simp [go_sem]
         have z1 : wT.frozen? ⟨wB.heap.size, 1, none⟩ = false := by rw [hzT _ _ (by simp)]; simp [go_sem]
         have hne : l = [] ∨ ∀ ad, AT = some ad → ad.block ≠ wB.heap.size := .inr fun ad h => by have := hNT ad h; omega
         exact ⟨wB.heap.size, AT, capT, rfl, rfl, by simp [World.setCell]; omega, sB, (cell2 _ _ t0 t1).1, (cell2 _ _ t0 t1).2, by rw [World.frozen?_setCell, World.frozen?_setCell]; exact z0, by rw [World.frozen?_setCell, World.frozen?_setCell]; exact z1, ((Mem.arr_set (Mem.arr_set hAT hne 0 _) hne 1 _).of_lt (by simp [World.setCell])), hne, (hbT.setCell (p := ⟨wB.heap.size, 0, none⟩) sB _).setCell (p := ⟨wB.heap.size, 1, none⟩) sB _⟩)
      | (have t0 : wT.cell? ⟨w1.heap.size, 0, none⟩ = some (.int .i64 0) := by rw [hcT _ _ (by omega), hcB _ _ (by simp)]; simp [go_sem]
         have t1 : wT.cell? ⟨w1.heap.size, 1, none⟩ = some (.int .i64 0) := by rw [hcT _ _ (by omega), hcB _ _ (by simp)]; simp [go_sem]
         have z0 : wT.frozen? ⟨w1.heap.size, 0, none⟩ = false := by rw [hzT _ _ (by omega), hzB _ _ (by simp)]; simp [go_sem]
         have z1 : wT.frozen? ⟨w1.heap.size, 1, none⟩ = false := by rw [hzT _ _ (by omega), hzB _ _ (by simp)]; simp [go_sem]
         have hne : l = [] ∨ ∀ ad, AT = some ad → ad.block ≠ w1.heap.size := .inr fun ad h => by have := hNT ad h; omega
         exact ⟨w1.heap.size, AT, capT, rfl, rfl, by simp [World.setCell]; omega, Nat.le_refl _, (cell2 _ _ t0 t1).1, (cell2 _ _ t0 t1).2, by rw [World.frozen?_setCell, World.frozen?_setCell]; exact z0, by rw [World.frozen?_setCell, World.frozen?_setCell]; exact z1, ((Mem.arr_set (Mem.arr_set hAT hne 0 _) hne 1 _).of_lt (by simp [World.setCell])), hne, (hbT.setCell (p := ⟨w1.heap.size, 0, none⟩) (Nat.le_refl _) _).setCell (p := ⟨w1.heap.size, 1, none⟩) (Nat.le_refl _) _⟩)
  case rest =>
    clear HSx
    obtain ⟨g, A, cap, rfl, rfl, hg_lt, hg_ge, c_g_0, c_g_1, f_g_0, f_g_1, hHA, hne_g, hbc⟩ := hcut
    obtain ⟨W2, rfl⟩ : ∃ W2 : World, W2 = wc := ⟨_, rfl⟩
    have hm_W2 : Below w1.heap.size w1 W2 := hbc
    have q_W2 := hm_W2.size
    replace c_d_0 := below_cell hm_W2 c_d_0 lt_w1_0_0
    replace c_d_1 := below_cell hm_W2 c_d_1 lt_w1_0_0
    replace c_d_2 := below_cell hm_W2 c_d_2 lt_w1_0_0
    replace c_d_3 := below_cell hm_W2 c_d_3 lt_w1_0_0
    replace HG := Lib.hid ((HG.out.below hm_W2).of_lt hm_W2.size)
    replace HS := Lib.hid ((HS.out.below hm_W2).of_lt hm_W2.size)
    replace HDS := Lib.hid ((HDS.out.below hm_W2).of_lt hm_W2.size)
    replace A0 := Lib.hid (A0.out.trans (hm_W2.mono A0.out.size))
    have lt_W2_0_0 : w.heap.size < W2.heap.size := by omega
    obtain ⟨le_W2_0_0, le_W2_0_1, le_W2_0_2, le_W2_0_3, lu_W2_0_1, lu_W2_0_2, lu_W2_0_3⟩ := lts lt_W2_0_0
    clear le_w1_0_0 le_w1_0_1 le_w1_0_2 le_w1_0_3 lu_w1_0_1 lu_w1_0_2 lu_w1_0_3 lt_w1_0_0
    clear hm_W2
    clear hbc
    have lt_W2_0_0 : w.heap.size < W2.heap.size := by omega
    obtain ⟨le_W2_0_0, le_W2_0_1, le_W2_0_2, le_W2_0_3, lu_W2_0_1, lu_W2_0_2, lu_W2_0_3⟩ := lts lt_W2_0_0
    have lt_W2_1_0 : g < W2.heap.size := by omega
    obtain ⟨le_W2_1_0, le_W2_1_1, le_W2_1_2, le_W2_1_3, lu_W2_1_1, lu_W2_1_2, lu_W2_1_3⟩ := lts lt_W2_1_0
    clear le_W2_0_0 le_W2_0_1 le_W2_0_2 le_W2_0_3 lu_W2_0_1 lu_W2_0_2 lu_W2_0_3 lt_W2_0_0
    clear hg_lt hg_ge
    have HA : Hid (Tr.Arr W2 W2.heap.size A l) := Lib.hid hHA
    clear hHA
    clear c_d_0
    clear c_d_1
    clear c_d_2
    clear c_d_3
    clear CB CC
    clear HG HS
    go_wp2_with (at_builtin; refine Mem.wpList_append _ rfl (.tmp 25) (.tmp 26) _ rfl W2.heap.size 31 ia _ 2 16 Try.underlying46 IA.out.1 IA.out.2.1 IA.out.2.2.1 IA.out.2.2.2 rfl (by omega) (.slice (some ⟨W2.heap.size, 0, none⟩) 0 0) 0 [] rfl (Mem.own_lit_at W2 W2.heap.size 31 2 _ rfl (Nat.le_refl _)) W2.heap.size A l.length cap (Mem.arrs l) rfl (Mem.arrs_length l) ((Mem.arr_row HA.out).below ((Below.refl _ _).alloc (Nat.le_refl _) _)) (Mem.arrs_oneCell l) (by unfold maxLen; omega) (by omega) (by simp) ?_; intro v5 W3 hown hgr hat hltz; have HO : Hid (W3.ownsRow W2.heap.size 31 2 v5 l.length (Mem.arrs l)) := Lib.hid (by simpa using hown); have hb_ : Below W2.heap.size W2 W3 := Below.grown ((Below.refl _ _).alloc (Nat.le_refl _) _) hgr (by simp) (fun k hk => (hltz k hk).1); clear hown hgr hat hltz)
    have HB3 := Lib.hid hb_
    clear hb_
    obtain ⟨A5, c5, rfl, _, _, _⟩ := Mem.own_row HO.out
    have sW3 := HB3.out.size
    go_loopw [11, 12] (fun last i wr => ∃ (k : Nat) (pre : List (Int × Int)) (t : Int), k ≤ l.length ∧ i = .int .i64 k ∧ last = .int .i64 t ∧ pre.length = k ∧ LT = pre ++ Sp.late (fun d => d % (Dm + 1)) t (ds.drop k) (l.drop k) ∧ 0 ≤ t ∧ t ≤ 1966050 + Dm ∧ wr.ownsRow W2.heap.size 31 2 (.slice A5 l.length c5) l.length (Mem.arrs (pre ++ l.drop k)) ∧ Below W2.heap.size W2 wr) (fun _ i _ => l.length - (intOf i).toNat)
    case atStart => exact ⟨0, [], 0, by omega, rfl, rfl, rfl, by simpa using HLT.out.symm, by omega, by omega, HO.out, HB3.out⟩
    case round =>
      obtain ⟨k, pre, t, hk, rfl, rfl, hpl, hLT, ht0, ht1, hown, hbr⟩ := hrel
      obtain ⟨wo, rfl⟩ : ∃ wo : World, wo = wr := ⟨_, rfl⟩
      have KW := Lib.hid hbr
      have hm_wo : Below W2.heap.size W2 wo := hbr
      have q_wo := hm_wo.size
      replace c_g_0 := below_cell hm_wo c_g_0 lt_W2_1_0
      replace f_g_0 := (hm_wo.frozen (p := ⟨g, 0, none⟩) lt_W2_1_0).trans f_g_0
      replace c_g_1 := below_cell hm_wo c_g_1 lt_W2_1_0
      replace f_g_1 := (hm_wo.frozen (p := ⟨g, 1, none⟩) lt_W2_1_0).trans f_g_1
      replace HDS := Lib.hid ((HDS.out.below hm_wo).of_lt hm_wo.size)
      replace HA := Lib.hid ((HA.out.below hm_wo).of_lt hm_wo.size)
      replace A0 := Lib.hid (A0.out.trans (hm_wo.mono A0.out.size))
      have lt_wo_0_0 : g < wo.heap.size := by omega
      obtain ⟨le_wo_0_0, le_wo_0_1, le_wo_0_2, le_wo_0_3, lu_wo_0_1, lu_wo_0_2, lu_wo_0_3⟩ := lts lt_wo_0_0
      clear le_W2_0_0 le_W2_0_1 le_W2_0_2 le_W2_0_3 lu_W2_0_1 lu_W2_0_2 lu_W2_0_3 lt_W2_0_0
      clear le_W2_1_0 le_W2_1_1 le_W2_1_2 le_W2_1_3 lu_W2_1_1 lu_W2_1_2 lu_W2_1_3 lt_W2_1_0
      clear hm_wo
      clear hbr
      have HOW := Lib.hid hown
      have HL1 := Lib.hid hLT
      clear hown hLT
      by_cases hlt : k < l.length
      · obtain ⟨⟨x1, x2⟩, hx⟩ : ∃ x, l[k]? = some x := ⟨l[k], List.getElem?_eq_getElem hlt⟩
        obtain ⟨ad, rfl, hbk, hc0, hc1⟩ := HA.out k (x1, x2) hx
        have hm := HM.out (x1, x2) (List.mem_of_getElem? hx)
        obtain ⟨g5, rfl, hg5a, hg5b⟩ := Mem.own_some HOW.out (by omega)
        have hdr : l.drop k = (x1, x2) :: l.drop (k + 1) := by
          obtain ⟨hk', he⟩ := List.getElem?_eq_some_iff.1 hx
          rw [← he]; exact List.drop_eq_getElem_cons hk'
        have hat : (pre ++ l.drop k)[k]? = some (x1, x2) := by rw [hdr, List.getElem?_append_right (by omega), hpl, Nat.sub_self]; rfl
        obtain ⟨e0, e1, z0, z1⟩ := Mem.own_at HOW.out hat
        have hst := Sp.late_step (f := (fun d => d % (Dm + 1))) (t := t) (ds := ds) hx
        have hst := HL1.out.trans (by rw [hst])
        have HDR := Lib.hid hdr
        have i0 : (0 : Int) ≤ (k : Int) := by omega
        have i1 : (k : Int) < (l.length : Int) := by omega
        clear hx hdr hat
        by_cases hd : k < ds.length
        · obtain ⟨dv, hdk⟩ : ∃ g, ds[k]? = some g := ⟨ds[k], List.getElem?_eq_getElem hd⟩
          obtain ⟨dd, rfl, _, hdc⟩ := HDS.out.at_ hdk
          have bd := HBD.out dv (List.mem_of_getElem? hdk)
          have j1 : (k : Int) < (ds.length : Int) := by omega
          rw [hdk] at hst
          have HST := Lib.hid hst
          clear hdk hst
          have dm0 : ¬ Dm + 1 = 0 := by omega
          have dm1 : dv.tmod (Dm + 1) = dv % (Dm + 1) := Int.tmod_eq_emod_of_nonneg bd.1
          have dm2 : 0 ≤ dv % (Dm + 1) := Int.emod_nonneg _ (by omega)
          have dm3 : dv % (Dm + 1) < Dm + 1 := Int.emod_lt_of_pos _ (by omega)
          go_upto_region 11 with fail
          go_region
          go_wp2_with fail
          go_roundw
          case rel =>
            refine ⟨k + 1, pre ++ [(max (x1 + dv % (Dm + 1)) t, x2)], max (x1 + dv % (Dm + 1)) t, by omega, by go_num, rfl, by simp [hpl], by rw [HST.out]; simp, by omega, by omega, ?_, by have hb := KW.out; (repeat' (first | (with_reducible exact Below.refl _ _) | (with_reducible refine Below.alloc ?_ ?_ _) | (with_reducible refine Below.setCell ?_ ?_ _) | (with_reducible refine Below.drew ?_) | (with_reducible assumption) | omega | (simp; done) | (simp; omega)))⟩
            have h := (((HOW.out.stored (k * 2) (.int .i64 (x1 + dv % (Dm + 1)))).1.stored (k * 2) (.int .i64 (max (x1 + dv % (Dm + 1)) t))).1).drew
            rw [HDR.out, Sp.set_arrs hpl, Sp.set_arrs hpl] at h
            simpa using h
          case measure => simp [intOf]; omega
        · have hst2 : LT = pre ++ (max x1 t, x2) :: Sp.late (fun d => d % (Dm + 1)) (max x1 t) (ds.drop (k + 1)) (l.drop (k + 1)) := by
            rw [hst, List.getElem?_eq_none (by omega)]; simp
          have HST := Lib.hid hst2
          clear hst hst2
          go_wp2_with fail
          go_roundw
          case rel =>
            refine ⟨k + 1, pre ++ [(max x1 t, x2)], max x1 t, by omega, by go_num, rfl, by simp [hpl], by rw [HST.out]; simp, by omega, by omega, ?_, by have hb := KW.out; (repeat' (first | (with_reducible exact Below.refl _ _) | (with_reducible refine Below.alloc ?_ ?_ _) | (with_reducible refine Below.setCell ?_ ?_ _) | (with_reducible refine Below.drew ?_) | (with_reducible assumption) | omega | (simp; done) | (simp; omega)))⟩
            have h := (HOW.out.stored (k * 2) (.int .i64 (max x1 t))).1
            rw [HDR.out, Sp.set_arrs hpl] at h
            simpa using h
          case measure => simp [intOf]; omega
      · have ekl : k = l.length := by omega
        have hLe : LT = pre := by rw [HL1.out, List.drop_eq_nil_of_le (show l.length ≤ k by omega)]; simp [Sp.late]
        have HL5 : Hid (Tr.Arr wo wo.heap.size A5 LT) := Lib.hid (by have h := HOW.out; rw [List.drop_eq_nil_of_le (show l.length ≤ k by omega), List.append_nil, ← hLe] at h; exact Mem.arr_own h)
        clear hLe HL1 HOW KW
        go_wp2_with fail
        refine (RG.out A5 c5 _ HL5.out).mono ?_
        rintro e w6 ⟨⟨A6, c6, rfl, hI6⟩, hb_⟩
        have hm_w6 : Below wo.heap.size wo w6 := hb_
        have q_w6 := hm_w6.size
        replace c_g_0 := below_cell hm_w6 c_g_0 lt_wo_0_0
        replace f_g_0 := (hm_w6.frozen (p := ⟨g, 0, none⟩) lt_wo_0_0).trans f_g_0
        replace c_g_1 := below_cell hm_w6 c_g_1 lt_wo_0_0
        replace f_g_1 := (hm_w6.frozen (p := ⟨g, 1, none⟩) lt_wo_0_0).trans f_g_1
        replace HDS := Lib.hid ((HDS.out.below hm_w6).of_lt hm_w6.size)
        replace HA := Lib.hid ((HA.out.below hm_w6).of_lt hm_w6.size)
        replace HL5 := Lib.hid ((HL5.out.below hm_w6).of_lt hm_w6.size)
        replace A0 := Lib.hid (A0.out.trans (hm_w6.mono A0.out.size))
        have lt_w6_0_0 : g < w6.heap.size := by omega
        obtain ⟨le_w6_0_0, le_w6_0_1, le_w6_0_2, le_w6_0_3, lu_w6_0_1, lu_w6_0_2, lu_w6_0_3⟩ := lts lt_w6_0_0
        clear le_wo_0_0 le_wo_0_1 le_wo_0_2 le_wo_0_3 lu_wo_0_1 lu_wo_0_2 lu_wo_0_3 lt_wo_0_0
        clear hm_w6
        have HI := Lib.hid hI6
        clear hI6 hb_ RG
        clear c_g_0 f_g_0
        clear c_g_1 f_g_1
        go_wp2_with fail
        go_loopw [15] (fun i wr => ∃ j : Nat, j ≤ l.length ∧ i = .int .i64 j ∧ Below w6.heap.size w6 wr) (fun i _ => l.length - (intOf i).toNat)
        case atStart => exact ⟨0, by omega, rfl, Below.refl _ _⟩
        case round =>
          obtain ⟨j, hj, rfl, hbr⟩ := hrel
          obtain ⟨wj, rfl⟩ : ∃ wj : World, wj = wr := ⟨_, rfl⟩
          have K6 := Lib.hid hbr
          have hm_wj : Below w6.heap.size w6 wj := hbr
          have q_wj := hm_wj.size
          replace HDS := Lib.hid ((HDS.out.below hm_wj).of_lt hm_wj.size)
          replace HA := Lib.hid ((HA.out.below hm_wj).of_lt hm_wj.size)
          replace HL5 := Lib.hid ((HL5.out.below hm_wj).of_lt hm_wj.size)
          replace HI := Lib.hid ((HI.out.below hm_wj).of_lt hm_wj.size)
          replace A0 := Lib.hid (A0.out.trans (hm_wj.mono A0.out.size))
          clear le_w6_0_0 le_w6_0_1 le_w6_0_2 le_w6_0_3 lu_w6_0_1 lu_w6_0_2 lu_w6_0_3 lt_w6_0_0
          clear hm_wj
          clear hbr
          by_cases hlt2 : j < l.length
          · obtain ⟨⟨x1, x2⟩, hx⟩ : ∃ x, l[j]? = some x := ⟨l[j], List.getElem?_eq_getElem hlt2⟩
            obtain ⟨⟨y1, y2⟩, hy⟩ : ∃ x, LT[j]? = some x := ⟨LT[j]'(by omega), List.getElem?_eq_getElem _⟩
            have hrl := Sp.run_length b r LT 0 (b * 1048576)
            obtain ⟨o, ho⟩ : ∃ x, (Sp.run b r 0 (b * 1048576) LT)[j]? = some x := ⟨(Sp.run b r 0 (b * 1048576) LT)[j]'(by omega), List.getElem?_eq_getElem _⟩
            have hkey := HF.out.2 j (x1, x2) (y1, y2) o hx hy ho
            have hm := HM.out (x1, x2) (List.mem_of_getElem? hx)
            obtain ⟨ad, rfl, _, hc0, _⟩ := HA.out j (x1, x2) hx
            obtain ⟨ad5, rfl, _, hd0, _⟩ := HL5.out j (y1, y2) hy
            obtain ⟨ad6, rfl, _, he0⟩ := HI.out j o ho
            have k1 : decide (o < y1) = false := decide_eq_false (by have := hkey.1; simp only at this; omega)
            have k2 : decide (x1 + Dm < o) = false := decide_eq_false (by have := hkey.2; simp only at this; omega)
            have i0 : (0 : Int) ≤ (j : Int) := by omega
            have i1 : (j : Int) < (l.length : Int) := by omega
            clear hx hy ho hkey hrl
            go_upto_region 20 with fail
            go_quiet (fail)
            go_wp2_with fail
            go_roundw
            case rel => exact ⟨j + 1, by omega, by go_num, belowN K6.out _⟩
            case measure => simp [intOf]; omega
          · go_wp2_with fail
            go_ret
            exact ⟨rfl, A0.out⟩
end SpW
end Go.Proofs.Ytpglhjgpjnapgaa
