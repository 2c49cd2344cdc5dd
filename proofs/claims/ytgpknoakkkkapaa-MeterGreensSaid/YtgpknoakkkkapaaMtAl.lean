/- MeterAll: the walk of the law. -/
import Derived.Test.YtgpknoakkkkapaaConf
import Derived.Test.YtgpknoakkkkapaaIterC
import Derived.Test.YtgpknoakkkkapaaMtK
import Derived.Test.YtgpknoakkkkapaaMtY
import Derived.Deep.DeepCutAuto
namespace Go.Proofs.Ytgpknoakkkkapaa
set_option linter.unusedSimpArgs false
set_option linter.unusedVariables false
open Go.RowKit
namespace Mt
theorem zeros {b r b2 r2 : Int} (l : List (Int × Int)) : ∀ g q, Fits.fits b r (g ++ l) = true → Fits.fits b2 r2 (q ++ l) = true → ∀ z ∈ refFrom b r b2 r2 g q l, z = 0 := by
  induction l with
  | nil => intro g q _ _ z hz; simp [refFrom] at hz
  | cons x l ih =>
    intro g q h1 h2 z hz
    have e1 : Fits.fits b r (g ++ [x]) = true := Fits.fits_prefix (m := l) (by simpa using h1)
    have e2 : Fits.fits b2 r2 (q ++ [x]) = true := Fits.fits_prefix (m := l) (by simpa using h2)
    have ek : refK b r b2 r2 g q x = 0 := by unfold refK; rw [if_neg (by simp [e2]), if_neg (by simp [e1])]
    unfold refFrom at hz
    rw [ek] at hz
    rcases List.mem_cons.1 hz with rfl | hz
    · rfl
    · exact ih (g ++ [x]) (q ++ [x]) (by simpa using h1) (by simpa using h2) z (by simpa [refG, refP] using hz)
theorem same_ {b r : Int} (l : List (Int × Int)) : ∀ g, ∀ z ∈ refFrom b r b r g g l, z ≠ 1 := by
  induction l with
  | nil => intro g z hz; simp [refFrom] at hz
  | cons x l ih =>
    intro g z hz
    unfold refFrom at hz
    cases hf : Fits.fits b r (g ++ [x])
    · have ek : refK b r b r g g x = 2 := by unfold refK; rw [if_pos hf]
      rw [ek] at hz
      rcases List.mem_cons.1 hz with rfl | hz
      · decide
      · exact ih g z (by simpa [refG, refP] using hz)
    · have ek : refK b r b r g g x = 0 := by unfold refK; rw [if_neg (by simp [hf]), if_neg (by simp [hf])]
      rw [ek] at hz
      rcases List.mem_cons.1 hz with rfl | hz
      · decide
      · exact ih (g ++ [x]) z (by simpa [refG, refP] using hz)
theorem okFrom_of {l : List (Int × Int)} (h : Tr.ok l = true) : Tr.okFrom 0 l = true := by unfold Tr.ok at h; rw [Bool.and_eq_true] at h; exact h.2
theorem run_zeros {b r b2 r2 : Int} (hr : 0 ≤ r) (hr2 : 0 ≤ r2) {l : List (Int × Int)} (hok : Tr.ok l = true) (hf : Fits.fits b r l = true) : Fits.fits b2 r2 l = true → ∀ z ∈ run b r b2 r2 l, z = 0 := fun h2 => by
  rw [run_ref hr hr2 l (okFrom_of hok)]; exact zeros l [] [] hf h2
theorem run_same {b r : Int} (hr : 0 ≤ r) {l : List (Int × Int)} (hok : Tr.ok l = true) : ∀ z ∈ run b r b r l, z ≠ 1 := by
  rw [run_ref hr hr l (okFrom_of hok)]; exact same_ l []
end Mt
namespace MtW
set_option maxRecDepth 100000 in
set_option maxHeartbeats 4000000 in
theorem law_All (x y : Nat) (hx : x < 4294967296) (hy : y < 4294967296) (G : Option Addr) (gs : List Int) (cg : Nat) (S : Option Addr) (ss : List Int) (cs : Nat) (n m : Nat) (hn : n < 4294967296) (hm : m < 4294967296) (w : World)
    (hG : Mem.Row w w.heap.size G (Mem.nums .u16 gs)) (hS : Mem.Row w w.heap.size S (Mem.nums .u16 ss)) (bG : ∀ n ∈ gs, 0 ≤ n ∧ n ≤ 65535) (bS : ∀ n ∈ ss, 0 ≤ n ∧ n ≤ 65535) (lG : gs.length ≤ maxLen) (lS : ss.length ≤ maxLen) :
    Calls Try.prog 8 #[.agg #[.int .u32 x, .int .u32 y, .slice G gs.length cg, .slice S ss.length cs], .agg #[.int .u32 n, .int .u32 m]] w fun e w' => e = .returned (.bool true) ∧ Below w.heap.size w w' := by
  obtain ⟨b, r, b2, r2, p1, p2, p3, p4, p5, p6, p7, p8, e1, e2, PR⟩ := Pair_some x y hx hy (.slice G gs.length cg) (.slice S ss.length cs) (IntKind.u16.wrap (n : Int)) m (by show 0 ≤ (n : Int) % 65536; omega) (by show (n : Int) % 65536 < 65536; omega) (by omega) (by omega)
  have hne : Mt.newE b r b2 r2 = 0 := Mt.newE_ok p1 p2 p3 p5 (by omega) p7 p8
  have hnc : Mt.newE b r b r = 0 := Mt.newE_ok p1 p2 p3 p1 p2 (Int.le_refl _) p4
  have hok := Dr.trace_ok bG bS
  have hcf := Dr.conf_ok (b := b) (r := r) hok
  have CC := fun W hG hS => DrW.Conforming_any x y hx hy G gs cg S ss cs b r e1 e2 W hG hS bG bS lG lS
  have CT := fun W hG hS => DrW.Trace_any x y G gs cg S ss cs W hG hS bG bS lG lS
  have h30 : (Dr.trace gs ss).length ≤ 30 := by rw [Dr.trace_length]; omega
  generalize Dr.trace gs ss = l at *
  generalize Dr.conf b r l = lc at *
  have hlc : lc.length ≤ 200 := by have h := hcf.1; unfold Tr.ok at h; rw [Bool.and_eq_true, decide_eq_true_iff] at h; exact h.1
  have HZ1 := Lib.hid (Mt.run_zeros (b := b) (r := r) (b2 := b2) (r2 := r2) (by omega) (by omega) hcf.1 hcf.2)
  have HZ2 := Lib.hid (Mt.run_same (b := b) (r := r) (by omega) hok)
  have HP := Lib.hid PR
  have HN := Lib.hid hne
  have HNC := Lib.hid hnc
  have HOK := Lib.hid hok
  have HCF := Lib.hid hcf
  have HCC := Lib.hid CC
  have HCT := Lib.hid CT
  have HG := Lib.hid hG
  have HS := Lib.hid hS
  clear PR hne hnc hok hcf CC CT hG hS bG bS lG lS e1 e2
  go_enter Try.func8, Try.ntmps8
  go_wp2_with fail
  refine (works_any _).mono ?_
  rintro e w1 ⟨rfl, hb_⟩
  have s_w1 := hb_.size
  try simp only [World.size_alloc] at s_w1
  have hm_w1 : Below w.heap.size w w1 := Below.trans (b := ((w.alloc (.cells #[.int .u32 x, .int .u32 y, .slice G gs.length cg, .slice S ss.length cs] 28)).alloc (.cells #[.int .u32 n, .int .u32 m] 29))) (by (repeat' (first | (with_reducible exact Below.refl _ _) | (with_reducible refine Below.alloc ?_ ?_ _) | (with_reducible refine Below.setCell ?_ ?_ _) | (with_reducible refine Below.drew ?_) | (with_reducible assumption) | omega | (simp; done) | (simp; omega)))) (hb_.mono (by first | (simp; done) | (simp; omega)))
  have q_w1 := hm_w1.size
  have c_d_0 : w1.cell? ⟨w.heap.size, 0, none⟩ = some (.int .u32 x) := by rw [(bcell hb_).1 _ _ (by first | (simp; done) | (simp; omega))]; simp [go_sem]
  have c_d_1 : w1.cell? ⟨w.heap.size, 1, none⟩ = some (.int .u32 y) := by rw [(bcell hb_).1 _ _ (by first | (simp; done) | (simp; omega))]; simp [go_sem]
  have c_d_2 : w1.cell? ⟨w.heap.size, 2, none⟩ = some (.slice G gs.length cg) := by rw [(bcell hb_).1 _ _ (by first | (simp; done) | (simp; omega))]; simp [go_sem]
  have c_d_3 : w1.cell? ⟨w.heap.size, 3, none⟩ = some (.slice S ss.length cs) := by rw [(bcell hb_).1 _ _ (by first | (simp; done) | (simp; omega))]; simp [go_sem]
  have c_n_0 : w1.cell? ⟨w.heap.size + 1, 0, none⟩ = some (.int .u32 n) := by rw [(bcell hb_).1 _ _ (by first | (simp; done) | (simp; omega))]; simp [go_sem]
  have c_n_1 : w1.cell? ⟨w.heap.size + 1, 1, none⟩ = some (.int .u32 m) := by rw [(bcell hb_).1 _ _ (by first | (simp; done) | (simp; omega))]; simp [go_sem]
  have H_w1 := Lib.hid hm_w1
  have lt_w1_0_1 : w.heap.size + 1 < w1.heap.size := by omega
  have lt_w1_0_0 : w.heap.size < w1.heap.size := Nat.lt_of_succ_lt lt_w1_0_1
  obtain ⟨le_w1_0_0, le_w1_0_1, le_w1_0_2, le_w1_0_3, lu_w1_0_1, lu_w1_0_2, lu_w1_0_3⟩ := lts lt_w1_0_0
  clear hb_ hm_w1
  go_wp2_with fail
  refine (HP.out _).mono ?_
  rintro e w2 ⟨rfl, hb_⟩
  have s_w2 := hb_.size
  try simp only [World.size_alloc] at s_w2
  have hm_w2 : Below w1.heap.size w1 w2 := hb_
  have q_w2 := hm_w2.size
  replace c_d_0 := below_cell hm_w2 c_d_0 (by omega)
  replace c_d_1 := below_cell hm_w2 c_d_1 (by omega)
  replace c_d_2 := below_cell hm_w2 c_d_2 (by omega)
  replace c_d_3 := below_cell hm_w2 c_d_3 (by omega)
  replace c_n_0 := below_cell hm_w2 c_n_0 (by omega)
  replace c_n_1 := below_cell hm_w2 c_n_1 (by omega)
  have H_w2 := Lib.hid (H_w1.out.trans (hm_w2.mono (by omega)))
  have lt_w2_0_1 : w.heap.size + 1 < w2.heap.size := by omega
  have lt_w2_0_0 : w.heap.size < w2.heap.size := Nat.lt_of_succ_lt lt_w2_0_1
  obtain ⟨le_w2_0_0, le_w2_0_1, le_w2_0_2, le_w2_0_3, lu_w2_0_1, lu_w2_0_2, lu_w2_0_3⟩ := lts lt_w2_0_0
  clear le_w1_0_0 le_w1_0_1 le_w1_0_2 le_w1_0_3 lu_w1_0_1 lu_w1_0_2 lu_w1_0_3 lt_w1_0_0 lt_w1_0_1
  clear hb_ hm_w2
  clear c_n_0 c_n_1
  go_wp2_with fail
  obtain ⟨W3, hW3⟩ : ∃ W3, ((w2.alloc (.cells #[.int .i64 b, .int .i64 r] 23)).alloc (.cells #[.int .i64 b2, .int .i64 r2] 23)) = W3 := ⟨_, rfl⟩
  have hm_W3 : Below w2.heap.size w2 W3 := by rw [← hW3]; (repeat' (first | (with_reducible exact Below.refl _ _) | (with_reducible refine Below.alloc ?_ ?_ _) | (with_reducible refine Below.setCell ?_ ?_ _) | (with_reducible refine Below.drew ?_) | (with_reducible assumption) | omega | (simp; done) | (simp; omega)))
  have q_W3 : w2.heap.size + 2 ≤ W3.heap.size := by rw [← hW3]; simp
  replace c_d_0 := below_cell hm_W3 c_d_0 (by omega)
  replace c_d_1 := below_cell hm_W3 c_d_1 (by omega)
  replace c_d_2 := below_cell hm_W3 c_d_2 (by omega)
  replace c_d_3 := below_cell hm_W3 c_d_3 (by omega)
  have c_c_0 : W3.cell? ⟨w2.heap.size, 0, none⟩ = some (.int .i64 b) := by rw [← hW3]; simp [go_sem]
  have c_c_1 : W3.cell? ⟨w2.heap.size, 1, none⟩ = some (.int .i64 r) := by rw [← hW3]; simp [go_sem]
  have c_p_0 : W3.cell? ⟨w2.heap.size + 1, 0, none⟩ = some (.int .i64 b2) := by rw [← hW3]; simp [go_sem]
  have c_p_1 : W3.cell? ⟨w2.heap.size + 1, 1, none⟩ = some (.int .i64 r2) := by rw [← hW3]; simp [go_sem]
  have H_W3 := Lib.hid (H_w2.out.trans (hm_W3.mono (by have := H_w2.out.size; omega)))
  rw [hW3]
  clear hW3 hm_W3
  have lt_W3_0_0 : w.heap.size < W3.heap.size := by omega
  obtain ⟨le_W3_0_0, le_W3_0_1, le_W3_0_2, le_W3_0_3, lu_W3_0_1, lu_W3_0_2, lu_W3_0_3⟩ := lts lt_W3_0_0
  have lt_W3_1_1 : w2.heap.size + 1 < W3.heap.size := by omega
  have lt_W3_1_0 : w2.heap.size < W3.heap.size := Nat.lt_of_succ_lt lt_W3_1_1
  obtain ⟨le_W3_1_0, le_W3_1_1, le_W3_1_2, le_W3_1_3, lu_W3_1_1, lu_W3_1_2, lu_W3_1_3⟩ := lts lt_W3_1_0
  clear le_w2_0_0 le_w2_0_1 le_w2_0_2 le_w2_0_3 lu_w2_0_1 lu_w2_0_2 lu_w2_0_3 lt_w2_0_0 lt_w2_0_1
  have HW3 := H_W3
  refine (HCC.out _ ((HG.out.below H_W3.out).of_lt H_W3.out.size) ((HS.out.below H_W3.out).of_lt H_W3.out.size)).mono ?_
  rintro e w4 ⟨⟨Ac, cc, rfl, hAc⟩, hb_⟩
  have HA4 := Lib.hid hAc
  clear hAc
  have s_w4 := hb_.size
  try simp only [World.size_alloc] at s_w4
  have hm_w4 : Below W3.heap.size W3 w4 := hb_
  have q_w4 := hm_w4.size
  replace c_d_0 := below_cell hm_w4 c_d_0 (by omega)
  replace c_d_1 := below_cell hm_w4 c_d_1 (by omega)
  replace c_d_2 := below_cell hm_w4 c_d_2 (by omega)
  replace c_d_3 := below_cell hm_w4 c_d_3 (by omega)
  replace c_c_0 := below_cell hm_w4 c_c_0 (by omega)
  replace c_c_1 := below_cell hm_w4 c_c_1 (by omega)
  replace c_p_0 := below_cell hm_w4 c_p_0 (by omega)
  replace c_p_1 := below_cell hm_w4 c_p_1 (by omega)
  have H_w4 := Lib.hid (H_W3.out.trans (hm_w4.mono (by omega)))
  have lt_w4_0_0 : w.heap.size < w4.heap.size := by omega
  obtain ⟨le_w4_0_0, le_w4_0_1, le_w4_0_2, le_w4_0_3, lu_w4_0_1, lu_w4_0_2, lu_w4_0_3⟩ := lts lt_w4_0_0
  have lt_w4_1_1 : w2.heap.size + 1 < w4.heap.size := by omega
  have lt_w4_1_0 : w2.heap.size < w4.heap.size := Nat.lt_of_succ_lt lt_w4_1_1
  obtain ⟨le_w4_1_0, le_w4_1_1, le_w4_1_2, le_w4_1_3, lu_w4_1_1, lu_w4_1_2, lu_w4_1_3⟩ := lts lt_w4_1_0
  clear le_W3_0_0 le_W3_0_1 le_W3_0_2 le_W3_0_3 lu_W3_0_1 lu_W3_0_2 lu_W3_0_3 lt_W3_0_0
  clear le_W3_1_0 le_W3_1_1 le_W3_1_2 le_W3_1_3 lu_W3_1_1 lu_W3_1_2 lu_W3_1_3 lt_W3_1_0 lt_W3_1_1
  clear hb_ hm_w4
  go_wp2_with fail
  refine (Run_good b r b2 r2 Ac lc cc _ HA4.out (by omega) HN.out (chk_of_ok HCF.out.1)).mono ?_
  rintro e w5 ⟨⟨v5, rfl, hown⟩, hb_⟩
  have hlr := Mt.run_length b r b2 r2 lc
  obtain ⟨A5, c5, rfl, hI5⟩ := own_slice hown
  have HI5 := Lib.hid hI5
  have HA5 := Lib.hid (Tr.Arr.of_lt (HA4.out.below hb_) hb_.size)
  clear hown hI5
  have s_w5 := hb_.size
  try simp only [World.size_alloc] at s_w5
  have hm_w5 : Below w4.heap.size w4 w5 := hb_
  have q_w5 := hm_w5.size
  replace c_d_0 := below_cell hm_w5 c_d_0 (by omega)
  replace c_d_1 := below_cell hm_w5 c_d_1 (by omega)
  replace c_d_2 := below_cell hm_w5 c_d_2 (by omega)
  replace c_d_3 := below_cell hm_w5 c_d_3 (by omega)
  replace c_c_0 := below_cell hm_w5 c_c_0 (by omega)
  replace c_c_1 := below_cell hm_w5 c_c_1 (by omega)
  replace c_p_0 := below_cell hm_w5 c_p_0 (by omega)
  replace c_p_1 := below_cell hm_w5 c_p_1 (by omega)
  have H_w5 := Lib.hid (H_w4.out.trans (hm_w5.mono (by omega)))
  have lt_w5_0_0 : w.heap.size < w5.heap.size := by omega
  obtain ⟨le_w5_0_0, le_w5_0_1, le_w5_0_2, le_w5_0_3, lu_w5_0_1, lu_w5_0_2, lu_w5_0_3⟩ := lts lt_w5_0_0
  have lt_w5_1_1 : w2.heap.size + 1 < w5.heap.size := by omega
  have lt_w5_1_0 : w2.heap.size < w5.heap.size := Nat.lt_of_succ_lt lt_w5_1_1
  obtain ⟨le_w5_1_0, le_w5_1_1, le_w5_1_2, le_w5_1_3, lu_w5_1_1, lu_w5_1_2, lu_w5_1_3⟩ := lts lt_w5_1_0
  clear le_w4_0_0 le_w4_0_1 le_w4_0_2 le_w4_0_3 lu_w4_0_1 lu_w4_0_2 lu_w4_0_3 lt_w4_0_0
  clear le_w4_1_0 le_w4_1_1 le_w4_1_2 le_w4_1_3 lu_w4_1_1 lu_w4_1_2 lu_w4_1_3 lt_w4_1_0 lt_w4_1_1
  clear hb_ hm_w5
  go_upto_region 6 with fail
  have HSx : Hid (∀ w', Below w5.heap.size w5 w' → (Below w5.heap.size w5 w' ∧ w'.cell? ⟨w.heap.size, 0, none⟩ = some (.int .u32 x) ∧ w'.cell? ⟨w.heap.size, 1, none⟩ = some (.int .u32 y) ∧ w'.cell? ⟨w.heap.size, 2, none⟩ = some (.slice G gs.length cg) ∧ w'.cell? ⟨w.heap.size, 3, none⟩ = some (.slice S ss.length cs) ∧ w'.cell? ⟨w2.heap.size, 0, none⟩ = some (.int .i64 b) ∧ w'.cell? ⟨w2.heap.size, 1, none⟩ = some (.int .i64 r))) := Lib.hid (fun w' h => ⟨h, below_cell h c_d_0 (by omega), below_cell h c_d_1 (by omega), below_cell h c_d_2 (by omega), below_cell h c_d_3 (by omega), below_cell h c_c_0 (by omega), below_cell h c_c_1 (by omega)⟩)
  have HG5 := Lib.hid ((HG.out.below H_w5.out).of_lt H_w5.out.size)
  have HS5 := Lib.hid ((HS.out.below H_w5.out).of_lt H_w5.out.size)
  go_cut [10, 11] (fun s10 s11 wx => s11 = .int .i64 0 ∧ (∃ (A6 : Option Addr) (c6 : Nat), s10 = .slice A6 (Mt.run b r b r l).length c6 ∧ Tr.Ints wx wx.heap.size A6 (Mt.run b r b r l)) ∧ Below w5.heap.size w5 wx)
  case first =>
    go_region_held3 (fun w' => Below w5.heap.size w5 w' ∧ w'.cell? ⟨w.heap.size, 0, none⟩ = some (.int .u32 x) ∧ w'.cell? ⟨w.heap.size, 1, none⟩ = some (.int .u32 y) ∧ w'.cell? ⟨w.heap.size, 2, none⟩ = some (.slice G gs.length cg) ∧ w'.cell? ⟨w.heap.size, 3, none⟩ = some (.slice S ss.length cs) ∧ w'.cell? ⟨w2.heap.size, 0, none⟩ = some (.int .i64 b) ∧ w'.cell? ⟨w2.heap.size, 1, none⟩ = some (.int .i64 r))
      ((refine HSx.out _ ?_; first | assumption | (repeat' (first | (with_reducible exact Below.refl _ _) | (with_reducible refine Below.alloc ?_ ?_ _) | (with_reducible refine Below.setCell ?_ ?_ _) | (with_reducible refine Below.drew ?_) | (with_reducible assumption) | omega | (simp; done) | (simp; omega)))))
      (first
        | (go_at_call_of 18 (Value.agg #[.int .u32 x, .int .u32 y, .slice G gs.length cg, .slice S ss.length cs]); go_split_ands; refine (HCT.out _ (Mem.Row.of_lt (HG5.out.below (by assumption)) (by simp)) (Mem.Row.of_lt (HS5.out.below (by assumption)) (by simp))).mono ?_; rintro e wT ⟨⟨vT, rfl, hoT⟩, hrT⟩; obtain ⟨_, AT, capT, rfl, hAT⟩ := Mem.own_arr hoT; have hbT := carry2 (w := w5) (by assumption) hrT; clear hrT hoT)
        | (go_at_call_of 19 (Value.agg #[.int .i64 b, .int .i64 r]); go_split_ands; refine (Run_good b r b r AT l capT _ (by exact hAT) (by omega) HNC.out (chk_of_ok HOK.out)).mono ?_; rintro e wR ⟨⟨vR, rfl, hoR⟩, hrR⟩; have hlR := Mt.run_length b r b r l; obtain ⟨A6, c6, rfl, hI6⟩ := own_slice hoR; have hbR := carry2 (w := w5) (by assumption) hrR; have HI6 := Lib.hid hI6; have HLR := Lib.hid hlR; clear hlR hI6 hrR hoR))
    all_goals
      go_wp2_with fail
      go_meet
      exact ⟨rfl, ⟨A6, c6, by rw [HLR.out], HI6.out⟩, hbR⟩
  case rest =>
    obtain ⟨rfl, ⟨A6, c6, rfl, hI6⟩, hbc⟩ := hcut
    obtain ⟨W6, rfl⟩ : ∃ W6 : World, W6 = wc := ⟨_, rfl⟩
    have l6 := hbc.size
    have HI6 := Lib.hid hI6
    have HA6 := Lib.hid (Tr.Arr.of_lt (HA5.out.below hbc) l6)
    have HJ6 := Lib.hid (Tr.Ints.of_lt (HI5.out.below hbc) l6)
    replace c_p_0 := below_cell hbc c_p_0 (by omega)
    replace c_p_1 := below_cell hbc c_p_1 (by omega)
    have HB6 := Lib.hid (H_w5.out.trans (hbc.mono (by have := H_w5.out.size; omega)))
    clear hI6 hbc HSx HCT HCC
    clear c_d_0 c_d_1 c_d_2 c_d_3
    clear c_c_0 c_c_1
    have hlR := Mt.run_length b r b r l
    have hlr' := Mt.run_length b r b2 r2 lc
    have HLr := Lib.hid (And.intro hlR hlr')
    clear hlR hlr' hlr
    generalize Mt.run b r b r l = R2 at *
    generalize Mt.run b r b2 r2 lc = R1 at *
    have CF := fun W h => ItW.conforms_good b2 r2 Ac lc lc.length cc rfl p5 (by omega) (by omega) p8 HCF.out.1 W h
    have HCFm := Lib.hid (CF _ HA6.out)
    clear CF
    cases hF : Fits.fits b2 r2 lc
    all_goals
      have HF := HCFm.out
      rw [hF] at HF
      have HFm := Lib.hid HF
      clear HF
      go_wp2_with fail
      refine HFm.out.mono ?_
      rintro e w7 ⟨rfl, hb_⟩
      have l7 := hb_.size
      have HI7 := Lib.hid (Tr.Ints.of_lt (HI6.out.below hb_) l7)
      have HJ7 := Lib.hid (Tr.Ints.of_lt (HJ6.out.below hb_) l7)
      have HB7 := Lib.hid (HB6.out.trans (hb_.mono (by have := HB6.out.size; omega)))
      have lR : R1.length ≤ 200 ∧ R2.length ≤ 200 := by have := HLr.out; omega
      clear hb_
      go_wp2_with fail
      go_loopw [13] (fun i wr => ∃ k : Nat, k ≤ lc.length ∧ i = .int .i64 k ∧ Below w7.heap.size w7 wr) (fun i _ => lc.length - (intOf i).toNat)
      case atStart => exact ⟨0, by omega, rfl, Below.refl _ _⟩
      case round =>
        obtain ⟨k, hk, rfl, hbr⟩ := hrel
        have HR := Lib.hid hbr
        have lr := hbr.size
        by_cases hlt : k < lc.length
        · obtain ⟨z, hz⟩ : ∃ z, R1[k]? = some z := ⟨R1[k]'(by have := HLr.out; omega), List.getElem?_eq_getElem _⟩
          obtain ⟨ad, rfl, _, hc⟩ := (HJ7.out.below hbr) k z hz
          have HZ3 : Hid (Fits.fits b2 r2 lc = true → z = 0) := Lib.hid (fun h => HZ1.out h z (List.mem_of_getElem? hz))
          rw [hF] at HZ3
          have i0 : (0 : Int) ≤ (k : Int) := by omega
          have i1 : (k : Int) < (lc.length : Int) := by omega
          clear hz hbr
          first
          | (have hz0 : z = 0 := HZ3.out rfl
             subst hz0
             go_wp2_with fail
             go_roundw
             case rel => exact ⟨k + 1, by omega, by go_num, HR.out⟩
             case measure => simp [intOf]; omega)
          | (go_wp2_with fail
             go_roundw
             case rel => exact ⟨k + 1, by omega, by go_num, HR.out⟩
             case measure => simp [intOf]; omega)
        · obtain ⟨W8, rfl⟩ : ∃ W8 : World, W8 = wr := ⟨_, rfl⟩
          have HI8 := Lib.hid (HI7.out.below hbr)
          have HB8 := Lib.hid (HB7.out.trans (hbr.mono (by have := HB7.out.size; omega)))
          clear hbr
          go_wp2_with fail
          go_loopw [14] (fun i wr => ∃ k : Nat, k ≤ R2.length ∧ i = .int .i64 k ∧ Below W8.heap.size W8 wr) (fun i _ => R2.length - (intOf i).toNat)
          case atStart => exact ⟨0, by omega, rfl, Below.refl _ _⟩
          case round =>
            obtain ⟨j, hj, rfl, hbr⟩ := hrel
            have HQ := Lib.hid hbr
            by_cases hlt2 : j < R2.length
            · obtain ⟨z, hz⟩ : ∃ z, R2[j]? = some z := ⟨R2[j], List.getElem?_eq_getElem hlt2⟩
              obtain ⟨ad, rfl, _, hc⟩ := (HI8.out.below (hbr.mono (by omega))) j z hz
              have hz1 : (z == 1) = false := beq_eq_false_iff_ne.2 (HZ2.out z (List.mem_of_getElem? hz))
              have i0 : (0 : Int) ≤ (j : Int) := by omega
              have i1 : (j : Int) < (R2.length : Int) := by omega
              clear hz hbr
              go_wp2_with fail
              go_roundw
              case rel => exact ⟨j + 1, by omega, by go_num, HQ.out⟩
              case measure => simp [intOf]; omega
            · clear hbr
              go_wp2_with fail
              go_ret
              exact ⟨rfl, HB8.out.trans (HQ.out.mono (by have := HB8.out.size; omega))⟩
end MtW
end Go.Proofs.Ytgpknoakkkkapaa
