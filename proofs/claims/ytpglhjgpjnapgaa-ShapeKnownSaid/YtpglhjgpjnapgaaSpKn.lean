/- ShapeKnown: the walk of the law. -/
import Derived.Test.YtpglhjgpjnapgaaSpL
import Derived.Deep.DeepCutAuto
namespace Go.Proofs.Ytpglhjgpjnapgaa
set_option linter.unusedSimpArgs false
set_option linter.unusedVariables false
open Go.RowKit
namespace SpW
theorem New_bad (w : World) : Calls Try.prog 9 #[.agg #[.int .i64 0, .int .i64 1]] w fun e w' => e = .returned (.tuple #[.agg #[.int .i64 0, .int .i64 0], .int .i64 130]) ∧ Below w.heap.size w w' := New_any 0 1 w
theorem Elig_slow (w : World) : Calls Try.prog 13 #[.agg #[.int .i64 1048576, .int .i64 1], .agg #[.int .i64 0, .int .i64 0], .int .i64 0, .int .i64 1048576] w fun e w' => e = .returned (.tuple #[.int .i64 1099511627776, .agg #[.int .i64 1099511627776, .int .i64 0], .int .i64 0]) ∧ Below w.heap.size w w' := Elig_any 1048576 1 0 0 0 1048576 w
theorem Elig_slow2 (w : World) : Calls Try.prog 13 #[.agg #[.int .i64 1048576, .int .i64 1], .agg #[.int .i64 1, .int .i64 0], .int .i64 0, .int .i64 1048576] w fun e w' => e = .returned (.tuple #[.int .i64 0, .agg #[.int .i64 0, .int .i64 0], .int .i64 6]) ∧ Below w.heap.size w w' := Elig_any 1048576 1 1 0 0 1048576 w
theorem runs_nil (w : World) : Calls Try.prog 20 #[.agg #[.int .i64 100, .int .i64 131072], .slice none 0 0, .slice none 0 0] w fun e w' => e = .returned (.bool true) ∧ Below w.heap.size w w' := by
  have R := runs_any 100 131072 none [] 0 none [] 0 w (by decide) (by decide) (by decide) (by decide) (fun i x hx => by simp at hx) (fun i x hx => by simp at hx)
  exact R
theorem runs_four (w : World) : Calls Try.prog 20 #[.agg #[.int .i64 100, .int .i64 131072], .slice (some ⟨w.heap.size, 0, none⟩) 4 4, .slice (some ⟨w.heap.size + 1, 0, none⟩) 4 4] ((w.alloc (.cells #[.int .i64 3, .int .i64 100, .int .i64 4, .int .i64 100, .int .i64 5000, .int .i64 50, .int .i64 5000, .int .i64 51] 31)).alloc (.cells #[.int .i64 3, .int .i64 803, .int .i64 5000, .int .i64 5008] 3)) fun e w' => e = .returned (.bool true) ∧ Below w.heap.size w w' := by
  have hr : Sp.run 100 131072 0 (100 * 1048576) [(3, 100), (4, 100), (5000, 50), (5000, 51)] = [3, 803, 5000, 5008] := by decide
  have A1 := arr_lit w [(3, 100), (4, 100), (5000, 50), (5000, 51)] #[.int .i64 3, .int .i64 100, .int .i64 4, .int .i64 100, .int .i64 5000, .int .i64 50, .int .i64 5000, .int .i64 51] 31 rfl
  have I1 := ints_lit (w.alloc (.cells #[.int .i64 3, .int .i64 100, .int .i64 4, .int .i64 100, .int .i64 5000, .int .i64 50, .int .i64 5000, .int .i64 51] 31)) [3, 803, 5000, 5008] #[.int .i64 3, .int .i64 803, .int .i64 5000, .int .i64 5008] 3 rfl
  have A2 := (A1.below ((Below.refl _ _).alloc (by simp) (.cells #[.int .i64 3, .int .i64 803, .int .i64 5000, .int .i64 5008] 3)))
  have sz : ((w.alloc (.cells #[.int .i64 3, .int .i64 100, .int .i64 4, .int .i64 100, .int .i64 5000, .int .i64 50, .int .i64 5000, .int .i64 51] 31)).alloc (.cells #[.int .i64 3, .int .i64 803, .int .i64 5000, .int .i64 5008] 3)).heap.size = w.heap.size + 2 := by simp
  have R := runs_any 100 131072 _ [(3, 100), (4, 100), (5000, 50), (5000, 51)] 4 _ [3, 803, 5000, 5008] 4 _ (by decide) (by decide) (by decide) (by rw [hr]; decide) (A2.of_lt (by rw [sz]; omega)) (I1.of_lt (by rw [sz]; simp))
  rw [hr, decide_eq_true rfl] at R
  simp only [World.size_alloc] at R
  exact R.mono fun e w' ⟨a, b⟩ => ⟨a, Below.trans (by (repeat' (first | (with_reducible exact Below.refl _ _) | (with_reducible refine Below.alloc ?_ ?_ _) | (with_reducible refine Below.setCell ?_ ?_ _) | (with_reducible refine Below.drew ?_) | (with_reducible assumption) | omega | (simp; done) | (simp; omega)))) (b.mono (by omega))⟩
set_option maxRecDepth 100000 in
set_option maxHeartbeats 8000000 in
theorem law_Known (w : World) : Calls Try.prog 6 #[] w fun e w' => e = .returned (.bool true) ∧ Below w.heap.size w w' := by
  have A0 : Hid (Below w.heap.size w w) := Lib.hid (Below.refl _ _)
  go_enter Try.func6, Try.ntmps6
  go_wp2_with fail
  refine (chapter_any _).mono ?_
  rintro e w1 ⟨rfl, hb_⟩
  have hm_w1 : Below w.heap.size w w1 := hb_
  have q_w1 := hm_w1.size
  replace A0 := Lib.hid (A0.out.trans (hm_w1.mono A0.out.size))
  clear hm_w1
  clear hb_
  go_upto_region 3 with fail
  obtain ⟨W1, hW1⟩ : ∃ W1, ((w1.alloc (.cells #[.int .i64 100, .int .i64 131072] 23)).alloc (.cells #[.int .i64 0, .int .i64 1] 23)) = W1 := ⟨_, rfl⟩
  have hm_W1 : Below w1.heap.size w1 W1 := by rw [← hW1]; (repeat' (first | (with_reducible exact Below.refl _ _) | (with_reducible refine Below.alloc ?_ ?_ _) | (with_reducible refine Below.setCell ?_ ?_ _) | (with_reducible refine Below.drew ?_) | (with_reducible assumption) | omega | (simp; done) | (simp; omega)))
  have q_W1 : w1.heap.size + 2 ≤ W1.heap.size := by rw [← hW1]; simp
  replace A0 := Lib.hid (A0.out.trans (hm_W1.mono A0.out.size))
  have c_b_0 : W1.cell? ⟨w1.heap.size, 0, none⟩ = some (.int .i64 100) := by rw [← hW1]; simp [go_sem]
  have c_b_1 : W1.cell? ⟨w1.heap.size, 1, none⟩ = some (.int .i64 131072) := by rw [← hW1]; simp [go_sem]
  have c_e_0 : W1.cell? ⟨w1.heap.size + 1, 0, none⟩ = some (.int .i64 0) := by rw [← hW1]; simp [go_sem]
  have c_e_1 : W1.cell? ⟨w1.heap.size + 1, 1, none⟩ = some (.int .i64 1) := by rw [← hW1]; simp [go_sem]
  rw [hW1]
  have lt_W1_0_1 : w1.heap.size + 1 < W1.heap.size := by omega
  have lt_W1_0_0 : w1.heap.size < W1.heap.size := Nat.lt_of_succ_lt lt_W1_0_1
  obtain ⟨le_W1_0_0, le_W1_0_1, le_W1_0_2, le_W1_0_3, lu_W1_0_1, lu_W1_0_2, lu_W1_0_3⟩ := lts lt_W1_0_0
  clear hW1 hm_W1
  go_wp2_with fail
  go_loopw [40] (fun i wr => ∃ k : Nat, k ≤ 4 ∧ i = .int .i64 k ∧ Below W1.heap.size W1 wr) (fun i _ => 4 - (intOf i).toNat)
  case atStart => exact ⟨0, by omega, rfl, Below.refl _ _⟩
  case round =>
    obtain ⟨k, hk, rfl, hbr⟩ := hrel
    obtain ⟨wo, rfl⟩ : ∃ wo : World, wo = wr := ⟨_, rfl⟩
    have K1 := Lib.hid hbr
    have hm_wo : Below W1.heap.size W1 wo := hbr
    have q_wo := hm_wo.size
    replace c_b_0 := below_cell hm_wo c_b_0 lt_W1_0_0
    replace c_b_1 := below_cell hm_wo c_b_1 lt_W1_0_0
    replace c_e_0 := below_cell hm_wo c_e_0 lt_W1_0_1
    replace c_e_1 := below_cell hm_wo c_e_1 lt_W1_0_1
    replace A0 := Lib.hid (A0.out.trans (hm_wo.mono A0.out.size))
    have lt_wo_0_1 : w1.heap.size + 1 < wo.heap.size := by omega
    have lt_wo_0_0 : w1.heap.size < wo.heap.size := Nat.lt_of_succ_lt lt_wo_0_1
    obtain ⟨le_wo_0_0, le_wo_0_1, le_wo_0_2, le_wo_0_3, lu_wo_0_1, lu_wo_0_2, lu_wo_0_3⟩ := lts lt_wo_0_0
    clear le_W1_0_0 le_W1_0_1 le_W1_0_2 le_W1_0_3 lu_W1_0_1 lu_W1_0_2 lu_W1_0_3 lt_W1_0_0 lt_W1_0_1
    clear hm_wo
    clear hbr
    by_cases hlt : k < 4
    · skip
      obtain ⟨sl, sv, hix, hp⟩ : ∃ sl sv : Int, (∀ W, (Instr.index 56 (.agg #[.int .i64 (-1), .int .i64 0, .int .i64 1099511627777, .int .i64 0, .int .i64 0, .int .i64 (-1), .int .i64 0, .int .i64 104857601]) (.int .i64 (k : Int))).run Try.prog W = .ok (.agg #[.int .i64 sl, .int .i64 sv]) W) ∧ Sp.chkE 100 131072 sl sv = 440 ∧ Sp.chkE 0 1 sl sv = 130 := by
        have h4 : k = 0 ∨ k = 1 ∨ k = 2 ∨ k = 3 := by omega
        rcases h4 with rfl | rfl | rfl | rfl
        · exact ⟨-1, 0, fun W => by kernel_rfl, ⟨by decide, by decide⟩⟩
        · exact ⟨1099511627777, 0, fun W => by kernel_rfl, ⟨by decide, by decide⟩⟩
        · exact ⟨0, -1, fun W => by kernel_rfl, ⟨by decide, by decide⟩⟩
        · exact ⟨0, 104857601, fun W => by kernel_rfl, ⟨by decide, by decide⟩⟩
      have E1 := Lib.hid (Elig_chk 100 131072 sl sv (-1) 0 (by rw [hp.1]; decide))
      have E2 := Lib.hid (Elig_chk 0 1 sl sv (-1) 0 (by rw [hp.2]; decide))
      have E3 := Lib.hid (Check_any 100 131072 sl sv)
      have E4 := Lib.hid (Check_any 0 1 sl sv)
      rw [hp.1] at E1 E3
      rw [hp.2] at E2 E4
      clear hp
      go_wp2_with fail
      refine (E1.out _).mono ?_
      rintro e w2 ⟨rfl, hb_⟩
      have s_w2 := hb_.size
      try simp only [World.size_alloc] at s_w2
      have hm_w2 : Below wo.heap.size wo w2 := Below.trans (b := (wo.alloc (.cells #[.int .i64 sl, .int .i64 sv] 29))) (by (repeat' (first | (with_reducible exact Below.refl _ _) | (with_reducible refine Below.alloc ?_ ?_ _) | (with_reducible refine Below.setCell ?_ ?_ _) | (with_reducible refine Below.drew ?_) | (with_reducible assumption) | omega | (simp; done) | (simp; omega)))) (hb_.mono (by first | (simp; done) | (simp; omega)))
      have q_w2 := hm_w2.size
      replace c_b_0 := below_cell hm_w2 c_b_0 lt_wo_0_0
      replace c_b_1 := below_cell hm_w2 c_b_1 lt_wo_0_0
      replace c_e_0 := below_cell hm_w2 c_e_0 lt_wo_0_1
      replace c_e_1 := below_cell hm_w2 c_e_1 lt_wo_0_1
      replace A0 := Lib.hid (A0.out.trans (hm_w2.mono A0.out.size))
      replace K1 := Lib.hid (K1.out.trans (hm_w2.mono K1.out.size))
      have c_s_0 : w2.cell? ⟨wo.heap.size, 0, none⟩ = some (.int .i64 sl) := by rw [(bcell hb_).1 _ _ (by first | (simp; done) | (simp; omega))]; simp [go_sem]
      have c_s_1 : w2.cell? ⟨wo.heap.size, 1, none⟩ = some (.int .i64 sv) := by rw [(bcell hb_).1 _ _ (by first | (simp; done) | (simp; omega))]; simp [go_sem]
      have lt_w2_0_1 : w1.heap.size + 1 < w2.heap.size := by omega
      have lt_w2_0_0 : w1.heap.size < w2.heap.size := Nat.lt_of_succ_lt lt_w2_0_1
      obtain ⟨le_w2_0_0, le_w2_0_1, le_w2_0_2, le_w2_0_3, lu_w2_0_1, lu_w2_0_2, lu_w2_0_3⟩ := lts lt_w2_0_0
      have lt_w2_1_0 : wo.heap.size < w2.heap.size := by omega
      obtain ⟨le_w2_1_0, le_w2_1_1, le_w2_1_2, le_w2_1_3, lu_w2_1_1, lu_w2_1_2, lu_w2_1_3⟩ := lts lt_w2_1_0
      clear le_wo_0_0 le_wo_0_1 le_wo_0_2 le_wo_0_3 lu_wo_0_1 lu_wo_0_2 lu_wo_0_3 lt_wo_0_0 lt_wo_0_1
      clear hm_w2
      clear hb_
      go_wp2_with fail
      refine (E2.out _).mono ?_
      rintro e w3 ⟨rfl, hb_⟩
      have s_w3 := hb_.size
      try simp only [World.size_alloc] at s_w3
      have hm_w3 : Below w2.heap.size w2 w3 := Below.trans (b := (w2.alloc (.cells #[.int .i64 0, .int .i64 0] 29))) (by (repeat' (first | (with_reducible exact Below.refl _ _) | (with_reducible refine Below.alloc ?_ ?_ _) | (with_reducible refine Below.setCell ?_ ?_ _) | (with_reducible refine Below.drew ?_) | (with_reducible assumption) | omega | (simp; done) | (simp; omega)))) (hb_.mono (by first | (simp; done) | (simp; omega)))
      have q_w3 := hm_w3.size
      replace c_b_0 := below_cell hm_w3 c_b_0 lt_w2_0_0
      replace c_b_1 := below_cell hm_w3 c_b_1 lt_w2_0_0
      replace c_e_0 := below_cell hm_w3 c_e_0 lt_w2_0_1
      replace c_e_1 := below_cell hm_w3 c_e_1 lt_w2_0_1
      replace c_s_0 := below_cell hm_w3 c_s_0 lt_w2_1_0
      replace c_s_1 := below_cell hm_w3 c_s_1 lt_w2_1_0
      replace A0 := Lib.hid (A0.out.trans (hm_w3.mono A0.out.size))
      replace K1 := Lib.hid (K1.out.trans (hm_w3.mono K1.out.size))
      have lt_w3_0_1 : w1.heap.size + 1 < w3.heap.size := by omega
      have lt_w3_0_0 : w1.heap.size < w3.heap.size := Nat.lt_of_succ_lt lt_w3_0_1
      obtain ⟨le_w3_0_0, le_w3_0_1, le_w3_0_2, le_w3_0_3, lu_w3_0_1, lu_w3_0_2, lu_w3_0_3⟩ := lts lt_w3_0_0
      have lt_w3_1_0 : wo.heap.size < w3.heap.size := by omega
      obtain ⟨le_w3_1_0, le_w3_1_1, le_w3_1_2, le_w3_1_3, lu_w3_1_1, lu_w3_1_2, lu_w3_1_3⟩ := lts lt_w3_1_0
      clear le_w2_0_0 le_w2_0_1 le_w2_0_2 le_w2_0_3 lu_w2_0_1 lu_w2_0_2 lu_w2_0_3 lt_w2_0_0 lt_w2_0_1
      clear le_w2_1_0 le_w2_1_1 le_w2_1_2 le_w2_1_3 lu_w2_1_1 lu_w2_1_2 lu_w2_1_3 lt_w2_1_0
      clear hm_w3
      clear hb_
      go_wp2_with fail
      refine (E3.out _).mono ?_
      rintro e w4 ⟨rfl, hb_⟩
      have s_w4 := hb_.size
      try simp only [World.size_alloc] at s_w4
      have hm_w4 : Below w3.heap.size w3 w4 := Below.trans (b := (w3.alloc (.cells #[.int .i64 0, .int .i64 0] 29))) (by (repeat' (first | (with_reducible exact Below.refl _ _) | (with_reducible refine Below.alloc ?_ ?_ _) | (with_reducible refine Below.setCell ?_ ?_ _) | (with_reducible refine Below.drew ?_) | (with_reducible assumption) | omega | (simp; done) | (simp; omega)))) (hb_.mono (by first | (simp; done) | (simp; omega)))
      have q_w4 := hm_w4.size
      replace c_b_0 := below_cell hm_w4 c_b_0 lt_w3_0_0
      replace c_b_1 := below_cell hm_w4 c_b_1 lt_w3_0_0
      replace c_e_0 := below_cell hm_w4 c_e_0 lt_w3_0_1
      replace c_e_1 := below_cell hm_w4 c_e_1 lt_w3_0_1
      replace c_s_0 := below_cell hm_w4 c_s_0 lt_w3_1_0
      replace c_s_1 := below_cell hm_w4 c_s_1 lt_w3_1_0
      replace A0 := Lib.hid (A0.out.trans (hm_w4.mono A0.out.size))
      replace K1 := Lib.hid (K1.out.trans (hm_w4.mono K1.out.size))
      have lt_w4_0_1 : w1.heap.size + 1 < w4.heap.size := by omega
      have lt_w4_0_0 : w1.heap.size < w4.heap.size := Nat.lt_of_succ_lt lt_w4_0_1
      obtain ⟨le_w4_0_0, le_w4_0_1, le_w4_0_2, le_w4_0_3, lu_w4_0_1, lu_w4_0_2, lu_w4_0_3⟩ := lts lt_w4_0_0
      have lt_w4_1_0 : wo.heap.size < w4.heap.size := by omega
      obtain ⟨le_w4_1_0, le_w4_1_1, le_w4_1_2, le_w4_1_3, lu_w4_1_1, lu_w4_1_2, lu_w4_1_3⟩ := lts lt_w4_1_0
      clear le_w3_0_0 le_w3_0_1 le_w3_0_2 le_w3_0_3 lu_w3_0_1 lu_w3_0_2 lu_w3_0_3 lt_w3_0_0 lt_w3_0_1
      clear le_w3_1_0 le_w3_1_1 le_w3_1_2 le_w3_1_3 lu_w3_1_1 lu_w3_1_2 lu_w3_1_3 lt_w3_1_0
      clear hm_w4
      clear hb_
      go_wp2_with fail
      refine (E4.out _).mono ?_
      rintro e w5 ⟨rfl, hb_⟩
      have hm_w5 : Below w4.heap.size w4 w5 := hb_
      have q_w5 := hm_w5.size
      replace c_b_0 := below_cell hm_w5 c_b_0 lt_w4_0_0
      replace c_b_1 := below_cell hm_w5 c_b_1 lt_w4_0_0
      replace c_e_0 := below_cell hm_w5 c_e_0 lt_w4_0_1
      replace c_e_1 := below_cell hm_w5 c_e_1 lt_w4_0_1
      replace c_s_0 := below_cell hm_w5 c_s_0 lt_w4_1_0
      replace c_s_1 := below_cell hm_w5 c_s_1 lt_w4_1_0
      replace A0 := Lib.hid (A0.out.trans (hm_w5.mono A0.out.size))
      replace K1 := Lib.hid (K1.out.trans (hm_w5.mono K1.out.size))
      have lt_w5_0_1 : w1.heap.size + 1 < w5.heap.size := by omega
      have lt_w5_0_0 : w1.heap.size < w5.heap.size := Nat.lt_of_succ_lt lt_w5_0_1
      obtain ⟨le_w5_0_0, le_w5_0_1, le_w5_0_2, le_w5_0_3, lu_w5_0_1, lu_w5_0_2, lu_w5_0_3⟩ := lts lt_w5_0_0
      have lt_w5_1_0 : wo.heap.size < w5.heap.size := by omega
      obtain ⟨le_w5_1_0, le_w5_1_1, le_w5_1_2, le_w5_1_3, lu_w5_1_1, lu_w5_1_2, lu_w5_1_3⟩ := lts lt_w5_1_0
      clear le_w4_0_0 le_w4_0_1 le_w4_0_2 le_w4_0_3 lu_w4_0_1 lu_w4_0_2 lu_w4_0_3 lt_w4_0_0 lt_w4_0_1
      clear le_w4_1_0 le_w4_1_1 le_w4_1_2 le_w4_1_3 lu_w4_1_1 lu_w4_1_2 lu_w4_1_3 lt_w4_1_0
      clear hm_w5
      clear hb_
      clear hix
      go_wp2_with fail
      go_roundw
      case rel => exact ⟨k + 1, by omega, by go_num, K1.out⟩
      case measure => simp [intOf]; omega
    · go_wp2_with fail
      go_loopw [81] (fun i wr => ∃ j : Nat, j ≤ 4 ∧ i = .int .i64 j ∧ Below wo.heap.size wo wr) (fun i _ => 4 - (intOf i).toNat)
      case atStart => exact ⟨0, by omega, rfl, Below.refl _ _⟩
      case round =>
        obtain ⟨j, hj, rfl, hbr⟩ := hrel
        obtain ⟨wj, rfl⟩ : ∃ wj : World, wj = wr := ⟨_, rfl⟩
        have K2 := Lib.hid hbr
        have hm_wj : Below wo.heap.size wo wj := hbr
        have q_wj := hm_wj.size
        replace c_b_0 := below_cell hm_wj c_b_0 lt_wo_0_0
        replace c_b_1 := below_cell hm_wj c_b_1 lt_wo_0_0
        replace c_e_0 := below_cell hm_wj c_e_0 lt_wo_0_1
        replace c_e_1 := below_cell hm_wj c_e_1 lt_wo_0_1
        replace A0 := Lib.hid (A0.out.trans (hm_wj.mono A0.out.size))
        replace K1 := Lib.hid (K1.out.trans (hm_wj.mono K1.out.size))
        have lt_wj_0_1 : w1.heap.size + 1 < wj.heap.size := by omega
        have lt_wj_0_0 : w1.heap.size < wj.heap.size := Nat.lt_of_succ_lt lt_wj_0_1
        obtain ⟨le_wj_0_0, le_wj_0_1, le_wj_0_2, le_wj_0_3, lu_wj_0_1, lu_wj_0_2, lu_wj_0_3⟩ := lts lt_wj_0_0
        clear le_wo_0_0 le_wo_0_1 le_wo_0_2 le_wo_0_3 lu_wo_0_1 lu_wo_0_2 lu_wo_0_3 lt_wo_0_0 lt_wo_0_1
        clear hm_wj
        clear hbr
        by_cases hlt2 : j < 4
        · skip
          obtain ⟨xa, xz, hix, hp⟩ : ∃ xa xz : Int, (∀ W, (Instr.index 58 (.agg #[.int .i64 (-1), .int .i64 5, .int .i64 1099511627777, .int .i64 5, .int .i64 0, .int .i64 0, .int .i64 0, .int .i64 1048577]) (.int .i64 (j : Int))).run Try.prog W = .ok (.agg #[.int .i64 xa, .int .i64 xz]) W) ∧ (xa < 0 ∨ 1099511627776 < xa ∨ xz < 1 ∨ 1048576 < xz) := by
            have h4 : j = 0 ∨ j = 1 ∨ j = 2 ∨ j = 3 := by omega
            rcases h4 with rfl | rfl | rfl | rfl
            · exact ⟨-1, 5, fun W => by kernel_rfl, by decide⟩
            · exact ⟨1099511627777, 5, fun W => by kernel_rfl, by decide⟩
            · exact ⟨0, 0, fun W => by kernel_rfl, by decide⟩
            · exact ⟨0, 1048577, fun W => by kernel_rfl, by decide⟩
          have E1 := Lib.hid (Elig_arg 100 131072 0 0 xa xz (by decide) hp)
          clear hp
          go_wp2_with fail
          refine (E1.out _).mono ?_
          rintro e w2 ⟨rfl, hb_⟩
          have s_w2 := hb_.size
          try simp only [World.size_alloc] at s_w2
          have hm_w2 : Below wj.heap.size wj w2 := Below.trans (b := (wj.alloc (.cells #[.int .i64 xa, .int .i64 xz] 57))) (by (repeat' (first | (with_reducible exact Below.refl _ _) | (with_reducible refine Below.alloc ?_ ?_ _) | (with_reducible refine Below.setCell ?_ ?_ _) | (with_reducible refine Below.drew ?_) | (with_reducible assumption) | omega | (simp; done) | (simp; omega)))) (hb_.mono (by first | (simp; done) | (simp; omega)))
          have q_w2 := hm_w2.size
          replace c_b_0 := below_cell hm_w2 c_b_0 lt_wj_0_0
          replace c_b_1 := below_cell hm_w2 c_b_1 lt_wj_0_0
          replace c_e_0 := below_cell hm_w2 c_e_0 lt_wj_0_1
          replace c_e_1 := below_cell hm_w2 c_e_1 lt_wj_0_1
          replace A0 := Lib.hid (A0.out.trans (hm_w2.mono A0.out.size))
          replace K1 := Lib.hid (K1.out.trans (hm_w2.mono K1.out.size))
          replace K2 := Lib.hid (K2.out.trans (hm_w2.mono K2.out.size))
          have c_y_0 : w2.cell? ⟨wj.heap.size, 0, none⟩ = some (.int .i64 xa) := by rw [(bcell hb_).1 _ _ (by first | (simp; done) | (simp; omega))]; simp [go_sem]
          have c_y_1 : w2.cell? ⟨wj.heap.size, 1, none⟩ = some (.int .i64 xz) := by rw [(bcell hb_).1 _ _ (by first | (simp; done) | (simp; omega))]; simp [go_sem]
          have lt_w2_0_1 : w1.heap.size + 1 < w2.heap.size := by omega
          have lt_w2_0_0 : w1.heap.size < w2.heap.size := Nat.lt_of_succ_lt lt_w2_0_1
          obtain ⟨le_w2_0_0, le_w2_0_1, le_w2_0_2, le_w2_0_3, lu_w2_0_1, lu_w2_0_2, lu_w2_0_3⟩ := lts lt_w2_0_0
          have lt_w2_1_0 : wj.heap.size < w2.heap.size := by omega
          obtain ⟨le_w2_1_0, le_w2_1_1, le_w2_1_2, le_w2_1_3, lu_w2_1_1, lu_w2_1_2, lu_w2_1_3⟩ := lts lt_w2_1_0
          clear le_wj_0_0 le_wj_0_1 le_wj_0_2 le_wj_0_3 lu_wj_0_1 lu_wj_0_2 lu_wj_0_3 lt_wj_0_0 lt_wj_0_1
          clear hm_w2
          clear hb_
          clear hix
          go_wp2_with fail
          go_roundw
          case rel => exact ⟨j + 1, by omega, by go_num, K2.out.alloc K2.out.size _⟩
          case measure => simp [intOf]; omega
        · skip
          go_wp2_with fail
          refine (New_bad _).mono ?_
          rintro e w6 ⟨rfl, hb_⟩
          have hm_w6 : Below wj.heap.size wj w6 := hb_
          have q_w6 := hm_w6.size
          replace c_b_0 := below_cell hm_w6 c_b_0 lt_wj_0_0
          replace c_b_1 := below_cell hm_w6 c_b_1 lt_wj_0_0
          replace c_e_0 := below_cell hm_w6 c_e_0 lt_wj_0_1
          replace c_e_1 := below_cell hm_w6 c_e_1 lt_wj_0_1
          replace A0 := Lib.hid (A0.out.trans (hm_w6.mono A0.out.size))
          replace K1 := Lib.hid (K1.out.trans (hm_w6.mono K1.out.size))
          replace K2 := Lib.hid (K2.out.trans (hm_w6.mono K2.out.size))
          have lt_w6_0_1 : w1.heap.size + 1 < w6.heap.size := by omega
          have lt_w6_0_0 : w1.heap.size < w6.heap.size := Nat.lt_of_succ_lt lt_w6_0_1
          obtain ⟨le_w6_0_0, le_w6_0_1, le_w6_0_2, le_w6_0_3, lu_w6_0_1, lu_w6_0_2, lu_w6_0_3⟩ := lts lt_w6_0_0
          clear le_wj_0_0 le_wj_0_1 le_wj_0_2 le_wj_0_3 lu_wj_0_1 lu_wj_0_2 lu_wj_0_3 lt_wj_0_0 lt_wj_0_1
          clear hm_w6
          clear hb_
          go_wp2_with fail
          have R_ := Run_chk 0 1 (some ⟨(w6.alloc (.cells #[.int .i64 0, .int .i64 0] 29)).heap.size, 0, none⟩) 1 1 (by decide) ((w6.alloc (.cells #[.int .i64 0, .int .i64 0] 29)).alloc (.cells #[.int .i64 0, .int .i64 0] 31))
          try simp only [World.size_alloc] at R_
          refine R_.mono ?_
          clear R_
          rintro e w7 ⟨rfl, hb_⟩
          replace hb_ : Below ((w6.alloc (.cells #[.int .i64 0, .int .i64 0] 29)).alloc (.cells #[.int .i64 0, .int .i64 0] 31)).heap.size ((w6.alloc (.cells #[.int .i64 0, .int .i64 0] 29)).alloc (.cells #[.int .i64 0, .int .i64 0] 31)) w7 := hb_.mono (by first | exact Nat.le_refl _ | (simp; done) | (simp; omega))
          have s_w7 := hb_.size
          try simp only [World.size_alloc] at s_w7
          have hm_w7 : Below w6.heap.size w6 w7 := Below.trans (b := ((w6.alloc (.cells #[.int .i64 0, .int .i64 0] 29)).alloc (.cells #[.int .i64 0, .int .i64 0] 31))) (by (repeat' (first | (with_reducible exact Below.refl _ _) | (with_reducible refine Below.alloc ?_ ?_ _) | (with_reducible refine Below.setCell ?_ ?_ _) | (with_reducible refine Below.drew ?_) | (with_reducible assumption) | omega | (simp; done) | (simp; omega)))) (hb_.mono (by first | (simp; done) | (simp; omega)))
          have q_w7 := hm_w7.size
          replace c_b_0 := below_cell hm_w7 c_b_0 lt_w6_0_0
          replace c_b_1 := below_cell hm_w7 c_b_1 lt_w6_0_0
          replace c_e_0 := below_cell hm_w7 c_e_0 lt_w6_0_1
          replace c_e_1 := below_cell hm_w7 c_e_1 lt_w6_0_1
          replace A0 := Lib.hid (A0.out.trans (hm_w7.mono A0.out.size))
          replace K1 := Lib.hid (K1.out.trans (hm_w7.mono K1.out.size))
          replace K2 := Lib.hid (K2.out.trans (hm_w7.mono K2.out.size))
          have lt_w7_0_1 : w1.heap.size + 1 < w7.heap.size := by omega
          have lt_w7_0_0 : w1.heap.size < w7.heap.size := Nat.lt_of_succ_lt lt_w7_0_1
          obtain ⟨le_w7_0_0, le_w7_0_1, le_w7_0_2, le_w7_0_3, lu_w7_0_1, lu_w7_0_2, lu_w7_0_3⟩ := lts lt_w7_0_0
          clear le_w6_0_0 le_w6_0_1 le_w6_0_2 le_w6_0_3 lu_w6_0_1 lu_w6_0_2 lu_w6_0_3 lt_w6_0_0 lt_w6_0_1
          clear hm_w7
          clear hb_
          go_wp2_with fail
          have R_ := Run_trace 100 131072 (some ⟨w7.heap.size, 0, none⟩) [(5, 101), (4, 1)] 2 (by decide) (by decide) (by decide) (w7.alloc (.cells #[.int .i64 5, .int .i64 101, .int .i64 4, .int .i64 1] 31)) ((arr_lit w7 [(5, 101), (4, 1)] #[.int .i64 5, .int .i64 101, .int .i64 4, .int .i64 1] 31 rfl).of_lt (by first | exact Nat.le_refl _ | (simp; done) | (simp; omega)))
          try simp only [World.size_alloc] at R_
          refine R_.mono ?_
          clear R_
          rintro e w8 ⟨rfl, hb_⟩
          replace hb_ : Below (w7.alloc (.cells #[.int .i64 5, .int .i64 101, .int .i64 4, .int .i64 1] 31)).heap.size (w7.alloc (.cells #[.int .i64 5, .int .i64 101, .int .i64 4, .int .i64 1] 31)) w8 := hb_.mono (by first | exact Nat.le_refl _ | (simp; done) | (simp; omega))
          have s_w8 := hb_.size
          try simp only [World.size_alloc] at s_w8
          have hm_w8 : Below w7.heap.size w7 w8 := Below.trans (b := (w7.alloc (.cells #[.int .i64 5, .int .i64 101, .int .i64 4, .int .i64 1] 31))) (by (repeat' (first | (with_reducible exact Below.refl _ _) | (with_reducible refine Below.alloc ?_ ?_ _) | (with_reducible refine Below.setCell ?_ ?_ _) | (with_reducible refine Below.drew ?_) | (with_reducible assumption) | omega | (simp; done) | (simp; omega)))) (hb_.mono (by first | (simp; done) | (simp; omega)))
          have q_w8 := hm_w8.size
          replace c_b_0 := below_cell hm_w8 c_b_0 lt_w7_0_0
          replace c_b_1 := below_cell hm_w8 c_b_1 lt_w7_0_0
          replace c_e_0 := below_cell hm_w8 c_e_0 lt_w7_0_1
          replace c_e_1 := below_cell hm_w8 c_e_1 lt_w7_0_1
          replace A0 := Lib.hid (A0.out.trans (hm_w8.mono A0.out.size))
          replace K1 := Lib.hid (K1.out.trans (hm_w8.mono K1.out.size))
          replace K2 := Lib.hid (K2.out.trans (hm_w8.mono K2.out.size))
          have lt_w8_0_1 : w1.heap.size + 1 < w8.heap.size := by omega
          have lt_w8_0_0 : w1.heap.size < w8.heap.size := Nat.lt_of_succ_lt lt_w8_0_1
          obtain ⟨le_w8_0_0, le_w8_0_1, le_w8_0_2, le_w8_0_3, lu_w8_0_1, lu_w8_0_2, lu_w8_0_3⟩ := lts lt_w8_0_0
          clear le_w7_0_0 le_w7_0_1 le_w7_0_2 le_w7_0_3 lu_w7_0_1 lu_w7_0_2 lu_w7_0_3 lt_w7_0_0 lt_w7_0_1
          clear hm_w8
          clear hb_
          go_wp2_with fail
          have R_ := Run_none 100 131072 (some ⟨w8.heap.size, 0, none⟩) [(1099511627776, 100), (1099511627776, 100), (1099511627776, 101)] 3 (by decide) (by decide) (by decide) (by decide) (w8.alloc (.cells #[.int .i64 1099511627776, .int .i64 100, .int .i64 1099511627776, .int .i64 100, .int .i64 1099511627776, .int .i64 101] 31)) ((arr_lit w8 [(1099511627776, 100), (1099511627776, 100), (1099511627776, 101)] #[.int .i64 1099511627776, .int .i64 100, .int .i64 1099511627776, .int .i64 100, .int .i64 1099511627776, .int .i64 101] 31 rfl).of_lt (by first | exact Nat.le_refl _ | (simp; done) | (simp; omega)))
          try simp only [World.size_alloc] at R_
          refine R_.mono ?_
          clear R_
          rintro e w9 ⟨rfl, hb_⟩
          replace hb_ : Below (w8.alloc (.cells #[.int .i64 1099511627776, .int .i64 100, .int .i64 1099511627776, .int .i64 100, .int .i64 1099511627776, .int .i64 101] 31)).heap.size (w8.alloc (.cells #[.int .i64 1099511627776, .int .i64 100, .int .i64 1099511627776, .int .i64 100, .int .i64 1099511627776, .int .i64 101] 31)) w9 := hb_.mono (by first | exact Nat.le_refl _ | (simp; done) | (simp; omega))
          have s_w9 := hb_.size
          try simp only [World.size_alloc] at s_w9
          have hm_w9 : Below w8.heap.size w8 w9 := Below.trans (b := (w8.alloc (.cells #[.int .i64 1099511627776, .int .i64 100, .int .i64 1099511627776, .int .i64 100, .int .i64 1099511627776, .int .i64 101] 31))) (by (repeat' (first | (with_reducible exact Below.refl _ _) | (with_reducible refine Below.alloc ?_ ?_ _) | (with_reducible refine Below.setCell ?_ ?_ _) | (with_reducible refine Below.drew ?_) | (with_reducible assumption) | omega | (simp; done) | (simp; omega)))) (hb_.mono (by first | (simp; done) | (simp; omega)))
          have q_w9 := hm_w9.size
          replace c_b_0 := below_cell hm_w9 c_b_0 lt_w8_0_0
          replace c_b_1 := below_cell hm_w9 c_b_1 lt_w8_0_0
          replace c_e_0 := below_cell hm_w9 c_e_0 lt_w8_0_1
          replace c_e_1 := below_cell hm_w9 c_e_1 lt_w8_0_1
          replace A0 := Lib.hid (A0.out.trans (hm_w9.mono A0.out.size))
          replace K1 := Lib.hid (K1.out.trans (hm_w9.mono K1.out.size))
          replace K2 := Lib.hid (K2.out.trans (hm_w9.mono K2.out.size))
          have lt_w9_0_1 : w1.heap.size + 1 < w9.heap.size := by omega
          have lt_w9_0_0 : w1.heap.size < w9.heap.size := Nat.lt_of_succ_lt lt_w9_0_1
          obtain ⟨le_w9_0_0, le_w9_0_1, le_w9_0_2, le_w9_0_3, lu_w9_0_1, lu_w9_0_2, lu_w9_0_3⟩ := lts lt_w9_0_0
          clear le_w8_0_0 le_w8_0_1 le_w8_0_2 le_w8_0_3 lu_w8_0_1 lu_w8_0_2 lu_w8_0_3 lt_w8_0_0 lt_w8_0_1
          clear hm_w9
          clear hb_
          go_wp2_with fail
          have R_ := Run_big 100 131072 (some ⟨w9.heap.size, 0, none⟩) [(1099511627776, 100), (1099511627776, 1)] 2 (by decide) (by decide) (by decide) (by decide) (w9.alloc (.cells #[.int .i64 1099511627776, .int .i64 100, .int .i64 1099511627776, .int .i64 1] 31)) ((arr_lit w9 [(1099511627776, 100), (1099511627776, 1)] #[.int .i64 1099511627776, .int .i64 100, .int .i64 1099511627776, .int .i64 1] 31 rfl).of_lt (by first | exact Nat.le_refl _ | (simp; done) | (simp; omega)))
          try simp only [World.size_alloc] at R_
          refine R_.mono ?_
          clear R_
          rintro e w10 ⟨rfl, hb_⟩
          replace hb_ : Below (w9.alloc (.cells #[.int .i64 1099511627776, .int .i64 100, .int .i64 1099511627776, .int .i64 1] 31)).heap.size (w9.alloc (.cells #[.int .i64 1099511627776, .int .i64 100, .int .i64 1099511627776, .int .i64 1] 31)) w10 := hb_.mono (by first | exact Nat.le_refl _ | (simp; done) | (simp; omega))
          have s_w10 := hb_.size
          try simp only [World.size_alloc] at s_w10
          have hm_w10 : Below w9.heap.size w9 w10 := Below.trans (b := (w9.alloc (.cells #[.int .i64 1099511627776, .int .i64 100, .int .i64 1099511627776, .int .i64 1] 31))) (by (repeat' (first | (with_reducible exact Below.refl _ _) | (with_reducible refine Below.alloc ?_ ?_ _) | (with_reducible refine Below.setCell ?_ ?_ _) | (with_reducible refine Below.drew ?_) | (with_reducible assumption) | omega | (simp; done) | (simp; omega)))) (hb_.mono (by first | (simp; done) | (simp; omega)))
          have q_w10 := hm_w10.size
          replace c_b_0 := below_cell hm_w10 c_b_0 lt_w9_0_0
          replace c_b_1 := below_cell hm_w10 c_b_1 lt_w9_0_0
          replace c_e_0 := below_cell hm_w10 c_e_0 lt_w9_0_1
          replace c_e_1 := below_cell hm_w10 c_e_1 lt_w9_0_1
          replace A0 := Lib.hid (A0.out.trans (hm_w10.mono A0.out.size))
          replace K1 := Lib.hid (K1.out.trans (hm_w10.mono K1.out.size))
          replace K2 := Lib.hid (K2.out.trans (hm_w10.mono K2.out.size))
          have lt_w10_0_1 : w1.heap.size + 1 < w10.heap.size := by omega
          have lt_w10_0_0 : w1.heap.size < w10.heap.size := Nat.lt_of_succ_lt lt_w10_0_1
          obtain ⟨le_w10_0_0, le_w10_0_1, le_w10_0_2, le_w10_0_3, lu_w10_0_1, lu_w10_0_2, lu_w10_0_3⟩ := lts lt_w10_0_0
          clear le_w9_0_0 le_w9_0_1 le_w9_0_2 le_w9_0_3 lu_w9_0_1 lu_w9_0_2 lu_w9_0_3 lt_w9_0_0 lt_w9_0_1
          clear hm_w10
          clear hb_
          go_wp2_with fail
          refine (Elig_slow _).mono ?_
          rintro e w11 ⟨rfl, hb_⟩
          have s_w11 := hb_.size
          try simp only [World.size_alloc] at s_w11
          have hm_w11 : Below w10.heap.size w10 w11 := Below.trans (b := (w10.alloc (.cells #[.int .i64 1048576, .int .i64 1] 23))) (by (repeat' (first | (with_reducible exact Below.refl _ _) | (with_reducible refine Below.alloc ?_ ?_ _) | (with_reducible refine Below.setCell ?_ ?_ _) | (with_reducible refine Below.drew ?_) | (with_reducible assumption) | omega | (simp; done) | (simp; omega)))) (hb_.mono (by first | (simp; done) | (simp; omega)))
          have q_w11 := hm_w11.size
          replace c_b_0 := below_cell hm_w11 c_b_0 lt_w10_0_0
          replace c_b_1 := below_cell hm_w11 c_b_1 lt_w10_0_0
          replace c_e_0 := below_cell hm_w11 c_e_0 lt_w10_0_1
          replace c_e_1 := below_cell hm_w11 c_e_1 lt_w10_0_1
          replace A0 := Lib.hid (A0.out.trans (hm_w11.mono A0.out.size))
          replace K1 := Lib.hid (K1.out.trans (hm_w11.mono K1.out.size))
          replace K2 := Lib.hid (K2.out.trans (hm_w11.mono K2.out.size))
          have c_sl_0 : w11.cell? ⟨w10.heap.size, 0, none⟩ = some (.int .i64 1048576) := by rw [(bcell hb_).1 _ _ (by first | (simp; done) | (simp; omega))]; simp [go_sem]
          have c_sl_1 : w11.cell? ⟨w10.heap.size, 1, none⟩ = some (.int .i64 1) := by rw [(bcell hb_).1 _ _ (by first | (simp; done) | (simp; omega))]; simp [go_sem]
          have lt_w11_0_1 : w1.heap.size + 1 < w11.heap.size := by omega
          have lt_w11_0_0 : w1.heap.size < w11.heap.size := Nat.lt_of_succ_lt lt_w11_0_1
          obtain ⟨le_w11_0_0, le_w11_0_1, le_w11_0_2, le_w11_0_3, lu_w11_0_1, lu_w11_0_2, lu_w11_0_3⟩ := lts lt_w11_0_0
          have lt_w11_1_0 : w10.heap.size < w11.heap.size := by omega
          obtain ⟨le_w11_1_0, le_w11_1_1, le_w11_1_2, le_w11_1_3, lu_w11_1_1, lu_w11_1_2, lu_w11_1_3⟩ := lts lt_w11_1_0
          clear le_w10_0_0 le_w10_0_1 le_w10_0_2 le_w10_0_3 lu_w10_0_1 lu_w10_0_2 lu_w10_0_3 lt_w10_0_0 lt_w10_0_1
          clear hm_w11
          clear hb_
          go_wp2_with fail
          refine (Elig_slow2 _).mono ?_
          rintro e w12 ⟨rfl, hb_⟩
          have s_w12 := hb_.size
          try simp only [World.size_alloc] at s_w12
          have hm_w12 : Below w11.heap.size w11 w12 := Below.trans (b := (w11.alloc (.cells #[.int .i64 1099511627776, .int .i64 0] 29))) (by (repeat' (first | (with_reducible exact Below.refl _ _) | (with_reducible refine Below.alloc ?_ ?_ _) | (with_reducible refine Below.setCell ?_ ?_ _) | (with_reducible refine Below.drew ?_) | (with_reducible assumption) | omega | (simp; done) | (simp; omega)))) (hb_.mono (by first | (simp; done) | (simp; omega)))
          have q_w12 := hm_w12.size
          replace c_b_0 := below_cell hm_w12 c_b_0 lt_w11_0_0
          replace c_b_1 := below_cell hm_w12 c_b_1 lt_w11_0_0
          replace c_e_0 := below_cell hm_w12 c_e_0 lt_w11_0_1
          replace c_e_1 := below_cell hm_w12 c_e_1 lt_w11_0_1
          replace c_sl_0 := below_cell hm_w12 c_sl_0 lt_w11_1_0
          replace c_sl_1 := below_cell hm_w12 c_sl_1 lt_w11_1_0
          replace A0 := Lib.hid (A0.out.trans (hm_w12.mono A0.out.size))
          replace K1 := Lib.hid (K1.out.trans (hm_w12.mono K1.out.size))
          replace K2 := Lib.hid (K2.out.trans (hm_w12.mono K2.out.size))
          have c_t_0 : w12.cell? ⟨w11.heap.size, 0, none⟩ = some (.int .i64 1099511627776) := by rw [(bcell hb_).1 _ _ (by first | (simp; done) | (simp; omega))]; simp [go_sem]
          have c_t_1 : w12.cell? ⟨w11.heap.size, 1, none⟩ = some (.int .i64 0) := by rw [(bcell hb_).1 _ _ (by first | (simp; done) | (simp; omega))]; simp [go_sem]
          have lt_w12_0_1 : w1.heap.size + 1 < w12.heap.size := by omega
          have lt_w12_0_0 : w1.heap.size < w12.heap.size := Nat.lt_of_succ_lt lt_w12_0_1
          obtain ⟨le_w12_0_0, le_w12_0_1, le_w12_0_2, le_w12_0_3, lu_w12_0_1, lu_w12_0_2, lu_w12_0_3⟩ := lts lt_w12_0_0
          have lt_w12_1_0 : w10.heap.size < w12.heap.size := by omega
          obtain ⟨le_w12_1_0, le_w12_1_1, le_w12_1_2, le_w12_1_3, lu_w12_1_1, lu_w12_1_2, lu_w12_1_3⟩ := lts lt_w12_1_0
          have lt_w12_2_0 : w11.heap.size < w12.heap.size := by omega
          obtain ⟨le_w12_2_0, le_w12_2_1, le_w12_2_2, le_w12_2_3, lu_w12_2_1, lu_w12_2_2, lu_w12_2_3⟩ := lts lt_w12_2_0
          clear le_w11_0_0 le_w11_0_1 le_w11_0_2 le_w11_0_3 lu_w11_0_1 lu_w11_0_2 lu_w11_0_3 lt_w11_0_0 lt_w11_0_1
          clear le_w11_1_0 le_w11_1_1 le_w11_1_2 le_w11_1_3 lu_w11_1_1 lu_w11_1_2 lu_w11_1_3 lt_w11_1_0
          clear hm_w12
          clear hb_
          go_wp2_with fail
          refine (works_any _).mono ?_
          rintro e w13 ⟨rfl, hb_⟩
          have s_w13 := hb_.size
          try simp only [World.size_alloc] at s_w13
          have hm_w13 : Below w12.heap.size w12 w13 := Below.trans (b := (w12.alloc (.cells #[.int .i64 0, .int .i64 0] 29))) (by (repeat' (first | (with_reducible exact Below.refl _ _) | (with_reducible refine Below.alloc ?_ ?_ _) | (with_reducible refine Below.setCell ?_ ?_ _) | (with_reducible refine Below.drew ?_) | (with_reducible assumption) | omega | (simp; done) | (simp; omega)))) (hb_.mono (by first | (simp; done) | (simp; omega)))
          have q_w13 := hm_w13.size
          replace c_b_0 := below_cell hm_w13 c_b_0 lt_w12_0_0
          replace c_b_1 := below_cell hm_w13 c_b_1 lt_w12_0_0
          replace c_e_0 := below_cell hm_w13 c_e_0 lt_w12_0_1
          replace c_e_1 := below_cell hm_w13 c_e_1 lt_w12_0_1
          replace c_sl_0 := below_cell hm_w13 c_sl_0 lt_w12_1_0
          replace c_sl_1 := below_cell hm_w13 c_sl_1 lt_w12_1_0
          replace c_t_0 := below_cell hm_w13 c_t_0 lt_w12_2_0
          replace c_t_1 := below_cell hm_w13 c_t_1 lt_w12_2_0
          replace A0 := Lib.hid (A0.out.trans (hm_w13.mono A0.out.size))
          replace K1 := Lib.hid (K1.out.trans (hm_w13.mono K1.out.size))
          replace K2 := Lib.hid (K2.out.trans (hm_w13.mono K2.out.size))
          have lt_w13_0_1 : w1.heap.size + 1 < w13.heap.size := by omega
          have lt_w13_0_0 : w1.heap.size < w13.heap.size := Nat.lt_of_succ_lt lt_w13_0_1
          obtain ⟨le_w13_0_0, le_w13_0_1, le_w13_0_2, le_w13_0_3, lu_w13_0_1, lu_w13_0_2, lu_w13_0_3⟩ := lts lt_w13_0_0
          have lt_w13_1_0 : w10.heap.size < w13.heap.size := by omega
          obtain ⟨le_w13_1_0, le_w13_1_1, le_w13_1_2, le_w13_1_3, lu_w13_1_1, lu_w13_1_2, lu_w13_1_3⟩ := lts lt_w13_1_0
          have lt_w13_2_0 : w11.heap.size < w13.heap.size := by omega
          obtain ⟨le_w13_2_0, le_w13_2_1, le_w13_2_2, le_w13_2_3, lu_w13_2_1, lu_w13_2_2, lu_w13_2_3⟩ := lts lt_w13_2_0
          clear le_w12_0_0 le_w12_0_1 le_w12_0_2 le_w12_0_3 lu_w12_0_1 lu_w12_0_2 lu_w12_0_3 lt_w12_0_0 lt_w12_0_1
          clear le_w12_1_0 le_w12_1_1 le_w12_1_2 le_w12_1_3 lu_w12_1_1 lu_w12_1_2 lu_w12_1_3 lt_w12_1_0
          clear le_w12_2_0 le_w12_2_1 le_w12_2_2 le_w12_2_3 lu_w12_2_1 lu_w12_2_2 lu_w12_2_3 lt_w12_2_0
          clear hm_w13
          clear hb_
          go_wp2_with fail
          have R_ := runs_nil w13
          try simp only [World.size_alloc] at R_
          refine R_.mono ?_
          clear R_
          rintro e w14 ⟨rfl, hb_⟩
          have hm_w14 : Below w13.heap.size w13 w14 := hb_
          have q_w14 := hm_w14.size
          replace c_b_0 := below_cell hm_w14 c_b_0 lt_w13_0_0
          replace c_b_1 := below_cell hm_w14 c_b_1 lt_w13_0_0
          replace c_e_0 := below_cell hm_w14 c_e_0 lt_w13_0_1
          replace c_e_1 := below_cell hm_w14 c_e_1 lt_w13_0_1
          replace c_sl_0 := below_cell hm_w14 c_sl_0 lt_w13_1_0
          replace c_sl_1 := below_cell hm_w14 c_sl_1 lt_w13_1_0
          replace c_t_0 := below_cell hm_w14 c_t_0 lt_w13_2_0
          replace c_t_1 := below_cell hm_w14 c_t_1 lt_w13_2_0
          replace A0 := Lib.hid (A0.out.trans (hm_w14.mono A0.out.size))
          replace K1 := Lib.hid (K1.out.trans (hm_w14.mono K1.out.size))
          replace K2 := Lib.hid (K2.out.trans (hm_w14.mono K2.out.size))
          have lt_w14_0_1 : w1.heap.size + 1 < w14.heap.size := by omega
          have lt_w14_0_0 : w1.heap.size < w14.heap.size := Nat.lt_of_succ_lt lt_w14_0_1
          obtain ⟨le_w14_0_0, le_w14_0_1, le_w14_0_2, le_w14_0_3, lu_w14_0_1, lu_w14_0_2, lu_w14_0_3⟩ := lts lt_w14_0_0
          have lt_w14_1_0 : w10.heap.size < w14.heap.size := by omega
          obtain ⟨le_w14_1_0, le_w14_1_1, le_w14_1_2, le_w14_1_3, lu_w14_1_1, lu_w14_1_2, lu_w14_1_3⟩ := lts lt_w14_1_0
          have lt_w14_2_0 : w11.heap.size < w14.heap.size := by omega
          obtain ⟨le_w14_2_0, le_w14_2_1, le_w14_2_2, le_w14_2_3, lu_w14_2_1, lu_w14_2_2, lu_w14_2_3⟩ := lts lt_w14_2_0
          clear le_w13_0_0 le_w13_0_1 le_w13_0_2 le_w13_0_3 lu_w13_0_1 lu_w13_0_2 lu_w13_0_3 lt_w13_0_0 lt_w13_0_1
          clear le_w13_1_0 le_w13_1_1 le_w13_1_2 le_w13_1_3 lu_w13_1_1 lu_w13_1_2 lu_w13_1_3 lt_w13_1_0
          clear le_w13_2_0 le_w13_2_1 le_w13_2_2 le_w13_2_3 lu_w13_2_1 lu_w13_2_2 lu_w13_2_3 lt_w13_2_0
          clear hm_w14
          clear hb_
          go_wp2_with fail
          have R_ := runs_four w14
          try simp only [World.size_alloc] at R_
          refine R_.mono ?_
          clear R_
          rintro e w15 ⟨rfl, hb_⟩
          have hm_w15 : Below w14.heap.size w14 w15 := hb_
          have q_w15 := hm_w15.size
          replace c_b_0 := below_cell hm_w15 c_b_0 lt_w14_0_0
          replace c_b_1 := below_cell hm_w15 c_b_1 lt_w14_0_0
          replace c_e_0 := below_cell hm_w15 c_e_0 lt_w14_0_1
          replace c_e_1 := below_cell hm_w15 c_e_1 lt_w14_0_1
          replace c_sl_0 := below_cell hm_w15 c_sl_0 lt_w14_1_0
          replace c_sl_1 := below_cell hm_w15 c_sl_1 lt_w14_1_0
          replace c_t_0 := below_cell hm_w15 c_t_0 lt_w14_2_0
          replace c_t_1 := below_cell hm_w15 c_t_1 lt_w14_2_0
          replace A0 := Lib.hid (A0.out.trans (hm_w15.mono A0.out.size))
          replace K1 := Lib.hid (K1.out.trans (hm_w15.mono K1.out.size))
          replace K2 := Lib.hid (K2.out.trans (hm_w15.mono K2.out.size))
          have lt_w15_0_1 : w1.heap.size + 1 < w15.heap.size := by omega
          have lt_w15_0_0 : w1.heap.size < w15.heap.size := Nat.lt_of_succ_lt lt_w15_0_1
          obtain ⟨le_w15_0_0, le_w15_0_1, le_w15_0_2, le_w15_0_3, lu_w15_0_1, lu_w15_0_2, lu_w15_0_3⟩ := lts lt_w15_0_0
          have lt_w15_1_0 : w10.heap.size < w15.heap.size := by omega
          obtain ⟨le_w15_1_0, le_w15_1_1, le_w15_1_2, le_w15_1_3, lu_w15_1_1, lu_w15_1_2, lu_w15_1_3⟩ := lts lt_w15_1_0
          have lt_w15_2_0 : w11.heap.size < w15.heap.size := by omega
          obtain ⟨le_w15_2_0, le_w15_2_1, le_w15_2_2, le_w15_2_3, lu_w15_2_1, lu_w15_2_2, lu_w15_2_3⟩ := lts lt_w15_2_0
          clear le_w14_0_0 le_w14_0_1 le_w14_0_2 le_w14_0_3 lu_w14_0_1 lu_w14_0_2 lu_w14_0_3 lt_w14_0_0 lt_w14_0_1
          clear le_w14_1_0 le_w14_1_1 le_w14_1_2 le_w14_1_3 lu_w14_1_1 lu_w14_1_2 lu_w14_1_3 lt_w14_1_0
          clear le_w14_2_0 le_w14_2_1 le_w14_2_2 le_w14_2_3 lu_w14_2_1 lu_w14_2_2 lu_w14_2_3 lt_w14_2_0
          clear hm_w15
          clear hb_
          go_wp2_with fail
          go_ret
          exact ⟨rfl, A0.out⟩
end SpW
end Go.Proofs.Ytpglhjgpjnapgaa
