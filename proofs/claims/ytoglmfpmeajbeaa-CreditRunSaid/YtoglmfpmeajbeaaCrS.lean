/- Credit-based shapers: the walk of Step. -/
import Derived.Test.YtoglmfpmeajbeaaCrF
import Derived.Test.YtoglmfpmeajbeaaMem
namespace Go.Proofs.Ytoglmfpmeajbeaa
set_option linter.unusedSimpArgs false
set_option linter.unusedVariables false
open Go.RowKit
namespace CrW
set_option maxRecDepth 100000
set_option maxHeartbeats 4000000
theorem Check_b (r p : Int) (w : World) : Calls Try.prog 9 #[.agg #[.int .i64 r, .int .i64 p]] w fun e w' => e = .returned (.int .i64 (Cr.chk r p)) ∧ Below w.heap.size w w' :=
  (Check_any r p w).mono fun _ _ ⟨a, b⟩ => ⟨a, b ▸ (Below.refl _ _).alloc (Nat.le_refl _) _⟩
theorem CheckState_b (a l : Int) (w : World) : Calls Try.prog 11 #[.agg #[.int .i64 a, .int .i64 l]] w fun e w' => e = .returned (.int .i64 (Cr.stChk a l)) ∧ Below w.heap.size w w' :=
  (CheckState_any a l w).mono fun _ _ ⟨a, b⟩ => ⟨a, b ▸ (Below.refl _ _).alloc (Nat.le_refl _) _⟩
theorem Step_c (r p a l t free size : Int) (h : Cr.ok r p = false) (w : World) :
    Calls Try.prog 13 #[.agg #[.int .i64 r, .int .i64 p], .agg #[.int .i64 a, .int .i64 l], .int .i64 t, .int .i64 free, .int .i64 size] w fun e w' => e = .returned (.tuple #[.int .i64 0, .agg #[.int .i64 0, .int .i64 0], .int .i64 450]) ∧ Below w.heap.size w w' := by
  have C1 := Check_b r p
  rw [show Cr.chk r p = 450 by unfold Cr.chk; rw [h]; rfl] at C1
  have C1 := Lib.hid C1
  clear h
  have A0 : Hid (Below w.heap.size w w) := Lib.hid (Below.refl _ _)
  go_enter Try.func13, Try.ntmps13
  go_wp2_with fail
  refine (C1.out _).mono ?_
  rintro e w1 ⟨rfl, hb_⟩
  have s_w1 := hb_.size
  try simp only [World.size_alloc] at s_w1
  have hm_w1 : Below w.heap.size w w1 := Below.trans (b := (((w.alloc (.cells #[.int .i64 r, .int .i64 p] 23)).alloc (.cells #[.int .i64 a, .int .i64 l] 25)).alloc (.cells #[.int .i64 0, .int .i64 0] 25))) (by (repeat' (first | (with_reducible exact Below.refl _ _) | (with_reducible refine Below.alloc ?_ ?_ _) | (with_reducible refine Below.setCell ?_ ?_ _) | (with_reducible refine Below.drew ?_) | (with_reducible assumption) | omega | (simp; done) | (simp; omega)))) (hb_.mono (by first | (simp; done) | (simp; omega)))
  have q_w1 := hm_w1.size
  replace A0 := Lib.hid (A0.out.trans (hm_w1.mono A0.out.size))
  have c_s_0 : w1.cell? ⟨w.heap.size, 0, none⟩ = some (.int .i64 r) := by rw [(bcell hb_).1 _ _ (by first | (simp; done) | (simp; omega))]; simp [go_sem]
  have c_s_1 : w1.cell? ⟨w.heap.size, 1, none⟩ = some (.int .i64 p) := by rw [(bcell hb_).1 _ _ (by first | (simp; done) | (simp; omega))]; simp [go_sem]
  have c_c_0 : w1.cell? ⟨w.heap.size + 1, 0, none⟩ = some (.int .i64 a) := by rw [(bcell hb_).1 _ _ (by first | (simp; done) | (simp; omega))]; simp [go_sem]
  have c_c_1 : w1.cell? ⟨w.heap.size + 1, 1, none⟩ = some (.int .i64 l) := by rw [(bcell hb_).1 _ _ (by first | (simp; done) | (simp; omega))]; simp [go_sem]
  have c_e_0 : w1.cell? ⟨w.heap.size + 1 + 1, 0, none⟩ = some (.int .i64 0) := by rw [(bcell hb_).1 _ _ (by first | (simp; done) | (simp; omega))]; simp [go_sem]
  have f_e_0 : w1.frozen? ⟨w.heap.size + 1 + 1, 0, none⟩ = false := by rw [(bcell hb_).2 _ _ (by first | (simp; done) | (simp; omega))]; simp [go_sem]
  have c_e_1 : w1.cell? ⟨w.heap.size + 1 + 1, 1, none⟩ = some (.int .i64 0) := by rw [(bcell hb_).1 _ _ (by first | (simp; done) | (simp; omega))]; simp [go_sem]
  have f_e_1 : w1.frozen? ⟨w.heap.size + 1 + 1, 1, none⟩ = false := by rw [(bcell hb_).2 _ _ (by first | (simp; done) | (simp; omega))]; simp [go_sem]
  have lt_w1_0_2 : w.heap.size + 1 + 1 < w1.heap.size := by omega
  have lt_w1_0_1 : w.heap.size + 1 < w1.heap.size := Nat.lt_of_succ_lt lt_w1_0_2
  have lt_w1_0_0 : w.heap.size < w1.heap.size := Nat.lt_of_succ_lt lt_w1_0_1
  obtain ⟨le_w1_0_0, le_w1_0_1, le_w1_0_2, le_w1_0_3, lu_w1_0_1, lu_w1_0_2, lu_w1_0_3⟩ := lts lt_w1_0_0
  clear hm_w1
  clear hb_
  go_wp2_with fail
  go_region
  go_wp2_with fail
  exact bodyPost_ret (v := .tuple #[.int .i64 0, .agg #[.int .i64 0, .int .i64 0], .int .i64 450]) (by simp [results, Try.results13, go_sem, c_e_0, c_e_1]) rfl ⟨rfl, by have hb := A0.out; have := hb.size; (repeat' (first | (with_reducible exact Below.refl _ _) | (with_reducible refine Below.alloc ?_ ?_ _) | (with_reducible refine Below.setCell ?_ ?_ _) | (with_reducible refine Below.drew ?_) | (with_reducible assumption) | omega | (simp; done) | (simp; omega)))⟩
theorem Step_s (r p a l t free size : Int) (h : Cr.ok r p = true) (h2 : Cr.stOk a l = false) (w : World) :
    Calls Try.prog 13 #[.agg #[.int .i64 r, .int .i64 p], .agg #[.int .i64 a, .int .i64 l], .int .i64 t, .int .i64 free, .int .i64 size] w fun e w' => e = .returned (.tuple #[.int .i64 0, .agg #[.int .i64 0, .int .i64 0], .int .i64 450]) ∧ Below w.heap.size w w' := by
  have C1 := Check_b r p
  rw [show Cr.chk r p = 0 by unfold Cr.chk; rw [h]; rfl] at C1
  have C1 := Lib.hid C1
  have C2 := CheckState_b a l
  rw [show Cr.stChk a l = 450 by unfold Cr.stChk; rw [h2]; rfl] at C2
  have C2 := Lib.hid C2
  clear h h2
  have A0 : Hid (Below w.heap.size w w) := Lib.hid (Below.refl _ _)
  go_enter Try.func13, Try.ntmps13
  go_wp2_with fail
  refine (C1.out _).mono ?_
  rintro e w1 ⟨rfl, hb_⟩
  have s_w1 := hb_.size
  try simp only [World.size_alloc] at s_w1
  have hm_w1 : Below w.heap.size w w1 := Below.trans (b := (((w.alloc (.cells #[.int .i64 r, .int .i64 p] 23)).alloc (.cells #[.int .i64 a, .int .i64 l] 25)).alloc (.cells #[.int .i64 0, .int .i64 0] 25))) (by (repeat' (first | (with_reducible exact Below.refl _ _) | (with_reducible refine Below.alloc ?_ ?_ _) | (with_reducible refine Below.setCell ?_ ?_ _) | (with_reducible refine Below.drew ?_) | (with_reducible assumption) | omega | (simp; done) | (simp; omega)))) (hb_.mono (by first | (simp; done) | (simp; omega)))
  have q_w1 := hm_w1.size
  replace A0 := Lib.hid (A0.out.trans (hm_w1.mono A0.out.size))
  have c_s_0 : w1.cell? ⟨w.heap.size, 0, none⟩ = some (.int .i64 r) := by rw [(bcell hb_).1 _ _ (by first | (simp; done) | (simp; omega))]; simp [go_sem]
  have c_s_1 : w1.cell? ⟨w.heap.size, 1, none⟩ = some (.int .i64 p) := by rw [(bcell hb_).1 _ _ (by first | (simp; done) | (simp; omega))]; simp [go_sem]
  have c_c_0 : w1.cell? ⟨w.heap.size + 1, 0, none⟩ = some (.int .i64 a) := by rw [(bcell hb_).1 _ _ (by first | (simp; done) | (simp; omega))]; simp [go_sem]
  have c_c_1 : w1.cell? ⟨w.heap.size + 1, 1, none⟩ = some (.int .i64 l) := by rw [(bcell hb_).1 _ _ (by first | (simp; done) | (simp; omega))]; simp [go_sem]
  have c_e_0 : w1.cell? ⟨w.heap.size + 1 + 1, 0, none⟩ = some (.int .i64 0) := by rw [(bcell hb_).1 _ _ (by first | (simp; done) | (simp; omega))]; simp [go_sem]
  have f_e_0 : w1.frozen? ⟨w.heap.size + 1 + 1, 0, none⟩ = false := by rw [(bcell hb_).2 _ _ (by first | (simp; done) | (simp; omega))]; simp [go_sem]
  have c_e_1 : w1.cell? ⟨w.heap.size + 1 + 1, 1, none⟩ = some (.int .i64 0) := by rw [(bcell hb_).1 _ _ (by first | (simp; done) | (simp; omega))]; simp [go_sem]
  have f_e_1 : w1.frozen? ⟨w.heap.size + 1 + 1, 1, none⟩ = false := by rw [(bcell hb_).2 _ _ (by first | (simp; done) | (simp; omega))]; simp [go_sem]
  have lt_w1_0_2 : w.heap.size + 1 + 1 < w1.heap.size := by omega
  have lt_w1_0_1 : w.heap.size + 1 < w1.heap.size := Nat.lt_of_succ_lt lt_w1_0_2
  have lt_w1_0_0 : w.heap.size < w1.heap.size := Nat.lt_of_succ_lt lt_w1_0_1
  obtain ⟨le_w1_0_0, le_w1_0_1, le_w1_0_2, le_w1_0_3, lu_w1_0_1, lu_w1_0_2, lu_w1_0_3⟩ := lts lt_w1_0_0
  clear hm_w1
  clear hb_
  go_wp2_with fail
  refine (C2.out _).mono ?_
  rintro e w2 ⟨rfl, hb_⟩
  have hm_w2 : Below w1.heap.size w1 w2 := hb_
  have q_w2 := hm_w2.size
  replace c_s_0 := below_cell hm_w2 c_s_0 lt_w1_0_0
  replace c_s_1 := below_cell hm_w2 c_s_1 lt_w1_0_0
  replace c_c_0 := below_cell hm_w2 c_c_0 lt_w1_0_1
  replace c_c_1 := below_cell hm_w2 c_c_1 lt_w1_0_1
  replace c_e_0 := below_cell hm_w2 c_e_0 lt_w1_0_2
  replace f_e_0 := (hm_w2.frozen (p := ⟨w.heap.size + 1 + 1, 0, none⟩) lt_w1_0_2).trans f_e_0
  replace c_e_1 := below_cell hm_w2 c_e_1 lt_w1_0_2
  replace f_e_1 := (hm_w2.frozen (p := ⟨w.heap.size + 1 + 1, 1, none⟩) lt_w1_0_2).trans f_e_1
  replace A0 := Lib.hid (A0.out.trans (hm_w2.mono A0.out.size))
  have lt_w2_0_2 : w.heap.size + 1 + 1 < w2.heap.size := by omega
  have lt_w2_0_1 : w.heap.size + 1 < w2.heap.size := Nat.lt_of_succ_lt lt_w2_0_2
  have lt_w2_0_0 : w.heap.size < w2.heap.size := Nat.lt_of_succ_lt lt_w2_0_1
  obtain ⟨le_w2_0_0, le_w2_0_1, le_w2_0_2, le_w2_0_3, lu_w2_0_1, lu_w2_0_2, lu_w2_0_3⟩ := lts lt_w2_0_0
  clear le_w1_0_0 le_w1_0_1 le_w1_0_2 le_w1_0_3 lu_w1_0_1 lu_w1_0_2 lu_w1_0_3 lt_w1_0_0 lt_w1_0_1 lt_w1_0_2
  clear hm_w2
  clear hb_
  go_wp2_with fail
  go_region
  go_wp2_with fail
  exact bodyPost_ret (v := .tuple #[.int .i64 0, .agg #[.int .i64 0, .int .i64 0], .int .i64 450]) (by simp [results, Try.results13, go_sem, c_e_0, c_e_1]) rfl ⟨rfl, by have hb := A0.out; have := hb.size; (repeat' (first | (with_reducible exact Below.refl _ _) | (with_reducible refine Below.alloc ?_ ?_ _) | (with_reducible refine Below.setCell ?_ ?_ _) | (with_reducible refine Below.drew ?_) | (with_reducible assumption) | omega | (simp; done) | (simp; omega)))⟩
theorem Step_a0 (r p a l t free size : Int) (h : Cr.ok r p = true) (h2 : Cr.stOk a l = true) (gk : ¬ (0 ≤ t ∧ t ≤ 1073741824)) (w : World) :
    Calls Try.prog 13 #[.agg #[.int .i64 r, .int .i64 p], .agg #[.int .i64 a, .int .i64 l], .int .i64 t, .int .i64 free, .int .i64 size] w fun e w' => e = .returned (.tuple #[.int .i64 0, .agg #[.int .i64 0, .int .i64 0], .int .i64 2]) ∧ Below w.heap.size w w' := by
  have C1 := Check_b r p
  rw [show Cr.chk r p = 0 by unfold Cr.chk; rw [h]; rfl] at C1
  have C1 := Lib.hid C1
  have C2 := CheckState_b a l
  rw [show Cr.stChk a l = 0 by unfold Cr.stChk; rw [h2]; rfl] at C2
  have C2 := Lib.hid C2
  have I1 := instant_any t
  have I2 := instant_any free
  rw [decide_eq_false gk] at I1
  have I1 := Lib.hid I1
  have I2 := Lib.hid I2
  clear h h2
  have A0 : Hid (Below w.heap.size w w) := Lib.hid (Below.refl _ _)
  go_enter Try.func13, Try.ntmps13
  go_wp2_with fail
  refine (C1.out _).mono ?_
  rintro e w1 ⟨rfl, hb_⟩
  have s_w1 := hb_.size
  try simp only [World.size_alloc] at s_w1
  have hm_w1 : Below w.heap.size w w1 := Below.trans (b := (((w.alloc (.cells #[.int .i64 r, .int .i64 p] 23)).alloc (.cells #[.int .i64 a, .int .i64 l] 25)).alloc (.cells #[.int .i64 0, .int .i64 0] 25))) (by (repeat' (first | (with_reducible exact Below.refl _ _) | (with_reducible refine Below.alloc ?_ ?_ _) | (with_reducible refine Below.setCell ?_ ?_ _) | (with_reducible refine Below.drew ?_) | (with_reducible assumption) | omega | (simp; done) | (simp; omega)))) (hb_.mono (by first | (simp; done) | (simp; omega)))
  have q_w1 := hm_w1.size
  replace A0 := Lib.hid (A0.out.trans (hm_w1.mono A0.out.size))
  have c_s_0 : w1.cell? ⟨w.heap.size, 0, none⟩ = some (.int .i64 r) := by rw [(bcell hb_).1 _ _ (by first | (simp; done) | (simp; omega))]; simp [go_sem]
  have c_s_1 : w1.cell? ⟨w.heap.size, 1, none⟩ = some (.int .i64 p) := by rw [(bcell hb_).1 _ _ (by first | (simp; done) | (simp; omega))]; simp [go_sem]
  have c_c_0 : w1.cell? ⟨w.heap.size + 1, 0, none⟩ = some (.int .i64 a) := by rw [(bcell hb_).1 _ _ (by first | (simp; done) | (simp; omega))]; simp [go_sem]
  have c_c_1 : w1.cell? ⟨w.heap.size + 1, 1, none⟩ = some (.int .i64 l) := by rw [(bcell hb_).1 _ _ (by first | (simp; done) | (simp; omega))]; simp [go_sem]
  have c_e_0 : w1.cell? ⟨w.heap.size + 1 + 1, 0, none⟩ = some (.int .i64 0) := by rw [(bcell hb_).1 _ _ (by first | (simp; done) | (simp; omega))]; simp [go_sem]
  have f_e_0 : w1.frozen? ⟨w.heap.size + 1 + 1, 0, none⟩ = false := by rw [(bcell hb_).2 _ _ (by first | (simp; done) | (simp; omega))]; simp [go_sem]
  have c_e_1 : w1.cell? ⟨w.heap.size + 1 + 1, 1, none⟩ = some (.int .i64 0) := by rw [(bcell hb_).1 _ _ (by first | (simp; done) | (simp; omega))]; simp [go_sem]
  have f_e_1 : w1.frozen? ⟨w.heap.size + 1 + 1, 1, none⟩ = false := by rw [(bcell hb_).2 _ _ (by first | (simp; done) | (simp; omega))]; simp [go_sem]
  have lt_w1_0_2 : w.heap.size + 1 + 1 < w1.heap.size := by omega
  have lt_w1_0_1 : w.heap.size + 1 < w1.heap.size := Nat.lt_of_succ_lt lt_w1_0_2
  have lt_w1_0_0 : w.heap.size < w1.heap.size := Nat.lt_of_succ_lt lt_w1_0_1
  obtain ⟨le_w1_0_0, le_w1_0_1, le_w1_0_2, le_w1_0_3, lu_w1_0_1, lu_w1_0_2, lu_w1_0_3⟩ := lts lt_w1_0_0
  clear hm_w1
  clear hb_
  go_wp2_with fail
  refine (C2.out _).mono ?_
  rintro e w2 ⟨rfl, hb_⟩
  have hm_w2 : Below w1.heap.size w1 w2 := hb_
  have q_w2 := hm_w2.size
  replace c_s_0 := below_cell hm_w2 c_s_0 lt_w1_0_0
  replace c_s_1 := below_cell hm_w2 c_s_1 lt_w1_0_0
  replace c_c_0 := below_cell hm_w2 c_c_0 lt_w1_0_1
  replace c_c_1 := below_cell hm_w2 c_c_1 lt_w1_0_1
  replace c_e_0 := below_cell hm_w2 c_e_0 lt_w1_0_2
  replace f_e_0 := (hm_w2.frozen (p := ⟨w.heap.size + 1 + 1, 0, none⟩) lt_w1_0_2).trans f_e_0
  replace c_e_1 := below_cell hm_w2 c_e_1 lt_w1_0_2
  replace f_e_1 := (hm_w2.frozen (p := ⟨w.heap.size + 1 + 1, 1, none⟩) lt_w1_0_2).trans f_e_1
  replace A0 := Lib.hid (A0.out.trans (hm_w2.mono A0.out.size))
  have lt_w2_0_2 : w.heap.size + 1 + 1 < w2.heap.size := by omega
  have lt_w2_0_1 : w.heap.size + 1 < w2.heap.size := Nat.lt_of_succ_lt lt_w2_0_2
  have lt_w2_0_0 : w.heap.size < w2.heap.size := Nat.lt_of_succ_lt lt_w2_0_1
  obtain ⟨le_w2_0_0, le_w2_0_1, le_w2_0_2, le_w2_0_3, lu_w2_0_1, lu_w2_0_2, lu_w2_0_3⟩ := lts lt_w2_0_0
  clear le_w1_0_0 le_w1_0_1 le_w1_0_2 le_w1_0_3 lu_w1_0_1 lu_w1_0_2 lu_w1_0_3 lt_w1_0_0 lt_w1_0_1 lt_w1_0_2
  clear hm_w2
  clear hb_
  go_wp2_with fail
  refine (I1.out _).mono ?_
  rintro e w9 ⟨rfl, rfl⟩
  go_wp2_with fail
  go_region
  go_wp2_with fail
  exact bodyPost_ret (v := .tuple #[.int .i64 0, .agg #[.int .i64 0, .int .i64 0], .int .i64 2]) (by simp [results, Try.results13, go_sem, c_e_0, c_e_1]) rfl ⟨rfl, by have hb := A0.out; have := hb.size; (repeat' (first | (with_reducible exact Below.refl _ _) | (with_reducible refine Below.alloc ?_ ?_ _) | (with_reducible refine Below.setCell ?_ ?_ _) | (with_reducible refine Below.drew ?_) | (with_reducible assumption) | omega | (simp; done) | (simp; omega)))⟩
theorem Step_a1 (r p a l t free size : Int) (h : Cr.ok r p = true) (h2 : Cr.stOk a l = true) (g0 : 0 ≤ t ∧ t ≤ 1073741824) (gk : ¬ (0 ≤ free ∧ free ≤ 1073741824)) (w : World) :
    Calls Try.prog 13 #[.agg #[.int .i64 r, .int .i64 p], .agg #[.int .i64 a, .int .i64 l], .int .i64 t, .int .i64 free, .int .i64 size] w fun e w' => e = .returned (.tuple #[.int .i64 0, .agg #[.int .i64 0, .int .i64 0], .int .i64 2]) ∧ Below w.heap.size w w' := by
  have C1 := Check_b r p
  rw [show Cr.chk r p = 0 by unfold Cr.chk; rw [h]; rfl] at C1
  have C1 := Lib.hid C1
  have C2 := CheckState_b a l
  rw [show Cr.stChk a l = 0 by unfold Cr.stChk; rw [h2]; rfl] at C2
  have C2 := Lib.hid C2
  have I1 := instant_any t
  have I2 := instant_any free
  rw [decide_eq_true g0] at I1
  rw [decide_eq_false gk] at I2
  have I1 := Lib.hid I1
  have I2 := Lib.hid I2
  clear h h2
  have A0 : Hid (Below w.heap.size w w) := Lib.hid (Below.refl _ _)
  go_enter Try.func13, Try.ntmps13
  go_wp2_with fail
  refine (C1.out _).mono ?_
  rintro e w1 ⟨rfl, hb_⟩
  have s_w1 := hb_.size
  try simp only [World.size_alloc] at s_w1
  have hm_w1 : Below w.heap.size w w1 := Below.trans (b := (((w.alloc (.cells #[.int .i64 r, .int .i64 p] 23)).alloc (.cells #[.int .i64 a, .int .i64 l] 25)).alloc (.cells #[.int .i64 0, .int .i64 0] 25))) (by (repeat' (first | (with_reducible exact Below.refl _ _) | (with_reducible refine Below.alloc ?_ ?_ _) | (with_reducible refine Below.setCell ?_ ?_ _) | (with_reducible refine Below.drew ?_) | (with_reducible assumption) | omega | (simp; done) | (simp; omega)))) (hb_.mono (by first | (simp; done) | (simp; omega)))
  have q_w1 := hm_w1.size
  replace A0 := Lib.hid (A0.out.trans (hm_w1.mono A0.out.size))
  have c_s_0 : w1.cell? ⟨w.heap.size, 0, none⟩ = some (.int .i64 r) := by rw [(bcell hb_).1 _ _ (by first | (simp; done) | (simp; omega))]; simp [go_sem]
  have c_s_1 : w1.cell? ⟨w.heap.size, 1, none⟩ = some (.int .i64 p) := by rw [(bcell hb_).1 _ _ (by first | (simp; done) | (simp; omega))]; simp [go_sem]
  have c_c_0 : w1.cell? ⟨w.heap.size + 1, 0, none⟩ = some (.int .i64 a) := by rw [(bcell hb_).1 _ _ (by first | (simp; done) | (simp; omega))]; simp [go_sem]
  have c_c_1 : w1.cell? ⟨w.heap.size + 1, 1, none⟩ = some (.int .i64 l) := by rw [(bcell hb_).1 _ _ (by first | (simp; done) | (simp; omega))]; simp [go_sem]
  have c_e_0 : w1.cell? ⟨w.heap.size + 1 + 1, 0, none⟩ = some (.int .i64 0) := by rw [(bcell hb_).1 _ _ (by first | (simp; done) | (simp; omega))]; simp [go_sem]
  have f_e_0 : w1.frozen? ⟨w.heap.size + 1 + 1, 0, none⟩ = false := by rw [(bcell hb_).2 _ _ (by first | (simp; done) | (simp; omega))]; simp [go_sem]
  have c_e_1 : w1.cell? ⟨w.heap.size + 1 + 1, 1, none⟩ = some (.int .i64 0) := by rw [(bcell hb_).1 _ _ (by first | (simp; done) | (simp; omega))]; simp [go_sem]
  have f_e_1 : w1.frozen? ⟨w.heap.size + 1 + 1, 1, none⟩ = false := by rw [(bcell hb_).2 _ _ (by first | (simp; done) | (simp; omega))]; simp [go_sem]
  have lt_w1_0_2 : w.heap.size + 1 + 1 < w1.heap.size := by omega
  have lt_w1_0_1 : w.heap.size + 1 < w1.heap.size := Nat.lt_of_succ_lt lt_w1_0_2
  have lt_w1_0_0 : w.heap.size < w1.heap.size := Nat.lt_of_succ_lt lt_w1_0_1
  obtain ⟨le_w1_0_0, le_w1_0_1, le_w1_0_2, le_w1_0_3, lu_w1_0_1, lu_w1_0_2, lu_w1_0_3⟩ := lts lt_w1_0_0
  clear hm_w1
  clear hb_
  go_wp2_with fail
  refine (C2.out _).mono ?_
  rintro e w2 ⟨rfl, hb_⟩
  have hm_w2 : Below w1.heap.size w1 w2 := hb_
  have q_w2 := hm_w2.size
  replace c_s_0 := below_cell hm_w2 c_s_0 lt_w1_0_0
  replace c_s_1 := below_cell hm_w2 c_s_1 lt_w1_0_0
  replace c_c_0 := below_cell hm_w2 c_c_0 lt_w1_0_1
  replace c_c_1 := below_cell hm_w2 c_c_1 lt_w1_0_1
  replace c_e_0 := below_cell hm_w2 c_e_0 lt_w1_0_2
  replace f_e_0 := (hm_w2.frozen (p := ⟨w.heap.size + 1 + 1, 0, none⟩) lt_w1_0_2).trans f_e_0
  replace c_e_1 := below_cell hm_w2 c_e_1 lt_w1_0_2
  replace f_e_1 := (hm_w2.frozen (p := ⟨w.heap.size + 1 + 1, 1, none⟩) lt_w1_0_2).trans f_e_1
  replace A0 := Lib.hid (A0.out.trans (hm_w2.mono A0.out.size))
  have lt_w2_0_2 : w.heap.size + 1 + 1 < w2.heap.size := by omega
  have lt_w2_0_1 : w.heap.size + 1 < w2.heap.size := Nat.lt_of_succ_lt lt_w2_0_2
  have lt_w2_0_0 : w.heap.size < w2.heap.size := Nat.lt_of_succ_lt lt_w2_0_1
  obtain ⟨le_w2_0_0, le_w2_0_1, le_w2_0_2, le_w2_0_3, lu_w2_0_1, lu_w2_0_2, lu_w2_0_3⟩ := lts lt_w2_0_0
  clear le_w1_0_0 le_w1_0_1 le_w1_0_2 le_w1_0_3 lu_w1_0_1 lu_w1_0_2 lu_w1_0_3 lt_w1_0_0 lt_w1_0_1 lt_w1_0_2
  clear hm_w2
  clear hb_
  go_wp2_with fail
  refine (I1.out _).mono ?_
  rintro e w9 ⟨rfl, rfl⟩
  go_wp2_with fail
  refine (I2.out _).mono ?_
  rintro e w9 ⟨rfl, rfl⟩
  go_wp2_with fail
  go_region
  go_wp2_with fail
  exact bodyPost_ret (v := .tuple #[.int .i64 0, .agg #[.int .i64 0, .int .i64 0], .int .i64 2]) (by simp [results, Try.results13, go_sem, c_e_0, c_e_1]) rfl ⟨rfl, by have hb := A0.out; have := hb.size; (repeat' (first | (with_reducible exact Below.refl _ _) | (with_reducible refine Below.alloc ?_ ?_ _) | (with_reducible refine Below.setCell ?_ ?_ _) | (with_reducible refine Below.drew ?_) | (with_reducible assumption) | omega | (simp; done) | (simp; omega)))⟩
theorem Step_a2 (r p a l t free size : Int) (h : Cr.ok r p = true) (h2 : Cr.stOk a l = true) (g0 : 0 ≤ t ∧ t ≤ 1073741824) (g1 : 0 ≤ free ∧ free ≤ 1073741824) (gk : size < 1) (w : World) :
    Calls Try.prog 13 #[.agg #[.int .i64 r, .int .i64 p], .agg #[.int .i64 a, .int .i64 l], .int .i64 t, .int .i64 free, .int .i64 size] w fun e w' => e = .returned (.tuple #[.int .i64 0, .agg #[.int .i64 0, .int .i64 0], .int .i64 2]) ∧ Below w.heap.size w w' := by
  have C1 := Check_b r p
  rw [show Cr.chk r p = 0 by unfold Cr.chk; rw [h]; rfl] at C1
  have C1 := Lib.hid C1
  have C2 := CheckState_b a l
  rw [show Cr.stChk a l = 0 by unfold Cr.stChk; rw [h2]; rfl] at C2
  have C2 := Lib.hid C2
  have I1 := instant_any t
  have I2 := instant_any free
  rw [decide_eq_true g0] at I1
  rw [decide_eq_true g1] at I2
  have I1 := Lib.hid I1
  have I2 := Lib.hid I2
  clear h h2
  have A0 : Hid (Below w.heap.size w w) := Lib.hid (Below.refl _ _)
  go_enter Try.func13, Try.ntmps13
  go_wp2_with fail
  refine (C1.out _).mono ?_
  rintro e w1 ⟨rfl, hb_⟩
  have s_w1 := hb_.size
  try simp only [World.size_alloc] at s_w1
  have hm_w1 : Below w.heap.size w w1 := Below.trans (b := (((w.alloc (.cells #[.int .i64 r, .int .i64 p] 23)).alloc (.cells #[.int .i64 a, .int .i64 l] 25)).alloc (.cells #[.int .i64 0, .int .i64 0] 25))) (by (repeat' (first | (with_reducible exact Below.refl _ _) | (with_reducible refine Below.alloc ?_ ?_ _) | (with_reducible refine Below.setCell ?_ ?_ _) | (with_reducible refine Below.drew ?_) | (with_reducible assumption) | omega | (simp; done) | (simp; omega)))) (hb_.mono (by first | (simp; done) | (simp; omega)))
  have q_w1 := hm_w1.size
  replace A0 := Lib.hid (A0.out.trans (hm_w1.mono A0.out.size))
  have c_s_0 : w1.cell? ⟨w.heap.size, 0, none⟩ = some (.int .i64 r) := by rw [(bcell hb_).1 _ _ (by first | (simp; done) | (simp; omega))]; simp [go_sem]
  have c_s_1 : w1.cell? ⟨w.heap.size, 1, none⟩ = some (.int .i64 p) := by rw [(bcell hb_).1 _ _ (by first | (simp; done) | (simp; omega))]; simp [go_sem]
  have c_c_0 : w1.cell? ⟨w.heap.size + 1, 0, none⟩ = some (.int .i64 a) := by rw [(bcell hb_).1 _ _ (by first | (simp; done) | (simp; omega))]; simp [go_sem]
  have c_c_1 : w1.cell? ⟨w.heap.size + 1, 1, none⟩ = some (.int .i64 l) := by rw [(bcell hb_).1 _ _ (by first | (simp; done) | (simp; omega))]; simp [go_sem]
  have c_e_0 : w1.cell? ⟨w.heap.size + 1 + 1, 0, none⟩ = some (.int .i64 0) := by rw [(bcell hb_).1 _ _ (by first | (simp; done) | (simp; omega))]; simp [go_sem]
  have f_e_0 : w1.frozen? ⟨w.heap.size + 1 + 1, 0, none⟩ = false := by rw [(bcell hb_).2 _ _ (by first | (simp; done) | (simp; omega))]; simp [go_sem]
  have c_e_1 : w1.cell? ⟨w.heap.size + 1 + 1, 1, none⟩ = some (.int .i64 0) := by rw [(bcell hb_).1 _ _ (by first | (simp; done) | (simp; omega))]; simp [go_sem]
  have f_e_1 : w1.frozen? ⟨w.heap.size + 1 + 1, 1, none⟩ = false := by rw [(bcell hb_).2 _ _ (by first | (simp; done) | (simp; omega))]; simp [go_sem]
  have lt_w1_0_2 : w.heap.size + 1 + 1 < w1.heap.size := by omega
  have lt_w1_0_1 : w.heap.size + 1 < w1.heap.size := Nat.lt_of_succ_lt lt_w1_0_2
  have lt_w1_0_0 : w.heap.size < w1.heap.size := Nat.lt_of_succ_lt lt_w1_0_1
  obtain ⟨le_w1_0_0, le_w1_0_1, le_w1_0_2, le_w1_0_3, lu_w1_0_1, lu_w1_0_2, lu_w1_0_3⟩ := lts lt_w1_0_0
  clear hm_w1
  clear hb_
  go_wp2_with fail
  refine (C2.out _).mono ?_
  rintro e w2 ⟨rfl, hb_⟩
  have hm_w2 : Below w1.heap.size w1 w2 := hb_
  have q_w2 := hm_w2.size
  replace c_s_0 := below_cell hm_w2 c_s_0 lt_w1_0_0
  replace c_s_1 := below_cell hm_w2 c_s_1 lt_w1_0_0
  replace c_c_0 := below_cell hm_w2 c_c_0 lt_w1_0_1
  replace c_c_1 := below_cell hm_w2 c_c_1 lt_w1_0_1
  replace c_e_0 := below_cell hm_w2 c_e_0 lt_w1_0_2
  replace f_e_0 := (hm_w2.frozen (p := ⟨w.heap.size + 1 + 1, 0, none⟩) lt_w1_0_2).trans f_e_0
  replace c_e_1 := below_cell hm_w2 c_e_1 lt_w1_0_2
  replace f_e_1 := (hm_w2.frozen (p := ⟨w.heap.size + 1 + 1, 1, none⟩) lt_w1_0_2).trans f_e_1
  replace A0 := Lib.hid (A0.out.trans (hm_w2.mono A0.out.size))
  have lt_w2_0_2 : w.heap.size + 1 + 1 < w2.heap.size := by omega
  have lt_w2_0_1 : w.heap.size + 1 < w2.heap.size := Nat.lt_of_succ_lt lt_w2_0_2
  have lt_w2_0_0 : w.heap.size < w2.heap.size := Nat.lt_of_succ_lt lt_w2_0_1
  obtain ⟨le_w2_0_0, le_w2_0_1, le_w2_0_2, le_w2_0_3, lu_w2_0_1, lu_w2_0_2, lu_w2_0_3⟩ := lts lt_w2_0_0
  clear le_w1_0_0 le_w1_0_1 le_w1_0_2 le_w1_0_3 lu_w1_0_1 lu_w1_0_2 lu_w1_0_3 lt_w1_0_0 lt_w1_0_1 lt_w1_0_2
  clear hm_w2
  clear hb_
  go_wp2_with fail
  refine (I1.out _).mono ?_
  rintro e w9 ⟨rfl, rfl⟩
  go_wp2_with fail
  refine (I2.out _).mono ?_
  rintro e w9 ⟨rfl, rfl⟩
  go_wp2_with fail
  go_region
  go_wp2_with fail
  exact bodyPost_ret (v := .tuple #[.int .i64 0, .agg #[.int .i64 0, .int .i64 0], .int .i64 2]) (by simp [results, Try.results13, go_sem, c_e_0, c_e_1]) rfl ⟨rfl, by have hb := A0.out; have := hb.size; (repeat' (first | (with_reducible exact Below.refl _ _) | (with_reducible refine Below.alloc ?_ ?_ _) | (with_reducible refine Below.setCell ?_ ?_ _) | (with_reducible refine Below.drew ?_) | (with_reducible assumption) | omega | (simp; done) | (simp; omega)))⟩
theorem Step_a3 (r p a l t free size : Int) (h : Cr.ok r p = true) (h2 : Cr.stOk a l = true) (g0 : 0 ≤ t ∧ t ≤ 1073741824) (g1 : 0 ≤ free ∧ free ≤ 1073741824) (g2 : 1 ≤ size) (gk : 1542 < size) (w : World) :
    Calls Try.prog 13 #[.agg #[.int .i64 r, .int .i64 p], .agg #[.int .i64 a, .int .i64 l], .int .i64 t, .int .i64 free, .int .i64 size] w fun e w' => e = .returned (.tuple #[.int .i64 0, .agg #[.int .i64 0, .int .i64 0], .int .i64 2]) ∧ Below w.heap.size w w' := by
  have C1 := Check_b r p
  rw [show Cr.chk r p = 0 by unfold Cr.chk; rw [h]; rfl] at C1
  have C1 := Lib.hid C1
  have C2 := CheckState_b a l
  rw [show Cr.stChk a l = 0 by unfold Cr.stChk; rw [h2]; rfl] at C2
  have C2 := Lib.hid C2
  have I1 := instant_any t
  have I2 := instant_any free
  rw [decide_eq_true g0] at I1
  rw [decide_eq_true g1] at I2
  have I1 := Lib.hid I1
  have I2 := Lib.hid I2
  clear h h2
  have A0 : Hid (Below w.heap.size w w) := Lib.hid (Below.refl _ _)
  go_enter Try.func13, Try.ntmps13
  go_wp2_with fail
  refine (C1.out _).mono ?_
  rintro e w1 ⟨rfl, hb_⟩
  have s_w1 := hb_.size
  try simp only [World.size_alloc] at s_w1
  have hm_w1 : Below w.heap.size w w1 := Below.trans (b := (((w.alloc (.cells #[.int .i64 r, .int .i64 p] 23)).alloc (.cells #[.int .i64 a, .int .i64 l] 25)).alloc (.cells #[.int .i64 0, .int .i64 0] 25))) (by (repeat' (first | (with_reducible exact Below.refl _ _) | (with_reducible refine Below.alloc ?_ ?_ _) | (with_reducible refine Below.setCell ?_ ?_ _) | (with_reducible refine Below.drew ?_) | (with_reducible assumption) | omega | (simp; done) | (simp; omega)))) (hb_.mono (by first | (simp; done) | (simp; omega)))
  have q_w1 := hm_w1.size
  replace A0 := Lib.hid (A0.out.trans (hm_w1.mono A0.out.size))
  have c_s_0 : w1.cell? ⟨w.heap.size, 0, none⟩ = some (.int .i64 r) := by rw [(bcell hb_).1 _ _ (by first | (simp; done) | (simp; omega))]; simp [go_sem]
  have c_s_1 : w1.cell? ⟨w.heap.size, 1, none⟩ = some (.int .i64 p) := by rw [(bcell hb_).1 _ _ (by first | (simp; done) | (simp; omega))]; simp [go_sem]
  have c_c_0 : w1.cell? ⟨w.heap.size + 1, 0, none⟩ = some (.int .i64 a) := by rw [(bcell hb_).1 _ _ (by first | (simp; done) | (simp; omega))]; simp [go_sem]
  have c_c_1 : w1.cell? ⟨w.heap.size + 1, 1, none⟩ = some (.int .i64 l) := by rw [(bcell hb_).1 _ _ (by first | (simp; done) | (simp; omega))]; simp [go_sem]
  have c_e_0 : w1.cell? ⟨w.heap.size + 1 + 1, 0, none⟩ = some (.int .i64 0) := by rw [(bcell hb_).1 _ _ (by first | (simp; done) | (simp; omega))]; simp [go_sem]
  have f_e_0 : w1.frozen? ⟨w.heap.size + 1 + 1, 0, none⟩ = false := by rw [(bcell hb_).2 _ _ (by first | (simp; done) | (simp; omega))]; simp [go_sem]
  have c_e_1 : w1.cell? ⟨w.heap.size + 1 + 1, 1, none⟩ = some (.int .i64 0) := by rw [(bcell hb_).1 _ _ (by first | (simp; done) | (simp; omega))]; simp [go_sem]
  have f_e_1 : w1.frozen? ⟨w.heap.size + 1 + 1, 1, none⟩ = false := by rw [(bcell hb_).2 _ _ (by first | (simp; done) | (simp; omega))]; simp [go_sem]
  have lt_w1_0_2 : w.heap.size + 1 + 1 < w1.heap.size := by omega
  have lt_w1_0_1 : w.heap.size + 1 < w1.heap.size := Nat.lt_of_succ_lt lt_w1_0_2
  have lt_w1_0_0 : w.heap.size < w1.heap.size := Nat.lt_of_succ_lt lt_w1_0_1
  obtain ⟨le_w1_0_0, le_w1_0_1, le_w1_0_2, le_w1_0_3, lu_w1_0_1, lu_w1_0_2, lu_w1_0_3⟩ := lts lt_w1_0_0
  clear hm_w1
  clear hb_
  go_wp2_with fail
  refine (C2.out _).mono ?_
  rintro e w2 ⟨rfl, hb_⟩
  have hm_w2 : Below w1.heap.size w1 w2 := hb_
  have q_w2 := hm_w2.size
  replace c_s_0 := below_cell hm_w2 c_s_0 lt_w1_0_0
  replace c_s_1 := below_cell hm_w2 c_s_1 lt_w1_0_0
  replace c_c_0 := below_cell hm_w2 c_c_0 lt_w1_0_1
  replace c_c_1 := below_cell hm_w2 c_c_1 lt_w1_0_1
  replace c_e_0 := below_cell hm_w2 c_e_0 lt_w1_0_2
  replace f_e_0 := (hm_w2.frozen (p := ⟨w.heap.size + 1 + 1, 0, none⟩) lt_w1_0_2).trans f_e_0
  replace c_e_1 := below_cell hm_w2 c_e_1 lt_w1_0_2
  replace f_e_1 := (hm_w2.frozen (p := ⟨w.heap.size + 1 + 1, 1, none⟩) lt_w1_0_2).trans f_e_1
  replace A0 := Lib.hid (A0.out.trans (hm_w2.mono A0.out.size))
  have lt_w2_0_2 : w.heap.size + 1 + 1 < w2.heap.size := by omega
  have lt_w2_0_1 : w.heap.size + 1 < w2.heap.size := Nat.lt_of_succ_lt lt_w2_0_2
  have lt_w2_0_0 : w.heap.size < w2.heap.size := Nat.lt_of_succ_lt lt_w2_0_1
  obtain ⟨le_w2_0_0, le_w2_0_1, le_w2_0_2, le_w2_0_3, lu_w2_0_1, lu_w2_0_2, lu_w2_0_3⟩ := lts lt_w2_0_0
  clear le_w1_0_0 le_w1_0_1 le_w1_0_2 le_w1_0_3 lu_w1_0_1 lu_w1_0_2 lu_w1_0_3 lt_w1_0_0 lt_w1_0_1 lt_w1_0_2
  clear hm_w2
  clear hb_
  go_wp2_with fail
  refine (I1.out _).mono ?_
  rintro e w9 ⟨rfl, rfl⟩
  go_wp2_with fail
  refine (I2.out _).mono ?_
  rintro e w9 ⟨rfl, rfl⟩
  go_wp2_with fail
  go_region
  go_wp2_with fail
  exact bodyPost_ret (v := .tuple #[.int .i64 0, .agg #[.int .i64 0, .int .i64 0], .int .i64 2]) (by simp [results, Try.results13, go_sem, c_e_0, c_e_1]) rfl ⟨rfl, by have hb := A0.out; have := hb.size; (repeat' (first | (with_reducible exact Below.refl _ _) | (with_reducible refine Below.alloc ?_ ?_ _) | (with_reducible refine Below.setCell ?_ ?_ _) | (with_reducible refine Below.drew ?_) | (with_reducible assumption) | omega | (simp; done) | (simp; omega)))⟩
theorem Step_big (r p a l t free size : Int) (h : Cr.ok r p = true) (h2 : Cr.stOk a l = true) (h3 : Cr.argOk t free size = true) (ho : Cr.stOk (Cr.outA r p a l t free size) (Cr.outL r p a l t free size) = false) (w : World) :
    Calls Try.prog 13 #[.agg #[.int .i64 r, .int .i64 p], .agg #[.int .i64 a, .int .i64 l], .int .i64 t, .int .i64 free, .int .i64 size] w fun e w' => e = .returned (.tuple #[.int .i64 0, .agg #[.int .i64 0, .int .i64 0], .int .i64 6]) ∧ Below w.heap.size w w' := by
  obtain ⟨g1, g2, g3, g4, g5, g6⟩ := Cr.argOk_iff.1 h3
  have g0 := And.intro g1 g2
  have g7 := And.intro g3 g4
  have C1 := Check_b r p
  rw [show Cr.chk r p = 0 by unfold Cr.chk; rw [h]; rfl] at C1
  have C1 := Lib.hid C1
  have C2 := CheckState_b a l
  rw [show Cr.stChk a l = 0 by unfold Cr.stChk; rw [h2]; rfl] at C2
  have C2 := Lib.hid C2
  have I1 := instant_any t
  have I2 := instant_any free
  rw [decide_eq_true g0] at I1
  rw [decide_eq_true g7] at I2
  have I1 := Lib.hid I1
  have I2 := Lib.hid I2
  have FR := Lib.hid (fun g W hB => frame_any r p a l t free size (Cr.in_of h h2 h3) g W hB)
  have CE := CheckState_b (Cr.outA r p a l t free size) (Cr.outL r p a l t free size)
  generalize Cr.outA r p a l t free size = A' at *
  generalize Cr.outL r p a l t free size = L' at *
  generalize Cr.start r a l t free = T at *
  clear h h2 h3 g0 g1 g2 g3 g4 g7
  have A0 : Hid (Below w.heap.size w w) := Lib.hid (Below.refl _ _)
  go_enter Try.func13, Try.ntmps13
  go_wp2_with fail
  refine (C1.out _).mono ?_
  rintro e w1 ⟨rfl, hb_⟩
  have s_w1 := hb_.size
  try simp only [World.size_alloc] at s_w1
  have hm_w1 : Below w.heap.size w w1 := Below.trans (b := (((w.alloc (.cells #[.int .i64 r, .int .i64 p] 23)).alloc (.cells #[.int .i64 a, .int .i64 l] 25)).alloc (.cells #[.int .i64 0, .int .i64 0] 25))) (by (repeat' (first | (with_reducible exact Below.refl _ _) | (with_reducible refine Below.alloc ?_ ?_ _) | (with_reducible refine Below.setCell ?_ ?_ _) | (with_reducible refine Below.drew ?_) | (with_reducible assumption) | omega | (simp; done) | (simp; omega)))) (hb_.mono (by first | (simp; done) | (simp; omega)))
  have q_w1 := hm_w1.size
  replace A0 := Lib.hid (A0.out.trans (hm_w1.mono A0.out.size))
  have c_s_0 : w1.cell? ⟨w.heap.size, 0, none⟩ = some (.int .i64 r) := by rw [(bcell hb_).1 _ _ (by first | (simp; done) | (simp; omega))]; simp [go_sem]
  have c_s_1 : w1.cell? ⟨w.heap.size, 1, none⟩ = some (.int .i64 p) := by rw [(bcell hb_).1 _ _ (by first | (simp; done) | (simp; omega))]; simp [go_sem]
  have c_c_0 : w1.cell? ⟨w.heap.size + 1, 0, none⟩ = some (.int .i64 a) := by rw [(bcell hb_).1 _ _ (by first | (simp; done) | (simp; omega))]; simp [go_sem]
  have c_c_1 : w1.cell? ⟨w.heap.size + 1, 1, none⟩ = some (.int .i64 l) := by rw [(bcell hb_).1 _ _ (by first | (simp; done) | (simp; omega))]; simp [go_sem]
  have c_e_0 : w1.cell? ⟨w.heap.size + 1 + 1, 0, none⟩ = some (.int .i64 0) := by rw [(bcell hb_).1 _ _ (by first | (simp; done) | (simp; omega))]; simp [go_sem]
  have f_e_0 : w1.frozen? ⟨w.heap.size + 1 + 1, 0, none⟩ = false := by rw [(bcell hb_).2 _ _ (by first | (simp; done) | (simp; omega))]; simp [go_sem]
  have c_e_1 : w1.cell? ⟨w.heap.size + 1 + 1, 1, none⟩ = some (.int .i64 0) := by rw [(bcell hb_).1 _ _ (by first | (simp; done) | (simp; omega))]; simp [go_sem]
  have f_e_1 : w1.frozen? ⟨w.heap.size + 1 + 1, 1, none⟩ = false := by rw [(bcell hb_).2 _ _ (by first | (simp; done) | (simp; omega))]; simp [go_sem]
  have lt_w1_0_2 : w.heap.size + 1 + 1 < w1.heap.size := by omega
  have lt_w1_0_1 : w.heap.size + 1 < w1.heap.size := Nat.lt_of_succ_lt lt_w1_0_2
  have lt_w1_0_0 : w.heap.size < w1.heap.size := Nat.lt_of_succ_lt lt_w1_0_1
  obtain ⟨le_w1_0_0, le_w1_0_1, le_w1_0_2, le_w1_0_3, lu_w1_0_1, lu_w1_0_2, lu_w1_0_3⟩ := lts lt_w1_0_0
  clear hm_w1
  clear hb_
  go_wp2_with fail
  refine (C2.out _).mono ?_
  rintro e w2 ⟨rfl, hb_⟩
  have hm_w2 : Below w1.heap.size w1 w2 := hb_
  have q_w2 := hm_w2.size
  replace c_s_0 := below_cell hm_w2 c_s_0 lt_w1_0_0
  replace c_s_1 := below_cell hm_w2 c_s_1 lt_w1_0_0
  replace c_c_0 := below_cell hm_w2 c_c_0 lt_w1_0_1
  replace c_c_1 := below_cell hm_w2 c_c_1 lt_w1_0_1
  replace c_e_0 := below_cell hm_w2 c_e_0 lt_w1_0_2
  replace f_e_0 := (hm_w2.frozen (p := ⟨w.heap.size + 1 + 1, 0, none⟩) lt_w1_0_2).trans f_e_0
  replace c_e_1 := below_cell hm_w2 c_e_1 lt_w1_0_2
  replace f_e_1 := (hm_w2.frozen (p := ⟨w.heap.size + 1 + 1, 1, none⟩) lt_w1_0_2).trans f_e_1
  replace A0 := Lib.hid (A0.out.trans (hm_w2.mono A0.out.size))
  have lt_w2_0_2 : w.heap.size + 1 + 1 < w2.heap.size := by omega
  have lt_w2_0_1 : w.heap.size + 1 < w2.heap.size := Nat.lt_of_succ_lt lt_w2_0_2
  have lt_w2_0_0 : w.heap.size < w2.heap.size := Nat.lt_of_succ_lt lt_w2_0_1
  obtain ⟨le_w2_0_0, le_w2_0_1, le_w2_0_2, le_w2_0_3, lu_w2_0_1, lu_w2_0_2, lu_w2_0_3⟩ := lts lt_w2_0_0
  clear le_w1_0_0 le_w1_0_1 le_w1_0_2 le_w1_0_3 lu_w1_0_1 lu_w1_0_2 lu_w1_0_3 lt_w1_0_0 lt_w1_0_1 lt_w1_0_2
  clear hm_w2
  clear hb_
  go_wp2_with fail
  refine (I1.out _).mono ?_
  rintro e w9 ⟨rfl, rfl⟩
  go_wp2_with fail
  refine (I2.out _).mono ?_
  rintro e w9 ⟨rfl, rfl⟩
  have A0_st := A0
  have c_s_0_st := Lib.hid c_s_0
  have c_s_1_st := Lib.hid c_s_1
  have c_c_0_st := Lib.hid c_c_0
  have c_c_1_st := Lib.hid c_c_1
  have c_e_0_st := Lib.hid c_e_0
  have f_e_0_st := Lib.hid f_e_0
  have c_e_1_st := Lib.hid c_e_1
  have f_e_1_st := Lib.hid f_e_1
  have KW : Hid (Below w2.heap.size w2 w2) := Lib.hid (Below.refl _ _)
  go_upto_region 6 with fail
  obtain ⟨W3, hW3⟩ : ∃ W3, (w2.alloc (.cells #[.int .i64 a, .int .i64 l, .int .i64 r, .int .i64 p] 69)) = W3 := ⟨_, rfl⟩
  have hm_W3 : Below w2.heap.size w2 W3 := by rw [← hW3]; (repeat' (first | (with_reducible exact Below.refl _ _) | (with_reducible refine Below.alloc ?_ ?_ _) | (with_reducible refine Below.setCell ?_ ?_ _) | (with_reducible refine Below.drew ?_) | (with_reducible assumption) | omega | (simp; done) | (simp; omega)))
  have q_W3 : w2.heap.size + 1 ≤ W3.heap.size := by rw [← hW3]; simp
  replace c_s_0 := below_cell hm_W3 c_s_0 lt_w2_0_0
  replace c_s_1 := below_cell hm_W3 c_s_1 lt_w2_0_0
  replace c_c_0 := below_cell hm_W3 c_c_0 lt_w2_0_1
  replace c_c_1 := below_cell hm_W3 c_c_1 lt_w2_0_1
  replace c_e_0 := below_cell hm_W3 c_e_0 lt_w2_0_2
  replace f_e_0 := (hm_W3.frozen (p := ⟨w.heap.size + 1 + 1, 0, none⟩) lt_w2_0_2).trans f_e_0
  replace c_e_1 := below_cell hm_W3 c_e_1 lt_w2_0_2
  replace f_e_1 := (hm_W3.frozen (p := ⟨w.heap.size + 1 + 1, 1, none⟩) lt_w2_0_2).trans f_e_1
  replace A0 := Lib.hid (A0.out.trans (hm_W3.mono A0.out.size))
  replace KW := Lib.hid (KW.out.trans (hm_W3.mono KW.out.size))
  have c_h_0 : W3.cell? ⟨w2.heap.size, 0, none⟩ = some (.int .i64 a) := by rw [← hW3]; simp [go_sem]
  have f_h_0 : W3.frozen? ⟨w2.heap.size, 0, none⟩ = false := by rw [← hW3]; simp [go_sem]
  have c_h_1 : W3.cell? ⟨w2.heap.size, 1, none⟩ = some (.int .i64 l) := by rw [← hW3]; simp [go_sem]
  have f_h_1 : W3.frozen? ⟨w2.heap.size, 1, none⟩ = false := by rw [← hW3]; simp [go_sem]
  have c_h_2 : W3.cell? ⟨w2.heap.size, 2, none⟩ = some (.int .i64 r) := by rw [← hW3]; simp [go_sem]
  have f_h_2 : W3.frozen? ⟨w2.heap.size, 2, none⟩ = false := by rw [← hW3]; simp [go_sem]
  have c_h_3 : W3.cell? ⟨w2.heap.size, 3, none⟩ = some (.int .i64 p) := by rw [← hW3]; simp [go_sem]
  have f_h_3 : W3.frozen? ⟨w2.heap.size, 3, none⟩ = false := by rw [← hW3]; simp [go_sem]
  rw [hW3]
  have lt_W3_0_2 : w.heap.size + 1 + 1 < W3.heap.size := by omega
  have lt_W3_0_1 : w.heap.size + 1 < W3.heap.size := Nat.lt_of_succ_lt lt_W3_0_2
  have lt_W3_0_0 : w.heap.size < W3.heap.size := Nat.lt_of_succ_lt lt_W3_0_1
  obtain ⟨le_W3_0_0, le_W3_0_1, le_W3_0_2, le_W3_0_3, lu_W3_0_1, lu_W3_0_2, lu_W3_0_3⟩ := lts lt_W3_0_0
  have lt_W3_1_0 : w2.heap.size < W3.heap.size := by omega
  obtain ⟨le_W3_1_0, le_W3_1_1, le_W3_1_2, le_W3_1_3, lu_W3_1_1, lu_W3_1_2, lu_W3_1_3⟩ := lts lt_W3_1_0
  clear le_w2_0_0 le_w2_0_1 le_w2_0_2 le_w2_0_3 lu_w2_0_1 lu_w2_0_2 lu_w2_0_3 lt_w2_0_0 lt_w2_0_1 lt_w2_0_2
  clear hW3 hm_W3
  go_wp2_with fail
  refine (FR.out w2.heap.size W3 ⟨c_h_0, c_h_1, c_h_2, c_h_3, f_h_0, f_h_1⟩).mono ?_
  rintro e w4 ⟨rfl, hB, hU⟩
  have hbX : Below w2.heap.size w2 w4 := hU.below KW.out KW.out.size (Nat.le_refl _)
  have lh : w2.heap.size < w4.heap.size := by have := hU.size; omega
  have HB := Lib.hid hB
  have HU := Lib.hid hU
  clear hB hU KW
  clear c_s_0
  clear c_s_1
  clear c_c_0
  clear c_c_1
  clear c_e_0 f_e_0
  clear c_e_1 f_e_1
  clear c_h_0 f_h_0
  clear c_h_1 f_h_1
  clear c_h_2 f_h_2
  clear c_h_3 f_h_3
  clear le_W3_0_0 le_W3_0_1 le_W3_0_2 le_W3_0_3 lu_W3_0_1 lu_W3_0_2 lu_W3_0_3 lt_W3_0_0 lt_W3_0_1 lt_W3_0_2
  clear le_W3_1_0 le_W3_1_1 le_W3_1_2 le_W3_1_3 lu_W3_1_1 lu_W3_1_2 lu_W3_1_3 lt_W3_1_0
  clear A0
  have A0 := A0_st
  clear A0_st
  have c_s_0 := c_s_0_st.out
  clear c_s_0_st
  have c_s_1 := c_s_1_st.out
  clear c_s_1_st
  have c_c_0 := c_c_0_st.out
  clear c_c_0_st
  have c_c_1 := c_c_1_st.out
  clear c_c_1_st
  have c_e_0 := c_e_0_st.out
  clear c_e_0_st
  have f_e_0 := f_e_0_st.out
  clear f_e_0_st
  have c_e_1 := c_e_1_st.out
  clear c_e_1_st
  have f_e_1 := f_e_1_st.out
  clear f_e_1_st
  have lt_w2_0_2 : w.heap.size + 1 + 1 < w2.heap.size := by omega
  have lt_w2_0_1 : w.heap.size + 1 < w2.heap.size := Nat.lt_of_succ_lt lt_w2_0_2
  have lt_w2_0_0 : w.heap.size < w2.heap.size := Nat.lt_of_succ_lt lt_w2_0_1
  obtain ⟨le_w2_0_0, le_w2_0_1, le_w2_0_2, le_w2_0_3, lu_w2_0_1, lu_w2_0_2, lu_w2_0_3⟩ := lts lt_w2_0_0
  have hm_w4 : Below w2.heap.size w2 w4 := hbX
  have q_w4 := hm_w4.size
  replace c_s_0 := below_cell hm_w4 c_s_0 lt_w2_0_0
  replace c_s_1 := below_cell hm_w4 c_s_1 lt_w2_0_0
  replace c_c_0 := below_cell hm_w4 c_c_0 lt_w2_0_1
  replace c_c_1 := below_cell hm_w4 c_c_1 lt_w2_0_1
  replace c_e_0 := below_cell hm_w4 c_e_0 lt_w2_0_2
  replace f_e_0 := (hm_w4.frozen (p := ⟨w.heap.size + 1 + 1, 0, none⟩) lt_w2_0_2).trans f_e_0
  replace c_e_1 := below_cell hm_w4 c_e_1 lt_w2_0_2
  replace f_e_1 := (hm_w4.frozen (p := ⟨w.heap.size + 1 + 1, 1, none⟩) lt_w2_0_2).trans f_e_1
  replace A0 := Lib.hid (A0.out.trans (hm_w4.mono A0.out.size))
  have lt_w4_0_2 : w.heap.size + 1 + 1 < w4.heap.size := by omega
  have lt_w4_0_1 : w.heap.size + 1 < w4.heap.size := Nat.lt_of_succ_lt lt_w4_0_2
  have lt_w4_0_0 : w.heap.size < w4.heap.size := Nat.lt_of_succ_lt lt_w4_0_1
  obtain ⟨le_w4_0_0, le_w4_0_1, le_w4_0_2, le_w4_0_3, lu_w4_0_1, lu_w4_0_2, lu_w4_0_3⟩ := lts lt_w4_0_0
  clear le_w2_0_0 le_w2_0_1 le_w2_0_2 le_w2_0_3 lu_w2_0_1 lu_w2_0_2 lu_w2_0_3 lt_w2_0_0 lt_w2_0_1 lt_w2_0_2
  clear hm_w4
  clear hbX
  obtain ⟨b0, b1, b2, b3, y0, y1⟩ := HB.out
  rw [show Cr.stChk A' L' = 450 by unfold Cr.stChk; rw [ho]; rfl] at CE
  have CE := Lib.hid CE
  clear ho
  go_wp2_with fail
  refine (CE.out _).mono ?_
  rintro e w5 ⟨rfl, hb_⟩
  have HB5 := Lib.hid (HB.out.below hb_ lh)
  have hm_w5 : Below w4.heap.size w4 w5 := hb_
  have q_w5 := hm_w5.size
  replace c_s_0 := below_cell hm_w5 c_s_0 lt_w4_0_0
  replace c_s_1 := below_cell hm_w5 c_s_1 lt_w4_0_0
  replace c_c_0 := below_cell hm_w5 c_c_0 lt_w4_0_1
  replace c_c_1 := below_cell hm_w5 c_c_1 lt_w4_0_1
  replace c_e_0 := below_cell hm_w5 c_e_0 lt_w4_0_2
  replace f_e_0 := (hm_w5.frozen (p := ⟨w.heap.size + 1 + 1, 0, none⟩) lt_w4_0_2).trans f_e_0
  replace c_e_1 := below_cell hm_w5 c_e_1 lt_w4_0_2
  replace f_e_1 := (hm_w5.frozen (p := ⟨w.heap.size + 1 + 1, 1, none⟩) lt_w4_0_2).trans f_e_1
  replace A0 := Lib.hid (A0.out.trans (hm_w5.mono A0.out.size))
  have lt_w5_0_2 : w.heap.size + 1 + 1 < w5.heap.size := by omega
  have lt_w5_0_1 : w.heap.size + 1 < w5.heap.size := Nat.lt_of_succ_lt lt_w5_0_2
  have lt_w5_0_0 : w.heap.size < w5.heap.size := Nat.lt_of_succ_lt lt_w5_0_1
  obtain ⟨le_w5_0_0, le_w5_0_1, le_w5_0_2, le_w5_0_3, lu_w5_0_1, lu_w5_0_2, lu_w5_0_3⟩ := lts lt_w5_0_0
  clear le_w4_0_0 le_w4_0_1 le_w4_0_2 le_w4_0_3 lu_w4_0_1 lu_w4_0_2 lu_w4_0_3 lt_w4_0_0 lt_w4_0_1 lt_w4_0_2
  clear hm_w5
  clear hb_ b0 b1 b2 b3 y0 y1
  obtain ⟨b0, b1, b2, b3, y0, y1⟩ := HB5.out
  go_wp2_with fail
  go_region
  all_goals go_wp2_with fail
  all_goals exact bodyPost_ret (v := .tuple #[.int .i64 0, .agg #[.int .i64 0, .int .i64 0], .int .i64 6]) (by simp [results, Try.results13, go_sem, c_e_0, c_e_1]) rfl ⟨rfl, by have hb := A0.out; have := hb.size; (repeat' (first | (with_reducible exact Below.refl _ _) | (with_reducible refine Below.alloc ?_ ?_ _) | (with_reducible refine Below.setCell ?_ ?_ _) | (with_reducible refine Below.drew ?_) | (with_reducible assumption) | omega | (simp; done) | (simp; omega)))⟩
theorem Step_good (r p a l t free size : Int) (h : Cr.ok r p = true) (h2 : Cr.stOk a l = true) (h3 : Cr.argOk t free size = true) (ho : Cr.stOk (Cr.outA r p a l t free size) (Cr.outL r p a l t free size) = true) (w : World) :
    Calls Try.prog 13 #[.agg #[.int .i64 r, .int .i64 p], .agg #[.int .i64 a, .int .i64 l], .int .i64 t, .int .i64 free, .int .i64 size] w fun e w' => e = .returned (.tuple #[.int .i64 (Cr.start r a l t free), .agg #[.int .i64 (Cr.outA r p a l t free size), .int .i64 (Cr.outL r p a l t free size)], .int .i64 0]) ∧ Below w.heap.size w w' := by
  obtain ⟨g1, g2, g3, g4, g5, g6⟩ := Cr.argOk_iff.1 h3
  have g0 := And.intro g1 g2
  have g7 := And.intro g3 g4
  have C1 := Check_b r p
  rw [show Cr.chk r p = 0 by unfold Cr.chk; rw [h]; rfl] at C1
  have C1 := Lib.hid C1
  have C2 := CheckState_b a l
  rw [show Cr.stChk a l = 0 by unfold Cr.stChk; rw [h2]; rfl] at C2
  have C2 := Lib.hid C2
  have I1 := instant_any t
  have I2 := instant_any free
  rw [decide_eq_true g0] at I1
  rw [decide_eq_true g7] at I2
  have I1 := Lib.hid I1
  have I2 := Lib.hid I2
  have FR := Lib.hid (fun g W hB => frame_any r p a l t free size (Cr.in_of h h2 h3) g W hB)
  have CE := CheckState_b (Cr.outA r p a l t free size) (Cr.outL r p a l t free size)
  generalize Cr.outA r p a l t free size = A' at *
  generalize Cr.outL r p a l t free size = L' at *
  generalize Cr.start r a l t free = T at *
  clear h h2 h3 g0 g1 g2 g3 g4 g7
  have A0 : Hid (Below w.heap.size w w) := Lib.hid (Below.refl _ _)
  go_enter Try.func13, Try.ntmps13
  go_wp2_with fail
  refine (C1.out _).mono ?_
  rintro e w1 ⟨rfl, hb_⟩
  have s_w1 := hb_.size
  try simp only [World.size_alloc] at s_w1
  have hm_w1 : Below w.heap.size w w1 := Below.trans (b := (((w.alloc (.cells #[.int .i64 r, .int .i64 p] 23)).alloc (.cells #[.int .i64 a, .int .i64 l] 25)).alloc (.cells #[.int .i64 0, .int .i64 0] 25))) (by (repeat' (first | (with_reducible exact Below.refl _ _) | (with_reducible refine Below.alloc ?_ ?_ _) | (with_reducible refine Below.setCell ?_ ?_ _) | (with_reducible refine Below.drew ?_) | (with_reducible assumption) | omega | (simp; done) | (simp; omega)))) (hb_.mono (by first | (simp; done) | (simp; omega)))
  have q_w1 := hm_w1.size
  replace A0 := Lib.hid (A0.out.trans (hm_w1.mono A0.out.size))
  have c_s_0 : w1.cell? ⟨w.heap.size, 0, none⟩ = some (.int .i64 r) := by rw [(bcell hb_).1 _ _ (by first | (simp; done) | (simp; omega))]; simp [go_sem]
  have c_s_1 : w1.cell? ⟨w.heap.size, 1, none⟩ = some (.int .i64 p) := by rw [(bcell hb_).1 _ _ (by first | (simp; done) | (simp; omega))]; simp [go_sem]
  have c_c_0 : w1.cell? ⟨w.heap.size + 1, 0, none⟩ = some (.int .i64 a) := by rw [(bcell hb_).1 _ _ (by first | (simp; done) | (simp; omega))]; simp [go_sem]
  have c_c_1 : w1.cell? ⟨w.heap.size + 1, 1, none⟩ = some (.int .i64 l) := by rw [(bcell hb_).1 _ _ (by first | (simp; done) | (simp; omega))]; simp [go_sem]
  have c_e_0 : w1.cell? ⟨w.heap.size + 1 + 1, 0, none⟩ = some (.int .i64 0) := by rw [(bcell hb_).1 _ _ (by first | (simp; done) | (simp; omega))]; simp [go_sem]
  have f_e_0 : w1.frozen? ⟨w.heap.size + 1 + 1, 0, none⟩ = false := by rw [(bcell hb_).2 _ _ (by first | (simp; done) | (simp; omega))]; simp [go_sem]
  have c_e_1 : w1.cell? ⟨w.heap.size + 1 + 1, 1, none⟩ = some (.int .i64 0) := by rw [(bcell hb_).1 _ _ (by first | (simp; done) | (simp; omega))]; simp [go_sem]
  have f_e_1 : w1.frozen? ⟨w.heap.size + 1 + 1, 1, none⟩ = false := by rw [(bcell hb_).2 _ _ (by first | (simp; done) | (simp; omega))]; simp [go_sem]
  have lt_w1_0_2 : w.heap.size + 1 + 1 < w1.heap.size := by omega
  have lt_w1_0_1 : w.heap.size + 1 < w1.heap.size := Nat.lt_of_succ_lt lt_w1_0_2
  have lt_w1_0_0 : w.heap.size < w1.heap.size := Nat.lt_of_succ_lt lt_w1_0_1
  obtain ⟨le_w1_0_0, le_w1_0_1, le_w1_0_2, le_w1_0_3, lu_w1_0_1, lu_w1_0_2, lu_w1_0_3⟩ := lts lt_w1_0_0
  clear hm_w1
  clear hb_
  go_wp2_with fail
  refine (C2.out _).mono ?_
  rintro e w2 ⟨rfl, hb_⟩
  have hm_w2 : Below w1.heap.size w1 w2 := hb_
  have q_w2 := hm_w2.size
  replace c_s_0 := below_cell hm_w2 c_s_0 lt_w1_0_0
  replace c_s_1 := below_cell hm_w2 c_s_1 lt_w1_0_0
  replace c_c_0 := below_cell hm_w2 c_c_0 lt_w1_0_1
  replace c_c_1 := below_cell hm_w2 c_c_1 lt_w1_0_1
  replace c_e_0 := below_cell hm_w2 c_e_0 lt_w1_0_2
  replace f_e_0 := (hm_w2.frozen (p := ⟨w.heap.size + 1 + 1, 0, none⟩) lt_w1_0_2).trans f_e_0
  replace c_e_1 := below_cell hm_w2 c_e_1 lt_w1_0_2
  replace f_e_1 := (hm_w2.frozen (p := ⟨w.heap.size + 1 + 1, 1, none⟩) lt_w1_0_2).trans f_e_1
  replace A0 := Lib.hid (A0.out.trans (hm_w2.mono A0.out.size))
  have lt_w2_0_2 : w.heap.size + 1 + 1 < w2.heap.size := by omega
  have lt_w2_0_1 : w.heap.size + 1 < w2.heap.size := Nat.lt_of_succ_lt lt_w2_0_2
  have lt_w2_0_0 : w.heap.size < w2.heap.size := Nat.lt_of_succ_lt lt_w2_0_1
  obtain ⟨le_w2_0_0, le_w2_0_1, le_w2_0_2, le_w2_0_3, lu_w2_0_1, lu_w2_0_2, lu_w2_0_3⟩ := lts lt_w2_0_0
  clear le_w1_0_0 le_w1_0_1 le_w1_0_2 le_w1_0_3 lu_w1_0_1 lu_w1_0_2 lu_w1_0_3 lt_w1_0_0 lt_w1_0_1 lt_w1_0_2
  clear hm_w2
  clear hb_
  go_wp2_with fail
  refine (I1.out _).mono ?_
  rintro e w9 ⟨rfl, rfl⟩
  go_wp2_with fail
  refine (I2.out _).mono ?_
  rintro e w9 ⟨rfl, rfl⟩
  have A0_st := A0
  have c_s_0_st := Lib.hid c_s_0
  have c_s_1_st := Lib.hid c_s_1
  have c_c_0_st := Lib.hid c_c_0
  have c_c_1_st := Lib.hid c_c_1
  have c_e_0_st := Lib.hid c_e_0
  have f_e_0_st := Lib.hid f_e_0
  have c_e_1_st := Lib.hid c_e_1
  have f_e_1_st := Lib.hid f_e_1
  have KW : Hid (Below w2.heap.size w2 w2) := Lib.hid (Below.refl _ _)
  go_upto_region 6 with fail
  obtain ⟨W3, hW3⟩ : ∃ W3, (w2.alloc (.cells #[.int .i64 a, .int .i64 l, .int .i64 r, .int .i64 p] 69)) = W3 := ⟨_, rfl⟩
  have hm_W3 : Below w2.heap.size w2 W3 := by rw [← hW3]; (repeat' (first | (with_reducible exact Below.refl _ _) | (with_reducible refine Below.alloc ?_ ?_ _) | (with_reducible refine Below.setCell ?_ ?_ _) | (with_reducible refine Below.drew ?_) | (with_reducible assumption) | omega | (simp; done) | (simp; omega)))
  have q_W3 : w2.heap.size + 1 ≤ W3.heap.size := by rw [← hW3]; simp
  replace c_s_0 := below_cell hm_W3 c_s_0 lt_w2_0_0
  replace c_s_1 := below_cell hm_W3 c_s_1 lt_w2_0_0
  replace c_c_0 := below_cell hm_W3 c_c_0 lt_w2_0_1
  replace c_c_1 := below_cell hm_W3 c_c_1 lt_w2_0_1
  replace c_e_0 := below_cell hm_W3 c_e_0 lt_w2_0_2
  replace f_e_0 := (hm_W3.frozen (p := ⟨w.heap.size + 1 + 1, 0, none⟩) lt_w2_0_2).trans f_e_0
  replace c_e_1 := below_cell hm_W3 c_e_1 lt_w2_0_2
  replace f_e_1 := (hm_W3.frozen (p := ⟨w.heap.size + 1 + 1, 1, none⟩) lt_w2_0_2).trans f_e_1
  replace A0 := Lib.hid (A0.out.trans (hm_W3.mono A0.out.size))
  replace KW := Lib.hid (KW.out.trans (hm_W3.mono KW.out.size))
  have c_h_0 : W3.cell? ⟨w2.heap.size, 0, none⟩ = some (.int .i64 a) := by rw [← hW3]; simp [go_sem]
  have f_h_0 : W3.frozen? ⟨w2.heap.size, 0, none⟩ = false := by rw [← hW3]; simp [go_sem]
  have c_h_1 : W3.cell? ⟨w2.heap.size, 1, none⟩ = some (.int .i64 l) := by rw [← hW3]; simp [go_sem]
  have f_h_1 : W3.frozen? ⟨w2.heap.size, 1, none⟩ = false := by rw [← hW3]; simp [go_sem]
  have c_h_2 : W3.cell? ⟨w2.heap.size, 2, none⟩ = some (.int .i64 r) := by rw [← hW3]; simp [go_sem]
  have f_h_2 : W3.frozen? ⟨w2.heap.size, 2, none⟩ = false := by rw [← hW3]; simp [go_sem]
  have c_h_3 : W3.cell? ⟨w2.heap.size, 3, none⟩ = some (.int .i64 p) := by rw [← hW3]; simp [go_sem]
  have f_h_3 : W3.frozen? ⟨w2.heap.size, 3, none⟩ = false := by rw [← hW3]; simp [go_sem]
  rw [hW3]
  have lt_W3_0_2 : w.heap.size + 1 + 1 < W3.heap.size := by omega
  have lt_W3_0_1 : w.heap.size + 1 < W3.heap.size := Nat.lt_of_succ_lt lt_W3_0_2
  have lt_W3_0_0 : w.heap.size < W3.heap.size := Nat.lt_of_succ_lt lt_W3_0_1
  obtain ⟨le_W3_0_0, le_W3_0_1, le_W3_0_2, le_W3_0_3, lu_W3_0_1, lu_W3_0_2, lu_W3_0_3⟩ := lts lt_W3_0_0
  have lt_W3_1_0 : w2.heap.size < W3.heap.size := by omega
  obtain ⟨le_W3_1_0, le_W3_1_1, le_W3_1_2, le_W3_1_3, lu_W3_1_1, lu_W3_1_2, lu_W3_1_3⟩ := lts lt_W3_1_0
  clear le_w2_0_0 le_w2_0_1 le_w2_0_2 le_w2_0_3 lu_w2_0_1 lu_w2_0_2 lu_w2_0_3 lt_w2_0_0 lt_w2_0_1 lt_w2_0_2
  clear hW3 hm_W3
  go_wp2_with fail
  refine (FR.out w2.heap.size W3 ⟨c_h_0, c_h_1, c_h_2, c_h_3, f_h_0, f_h_1⟩).mono ?_
  rintro e w4 ⟨rfl, hB, hU⟩
  have hbX : Below w2.heap.size w2 w4 := hU.below KW.out KW.out.size (Nat.le_refl _)
  have lh : w2.heap.size < w4.heap.size := by have := hU.size; omega
  have HB := Lib.hid hB
  have HU := Lib.hid hU
  clear hB hU KW
  clear c_s_0
  clear c_s_1
  clear c_c_0
  clear c_c_1
  clear c_e_0 f_e_0
  clear c_e_1 f_e_1
  clear c_h_0 f_h_0
  clear c_h_1 f_h_1
  clear c_h_2 f_h_2
  clear c_h_3 f_h_3
  clear le_W3_0_0 le_W3_0_1 le_W3_0_2 le_W3_0_3 lu_W3_0_1 lu_W3_0_2 lu_W3_0_3 lt_W3_0_0 lt_W3_0_1 lt_W3_0_2
  clear le_W3_1_0 le_W3_1_1 le_W3_1_2 le_W3_1_3 lu_W3_1_1 lu_W3_1_2 lu_W3_1_3 lt_W3_1_0
  clear A0
  have A0 := A0_st
  clear A0_st
  have c_s_0 := c_s_0_st.out
  clear c_s_0_st
  have c_s_1 := c_s_1_st.out
  clear c_s_1_st
  have c_c_0 := c_c_0_st.out
  clear c_c_0_st
  have c_c_1 := c_c_1_st.out
  clear c_c_1_st
  have c_e_0 := c_e_0_st.out
  clear c_e_0_st
  have f_e_0 := f_e_0_st.out
  clear f_e_0_st
  have c_e_1 := c_e_1_st.out
  clear c_e_1_st
  have f_e_1 := f_e_1_st.out
  clear f_e_1_st
  have lt_w2_0_2 : w.heap.size + 1 + 1 < w2.heap.size := by omega
  have lt_w2_0_1 : w.heap.size + 1 < w2.heap.size := Nat.lt_of_succ_lt lt_w2_0_2
  have lt_w2_0_0 : w.heap.size < w2.heap.size := Nat.lt_of_succ_lt lt_w2_0_1
  obtain ⟨le_w2_0_0, le_w2_0_1, le_w2_0_2, le_w2_0_3, lu_w2_0_1, lu_w2_0_2, lu_w2_0_3⟩ := lts lt_w2_0_0
  have hm_w4 : Below w2.heap.size w2 w4 := hbX
  have q_w4 := hm_w4.size
  replace c_s_0 := below_cell hm_w4 c_s_0 lt_w2_0_0
  replace c_s_1 := below_cell hm_w4 c_s_1 lt_w2_0_0
  replace c_c_0 := below_cell hm_w4 c_c_0 lt_w2_0_1
  replace c_c_1 := below_cell hm_w4 c_c_1 lt_w2_0_1
  replace c_e_0 := below_cell hm_w4 c_e_0 lt_w2_0_2
  replace f_e_0 := (hm_w4.frozen (p := ⟨w.heap.size + 1 + 1, 0, none⟩) lt_w2_0_2).trans f_e_0
  replace c_e_1 := below_cell hm_w4 c_e_1 lt_w2_0_2
  replace f_e_1 := (hm_w4.frozen (p := ⟨w.heap.size + 1 + 1, 1, none⟩) lt_w2_0_2).trans f_e_1
  replace A0 := Lib.hid (A0.out.trans (hm_w4.mono A0.out.size))
  have lt_w4_0_2 : w.heap.size + 1 + 1 < w4.heap.size := by omega
  have lt_w4_0_1 : w.heap.size + 1 < w4.heap.size := Nat.lt_of_succ_lt lt_w4_0_2
  have lt_w4_0_0 : w.heap.size < w4.heap.size := Nat.lt_of_succ_lt lt_w4_0_1
  obtain ⟨le_w4_0_0, le_w4_0_1, le_w4_0_2, le_w4_0_3, lu_w4_0_1, lu_w4_0_2, lu_w4_0_3⟩ := lts lt_w4_0_0
  clear le_w2_0_0 le_w2_0_1 le_w2_0_2 le_w2_0_3 lu_w2_0_1 lu_w2_0_2 lu_w2_0_3 lt_w2_0_0 lt_w2_0_1 lt_w2_0_2
  clear hm_w4
  clear hbX
  obtain ⟨b0, b1, b2, b3, y0, y1⟩ := HB.out
  rw [show Cr.stChk A' L' = 0 by unfold Cr.stChk; rw [ho]; rfl] at CE
  have CE := Lib.hid CE
  clear ho
  go_wp2_with fail
  refine (CE.out _).mono ?_
  rintro e w5 ⟨rfl, hb_⟩
  have HB5 := Lib.hid (HB.out.below hb_ lh)
  have hm_w5 : Below w4.heap.size w4 w5 := hb_
  have q_w5 := hm_w5.size
  replace c_s_0 := below_cell hm_w5 c_s_0 lt_w4_0_0
  replace c_s_1 := below_cell hm_w5 c_s_1 lt_w4_0_0
  replace c_c_0 := below_cell hm_w5 c_c_0 lt_w4_0_1
  replace c_c_1 := below_cell hm_w5 c_c_1 lt_w4_0_1
  replace c_e_0 := below_cell hm_w5 c_e_0 lt_w4_0_2
  replace f_e_0 := (hm_w5.frozen (p := ⟨w.heap.size + 1 + 1, 0, none⟩) lt_w4_0_2).trans f_e_0
  replace c_e_1 := below_cell hm_w5 c_e_1 lt_w4_0_2
  replace f_e_1 := (hm_w5.frozen (p := ⟨w.heap.size + 1 + 1, 1, none⟩) lt_w4_0_2).trans f_e_1
  replace A0 := Lib.hid (A0.out.trans (hm_w5.mono A0.out.size))
  have lt_w5_0_2 : w.heap.size + 1 + 1 < w5.heap.size := by omega
  have lt_w5_0_1 : w.heap.size + 1 < w5.heap.size := Nat.lt_of_succ_lt lt_w5_0_2
  have lt_w5_0_0 : w.heap.size < w5.heap.size := Nat.lt_of_succ_lt lt_w5_0_1
  obtain ⟨le_w5_0_0, le_w5_0_1, le_w5_0_2, le_w5_0_3, lu_w5_0_1, lu_w5_0_2, lu_w5_0_3⟩ := lts lt_w5_0_0
  clear le_w4_0_0 le_w4_0_1 le_w4_0_2 le_w4_0_3 lu_w4_0_1 lu_w4_0_2 lu_w4_0_3 lt_w4_0_0 lt_w4_0_1 lt_w4_0_2
  clear hm_w5
  clear hb_ b0 b1 b2 b3 y0 y1
  obtain ⟨b0, b1, b2, b3, y0, y1⟩ := HB5.out
  go_wp2_with fail
  go_region
  all_goals go_wp2_with fail
  all_goals exact bodyPost_ret (v := .tuple #[.int .i64 T, .agg #[.int .i64 A', .int .i64 L'], .int .i64 0]) (by simp [results, Try.results13, go_sem, c_e_0, c_e_1]) rfl ⟨rfl, by have hb := A0.out; have := hb.size; (repeat' (first | (with_reducible exact Below.refl _ _) | (with_reducible refine Below.alloc ?_ ?_ _) | (with_reducible refine Below.setCell ?_ ?_ _) | (with_reducible refine Below.drew ?_) | (with_reducible assumption) | omega | (simp; done) | (simp; omega)))⟩
theorem Step_any (r p a l t free size : Int) (w : World) :
    Calls Try.prog 13 #[.agg #[.int .i64 r, .int .i64 p], .agg #[.int .i64 a, .int .i64 l], .int .i64 t, .int .i64 free, .int .i64 size] w fun e w' => e = .returned (.tuple #[.int .i64 (Cr.sX r p a l t free size (Cr.start r a l t free)), .agg #[.int .i64 (Cr.sX r p a l t free size (Cr.outA r p a l t free size)), .int .i64 (Cr.sX r p a l t free size (Cr.outL r p a l t free size))], .int .i64 (Cr.stepE r p a l t free size)]) ∧ Below w.heap.size w w' := by
  unfold Cr.sX
  cases h1 : Cr.ok r p
  · rw [show Cr.stepE r p a l t free size = 450 by unfold Cr.stepE; rw [if_pos (.inl h1)]]
    exact Step_c r p a l t free size h1 w
  · cases h2 : Cr.stOk a l
    · rw [show Cr.stepE r p a l t free size = 450 by unfold Cr.stepE; rw [if_pos (.inr h2)]]
      exact Step_s r p a l t free size h1 h2 w
    · have hn : ¬ (Cr.ok r p = false ∨ Cr.stOk a l = false) := by rw [h1, h2]; simp
      cases h3 : Cr.argOk t free size
      · rw [show Cr.stepE r p a l t free size = 2 by unfold Cr.stepE; rw [if_neg hn, if_pos h3]]
        have h4 := of_decide_eq_false h3
        by_cases g0 : 0 ≤ t ∧ t ≤ 1073741824
        · by_cases g1 : 0 ≤ free ∧ free ≤ 1073741824
          · by_cases g2 : 1 ≤ size
            · exact Step_a3 r p a l t free size h1 h2 g0 g1 g2 (by omega) w
            · exact Step_a2 r p a l t free size h1 h2 g0 g1 (by omega) w
          · exact Step_a1 r p a l t free size h1 h2 g0 g1 w
        · exact Step_a0 r p a l t free size h1 h2 g0 w
      · cases ho : Cr.stOk (Cr.outA r p a l t free size) (Cr.outL r p a l t free size)
        · rw [show Cr.stepE r p a l t free size = 6 by unfold Cr.stepE; rw [if_neg hn, if_neg (by rw [h3]; simp), if_neg (by rw [ho]; simp)]]
          exact Step_big r p a l t free size h1 h2 h3 ho w
        · rw [show Cr.stepE r p a l t free size = 0 by unfold Cr.stepE; rw [if_neg hn, if_neg (by rw [h3]; simp), if_pos ho]]
          exact Step_good r p a l t free size h1 h2 h3 ho w

end CrW
end Go.Proofs.Ytoglmfpmeajbeaa
