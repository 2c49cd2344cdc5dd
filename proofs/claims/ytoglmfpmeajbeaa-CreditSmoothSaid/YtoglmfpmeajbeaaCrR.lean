/- Credit-based shapers: the walk of the reference's Step. -/
import Derived.Test.YtoglmfpmeajbeaaCrB
import Derived.Test.YtoglmfpmeajbeaaCrW
import Derived.Test.YtoglmfpmeajbeaaMem
import Derived.Deep.DeepCutAuto
namespace Go.Proofs.Ytoglmfpmeajbeaa
set_option linter.unusedSimpArgs false
set_option linter.unusedVariables false
open Go.RowKit
namespace CrW
set_option maxRecDepth 100000
set_option maxHeartbeats 4000000
theorem Right_b (r p : Int) (w : World) : Calls Try.prog 22 #[.agg #[.int .i64 r, .int .i64 p]] w fun e w' => e = .returned (.bool (Cr.ok r p)) ∧ Below w.heap.size w w' :=
  (Right_any r p w).mono fun _ _ ⟨a, b⟩ => ⟨a, b ▸ (Below.refl _ _).alloc (Nat.le_refl _) _⟩
theorem RightState_b (a l : Int) (w : World) : Calls Try.prog 24 #[.agg #[.int .i64 a, .int .i64 l]] w fun e w' => e = .returned (.bool (Cr.stOk a l)) ∧ Below w.heap.size w w' :=
  (RightState_any a l w).mono fun _ _ ⟨a, b⟩ => ⟨a, b ▸ (Below.refl _ _).alloc (Nat.le_refl _) _⟩
theorem up_b (r p lv t : Int) (h1 : -4611686018427387904 ≤ r * t) (h2 : r * t ≤ 4611686018427387904) (h3 : -1152921504606846976 ≤ lv) (h4 : lv ≤ 1152921504606846976) (w : World) : Calls Try.prog 27 #[.agg #[.int .i64 r, .int .i64 p], .int .i64 lv, .int .i64 t] w fun e w' => e = .returned (.int .i64 (lv + r * t)) ∧ Below w.heap.size w w' :=
  (up_any r p lv t h1 h2 h3 h4 w).mono fun _ _ ⟨a, b⟩ => ⟨a, b ▸ (Below.refl _ _).alloc (Nat.le_refl _) _⟩
theorem ref_Step_c (r p a l t free size : Int) (h : Cr.ok r p = false) (w : World) :
    Calls Try.prog 14 #[.agg #[.int .i64 r, .int .i64 p], .agg #[.int .i64 a, .int .i64 l], .int .i64 t, .int .i64 free, .int .i64 size] w fun e w' => e = .returned (.tuple #[.int .i64 0, .agg #[.int .i64 0, .int .i64 0], .int .i64 450]) ∧ Below w.heap.size w w' := by
  have C1 := Right_b r p
  rw [h] at C1
  have C1 := Lib.hid C1
  clear h
  have A0 : Hid (Below w.heap.size w w) := Lib.hid (Below.refl _ _)
  go_enter Try.func14, Try.ntmps14
  go_wp2_with fail
  refine (C1.out _).mono ?_
  rintro e w1 ⟨rfl, hb_⟩
  have s_w1 := hb_.size
  try simp only [World.size_alloc] at s_w1
  have hm_w1 : Below w.heap.size w w1 := Below.trans (b := (((w.alloc (.cells #[.int .i64 r, .int .i64 p] 23)).alloc (.cells #[.int .i64 a, .int .i64 l] 25)).alloc (.cells #[.int .i64 0, .int .i64 0] 25))) (by (repeat' (first | (with_reducible exact Below.refl _ _) | (with_reducible refine Below.alloc ?_ ?_ _) | (with_reducible refine Below.setCell ?_ ?_ _) | (with_reducible refine Below.drew ?_) | (with_reducible assumption) | omega | (simp; done) | (simp; omega)))) (hb_.mono (by first | (simp; done) | (simp; omega)))
  have q_w1 := hm_w1.size
  replace A0 := Lib.hid (A0.out.trans (hm_w1.mono A0.out.size))
  have c_s_0 : w1.cell? ⟨w.heap.size, 0, none⟩ = some (.int .i64 r) := by rw [(bcell hb_).1 _ _ (by first | (simp; done) | (simp; omega))]; simp [go_sem]
  have c_s_1 : w1.cell? ⟨w.heap.size, 1, none⟩ = some (.int .i64 p) := by rw [(bcell hb_).1 _ _ (by first | (simp; done) | (simp; omega))]; simp [go_sem]
  have c_c_0 : w1.cell? ⟨w.heap.size + 1, 0, none⟩ = some (.int .i64 a) := by rw [(bcell hb_).1 _ _ (by first | (simp; done) | (simp; omega))]; simp [go_sem]
  have c_c_1 : w1.cell? ⟨w.heap.size + 1, 1, none⟩ = some (.int .i64 l) := by rw [(bcell hb_).1 _ _ (by first | (simp; done) | (simp; omega))]; simp [go_sem]
  have c_e_0 : w1.cell? ⟨w.heap.size + 1 + 1, 0, none⟩ = some (.int .i64 0) := by rw [(bcell hb_).1 _ _ (by first | (simp; done) | (simp; omega))]; simp [go_sem]
  have f_e_0 : w1.frozen? ⟨w.heap.size + 1 + 1, 0, none⟩ = false := by rw [(bcell hb_).2 _ _ (by first | (simp; done) | (simp; omega))]; simp [go_sem]
  have c_e_1 : w1.cell? ⟨w.heap.size + 1 + 1, 1, none⟩ = some (.int .i64 0) := by rw [(bcell hb_).1 _ _ (by first | (simp; done) | (simp; omega))]; simp [go_sem]
  have f_e_1 : w1.frozen? ⟨w.heap.size + 1 + 1, 1, none⟩ = false := by rw [(bcell hb_).2 _ _ (by first | (simp; done) | (simp; omega))]; simp [go_sem]
  have lt_w1_0_2 : w.heap.size + 1 + 1 < w1.heap.size := by omega
  have lt_w1_0_1 : w.heap.size + 1 < w1.heap.size := Nat.lt_of_succ_lt lt_w1_0_2
  have lt_w1_0_0 : w.heap.size < w1.heap.size := Nat.lt_of_succ_lt lt_w1_0_1
  obtain ⟨le_w1_0_0, le_w1_0_1, le_w1_0_2, le_w1_0_3, lu_w1_0_1, lu_w1_0_2, lu_w1_0_3⟩ := lts lt_w1_0_0
  clear hm_w1
  clear hb_
  go_wp2_with fail
  exact bodyPost_ret (v := .tuple #[.int .i64 0, .agg #[.int .i64 0, .int .i64 0], .int .i64 450]) (by simp [results, Try.results14, go_sem, c_e_0, c_e_1]) rfl ⟨rfl, by have hb := A0.out; have := hb.size; (repeat' (first | (with_reducible exact Below.refl _ _) | (with_reducible refine Below.alloc ?_ ?_ _) | (with_reducible refine Below.setCell ?_ ?_ _) | (with_reducible refine Below.drew ?_) | (with_reducible assumption) | omega | (simp; done) | (simp; omega)))⟩
theorem ref_Step_s (r p a l t free size : Int) (h : Cr.ok r p = true) (h2 : Cr.stOk a l = false) (w : World) :
    Calls Try.prog 14 #[.agg #[.int .i64 r, .int .i64 p], .agg #[.int .i64 a, .int .i64 l], .int .i64 t, .int .i64 free, .int .i64 size] w fun e w' => e = .returned (.tuple #[.int .i64 0, .agg #[.int .i64 0, .int .i64 0], .int .i64 450]) ∧ Below w.heap.size w w' := by
  have C1 := Right_b r p
  rw [h] at C1
  have C1 := Lib.hid C1
  have C2 := RightState_b a l
  rw [h2] at C2
  have C2 := Lib.hid C2
  clear h h2
  have A0 : Hid (Below w.heap.size w w) := Lib.hid (Below.refl _ _)
  go_enter Try.func14, Try.ntmps14
  go_wp2_with fail
  refine (C1.out _).mono ?_
  rintro e w1 ⟨rfl, hb_⟩
  have s_w1 := hb_.size
  try simp only [World.size_alloc] at s_w1
  have hm_w1 : Below w.heap.size w w1 := Below.trans (b := (((w.alloc (.cells #[.int .i64 r, .int .i64 p] 23)).alloc (.cells #[.int .i64 a, .int .i64 l] 25)).alloc (.cells #[.int .i64 0, .int .i64 0] 25))) (by (repeat' (first | (with_reducible exact Below.refl _ _) | (with_reducible refine Below.alloc ?_ ?_ _) | (with_reducible refine Below.setCell ?_ ?_ _) | (with_reducible refine Below.drew ?_) | (with_reducible assumption) | omega | (simp; done) | (simp; omega)))) (hb_.mono (by first | (simp; done) | (simp; omega)))
  have q_w1 := hm_w1.size
  replace A0 := Lib.hid (A0.out.trans (hm_w1.mono A0.out.size))
  have c_s_0 : w1.cell? ⟨w.heap.size, 0, none⟩ = some (.int .i64 r) := by rw [(bcell hb_).1 _ _ (by first | (simp; done) | (simp; omega))]; simp [go_sem]
  have c_s_1 : w1.cell? ⟨w.heap.size, 1, none⟩ = some (.int .i64 p) := by rw [(bcell hb_).1 _ _ (by first | (simp; done) | (simp; omega))]; simp [go_sem]
  have c_c_0 : w1.cell? ⟨w.heap.size + 1, 0, none⟩ = some (.int .i64 a) := by rw [(bcell hb_).1 _ _ (by first | (simp; done) | (simp; omega))]; simp [go_sem]
  have c_c_1 : w1.cell? ⟨w.heap.size + 1, 1, none⟩ = some (.int .i64 l) := by rw [(bcell hb_).1 _ _ (by first | (simp; done) | (simp; omega))]; simp [go_sem]
  have c_e_0 : w1.cell? ⟨w.heap.size + 1 + 1, 0, none⟩ = some (.int .i64 0) := by rw [(bcell hb_).1 _ _ (by first | (simp; done) | (simp; omega))]; simp [go_sem]
  have f_e_0 : w1.frozen? ⟨w.heap.size + 1 + 1, 0, none⟩ = false := by rw [(bcell hb_).2 _ _ (by first | (simp; done) | (simp; omega))]; simp [go_sem]
  have c_e_1 : w1.cell? ⟨w.heap.size + 1 + 1, 1, none⟩ = some (.int .i64 0) := by rw [(bcell hb_).1 _ _ (by first | (simp; done) | (simp; omega))]; simp [go_sem]
  have f_e_1 : w1.frozen? ⟨w.heap.size + 1 + 1, 1, none⟩ = false := by rw [(bcell hb_).2 _ _ (by first | (simp; done) | (simp; omega))]; simp [go_sem]
  have lt_w1_0_2 : w.heap.size + 1 + 1 < w1.heap.size := by omega
  have lt_w1_0_1 : w.heap.size + 1 < w1.heap.size := Nat.lt_of_succ_lt lt_w1_0_2
  have lt_w1_0_0 : w.heap.size < w1.heap.size := Nat.lt_of_succ_lt lt_w1_0_1
  obtain ⟨le_w1_0_0, le_w1_0_1, le_w1_0_2, le_w1_0_3, lu_w1_0_1, lu_w1_0_2, lu_w1_0_3⟩ := lts lt_w1_0_0
  clear hm_w1
  clear hb_
  go_wp2_with fail
  refine (C2.out _).mono ?_
  rintro e w2 ⟨rfl, hb_⟩
  have hm_w2 : Below w1.heap.size w1 w2 := hb_
  have q_w2 := hm_w2.size
  replace c_s_0 := below_cell hm_w2 c_s_0 lt_w1_0_0
  replace c_s_1 := below_cell hm_w2 c_s_1 lt_w1_0_0
  replace c_c_0 := below_cell hm_w2 c_c_0 lt_w1_0_1
  replace c_c_1 := below_cell hm_w2 c_c_1 lt_w1_0_1
  replace c_e_0 := below_cell hm_w2 c_e_0 lt_w1_0_2
  replace f_e_0 := (hm_w2.frozen (p := ⟨w.heap.size + 1 + 1, 0, none⟩) lt_w1_0_2).trans f_e_0
  replace c_e_1 := below_cell hm_w2 c_e_1 lt_w1_0_2
  replace f_e_1 := (hm_w2.frozen (p := ⟨w.heap.size + 1 + 1, 1, none⟩) lt_w1_0_2).trans f_e_1
  replace A0 := Lib.hid (A0.out.trans (hm_w2.mono A0.out.size))
  have lt_w2_0_2 : w.heap.size + 1 + 1 < w2.heap.size := by omega
  have lt_w2_0_1 : w.heap.size + 1 < w2.heap.size := Nat.lt_of_succ_lt lt_w2_0_2
  have lt_w2_0_0 : w.heap.size < w2.heap.size := Nat.lt_of_succ_lt lt_w2_0_1
  obtain ⟨le_w2_0_0, le_w2_0_1, le_w2_0_2, le_w2_0_3, lu_w2_0_1, lu_w2_0_2, lu_w2_0_3⟩ := lts lt_w2_0_0
  clear le_w1_0_0 le_w1_0_1 le_w1_0_2 le_w1_0_3 lu_w1_0_1 lu_w1_0_2 lu_w1_0_3 lt_w1_0_0 lt_w1_0_1 lt_w1_0_2
  clear hm_w2
  clear hb_
  go_wp2_with fail
  exact bodyPost_ret (v := .tuple #[.int .i64 0, .agg #[.int .i64 0, .int .i64 0], .int .i64 450]) (by simp [results, Try.results14, go_sem, c_e_0, c_e_1]) rfl ⟨rfl, by have hb := A0.out; have := hb.size; (repeat' (first | (with_reducible exact Below.refl _ _) | (with_reducible refine Below.alloc ?_ ?_ _) | (with_reducible refine Below.setCell ?_ ?_ _) | (with_reducible refine Below.drew ?_) | (with_reducible assumption) | omega | (simp; done) | (simp; omega)))⟩
theorem ref_Step_a0 (r p a l t free size : Int) (h : Cr.ok r p = true) (h2 : Cr.stOk a l = true) (g0 : ¬ (0 ≤ t ∧ t ≤ 1073741824)) (w : World) :
    Calls Try.prog 14 #[.agg #[.int .i64 r, .int .i64 p], .agg #[.int .i64 a, .int .i64 l], .int .i64 t, .int .i64 free, .int .i64 size] w fun e w' => e = .returned (.tuple #[.int .i64 0, .agg #[.int .i64 0, .int .i64 0], .int .i64 2]) ∧ Below w.heap.size w w' := by
  have C1 := Right_b r p
  rw [h] at C1
  have C1 := Lib.hid C1
  have C2 := RightState_b a l
  rw [h2] at C2
  have C2 := Lib.hid C2
  have I0 := in_any t 0 1073741824
  rw [decide_eq_false g0] at I0
  have I0 := Lib.hid I0
  clear h h2 g0
  have A0 : Hid (Below w.heap.size w w) := Lib.hid (Below.refl _ _)
  go_enter Try.func14, Try.ntmps14
  go_wp2_with fail
  refine (C1.out _).mono ?_
  rintro e w1 ⟨rfl, hb_⟩
  have s_w1 := hb_.size
  try simp only [World.size_alloc] at s_w1
  have hm_w1 : Below w.heap.size w w1 := Below.trans (b := (((w.alloc (.cells #[.int .i64 r, .int .i64 p] 23)).alloc (.cells #[.int .i64 a, .int .i64 l] 25)).alloc (.cells #[.int .i64 0, .int .i64 0] 25))) (by (repeat' (first | (with_reducible exact Below.refl _ _) | (with_reducible refine Below.alloc ?_ ?_ _) | (with_reducible refine Below.setCell ?_ ?_ _) | (with_reducible refine Below.drew ?_) | (with_reducible assumption) | omega | (simp; done) | (simp; omega)))) (hb_.mono (by first | (simp; done) | (simp; omega)))
  have q_w1 := hm_w1.size
  replace A0 := Lib.hid (A0.out.trans (hm_w1.mono A0.out.size))
  have c_s_0 : w1.cell? ⟨w.heap.size, 0, none⟩ = some (.int .i64 r) := by rw [(bcell hb_).1 _ _ (by first | (simp; done) | (simp; omega))]; simp [go_sem]
  have c_s_1 : w1.cell? ⟨w.heap.size, 1, none⟩ = some (.int .i64 p) := by rw [(bcell hb_).1 _ _ (by first | (simp; done) | (simp; omega))]; simp [go_sem]
  have c_c_0 : w1.cell? ⟨w.heap.size + 1, 0, none⟩ = some (.int .i64 a) := by rw [(bcell hb_).1 _ _ (by first | (simp; done) | (simp; omega))]; simp [go_sem]
  have c_c_1 : w1.cell? ⟨w.heap.size + 1, 1, none⟩ = some (.int .i64 l) := by rw [(bcell hb_).1 _ _ (by first | (simp; done) | (simp; omega))]; simp [go_sem]
  have c_e_0 : w1.cell? ⟨w.heap.size + 1 + 1, 0, none⟩ = some (.int .i64 0) := by rw [(bcell hb_).1 _ _ (by first | (simp; done) | (simp; omega))]; simp [go_sem]
  have f_e_0 : w1.frozen? ⟨w.heap.size + 1 + 1, 0, none⟩ = false := by rw [(bcell hb_).2 _ _ (by first | (simp; done) | (simp; omega))]; simp [go_sem]
  have c_e_1 : w1.cell? ⟨w.heap.size + 1 + 1, 1, none⟩ = some (.int .i64 0) := by rw [(bcell hb_).1 _ _ (by first | (simp; done) | (simp; omega))]; simp [go_sem]
  have f_e_1 : w1.frozen? ⟨w.heap.size + 1 + 1, 1, none⟩ = false := by rw [(bcell hb_).2 _ _ (by first | (simp; done) | (simp; omega))]; simp [go_sem]
  have lt_w1_0_2 : w.heap.size + 1 + 1 < w1.heap.size := by omega
  have lt_w1_0_1 : w.heap.size + 1 < w1.heap.size := Nat.lt_of_succ_lt lt_w1_0_2
  have lt_w1_0_0 : w.heap.size < w1.heap.size := Nat.lt_of_succ_lt lt_w1_0_1
  obtain ⟨le_w1_0_0, le_w1_0_1, le_w1_0_2, le_w1_0_3, lu_w1_0_1, lu_w1_0_2, lu_w1_0_3⟩ := lts lt_w1_0_0
  clear hm_w1
  clear hb_
  go_wp2_with fail
  refine (C2.out _).mono ?_
  rintro e w2 ⟨rfl, hb_⟩
  have hm_w2 : Below w1.heap.size w1 w2 := hb_
  have q_w2 := hm_w2.size
  replace c_s_0 := below_cell hm_w2 c_s_0 lt_w1_0_0
  replace c_s_1 := below_cell hm_w2 c_s_1 lt_w1_0_0
  replace c_c_0 := below_cell hm_w2 c_c_0 lt_w1_0_1
  replace c_c_1 := below_cell hm_w2 c_c_1 lt_w1_0_1
  replace c_e_0 := below_cell hm_w2 c_e_0 lt_w1_0_2
  replace f_e_0 := (hm_w2.frozen (p := ⟨w.heap.size + 1 + 1, 0, none⟩) lt_w1_0_2).trans f_e_0
  replace c_e_1 := below_cell hm_w2 c_e_1 lt_w1_0_2
  replace f_e_1 := (hm_w2.frozen (p := ⟨w.heap.size + 1 + 1, 1, none⟩) lt_w1_0_2).trans f_e_1
  replace A0 := Lib.hid (A0.out.trans (hm_w2.mono A0.out.size))
  have lt_w2_0_2 : w.heap.size + 1 + 1 < w2.heap.size := by omega
  have lt_w2_0_1 : w.heap.size + 1 < w2.heap.size := Nat.lt_of_succ_lt lt_w2_0_2
  have lt_w2_0_0 : w.heap.size < w2.heap.size := Nat.lt_of_succ_lt lt_w2_0_1
  obtain ⟨le_w2_0_0, le_w2_0_1, le_w2_0_2, le_w2_0_3, lu_w2_0_1, lu_w2_0_2, lu_w2_0_3⟩ := lts lt_w2_0_0
  clear le_w1_0_0 le_w1_0_1 le_w1_0_2 le_w1_0_3 lu_w1_0_1 lu_w1_0_2 lu_w1_0_3 lt_w1_0_0 lt_w1_0_1 lt_w1_0_2
  clear hm_w2
  clear hb_
  go_wp2_with fail
  refine (I0.out _).mono ?_
  rintro e w9 ⟨rfl, rfl⟩
  go_wp2_with fail
  exact bodyPost_ret (v := .tuple #[.int .i64 0, .agg #[.int .i64 0, .int .i64 0], .int .i64 2]) (by simp [results, Try.results14, go_sem, c_e_0, c_e_1]) rfl ⟨rfl, by have hb := A0.out; have := hb.size; (repeat' (first | (with_reducible exact Below.refl _ _) | (with_reducible refine Below.alloc ?_ ?_ _) | (with_reducible refine Below.setCell ?_ ?_ _) | (with_reducible refine Below.drew ?_) | (with_reducible assumption) | omega | (simp; done) | (simp; omega)))⟩
theorem ref_Step_a1 (r p a l t free size : Int) (h : Cr.ok r p = true) (h2 : Cr.stOk a l = true) (g0 : 0 ≤ t ∧ t ≤ 1073741824) (g1 : ¬ (0 ≤ free ∧ free ≤ 1073741824)) (w : World) :
    Calls Try.prog 14 #[.agg #[.int .i64 r, .int .i64 p], .agg #[.int .i64 a, .int .i64 l], .int .i64 t, .int .i64 free, .int .i64 size] w fun e w' => e = .returned (.tuple #[.int .i64 0, .agg #[.int .i64 0, .int .i64 0], .int .i64 2]) ∧ Below w.heap.size w w' := by
  have C1 := Right_b r p
  rw [h] at C1
  have C1 := Lib.hid C1
  have C2 := RightState_b a l
  rw [h2] at C2
  have C2 := Lib.hid C2
  have I0 := in_any t 0 1073741824
  rw [decide_eq_true g0] at I0
  have I0 := Lib.hid I0
  have I1 := in_any free 0 1073741824
  rw [decide_eq_false g1] at I1
  have I1 := Lib.hid I1
  clear h h2 g0 g1
  have A0 : Hid (Below w.heap.size w w) := Lib.hid (Below.refl _ _)
  go_enter Try.func14, Try.ntmps14
  go_wp2_with fail
  refine (C1.out _).mono ?_
  rintro e w1 ⟨rfl, hb_⟩
  have s_w1 := hb_.size
  try simp only [World.size_alloc] at s_w1
  have hm_w1 : Below w.heap.size w w1 := Below.trans (b := (((w.alloc (.cells #[.int .i64 r, .int .i64 p] 23)).alloc (.cells #[.int .i64 a, .int .i64 l] 25)).alloc (.cells #[.int .i64 0, .int .i64 0] 25))) (by (repeat' (first | (with_reducible exact Below.refl _ _) | (with_reducible refine Below.alloc ?_ ?_ _) | (with_reducible refine Below.setCell ?_ ?_ _) | (with_reducible refine Below.drew ?_) | (with_reducible assumption) | omega | (simp; done) | (simp; omega)))) (hb_.mono (by first | (simp; done) | (simp; omega)))
  have q_w1 := hm_w1.size
  replace A0 := Lib.hid (A0.out.trans (hm_w1.mono A0.out.size))
  have c_s_0 : w1.cell? ⟨w.heap.size, 0, none⟩ = some (.int .i64 r) := by rw [(bcell hb_).1 _ _ (by first | (simp; done) | (simp; omega))]; simp [go_sem]
  have c_s_1 : w1.cell? ⟨w.heap.size, 1, none⟩ = some (.int .i64 p) := by rw [(bcell hb_).1 _ _ (by first | (simp; done) | (simp; omega))]; simp [go_sem]
  have c_c_0 : w1.cell? ⟨w.heap.size + 1, 0, none⟩ = some (.int .i64 a) := by rw [(bcell hb_).1 _ _ (by first | (simp; done) | (simp; omega))]; simp [go_sem]
  have c_c_1 : w1.cell? ⟨w.heap.size + 1, 1, none⟩ = some (.int .i64 l) := by rw [(bcell hb_).1 _ _ (by first | (simp; done) | (simp; omega))]; simp [go_sem]
  have c_e_0 : w1.cell? ⟨w.heap.size + 1 + 1, 0, none⟩ = some (.int .i64 0) := by rw [(bcell hb_).1 _ _ (by first | (simp; done) | (simp; omega))]; simp [go_sem]
  have f_e_0 : w1.frozen? ⟨w.heap.size + 1 + 1, 0, none⟩ = false := by rw [(bcell hb_).2 _ _ (by first | (simp; done) | (simp; omega))]; simp [go_sem]
  have c_e_1 : w1.cell? ⟨w.heap.size + 1 + 1, 1, none⟩ = some (.int .i64 0) := by rw [(bcell hb_).1 _ _ (by first | (simp; done) | (simp; omega))]; simp [go_sem]
  have f_e_1 : w1.frozen? ⟨w.heap.size + 1 + 1, 1, none⟩ = false := by rw [(bcell hb_).2 _ _ (by first | (simp; done) | (simp; omega))]; simp [go_sem]
  have lt_w1_0_2 : w.heap.size + 1 + 1 < w1.heap.size := by omega
  have lt_w1_0_1 : w.heap.size + 1 < w1.heap.size := Nat.lt_of_succ_lt lt_w1_0_2
  have lt_w1_0_0 : w.heap.size < w1.heap.size := Nat.lt_of_succ_lt lt_w1_0_1
  obtain ⟨le_w1_0_0, le_w1_0_1, le_w1_0_2, le_w1_0_3, lu_w1_0_1, lu_w1_0_2, lu_w1_0_3⟩ := lts lt_w1_0_0
  clear hm_w1
  clear hb_
  go_wp2_with fail
  refine (C2.out _).mono ?_
  rintro e w2 ⟨rfl, hb_⟩
  have hm_w2 : Below w1.heap.size w1 w2 := hb_
  have q_w2 := hm_w2.size
  replace c_s_0 := below_cell hm_w2 c_s_0 lt_w1_0_0
  replace c_s_1 := below_cell hm_w2 c_s_1 lt_w1_0_0
  replace c_c_0 := below_cell hm_w2 c_c_0 lt_w1_0_1
  replace c_c_1 := below_cell hm_w2 c_c_1 lt_w1_0_1
  replace c_e_0 := below_cell hm_w2 c_e_0 lt_w1_0_2
  replace f_e_0 := (hm_w2.frozen (p := ⟨w.heap.size + 1 + 1, 0, none⟩) lt_w1_0_2).trans f_e_0
  replace c_e_1 := below_cell hm_w2 c_e_1 lt_w1_0_2
  replace f_e_1 := (hm_w2.frozen (p := ⟨w.heap.size + 1 + 1, 1, none⟩) lt_w1_0_2).trans f_e_1
  replace A0 := Lib.hid (A0.out.trans (hm_w2.mono A0.out.size))
  have lt_w2_0_2 : w.heap.size + 1 + 1 < w2.heap.size := by omega
  have lt_w2_0_1 : w.heap.size + 1 < w2.heap.size := Nat.lt_of_succ_lt lt_w2_0_2
  have lt_w2_0_0 : w.heap.size < w2.heap.size := Nat.lt_of_succ_lt lt_w2_0_1
  obtain ⟨le_w2_0_0, le_w2_0_1, le_w2_0_2, le_w2_0_3, lu_w2_0_1, lu_w2_0_2, lu_w2_0_3⟩ := lts lt_w2_0_0
  clear le_w1_0_0 le_w1_0_1 le_w1_0_2 le_w1_0_3 lu_w1_0_1 lu_w1_0_2 lu_w1_0_3 lt_w1_0_0 lt_w1_0_1 lt_w1_0_2
  clear hm_w2
  clear hb_
  go_wp2_with fail
  refine (I0.out _).mono ?_
  rintro e w9 ⟨rfl, rfl⟩
  go_wp2_with fail
  refine (I1.out _).mono ?_
  rintro e w9 ⟨rfl, rfl⟩
  go_wp2_with fail
  exact bodyPost_ret (v := .tuple #[.int .i64 0, .agg #[.int .i64 0, .int .i64 0], .int .i64 2]) (by simp [results, Try.results14, go_sem, c_e_0, c_e_1]) rfl ⟨rfl, by have hb := A0.out; have := hb.size; (repeat' (first | (with_reducible exact Below.refl _ _) | (with_reducible refine Below.alloc ?_ ?_ _) | (with_reducible refine Below.setCell ?_ ?_ _) | (with_reducible refine Below.drew ?_) | (with_reducible assumption) | omega | (simp; done) | (simp; omega)))⟩
theorem ref_Step_a2 (r p a l t free size : Int) (h : Cr.ok r p = true) (h2 : Cr.stOk a l = true) (g0 : 0 ≤ t ∧ t ≤ 1073741824) (g1 : 0 ≤ free ∧ free ≤ 1073741824) (g2 : ¬ (1 ≤ size ∧ size ≤ 1542)) (w : World) :
    Calls Try.prog 14 #[.agg #[.int .i64 r, .int .i64 p], .agg #[.int .i64 a, .int .i64 l], .int .i64 t, .int .i64 free, .int .i64 size] w fun e w' => e = .returned (.tuple #[.int .i64 0, .agg #[.int .i64 0, .int .i64 0], .int .i64 2]) ∧ Below w.heap.size w w' := by
  have C1 := Right_b r p
  rw [h] at C1
  have C1 := Lib.hid C1
  have C2 := RightState_b a l
  rw [h2] at C2
  have C2 := Lib.hid C2
  have I0 := in_any t 0 1073741824
  rw [decide_eq_true g0] at I0
  have I0 := Lib.hid I0
  have I1 := in_any free 0 1073741824
  rw [decide_eq_true g1] at I1
  have I1 := Lib.hid I1
  have I2 := in_any size 1 1542
  rw [decide_eq_false g2] at I2
  have I2 := Lib.hid I2
  clear h h2 g0 g1 g2
  have A0 : Hid (Below w.heap.size w w) := Lib.hid (Below.refl _ _)
  go_enter Try.func14, Try.ntmps14
  go_wp2_with fail
  refine (C1.out _).mono ?_
  rintro e w1 ⟨rfl, hb_⟩
  have s_w1 := hb_.size
  try simp only [World.size_alloc] at s_w1
  have hm_w1 : Below w.heap.size w w1 := Below.trans (b := (((w.alloc (.cells #[.int .i64 r, .int .i64 p] 23)).alloc (.cells #[.int .i64 a, .int .i64 l] 25)).alloc (.cells #[.int .i64 0, .int .i64 0] 25))) (by (repeat' (first | (with_reducible exact Below.refl _ _) | (with_reducible refine Below.alloc ?_ ?_ _) | (with_reducible refine Below.setCell ?_ ?_ _) | (with_reducible refine Below.drew ?_) | (with_reducible assumption) | omega | (simp; done) | (simp; omega)))) (hb_.mono (by first | (simp; done) | (simp; omega)))
  have q_w1 := hm_w1.size
  replace A0 := Lib.hid (A0.out.trans (hm_w1.mono A0.out.size))
  have c_s_0 : w1.cell? ⟨w.heap.size, 0, none⟩ = some (.int .i64 r) := by rw [(bcell hb_).1 _ _ (by first | (simp; done) | (simp; omega))]; simp [go_sem]
  have c_s_1 : w1.cell? ⟨w.heap.size, 1, none⟩ = some (.int .i64 p) := by rw [(bcell hb_).1 _ _ (by first | (simp; done) | (simp; omega))]; simp [go_sem]
  have c_c_0 : w1.cell? ⟨w.heap.size + 1, 0, none⟩ = some (.int .i64 a) := by rw [(bcell hb_).1 _ _ (by first | (simp; done) | (simp; omega))]; simp [go_sem]
  have c_c_1 : w1.cell? ⟨w.heap.size + 1, 1, none⟩ = some (.int .i64 l) := by rw [(bcell hb_).1 _ _ (by first | (simp; done) | (simp; omega))]; simp [go_sem]
  have c_e_0 : w1.cell? ⟨w.heap.size + 1 + 1, 0, none⟩ = some (.int .i64 0) := by rw [(bcell hb_).1 _ _ (by first | (simp; done) | (simp; omega))]; simp [go_sem]
  have f_e_0 : w1.frozen? ⟨w.heap.size + 1 + 1, 0, none⟩ = false := by rw [(bcell hb_).2 _ _ (by first | (simp; done) | (simp; omega))]; simp [go_sem]
  have c_e_1 : w1.cell? ⟨w.heap.size + 1 + 1, 1, none⟩ = some (.int .i64 0) := by rw [(bcell hb_).1 _ _ (by first | (simp; done) | (simp; omega))]; simp [go_sem]
  have f_e_1 : w1.frozen? ⟨w.heap.size + 1 + 1, 1, none⟩ = false := by rw [(bcell hb_).2 _ _ (by first | (simp; done) | (simp; omega))]; simp [go_sem]
  have lt_w1_0_2 : w.heap.size + 1 + 1 < w1.heap.size := by omega
  have lt_w1_0_1 : w.heap.size + 1 < w1.heap.size := Nat.lt_of_succ_lt lt_w1_0_2
  have lt_w1_0_0 : w.heap.size < w1.heap.size := Nat.lt_of_succ_lt lt_w1_0_1
  obtain ⟨le_w1_0_0, le_w1_0_1, le_w1_0_2, le_w1_0_3, lu_w1_0_1, lu_w1_0_2, lu_w1_0_3⟩ := lts lt_w1_0_0
  clear hm_w1
  clear hb_
  go_wp2_with fail
  refine (C2.out _).mono ?_
  rintro e w2 ⟨rfl, hb_⟩
  have hm_w2 : Below w1.heap.size w1 w2 := hb_
  have q_w2 := hm_w2.size
  replace c_s_0 := below_cell hm_w2 c_s_0 lt_w1_0_0
  replace c_s_1 := below_cell hm_w2 c_s_1 lt_w1_0_0
  replace c_c_0 := below_cell hm_w2 c_c_0 lt_w1_0_1
  replace c_c_1 := below_cell hm_w2 c_c_1 lt_w1_0_1
  replace c_e_0 := below_cell hm_w2 c_e_0 lt_w1_0_2
  replace f_e_0 := (hm_w2.frozen (p := ⟨w.heap.size + 1 + 1, 0, none⟩) lt_w1_0_2).trans f_e_0
  replace c_e_1 := below_cell hm_w2 c_e_1 lt_w1_0_2
  replace f_e_1 := (hm_w2.frozen (p := ⟨w.heap.size + 1 + 1, 1, none⟩) lt_w1_0_2).trans f_e_1
  replace A0 := Lib.hid (A0.out.trans (hm_w2.mono A0.out.size))
  have lt_w2_0_2 : w.heap.size + 1 + 1 < w2.heap.size := by omega
  have lt_w2_0_1 : w.heap.size + 1 < w2.heap.size := Nat.lt_of_succ_lt lt_w2_0_2
  have lt_w2_0_0 : w.heap.size < w2.heap.size := Nat.lt_of_succ_lt lt_w2_0_1
  obtain ⟨le_w2_0_0, le_w2_0_1, le_w2_0_2, le_w2_0_3, lu_w2_0_1, lu_w2_0_2, lu_w2_0_3⟩ := lts lt_w2_0_0
  clear le_w1_0_0 le_w1_0_1 le_w1_0_2 le_w1_0_3 lu_w1_0_1 lu_w1_0_2 lu_w1_0_3 lt_w1_0_0 lt_w1_0_1 lt_w1_0_2
  clear hm_w2
  clear hb_
  go_wp2_with fail
  refine (I0.out _).mono ?_
  rintro e w9 ⟨rfl, rfl⟩
  go_wp2_with fail
  refine (I1.out _).mono ?_
  rintro e w9 ⟨rfl, rfl⟩
  go_wp2_with fail
  refine (I2.out _).mono ?_
  rintro e w9 ⟨rfl, rfl⟩
  go_wp2_with fail
  exact bodyPost_ret (v := .tuple #[.int .i64 0, .agg #[.int .i64 0, .int .i64 0], .int .i64 2]) (by simp [results, Try.results14, go_sem, c_e_0, c_e_1]) rfl ⟨rfl, by have hb := A0.out; have := hb.size; (repeat' (first | (with_reducible exact Below.refl _ _) | (with_reducible refine Below.alloc ?_ ?_ _) | (with_reducible refine Below.setCell ?_ ?_ _) | (with_reducible refine Below.drew ?_) | (with_reducible assumption) | omega | (simp; done) | (simp; omega)))⟩
theorem ref_Step_11_false (r p a l t free size : Int) (h : Cr.ok r p = true) (h2 : Cr.stOk a l = true) (h3 : Cr.argOk t free size = true) (hA : a < t) (hM : Cr.mid r a l t free < 0) (ho : Cr.stOk (Cr.outA r p a l t free size) (Cr.outL r p a l t free size) = false) (w : World) :
    Calls Try.prog 14 #[.agg #[.int .i64 r, .int .i64 p], .agg #[.int .i64 a, .int .i64 l], .int .i64 t, .int .i64 free, .int .i64 size] w fun e w' => e = .returned (.tuple #[.int .i64 0, .agg #[.int .i64 0, .int .i64 0], .int .i64 6]) ∧ Below w.heap.size w w' := by
  obtain ⟨p0, p1, r0, r1, rp, a0, a1, l0, l1, t0, t1, f0, f1, s0, s1⟩ := Cr.in_of h h2 h3
  have g0 := And.intro t0 t1
  have g1 := And.intro f0 f1
  have g2 := And.intro s0 s1
  have rp1 := (Cr.prod_bound p0 p1 r0 r1).1
  have C1 := Right_b r p
  rw [h] at C1
  have C1 := Lib.hid C1
  have C2 := RightState_b a l
  rw [h2] at C2
  have C2 := Lib.hid C2
  have I0 := in_any t 0 1073741824
  rw [decide_eq_true g0] at I0
  have I0 := Lib.hid I0
  have I1 := in_any free 0 1073741824
  rw [decide_eq_true g1] at I1
  have I1 := Lib.hid I1
  have I2 := in_any size 1 1542
  rw [decide_eq_true g2] at I2
  have I2 := Lib.hid I2
  have hbeg : Cr.beg a t = t := by unfold Cr.beg; rw [if_pos hA]
  have hlvl : Cr.lvl r a l t = min 0 (min 0 l + r * (t - a)) := by unfold Cr.lvl; rw [if_pos hA]
  have hin := Cr.lvl_in (a := a) (t := t) r0 l0 l1
  have hm := Cr.mid_in (t := t) (free := free) r0 r1 l0 l1 a0 f1 t1 a1
  have hsp := Cr.start_spec (a := a) (l := l) (t := t) (free := free) r0
  have hvm := Cr.lev_mid r a l t free
  have hmd : Cr.mid r a l t free = Cr.lvl r a l t + r * (max (Cr.beg a t) free - Cr.beg a t) := rfl
  have hlv : Cr.lev r a l t free = Cr.lvl r a l t + r * (Cr.start r a l t free - Cr.beg a t) := rfl
  have hst : Cr.start r a l t free = Cr.beg a t + (-Cr.lvl r a l t + r - 1) / r := by unfold Cr.start; rw [if_pos (show Cr.lvl r a l t + r * (max (Cr.beg a t) free - Cr.beg a t) < 0 from hM)]
  have RS := RightState_b (Cr.outA r p a l t free size) (Cr.outL r p a l t free size)
  rw [ho] at RS
  clear ho h h2 h3
  rw [show Cr.outL r p a l t free size = Cr.lev r a l t free + (r * p - 1048576) * size from rfl, show Cr.outA r p a l t free size = Cr.start r a l t free + size * p from rfl] at RS
  rw [hbeg] at hsp hvm hmd hlv hst
  rw [hlvl] at hin hmd hlv hst
  have gn := Cr.gain r0 r1 (show 0 ≤ max t free - t by omega) (by omega)
  have gu := Cr.gain r0 r1 (show 0 ≤ Cr.start r a l t free - max t free by omega) (by omega)
  have gv := Cr.gain r0 r1 (show 0 ≤ Cr.start r a l t free - t by omega) (by omega)
  have ga := Cr.gain r0 r1 (show 0 ≤ t - a by omega) (by omega)
  have U1 := up_b r p (min 0 l) (t - a) (by omega) (by omega) (by omega) (by omega)
  clear hlvl hbeg
  generalize min 0 l + r * (t - a) = X at *
  have U1 := Lib.hid U1
  have U2 := up_b r p (min 0 X) (max t free - t) (by omega) (by omega) (by omega) (by omega)
  have U3 := up_b r p (min 0 X) (Cr.start r a l t free - t) (by omega) (by omega) (by omega) (by omega)
  rw [← hmd] at U2
  rw [← hlv] at U3
  have U2 := Lib.hid U2
  have vb : 0 ≤ Cr.lev r a l t free ∧ Cr.lev r a l t free ≤ 36028797018963968 := by omega
  have m1 := Int.mul_le_mul (show 1048576 - r * p ≤ 1048576 by omega) s1 (by omega) (by omega)
  have m2 := Int.mul_nonneg (show 0 ≤ 1048576 - r * p by omega) (show 0 ≤ size by omega)
  have m3 : (r * p - 1048576) * size = -((1048576 - r * p) * size) := by rw [← Int.neg_mul]; congr 1; omega
  have m4 := Int.mul_le_mul s1 p1 (by omega) (by omega)
  have m5 := Int.mul_nonneg (show 0 ≤ size by omega) (show 0 ≤ p by omega)
  generalize Cr.lev r a l t free = V at *
  generalize Cr.mid r a l t free = M at *
  generalize Cr.start r a l t free = T at *
  have U3 := Lib.hid U3
  have RS := Lib.hid RS
  have q0 : IntKind.i64.wrap (t - a) = t - a := IntWalk.i64_in _ (by omega)
  have q1 : IntKind.i64.wrap (max t free - t) = max t free - t := IntWalk.i64_in _ (by omega)
  have q2 : IntKind.i64.wrap (T - t) = T - t := IntWalk.i64_in _ (by omega)
  have hL : (min 0 X) < 0 := by omega
  have cs := Cr.ceil_spec (n := -(min 0 X)) r0 (by omega)
  have q3 : IntKind.i64.wrap (-(min 0 X)) = -(min 0 X) := IntWalk.i64_in _ (by omega)
  have q4 : IntKind.i64.wrap (-(min 0 X) + r) = -(min 0 X) + r := IntWalk.i64_in _ (by omega)
  have q5 : IntKind.i64.wrap (-(min 0 X) + r - 1) = -(min 0 X) + r - 1 := IntWalk.i64_in _ (by omega)
  have q6 : (-(min 0 X) + r - 1).tdiv r = (-(min 0 X) + r - 1) / r := Int.tdiv_eq_ediv_of_nonneg (by omega)
  have q7 : IntKind.i64.wrap ((-(min 0 X) + r - 1) / r) = (-(min 0 X) + r - 1) / r := IntWalk.i64_in _ (by omega)
  have q8 : IntKind.i64.wrap (t + (-(min 0 X) + r - 1) / r) = T := by rw [hst]; exact IntWalk.i64_in _ (by omega)
  have hrn : r ≠ 0 := by omega
  clear cs hL
  have p1_ : IntKind.i64.wrap (size * p) = size * p := IntWalk.i64_in _ (by omega)
  have p2_ : IntKind.i64.wrap (T + size * p) = T + size * p := IntWalk.i64_in _ (by omega)
  have p3_ : IntKind.i64.wrap (r * p) = r * p := IntWalk.i64_in _ (by omega)
  have p4_ : IntKind.i64.wrap (r * p - 1048576) = r * p - 1048576 := IntWalk.i64_in _ (by omega)
  have p5_ : IntKind.i64.wrap ((r * p - 1048576) * size) = (r * p - 1048576) * size := IntWalk.i64_in _ (by omega)
  have p6_ : IntKind.i64.wrap (V + (r * p - 1048576) * size) = V + (r * p - 1048576) * size := IntWalk.i64_in _ (by omega)
  clear m1 m2 m3 m4 m5 gn gu gv ga hin hm hsp hvm hmd hlv vb
  clear hst
  have A0 : Hid (Below w.heap.size w w) := Lib.hid (Below.refl _ _)
  go_enter Try.func14, Try.ntmps14
  go_wp2_with fail
  refine (C1.out _).mono ?_
  rintro e w1 ⟨rfl, hb_⟩
  have s_w1 := hb_.size
  try simp only [World.size_alloc] at s_w1
  have hm_w1 : Below w.heap.size w w1 := Below.trans (b := (((w.alloc (.cells #[.int .i64 r, .int .i64 p] 23)).alloc (.cells #[.int .i64 a, .int .i64 l] 25)).alloc (.cells #[.int .i64 0, .int .i64 0] 25))) (by (repeat' (first | (with_reducible exact Below.refl _ _) | (with_reducible refine Below.alloc ?_ ?_ _) | (with_reducible refine Below.setCell ?_ ?_ _) | (with_reducible refine Below.drew ?_) | (with_reducible assumption) | omega | (simp; done) | (simp; omega)))) (hb_.mono (by first | (simp; done) | (simp; omega)))
  have q_w1 := hm_w1.size
  replace A0 := Lib.hid (A0.out.trans (hm_w1.mono A0.out.size))
  have c_s_0 : w1.cell? ⟨w.heap.size, 0, none⟩ = some (.int .i64 r) := by rw [(bcell hb_).1 _ _ (by first | (simp; done) | (simp; omega))]; simp [go_sem]
  have c_s_1 : w1.cell? ⟨w.heap.size, 1, none⟩ = some (.int .i64 p) := by rw [(bcell hb_).1 _ _ (by first | (simp; done) | (simp; omega))]; simp [go_sem]
  have c_c_0 : w1.cell? ⟨w.heap.size + 1, 0, none⟩ = some (.int .i64 a) := by rw [(bcell hb_).1 _ _ (by first | (simp; done) | (simp; omega))]; simp [go_sem]
  have c_c_1 : w1.cell? ⟨w.heap.size + 1, 1, none⟩ = some (.int .i64 l) := by rw [(bcell hb_).1 _ _ (by first | (simp; done) | (simp; omega))]; simp [go_sem]
  have c_e_0 : w1.cell? ⟨w.heap.size + 1 + 1, 0, none⟩ = some (.int .i64 0) := by rw [(bcell hb_).1 _ _ (by first | (simp; done) | (simp; omega))]; simp [go_sem]
  have f_e_0 : w1.frozen? ⟨w.heap.size + 1 + 1, 0, none⟩ = false := by rw [(bcell hb_).2 _ _ (by first | (simp; done) | (simp; omega))]; simp [go_sem]
  have c_e_1 : w1.cell? ⟨w.heap.size + 1 + 1, 1, none⟩ = some (.int .i64 0) := by rw [(bcell hb_).1 _ _ (by first | (simp; done) | (simp; omega))]; simp [go_sem]
  have f_e_1 : w1.frozen? ⟨w.heap.size + 1 + 1, 1, none⟩ = false := by rw [(bcell hb_).2 _ _ (by first | (simp; done) | (simp; omega))]; simp [go_sem]
  have lt_w1_0_2 : w.heap.size + 1 + 1 < w1.heap.size := by omega
  have lt_w1_0_1 : w.heap.size + 1 < w1.heap.size := Nat.lt_of_succ_lt lt_w1_0_2
  have lt_w1_0_0 : w.heap.size < w1.heap.size := Nat.lt_of_succ_lt lt_w1_0_1
  obtain ⟨le_w1_0_0, le_w1_0_1, le_w1_0_2, le_w1_0_3, lu_w1_0_1, lu_w1_0_2, lu_w1_0_3⟩ := lts lt_w1_0_0
  clear hm_w1
  clear hb_
  go_wp2_with fail
  refine (C2.out _).mono ?_
  rintro e w2 ⟨rfl, hb_⟩
  have hm_w2 : Below w1.heap.size w1 w2 := hb_
  have q_w2 := hm_w2.size
  replace c_s_0 := below_cell hm_w2 c_s_0 lt_w1_0_0
  replace c_s_1 := below_cell hm_w2 c_s_1 lt_w1_0_0
  replace c_c_0 := below_cell hm_w2 c_c_0 lt_w1_0_1
  replace c_c_1 := below_cell hm_w2 c_c_1 lt_w1_0_1
  replace c_e_0 := below_cell hm_w2 c_e_0 lt_w1_0_2
  replace f_e_0 := (hm_w2.frozen (p := ⟨w.heap.size + 1 + 1, 0, none⟩) lt_w1_0_2).trans f_e_0
  replace c_e_1 := below_cell hm_w2 c_e_1 lt_w1_0_2
  replace f_e_1 := (hm_w2.frozen (p := ⟨w.heap.size + 1 + 1, 1, none⟩) lt_w1_0_2).trans f_e_1
  replace A0 := Lib.hid (A0.out.trans (hm_w2.mono A0.out.size))
  have lt_w2_0_2 : w.heap.size + 1 + 1 < w2.heap.size := by omega
  have lt_w2_0_1 : w.heap.size + 1 < w2.heap.size := Nat.lt_of_succ_lt lt_w2_0_2
  have lt_w2_0_0 : w.heap.size < w2.heap.size := Nat.lt_of_succ_lt lt_w2_0_1
  obtain ⟨le_w2_0_0, le_w2_0_1, le_w2_0_2, le_w2_0_3, lu_w2_0_1, lu_w2_0_2, lu_w2_0_3⟩ := lts lt_w2_0_0
  clear le_w1_0_0 le_w1_0_1 le_w1_0_2 le_w1_0_3 lu_w1_0_1 lu_w1_0_2 lu_w1_0_3 lt_w1_0_0 lt_w1_0_1 lt_w1_0_2
  clear hm_w2
  clear hb_
  go_wp2_with fail
  refine (I0.out _).mono ?_
  rintro e w9 ⟨rfl, rfl⟩
  go_wp2_with fail
  refine (I1.out _).mono ?_
  rintro e w9 ⟨rfl, rfl⟩
  go_wp2_with fail
  refine (I2.out _).mono ?_
  rintro e w9 ⟨rfl, rfl⟩
  go_upto_region 5 with fail
  go_quiet (fail)
  go_wp2_with fail
  refine (U1.out _).mono ?_
  rintro e w3 ⟨rfl, hb_⟩
  replace hb_ : Below w2.heap.size w2 w3 := (belowN (Below.refl _ _) _).trans hb_
  have hm_w3 : Below w2.heap.size w2 w3 := hb_
  have q_w3 := hm_w3.size
  replace c_s_0 := below_cell hm_w3 c_s_0 lt_w2_0_0
  replace c_s_1 := below_cell hm_w3 c_s_1 lt_w2_0_0
  replace c_c_0 := below_cell hm_w3 c_c_0 lt_w2_0_1
  replace c_c_1 := below_cell hm_w3 c_c_1 lt_w2_0_1
  replace c_e_0 := below_cell hm_w3 c_e_0 lt_w2_0_2
  replace f_e_0 := (hm_w3.frozen (p := ⟨w.heap.size + 1 + 1, 0, none⟩) lt_w2_0_2).trans f_e_0
  replace c_e_1 := below_cell hm_w3 c_e_1 lt_w2_0_2
  replace f_e_1 := (hm_w3.frozen (p := ⟨w.heap.size + 1 + 1, 1, none⟩) lt_w2_0_2).trans f_e_1
  replace A0 := Lib.hid (A0.out.trans (hm_w3.mono A0.out.size))
  have lt_w3_0_2 : w.heap.size + 1 + 1 < w3.heap.size := by omega
  have lt_w3_0_1 : w.heap.size + 1 < w3.heap.size := Nat.lt_of_succ_lt lt_w3_0_2
  have lt_w3_0_0 : w.heap.size < w3.heap.size := Nat.lt_of_succ_lt lt_w3_0_1
  obtain ⟨le_w3_0_0, le_w3_0_1, le_w3_0_2, le_w3_0_3, lu_w3_0_1, lu_w3_0_2, lu_w3_0_3⟩ := lts lt_w3_0_0
  clear le_w2_0_0 le_w2_0_1 le_w2_0_2 le_w2_0_3 lu_w2_0_1 lu_w2_0_2 lu_w2_0_3 lt_w2_0_0 lt_w2_0_1 lt_w2_0_2
  clear hm_w3
  clear hb_
  go_wp2_with fail
  refine (U2.out _).mono ?_
  rintro e w4 ⟨rfl, hb_⟩
  have hm_w4 : Below w3.heap.size w3 w4 := hb_
  have q_w4 := hm_w4.size
  replace c_s_0 := below_cell hm_w4 c_s_0 lt_w3_0_0
  replace c_s_1 := below_cell hm_w4 c_s_1 lt_w3_0_0
  replace c_c_0 := below_cell hm_w4 c_c_0 lt_w3_0_1
  replace c_c_1 := below_cell hm_w4 c_c_1 lt_w3_0_1
  replace c_e_0 := below_cell hm_w4 c_e_0 lt_w3_0_2
  replace f_e_0 := (hm_w4.frozen (p := ⟨w.heap.size + 1 + 1, 0, none⟩) lt_w3_0_2).trans f_e_0
  replace c_e_1 := below_cell hm_w4 c_e_1 lt_w3_0_2
  replace f_e_1 := (hm_w4.frozen (p := ⟨w.heap.size + 1 + 1, 1, none⟩) lt_w3_0_2).trans f_e_1
  replace A0 := Lib.hid (A0.out.trans (hm_w4.mono A0.out.size))
  have lt_w4_0_2 : w.heap.size + 1 + 1 < w4.heap.size := by omega
  have lt_w4_0_1 : w.heap.size + 1 < w4.heap.size := Nat.lt_of_succ_lt lt_w4_0_2
  have lt_w4_0_0 : w.heap.size < w4.heap.size := Nat.lt_of_succ_lt lt_w4_0_1
  obtain ⟨le_w4_0_0, le_w4_0_1, le_w4_0_2, le_w4_0_3, lu_w4_0_1, lu_w4_0_2, lu_w4_0_3⟩ := lts lt_w4_0_0
  clear le_w3_0_0 le_w3_0_1 le_w3_0_2 le_w3_0_3 lu_w3_0_1 lu_w3_0_2 lu_w3_0_3 lt_w3_0_0 lt_w3_0_1 lt_w3_0_2
  clear hm_w4
  clear hb_
  go_wp2_with fail
  refine (U3.out _).mono ?_
  rintro e w5 ⟨rfl, hb_⟩
  have hm_w5 : Below w4.heap.size w4 w5 := hb_
  have q_w5 := hm_w5.size
  replace c_s_0 := below_cell hm_w5 c_s_0 lt_w4_0_0
  replace c_s_1 := below_cell hm_w5 c_s_1 lt_w4_0_0
  replace c_c_0 := below_cell hm_w5 c_c_0 lt_w4_0_1
  replace c_c_1 := below_cell hm_w5 c_c_1 lt_w4_0_1
  replace c_e_0 := below_cell hm_w5 c_e_0 lt_w4_0_2
  replace f_e_0 := (hm_w5.frozen (p := ⟨w.heap.size + 1 + 1, 0, none⟩) lt_w4_0_2).trans f_e_0
  replace c_e_1 := below_cell hm_w5 c_e_1 lt_w4_0_2
  replace f_e_1 := (hm_w5.frozen (p := ⟨w.heap.size + 1 + 1, 1, none⟩) lt_w4_0_2).trans f_e_1
  replace A0 := Lib.hid (A0.out.trans (hm_w5.mono A0.out.size))
  have lt_w5_0_2 : w.heap.size + 1 + 1 < w5.heap.size := by omega
  have lt_w5_0_1 : w.heap.size + 1 < w5.heap.size := Nat.lt_of_succ_lt lt_w5_0_2
  have lt_w5_0_0 : w.heap.size < w5.heap.size := Nat.lt_of_succ_lt lt_w5_0_1
  obtain ⟨le_w5_0_0, le_w5_0_1, le_w5_0_2, le_w5_0_3, lu_w5_0_1, lu_w5_0_2, lu_w5_0_3⟩ := lts lt_w5_0_0
  clear le_w4_0_0 le_w4_0_1 le_w4_0_2 le_w4_0_3 lu_w4_0_1 lu_w4_0_2 lu_w4_0_3 lt_w4_0_0 lt_w4_0_1 lt_w4_0_2
  clear hm_w5
  clear hb_
  go_wp2_with fail
  refine (RS.out _).mono ?_
  rintro e w6 ⟨rfl, hb_⟩
  have s_w6 := hb_.size
  try simp only [World.size_alloc] at s_w6
  have hm_w6 : Below w5.heap.size w5 w6 := Below.trans (b := (w5.alloc (.cells #[.int .i64 (T + size * p), .int .i64 (V + (r * p - 1048576) * size)] 25))) (by (repeat' (first | (with_reducible exact Below.refl _ _) | (with_reducible refine Below.alloc ?_ ?_ _) | (with_reducible refine Below.setCell ?_ ?_ _) | (with_reducible refine Below.drew ?_) | (with_reducible assumption) | omega | (simp; done) | (simp; omega)))) (hb_.mono (by first | (simp; done) | (simp; omega)))
  have q_w6 := hm_w6.size
  replace c_s_0 := below_cell hm_w6 c_s_0 lt_w5_0_0
  replace c_s_1 := below_cell hm_w6 c_s_1 lt_w5_0_0
  replace c_c_0 := below_cell hm_w6 c_c_0 lt_w5_0_1
  replace c_c_1 := below_cell hm_w6 c_c_1 lt_w5_0_1
  replace c_e_0 := below_cell hm_w6 c_e_0 lt_w5_0_2
  replace f_e_0 := (hm_w6.frozen (p := ⟨w.heap.size + 1 + 1, 0, none⟩) lt_w5_0_2).trans f_e_0
  replace c_e_1 := below_cell hm_w6 c_e_1 lt_w5_0_2
  replace f_e_1 := (hm_w6.frozen (p := ⟨w.heap.size + 1 + 1, 1, none⟩) lt_w5_0_2).trans f_e_1
  replace A0 := Lib.hid (A0.out.trans (hm_w6.mono A0.out.size))
  have c_n_0 : w6.cell? ⟨w5.heap.size, 0, none⟩ = some (.int .i64 (T + size * p)) := by rw [(bcell hb_).1 _ _ (by first | (simp; done) | (simp; omega))]; simp [go_sem]
  have c_n_1 : w6.cell? ⟨w5.heap.size, 1, none⟩ = some (.int .i64 (V + (r * p - 1048576) * size)) := by rw [(bcell hb_).1 _ _ (by first | (simp; done) | (simp; omega))]; simp [go_sem]
  have lt_w6_0_2 : w.heap.size + 1 + 1 < w6.heap.size := by omega
  have lt_w6_0_1 : w.heap.size + 1 < w6.heap.size := Nat.lt_of_succ_lt lt_w6_0_2
  have lt_w6_0_0 : w.heap.size < w6.heap.size := Nat.lt_of_succ_lt lt_w6_0_1
  obtain ⟨le_w6_0_0, le_w6_0_1, le_w6_0_2, le_w6_0_3, lu_w6_0_1, lu_w6_0_2, lu_w6_0_3⟩ := lts lt_w6_0_0
  have lt_w6_1_0 : w5.heap.size < w6.heap.size := by omega
  obtain ⟨le_w6_1_0, le_w6_1_1, le_w6_1_2, le_w6_1_3, lu_w6_1_1, lu_w6_1_2, lu_w6_1_3⟩ := lts lt_w6_1_0
  clear le_w5_0_0 le_w5_0_1 le_w5_0_2 le_w5_0_3 lu_w5_0_1 lu_w5_0_2 lu_w5_0_3 lt_w5_0_0 lt_w5_0_1 lt_w5_0_2
  clear hm_w6
  clear hb_
  go_wp2_with fail
  exact bodyPost_ret (v := .tuple #[.int .i64 0, .agg #[.int .i64 0, .int .i64 0], .int .i64 6]) (by simp [results, Try.results14, go_sem, c_e_0, c_e_1]) rfl ⟨rfl, by have hb := A0.out; have := hb.size; (repeat' (first | (with_reducible exact Below.refl _ _) | (with_reducible refine Below.alloc ?_ ?_ _) | (with_reducible refine Below.setCell ?_ ?_ _) | (with_reducible refine Below.drew ?_) | (with_reducible assumption) | omega | (simp; done) | (simp; omega)))⟩
theorem ref_Step_11_true (r p a l t free size : Int) (h : Cr.ok r p = true) (h2 : Cr.stOk a l = true) (h3 : Cr.argOk t free size = true) (hA : a < t) (hM : Cr.mid r a l t free < 0) (ho : Cr.stOk (Cr.outA r p a l t free size) (Cr.outL r p a l t free size) = true) (w : World) :
    Calls Try.prog 14 #[.agg #[.int .i64 r, .int .i64 p], .agg #[.int .i64 a, .int .i64 l], .int .i64 t, .int .i64 free, .int .i64 size] w fun e w' => e = .returned (.tuple #[.int .i64 (Cr.start r a l t free), .agg #[.int .i64 (Cr.outA r p a l t free size), .int .i64 (Cr.outL r p a l t free size)], .int .i64 0]) ∧ Below w.heap.size w w' := by
  obtain ⟨p0, p1, r0, r1, rp, a0, a1, l0, l1, t0, t1, f0, f1, s0, s1⟩ := Cr.in_of h h2 h3
  have g0 := And.intro t0 t1
  have g1 := And.intro f0 f1
  have g2 := And.intro s0 s1
  have rp1 := (Cr.prod_bound p0 p1 r0 r1).1
  have C1 := Right_b r p
  rw [h] at C1
  have C1 := Lib.hid C1
  have C2 := RightState_b a l
  rw [h2] at C2
  have C2 := Lib.hid C2
  have I0 := in_any t 0 1073741824
  rw [decide_eq_true g0] at I0
  have I0 := Lib.hid I0
  have I1 := in_any free 0 1073741824
  rw [decide_eq_true g1] at I1
  have I1 := Lib.hid I1
  have I2 := in_any size 1 1542
  rw [decide_eq_true g2] at I2
  have I2 := Lib.hid I2
  have hbeg : Cr.beg a t = t := by unfold Cr.beg; rw [if_pos hA]
  have hlvl : Cr.lvl r a l t = min 0 (min 0 l + r * (t - a)) := by unfold Cr.lvl; rw [if_pos hA]
  have hin := Cr.lvl_in (a := a) (t := t) r0 l0 l1
  have hm := Cr.mid_in (t := t) (free := free) r0 r1 l0 l1 a0 f1 t1 a1
  have hsp := Cr.start_spec (a := a) (l := l) (t := t) (free := free) r0
  have hvm := Cr.lev_mid r a l t free
  have hmd : Cr.mid r a l t free = Cr.lvl r a l t + r * (max (Cr.beg a t) free - Cr.beg a t) := rfl
  have hlv : Cr.lev r a l t free = Cr.lvl r a l t + r * (Cr.start r a l t free - Cr.beg a t) := rfl
  have hst : Cr.start r a l t free = Cr.beg a t + (-Cr.lvl r a l t + r - 1) / r := by unfold Cr.start; rw [if_pos (show Cr.lvl r a l t + r * (max (Cr.beg a t) free - Cr.beg a t) < 0 from hM)]
  have RS := RightState_b (Cr.outA r p a l t free size) (Cr.outL r p a l t free size)
  rw [ho] at RS
  clear ho h h2 h3
  rw [show Cr.outL r p a l t free size = Cr.lev r a l t free + (r * p - 1048576) * size from rfl, show Cr.outA r p a l t free size = Cr.start r a l t free + size * p from rfl] at RS
  rw [show Cr.outL r p a l t free size = Cr.lev r a l t free + (r * p - 1048576) * size from rfl, show Cr.outA r p a l t free size = Cr.start r a l t free + size * p from rfl]
  rw [hbeg] at hsp hvm hmd hlv hst
  rw [hlvl] at hin hmd hlv hst
  have gn := Cr.gain r0 r1 (show 0 ≤ max t free - t by omega) (by omega)
  have gu := Cr.gain r0 r1 (show 0 ≤ Cr.start r a l t free - max t free by omega) (by omega)
  have gv := Cr.gain r0 r1 (show 0 ≤ Cr.start r a l t free - t by omega) (by omega)
  have ga := Cr.gain r0 r1 (show 0 ≤ t - a by omega) (by omega)
  have U1 := up_b r p (min 0 l) (t - a) (by omega) (by omega) (by omega) (by omega)
  clear hlvl hbeg
  generalize min 0 l + r * (t - a) = X at *
  have U1 := Lib.hid U1
  have U2 := up_b r p (min 0 X) (max t free - t) (by omega) (by omega) (by omega) (by omega)
  have U3 := up_b r p (min 0 X) (Cr.start r a l t free - t) (by omega) (by omega) (by omega) (by omega)
  rw [← hmd] at U2
  rw [← hlv] at U3
  have U2 := Lib.hid U2
  have vb : 0 ≤ Cr.lev r a l t free ∧ Cr.lev r a l t free ≤ 36028797018963968 := by omega
  have m1 := Int.mul_le_mul (show 1048576 - r * p ≤ 1048576 by omega) s1 (by omega) (by omega)
  have m2 := Int.mul_nonneg (show 0 ≤ 1048576 - r * p by omega) (show 0 ≤ size by omega)
  have m3 : (r * p - 1048576) * size = -((1048576 - r * p) * size) := by rw [← Int.neg_mul]; congr 1; omega
  have m4 := Int.mul_le_mul s1 p1 (by omega) (by omega)
  have m5 := Int.mul_nonneg (show 0 ≤ size by omega) (show 0 ≤ p by omega)
  generalize Cr.lev r a l t free = V at *
  generalize Cr.mid r a l t free = M at *
  generalize Cr.start r a l t free = T at *
  have U3 := Lib.hid U3
  have RS := Lib.hid RS
  have q0 : IntKind.i64.wrap (t - a) = t - a := IntWalk.i64_in _ (by omega)
  have q1 : IntKind.i64.wrap (max t free - t) = max t free - t := IntWalk.i64_in _ (by omega)
  have q2 : IntKind.i64.wrap (T - t) = T - t := IntWalk.i64_in _ (by omega)
  have hL : (min 0 X) < 0 := by omega
  have cs := Cr.ceil_spec (n := -(min 0 X)) r0 (by omega)
  have q3 : IntKind.i64.wrap (-(min 0 X)) = -(min 0 X) := IntWalk.i64_in _ (by omega)
  have q4 : IntKind.i64.wrap (-(min 0 X) + r) = -(min 0 X) + r := IntWalk.i64_in _ (by omega)
  have q5 : IntKind.i64.wrap (-(min 0 X) + r - 1) = -(min 0 X) + r - 1 := IntWalk.i64_in _ (by omega)
  have q6 : (-(min 0 X) + r - 1).tdiv r = (-(min 0 X) + r - 1) / r := Int.tdiv_eq_ediv_of_nonneg (by omega)
  have q7 : IntKind.i64.wrap ((-(min 0 X) + r - 1) / r) = (-(min 0 X) + r - 1) / r := IntWalk.i64_in _ (by omega)
  have q8 : IntKind.i64.wrap (t + (-(min 0 X) + r - 1) / r) = T := by rw [hst]; exact IntWalk.i64_in _ (by omega)
  have hrn : r ≠ 0 := by omega
  clear cs hL
  have p1_ : IntKind.i64.wrap (size * p) = size * p := IntWalk.i64_in _ (by omega)
  have p2_ : IntKind.i64.wrap (T + size * p) = T + size * p := IntWalk.i64_in _ (by omega)
  have p3_ : IntKind.i64.wrap (r * p) = r * p := IntWalk.i64_in _ (by omega)
  have p4_ : IntKind.i64.wrap (r * p - 1048576) = r * p - 1048576 := IntWalk.i64_in _ (by omega)
  have p5_ : IntKind.i64.wrap ((r * p - 1048576) * size) = (r * p - 1048576) * size := IntWalk.i64_in _ (by omega)
  have p6_ : IntKind.i64.wrap (V + (r * p - 1048576) * size) = V + (r * p - 1048576) * size := IntWalk.i64_in _ (by omega)
  clear m1 m2 m3 m4 m5 gn gu gv ga hin hm hsp hvm hmd hlv vb
  clear hst
  have A0 : Hid (Below w.heap.size w w) := Lib.hid (Below.refl _ _)
  go_enter Try.func14, Try.ntmps14
  go_wp2_with fail
  refine (C1.out _).mono ?_
  rintro e w1 ⟨rfl, hb_⟩
  have s_w1 := hb_.size
  try simp only [World.size_alloc] at s_w1
  have hm_w1 : Below w.heap.size w w1 := Below.trans (b := (((w.alloc (.cells #[.int .i64 r, .int .i64 p] 23)).alloc (.cells #[.int .i64 a, .int .i64 l] 25)).alloc (.cells #[.int .i64 0, .int .i64 0] 25))) (by (repeat' (first | (with_reducible exact Below.refl _ _) | (with_reducible refine Below.alloc ?_ ?_ _) | (with_reducible refine Below.setCell ?_ ?_ _) | (with_reducible refine Below.drew ?_) | (with_reducible assumption) | omega | (simp; done) | (simp; omega)))) (hb_.mono (by first | (simp; done) | (simp; omega)))
  have q_w1 := hm_w1.size
  replace A0 := Lib.hid (A0.out.trans (hm_w1.mono A0.out.size))
  have c_s_0 : w1.cell? ⟨w.heap.size, 0, none⟩ = some (.int .i64 r) := by rw [(bcell hb_).1 _ _ (by first | (simp; done) | (simp; omega))]; simp [go_sem]
  have c_s_1 : w1.cell? ⟨w.heap.size, 1, none⟩ = some (.int .i64 p) := by rw [(bcell hb_).1 _ _ (by first | (simp; done) | (simp; omega))]; simp [go_sem]
  have c_c_0 : w1.cell? ⟨w.heap.size + 1, 0, none⟩ = some (.int .i64 a) := by rw [(bcell hb_).1 _ _ (by first | (simp; done) | (simp; omega))]; simp [go_sem]
  have c_c_1 : w1.cell? ⟨w.heap.size + 1, 1, none⟩ = some (.int .i64 l) := by rw [(bcell hb_).1 _ _ (by first | (simp; done) | (simp; omega))]; simp [go_sem]
  have c_e_0 : w1.cell? ⟨w.heap.size + 1 + 1, 0, none⟩ = some (.int .i64 0) := by rw [(bcell hb_).1 _ _ (by first | (simp; done) | (simp; omega))]; simp [go_sem]
  have f_e_0 : w1.frozen? ⟨w.heap.size + 1 + 1, 0, none⟩ = false := by rw [(bcell hb_).2 _ _ (by first | (simp; done) | (simp; omega))]; simp [go_sem]
  have c_e_1 : w1.cell? ⟨w.heap.size + 1 + 1, 1, none⟩ = some (.int .i64 0) := by rw [(bcell hb_).1 _ _ (by first | (simp; done) | (simp; omega))]; simp [go_sem]
  have f_e_1 : w1.frozen? ⟨w.heap.size + 1 + 1, 1, none⟩ = false := by rw [(bcell hb_).2 _ _ (by first | (simp; done) | (simp; omega))]; simp [go_sem]
  have lt_w1_0_2 : w.heap.size + 1 + 1 < w1.heap.size := by omega
  have lt_w1_0_1 : w.heap.size + 1 < w1.heap.size := Nat.lt_of_succ_lt lt_w1_0_2
  have lt_w1_0_0 : w.heap.size < w1.heap.size := Nat.lt_of_succ_lt lt_w1_0_1
  obtain ⟨le_w1_0_0, le_w1_0_1, le_w1_0_2, le_w1_0_3, lu_w1_0_1, lu_w1_0_2, lu_w1_0_3⟩ := lts lt_w1_0_0
  clear hm_w1
  clear hb_
  go_wp2_with fail
  refine (C2.out _).mono ?_
  rintro e w2 ⟨rfl, hb_⟩
  have hm_w2 : Below w1.heap.size w1 w2 := hb_
  have q_w2 := hm_w2.size
  replace c_s_0 := below_cell hm_w2 c_s_0 lt_w1_0_0
  replace c_s_1 := below_cell hm_w2 c_s_1 lt_w1_0_0
  replace c_c_0 := below_cell hm_w2 c_c_0 lt_w1_0_1
  replace c_c_1 := below_cell hm_w2 c_c_1 lt_w1_0_1
  replace c_e_0 := below_cell hm_w2 c_e_0 lt_w1_0_2
  replace f_e_0 := (hm_w2.frozen (p := ⟨w.heap.size + 1 + 1, 0, none⟩) lt_w1_0_2).trans f_e_0
  replace c_e_1 := below_cell hm_w2 c_e_1 lt_w1_0_2
  replace f_e_1 := (hm_w2.frozen (p := ⟨w.heap.size + 1 + 1, 1, none⟩) lt_w1_0_2).trans f_e_1
  replace A0 := Lib.hid (A0.out.trans (hm_w2.mono A0.out.size))
  have lt_w2_0_2 : w.heap.size + 1 + 1 < w2.heap.size := by omega
  have lt_w2_0_1 : w.heap.size + 1 < w2.heap.size := Nat.lt_of_succ_lt lt_w2_0_2
  have lt_w2_0_0 : w.heap.size < w2.heap.size := Nat.lt_of_succ_lt lt_w2_0_1
  obtain ⟨le_w2_0_0, le_w2_0_1, le_w2_0_2, le_w2_0_3, lu_w2_0_1, lu_w2_0_2, lu_w2_0_3⟩ := lts lt_w2_0_0
  clear le_w1_0_0 le_w1_0_1 le_w1_0_2 le_w1_0_3 lu_w1_0_1 lu_w1_0_2 lu_w1_0_3 lt_w1_0_0 lt_w1_0_1 lt_w1_0_2
  clear hm_w2
  clear hb_
  go_wp2_with fail
  refine (I0.out _).mono ?_
  rintro e w9 ⟨rfl, rfl⟩
  go_wp2_with fail
  refine (I1.out _).mono ?_
  rintro e w9 ⟨rfl, rfl⟩
  go_wp2_with fail
  refine (I2.out _).mono ?_
  rintro e w9 ⟨rfl, rfl⟩
  go_upto_region 5 with fail
  go_quiet (fail)
  go_wp2_with fail
  refine (U1.out _).mono ?_
  rintro e w3 ⟨rfl, hb_⟩
  replace hb_ : Below w2.heap.size w2 w3 := (belowN (Below.refl _ _) _).trans hb_
  have hm_w3 : Below w2.heap.size w2 w3 := hb_
  have q_w3 := hm_w3.size
  replace c_s_0 := below_cell hm_w3 c_s_0 lt_w2_0_0
  replace c_s_1 := below_cell hm_w3 c_s_1 lt_w2_0_0
  replace c_c_0 := below_cell hm_w3 c_c_0 lt_w2_0_1
  replace c_c_1 := below_cell hm_w3 c_c_1 lt_w2_0_1
  replace c_e_0 := below_cell hm_w3 c_e_0 lt_w2_0_2
  replace f_e_0 := (hm_w3.frozen (p := ⟨w.heap.size + 1 + 1, 0, none⟩) lt_w2_0_2).trans f_e_0
  replace c_e_1 := below_cell hm_w3 c_e_1 lt_w2_0_2
  replace f_e_1 := (hm_w3.frozen (p := ⟨w.heap.size + 1 + 1, 1, none⟩) lt_w2_0_2).trans f_e_1
  replace A0 := Lib.hid (A0.out.trans (hm_w3.mono A0.out.size))
  have lt_w3_0_2 : w.heap.size + 1 + 1 < w3.heap.size := by omega
  have lt_w3_0_1 : w.heap.size + 1 < w3.heap.size := Nat.lt_of_succ_lt lt_w3_0_2
  have lt_w3_0_0 : w.heap.size < w3.heap.size := Nat.lt_of_succ_lt lt_w3_0_1
  obtain ⟨le_w3_0_0, le_w3_0_1, le_w3_0_2, le_w3_0_3, lu_w3_0_1, lu_w3_0_2, lu_w3_0_3⟩ := lts lt_w3_0_0
  clear le_w2_0_0 le_w2_0_1 le_w2_0_2 le_w2_0_3 lu_w2_0_1 lu_w2_0_2 lu_w2_0_3 lt_w2_0_0 lt_w2_0_1 lt_w2_0_2
  clear hm_w3
  clear hb_
  go_wp2_with fail
  refine (U2.out _).mono ?_
  rintro e w4 ⟨rfl, hb_⟩
  have hm_w4 : Below w3.heap.size w3 w4 := hb_
  have q_w4 := hm_w4.size
  replace c_s_0 := below_cell hm_w4 c_s_0 lt_w3_0_0
  replace c_s_1 := below_cell hm_w4 c_s_1 lt_w3_0_0
  replace c_c_0 := below_cell hm_w4 c_c_0 lt_w3_0_1
  replace c_c_1 := below_cell hm_w4 c_c_1 lt_w3_0_1
  replace c_e_0 := below_cell hm_w4 c_e_0 lt_w3_0_2
  replace f_e_0 := (hm_w4.frozen (p := ⟨w.heap.size + 1 + 1, 0, none⟩) lt_w3_0_2).trans f_e_0
  replace c_e_1 := below_cell hm_w4 c_e_1 lt_w3_0_2
  replace f_e_1 := (hm_w4.frozen (p := ⟨w.heap.size + 1 + 1, 1, none⟩) lt_w3_0_2).trans f_e_1
  replace A0 := Lib.hid (A0.out.trans (hm_w4.mono A0.out.size))
  have lt_w4_0_2 : w.heap.size + 1 + 1 < w4.heap.size := by omega
  have lt_w4_0_1 : w.heap.size + 1 < w4.heap.size := Nat.lt_of_succ_lt lt_w4_0_2
  have lt_w4_0_0 : w.heap.size < w4.heap.size := Nat.lt_of_succ_lt lt_w4_0_1
  obtain ⟨le_w4_0_0, le_w4_0_1, le_w4_0_2, le_w4_0_3, lu_w4_0_1, lu_w4_0_2, lu_w4_0_3⟩ := lts lt_w4_0_0
  clear le_w3_0_0 le_w3_0_1 le_w3_0_2 le_w3_0_3 lu_w3_0_1 lu_w3_0_2 lu_w3_0_3 lt_w3_0_0 lt_w3_0_1 lt_w3_0_2
  clear hm_w4
  clear hb_
  go_wp2_with fail
  refine (U3.out _).mono ?_
  rintro e w5 ⟨rfl, hb_⟩
  have hm_w5 : Below w4.heap.size w4 w5 := hb_
  have q_w5 := hm_w5.size
  replace c_s_0 := below_cell hm_w5 c_s_0 lt_w4_0_0
  replace c_s_1 := below_cell hm_w5 c_s_1 lt_w4_0_0
  replace c_c_0 := below_cell hm_w5 c_c_0 lt_w4_0_1
  replace c_c_1 := below_cell hm_w5 c_c_1 lt_w4_0_1
  replace c_e_0 := below_cell hm_w5 c_e_0 lt_w4_0_2
  replace f_e_0 := (hm_w5.frozen (p := ⟨w.heap.size + 1 + 1, 0, none⟩) lt_w4_0_2).trans f_e_0
  replace c_e_1 := below_cell hm_w5 c_e_1 lt_w4_0_2
  replace f_e_1 := (hm_w5.frozen (p := ⟨w.heap.size + 1 + 1, 1, none⟩) lt_w4_0_2).trans f_e_1
  replace A0 := Lib.hid (A0.out.trans (hm_w5.mono A0.out.size))
  have lt_w5_0_2 : w.heap.size + 1 + 1 < w5.heap.size := by omega
  have lt_w5_0_1 : w.heap.size + 1 < w5.heap.size := Nat.lt_of_succ_lt lt_w5_0_2
  have lt_w5_0_0 : w.heap.size < w5.heap.size := Nat.lt_of_succ_lt lt_w5_0_1
  obtain ⟨le_w5_0_0, le_w5_0_1, le_w5_0_2, le_w5_0_3, lu_w5_0_1, lu_w5_0_2, lu_w5_0_3⟩ := lts lt_w5_0_0
  clear le_w4_0_0 le_w4_0_1 le_w4_0_2 le_w4_0_3 lu_w4_0_1 lu_w4_0_2 lu_w4_0_3 lt_w4_0_0 lt_w4_0_1 lt_w4_0_2
  clear hm_w5
  clear hb_
  go_wp2_with fail
  refine (RS.out _).mono ?_
  rintro e w6 ⟨rfl, hb_⟩
  have s_w6 := hb_.size
  try simp only [World.size_alloc] at s_w6
  have hm_w6 : Below w5.heap.size w5 w6 := Below.trans (b := (w5.alloc (.cells #[.int .i64 (T + size * p), .int .i64 (V + (r * p - 1048576) * size)] 25))) (by (repeat' (first | (with_reducible exact Below.refl _ _) | (with_reducible refine Below.alloc ?_ ?_ _) | (with_reducible refine Below.setCell ?_ ?_ _) | (with_reducible refine Below.drew ?_) | (with_reducible assumption) | omega | (simp; done) | (simp; omega)))) (hb_.mono (by first | (simp; done) | (simp; omega)))
  have q_w6 := hm_w6.size
  replace c_s_0 := below_cell hm_w6 c_s_0 lt_w5_0_0
  replace c_s_1 := below_cell hm_w6 c_s_1 lt_w5_0_0
  replace c_c_0 := below_cell hm_w6 c_c_0 lt_w5_0_1
  replace c_c_1 := below_cell hm_w6 c_c_1 lt_w5_0_1
  replace c_e_0 := below_cell hm_w6 c_e_0 lt_w5_0_2
  replace f_e_0 := (hm_w6.frozen (p := ⟨w.heap.size + 1 + 1, 0, none⟩) lt_w5_0_2).trans f_e_0
  replace c_e_1 := below_cell hm_w6 c_e_1 lt_w5_0_2
  replace f_e_1 := (hm_w6.frozen (p := ⟨w.heap.size + 1 + 1, 1, none⟩) lt_w5_0_2).trans f_e_1
  replace A0 := Lib.hid (A0.out.trans (hm_w6.mono A0.out.size))
  have c_n_0 : w6.cell? ⟨w5.heap.size, 0, none⟩ = some (.int .i64 (T + size * p)) := by rw [(bcell hb_).1 _ _ (by first | (simp; done) | (simp; omega))]; simp [go_sem]
  have c_n_1 : w6.cell? ⟨w5.heap.size, 1, none⟩ = some (.int .i64 (V + (r * p - 1048576) * size)) := by rw [(bcell hb_).1 _ _ (by first | (simp; done) | (simp; omega))]; simp [go_sem]
  have lt_w6_0_2 : w.heap.size + 1 + 1 < w6.heap.size := by omega
  have lt_w6_0_1 : w.heap.size + 1 < w6.heap.size := Nat.lt_of_succ_lt lt_w6_0_2
  have lt_w6_0_0 : w.heap.size < w6.heap.size := Nat.lt_of_succ_lt lt_w6_0_1
  obtain ⟨le_w6_0_0, le_w6_0_1, le_w6_0_2, le_w6_0_3, lu_w6_0_1, lu_w6_0_2, lu_w6_0_3⟩ := lts lt_w6_0_0
  have lt_w6_1_0 : w5.heap.size < w6.heap.size := by omega
  obtain ⟨le_w6_1_0, le_w6_1_1, le_w6_1_2, le_w6_1_3, lu_w6_1_1, lu_w6_1_2, lu_w6_1_3⟩ := lts lt_w6_1_0
  clear le_w5_0_0 le_w5_0_1 le_w5_0_2 le_w5_0_3 lu_w5_0_1 lu_w5_0_2 lu_w5_0_3 lt_w5_0_0 lt_w5_0_1 lt_w5_0_2
  clear hm_w6
  clear hb_
  go_wp2_with fail
  go_region
  all_goals go_wp2_with fail
  all_goals exact bodyPost_ret (v := .tuple #[.int .i64 T, .agg #[.int .i64 (T + size * p), .int .i64 (V + (r * p - 1048576) * size)], .int .i64 0]) (by simp [results, Try.results14, go_sem, c_e_0, c_e_1, c_n_0, c_n_1]) rfl ⟨rfl, by have hb := A0.out; have := hb.size; (repeat' (first | (with_reducible exact Below.refl _ _) | (with_reducible refine Below.alloc ?_ ?_ _) | (with_reducible refine Below.setCell ?_ ?_ _) | (with_reducible refine Below.drew ?_) | (with_reducible assumption) | omega | (simp; done) | (simp; omega)))⟩
theorem ref_Step_10_false (r p a l t free size : Int) (h : Cr.ok r p = true) (h2 : Cr.stOk a l = true) (h3 : Cr.argOk t free size = true) (hA : a < t) (hM : ¬ Cr.mid r a l t free < 0) (ho : Cr.stOk (Cr.outA r p a l t free size) (Cr.outL r p a l t free size) = false) (w : World) :
    Calls Try.prog 14 #[.agg #[.int .i64 r, .int .i64 p], .agg #[.int .i64 a, .int .i64 l], .int .i64 t, .int .i64 free, .int .i64 size] w fun e w' => e = .returned (.tuple #[.int .i64 0, .agg #[.int .i64 0, .int .i64 0], .int .i64 6]) ∧ Below w.heap.size w w' := by
  obtain ⟨p0, p1, r0, r1, rp, a0, a1, l0, l1, t0, t1, f0, f1, s0, s1⟩ := Cr.in_of h h2 h3
  have g0 := And.intro t0 t1
  have g1 := And.intro f0 f1
  have g2 := And.intro s0 s1
  have rp1 := (Cr.prod_bound p0 p1 r0 r1).1
  have C1 := Right_b r p
  rw [h] at C1
  have C1 := Lib.hid C1
  have C2 := RightState_b a l
  rw [h2] at C2
  have C2 := Lib.hid C2
  have I0 := in_any t 0 1073741824
  rw [decide_eq_true g0] at I0
  have I0 := Lib.hid I0
  have I1 := in_any free 0 1073741824
  rw [decide_eq_true g1] at I1
  have I1 := Lib.hid I1
  have I2 := in_any size 1 1542
  rw [decide_eq_true g2] at I2
  have I2 := Lib.hid I2
  have hbeg : Cr.beg a t = t := by unfold Cr.beg; rw [if_pos hA]
  have hlvl : Cr.lvl r a l t = min 0 (min 0 l + r * (t - a)) := by unfold Cr.lvl; rw [if_pos hA]
  have hin := Cr.lvl_in (a := a) (t := t) r0 l0 l1
  have hm := Cr.mid_in (t := t) (free := free) r0 r1 l0 l1 a0 f1 t1 a1
  have hsp := Cr.start_spec (a := a) (l := l) (t := t) (free := free) r0
  have hvm := Cr.lev_mid r a l t free
  have hmd : Cr.mid r a l t free = Cr.lvl r a l t + r * (max (Cr.beg a t) free - Cr.beg a t) := rfl
  have hlv : Cr.lev r a l t free = Cr.lvl r a l t + r * (Cr.start r a l t free - Cr.beg a t) := rfl
  have hst : Cr.start r a l t free = max (Cr.beg a t) free := by unfold Cr.start; rw [if_neg (show ¬ Cr.lvl r a l t + r * (max (Cr.beg a t) free - Cr.beg a t) < 0 from hM)]
  have RS := RightState_b (Cr.outA r p a l t free size) (Cr.outL r p a l t free size)
  rw [ho] at RS
  clear ho h h2 h3
  rw [show Cr.outL r p a l t free size = Cr.lev r a l t free + (r * p - 1048576) * size from rfl, show Cr.outA r p a l t free size = Cr.start r a l t free + size * p from rfl] at RS
  rw [hbeg] at hsp hvm hmd hlv hst
  rw [hlvl] at hin hmd hlv
  have gn := Cr.gain r0 r1 (show 0 ≤ max t free - t by omega) (by omega)
  have gu := Cr.gain r0 r1 (show 0 ≤ Cr.start r a l t free - max t free by omega) (by omega)
  have gv := Cr.gain r0 r1 (show 0 ≤ Cr.start r a l t free - t by omega) (by omega)
  have ga := Cr.gain r0 r1 (show 0 ≤ t - a by omega) (by omega)
  have U1 := up_b r p (min 0 l) (t - a) (by omega) (by omega) (by omega) (by omega)
  clear hlvl hbeg
  generalize min 0 l + r * (t - a) = X at *
  have U1 := Lib.hid U1
  have U2 := up_b r p (min 0 X) (max t free - t) (by omega) (by omega) (by omega) (by omega)
  have U3 := up_b r p (min 0 X) (Cr.start r a l t free - t) (by omega) (by omega) (by omega) (by omega)
  rw [← hmd] at U2
  rw [← hlv] at U3
  have U2 := Lib.hid U2
  have vb : 0 ≤ Cr.lev r a l t free ∧ Cr.lev r a l t free ≤ 36028797018963968 := by omega
  have m1 := Int.mul_le_mul (show 1048576 - r * p ≤ 1048576 by omega) s1 (by omega) (by omega)
  have m2 := Int.mul_nonneg (show 0 ≤ 1048576 - r * p by omega) (show 0 ≤ size by omega)
  have m3 : (r * p - 1048576) * size = -((1048576 - r * p) * size) := by rw [← Int.neg_mul]; congr 1; omega
  have m4 := Int.mul_le_mul s1 p1 (by omega) (by omega)
  have m5 := Int.mul_nonneg (show 0 ≤ size by omega) (show 0 ≤ p by omega)
  generalize Cr.lev r a l t free = V at *
  generalize Cr.mid r a l t free = M at *
  generalize Cr.start r a l t free = T at *
  have U3 := Lib.hid U3
  have RS := Lib.hid RS
  have q0 : IntKind.i64.wrap (t - a) = t - a := IntWalk.i64_in _ (by omega)
  have q1 : IntKind.i64.wrap (max t free - t) = max t free - t := IntWalk.i64_in _ (by omega)
  have q2 : IntKind.i64.wrap (T - t) = T - t := IntWalk.i64_in _ (by omega)
  have p1_ : IntKind.i64.wrap (size * p) = size * p := IntWalk.i64_in _ (by omega)
  have p2_ : IntKind.i64.wrap (T + size * p) = T + size * p := IntWalk.i64_in _ (by omega)
  have p3_ : IntKind.i64.wrap (r * p) = r * p := IntWalk.i64_in _ (by omega)
  have p4_ : IntKind.i64.wrap (r * p - 1048576) = r * p - 1048576 := IntWalk.i64_in _ (by omega)
  have p5_ : IntKind.i64.wrap ((r * p - 1048576) * size) = (r * p - 1048576) * size := IntWalk.i64_in _ (by omega)
  have p6_ : IntKind.i64.wrap (V + (r * p - 1048576) * size) = V + (r * p - 1048576) * size := IntWalk.i64_in _ (by omega)
  clear m1 m2 m3 m4 m5 gn gu gv ga hin hm hsp hvm hmd hlv vb
  subst hst
  have A0 : Hid (Below w.heap.size w w) := Lib.hid (Below.refl _ _)
  go_enter Try.func14, Try.ntmps14
  go_wp2_with fail
  refine (C1.out _).mono ?_
  rintro e w1 ⟨rfl, hb_⟩
  have s_w1 := hb_.size
  try simp only [World.size_alloc] at s_w1
  have hm_w1 : Below w.heap.size w w1 := Below.trans (b := (((w.alloc (.cells #[.int .i64 r, .int .i64 p] 23)).alloc (.cells #[.int .i64 a, .int .i64 l] 25)).alloc (.cells #[.int .i64 0, .int .i64 0] 25))) (by (repeat' (first | (with_reducible exact Below.refl _ _) | (with_reducible refine Below.alloc ?_ ?_ _) | (with_reducible refine Below.setCell ?_ ?_ _) | (with_reducible refine Below.drew ?_) | (with_reducible assumption) | omega | (simp; done) | (simp; omega)))) (hb_.mono (by first | (simp; done) | (simp; omega)))
  have q_w1 := hm_w1.size
  replace A0 := Lib.hid (A0.out.trans (hm_w1.mono A0.out.size))
  have c_s_0 : w1.cell? ⟨w.heap.size, 0, none⟩ = some (.int .i64 r) := by rw [(bcell hb_).1 _ _ (by first | (simp; done) | (simp; omega))]; simp [go_sem]
  have c_s_1 : w1.cell? ⟨w.heap.size, 1, none⟩ = some (.int .i64 p) := by rw [(bcell hb_).1 _ _ (by first | (simp; done) | (simp; omega))]; simp [go_sem]
  have c_c_0 : w1.cell? ⟨w.heap.size + 1, 0, none⟩ = some (.int .i64 a) := by rw [(bcell hb_).1 _ _ (by first | (simp; done) | (simp; omega))]; simp [go_sem]
  have c_c_1 : w1.cell? ⟨w.heap.size + 1, 1, none⟩ = some (.int .i64 l) := by rw [(bcell hb_).1 _ _ (by first | (simp; done) | (simp; omega))]; simp [go_sem]
  have c_e_0 : w1.cell? ⟨w.heap.size + 1 + 1, 0, none⟩ = some (.int .i64 0) := by rw [(bcell hb_).1 _ _ (by first | (simp; done) | (simp; omega))]; simp [go_sem]
  have f_e_0 : w1.frozen? ⟨w.heap.size + 1 + 1, 0, none⟩ = false := by rw [(bcell hb_).2 _ _ (by first | (simp; done) | (simp; omega))]; simp [go_sem]
  have c_e_1 : w1.cell? ⟨w.heap.size + 1 + 1, 1, none⟩ = some (.int .i64 0) := by rw [(bcell hb_).1 _ _ (by first | (simp; done) | (simp; omega))]; simp [go_sem]
  have f_e_1 : w1.frozen? ⟨w.heap.size + 1 + 1, 1, none⟩ = false := by rw [(bcell hb_).2 _ _ (by first | (simp; done) | (simp; omega))]; simp [go_sem]
  have lt_w1_0_2 : w.heap.size + 1 + 1 < w1.heap.size := by omega
  have lt_w1_0_1 : w.heap.size + 1 < w1.heap.size := Nat.lt_of_succ_lt lt_w1_0_2
  have lt_w1_0_0 : w.heap.size < w1.heap.size := Nat.lt_of_succ_lt lt_w1_0_1
  obtain ⟨le_w1_0_0, le_w1_0_1, le_w1_0_2, le_w1_0_3, lu_w1_0_1, lu_w1_0_2, lu_w1_0_3⟩ := lts lt_w1_0_0
  clear hm_w1
  clear hb_
  go_wp2_with fail
  refine (C2.out _).mono ?_
  rintro e w2 ⟨rfl, hb_⟩
  have hm_w2 : Below w1.heap.size w1 w2 := hb_
  have q_w2 := hm_w2.size
  replace c_s_0 := below_cell hm_w2 c_s_0 lt_w1_0_0
  replace c_s_1 := below_cell hm_w2 c_s_1 lt_w1_0_0
  replace c_c_0 := below_cell hm_w2 c_c_0 lt_w1_0_1
  replace c_c_1 := below_cell hm_w2 c_c_1 lt_w1_0_1
  replace c_e_0 := below_cell hm_w2 c_e_0 lt_w1_0_2
  replace f_e_0 := (hm_w2.frozen (p := ⟨w.heap.size + 1 + 1, 0, none⟩) lt_w1_0_2).trans f_e_0
  replace c_e_1 := below_cell hm_w2 c_e_1 lt_w1_0_2
  replace f_e_1 := (hm_w2.frozen (p := ⟨w.heap.size + 1 + 1, 1, none⟩) lt_w1_0_2).trans f_e_1
  replace A0 := Lib.hid (A0.out.trans (hm_w2.mono A0.out.size))
  have lt_w2_0_2 : w.heap.size + 1 + 1 < w2.heap.size := by omega
  have lt_w2_0_1 : w.heap.size + 1 < w2.heap.size := Nat.lt_of_succ_lt lt_w2_0_2
  have lt_w2_0_0 : w.heap.size < w2.heap.size := Nat.lt_of_succ_lt lt_w2_0_1
  obtain ⟨le_w2_0_0, le_w2_0_1, le_w2_0_2, le_w2_0_3, lu_w2_0_1, lu_w2_0_2, lu_w2_0_3⟩ := lts lt_w2_0_0
  clear le_w1_0_0 le_w1_0_1 le_w1_0_2 le_w1_0_3 lu_w1_0_1 lu_w1_0_2 lu_w1_0_3 lt_w1_0_0 lt_w1_0_1 lt_w1_0_2
  clear hm_w2
  clear hb_
  go_wp2_with fail
  refine (I0.out _).mono ?_
  rintro e w9 ⟨rfl, rfl⟩
  go_wp2_with fail
  refine (I1.out _).mono ?_
  rintro e w9 ⟨rfl, rfl⟩
  go_wp2_with fail
  refine (I2.out _).mono ?_
  rintro e w9 ⟨rfl, rfl⟩
  go_upto_region 5 with fail
  go_quiet (fail)
  go_wp2_with fail
  refine (U1.out _).mono ?_
  rintro e w3 ⟨rfl, hb_⟩
  replace hb_ : Below w2.heap.size w2 w3 := (belowN (Below.refl _ _) _).trans hb_
  have hm_w3 : Below w2.heap.size w2 w3 := hb_
  have q_w3 := hm_w3.size
  replace c_s_0 := below_cell hm_w3 c_s_0 lt_w2_0_0
  replace c_s_1 := below_cell hm_w3 c_s_1 lt_w2_0_0
  replace c_c_0 := below_cell hm_w3 c_c_0 lt_w2_0_1
  replace c_c_1 := below_cell hm_w3 c_c_1 lt_w2_0_1
  replace c_e_0 := below_cell hm_w3 c_e_0 lt_w2_0_2
  replace f_e_0 := (hm_w3.frozen (p := ⟨w.heap.size + 1 + 1, 0, none⟩) lt_w2_0_2).trans f_e_0
  replace c_e_1 := below_cell hm_w3 c_e_1 lt_w2_0_2
  replace f_e_1 := (hm_w3.frozen (p := ⟨w.heap.size + 1 + 1, 1, none⟩) lt_w2_0_2).trans f_e_1
  replace A0 := Lib.hid (A0.out.trans (hm_w3.mono A0.out.size))
  have lt_w3_0_2 : w.heap.size + 1 + 1 < w3.heap.size := by omega
  have lt_w3_0_1 : w.heap.size + 1 < w3.heap.size := Nat.lt_of_succ_lt lt_w3_0_2
  have lt_w3_0_0 : w.heap.size < w3.heap.size := Nat.lt_of_succ_lt lt_w3_0_1
  obtain ⟨le_w3_0_0, le_w3_0_1, le_w3_0_2, le_w3_0_3, lu_w3_0_1, lu_w3_0_2, lu_w3_0_3⟩ := lts lt_w3_0_0
  clear le_w2_0_0 le_w2_0_1 le_w2_0_2 le_w2_0_3 lu_w2_0_1 lu_w2_0_2 lu_w2_0_3 lt_w2_0_0 lt_w2_0_1 lt_w2_0_2
  clear hm_w3
  clear hb_
  go_wp2_with fail
  refine (U2.out _).mono ?_
  rintro e w4 ⟨rfl, hb_⟩
  have hm_w4 : Below w3.heap.size w3 w4 := hb_
  have q_w4 := hm_w4.size
  replace c_s_0 := below_cell hm_w4 c_s_0 lt_w3_0_0
  replace c_s_1 := below_cell hm_w4 c_s_1 lt_w3_0_0
  replace c_c_0 := below_cell hm_w4 c_c_0 lt_w3_0_1
  replace c_c_1 := below_cell hm_w4 c_c_1 lt_w3_0_1
  replace c_e_0 := below_cell hm_w4 c_e_0 lt_w3_0_2
  replace f_e_0 := (hm_w4.frozen (p := ⟨w.heap.size + 1 + 1, 0, none⟩) lt_w3_0_2).trans f_e_0
  replace c_e_1 := below_cell hm_w4 c_e_1 lt_w3_0_2
  replace f_e_1 := (hm_w4.frozen (p := ⟨w.heap.size + 1 + 1, 1, none⟩) lt_w3_0_2).trans f_e_1
  replace A0 := Lib.hid (A0.out.trans (hm_w4.mono A0.out.size))
  have lt_w4_0_2 : w.heap.size + 1 + 1 < w4.heap.size := by omega
  have lt_w4_0_1 : w.heap.size + 1 < w4.heap.size := Nat.lt_of_succ_lt lt_w4_0_2
  have lt_w4_0_0 : w.heap.size < w4.heap.size := Nat.lt_of_succ_lt lt_w4_0_1
  obtain ⟨le_w4_0_0, le_w4_0_1, le_w4_0_2, le_w4_0_3, lu_w4_0_1, lu_w4_0_2, lu_w4_0_3⟩ := lts lt_w4_0_0
  clear le_w3_0_0 le_w3_0_1 le_w3_0_2 le_w3_0_3 lu_w3_0_1 lu_w3_0_2 lu_w3_0_3 lt_w3_0_0 lt_w3_0_1 lt_w3_0_2
  clear hm_w4
  clear hb_
  go_wp2_with fail
  refine (U3.out _).mono ?_
  rintro e w5 ⟨rfl, hb_⟩
  have hm_w5 : Below w4.heap.size w4 w5 := hb_
  have q_w5 := hm_w5.size
  replace c_s_0 := below_cell hm_w5 c_s_0 lt_w4_0_0
  replace c_s_1 := below_cell hm_w5 c_s_1 lt_w4_0_0
  replace c_c_0 := below_cell hm_w5 c_c_0 lt_w4_0_1
  replace c_c_1 := below_cell hm_w5 c_c_1 lt_w4_0_1
  replace c_e_0 := below_cell hm_w5 c_e_0 lt_w4_0_2
  replace f_e_0 := (hm_w5.frozen (p := ⟨w.heap.size + 1 + 1, 0, none⟩) lt_w4_0_2).trans f_e_0
  replace c_e_1 := below_cell hm_w5 c_e_1 lt_w4_0_2
  replace f_e_1 := (hm_w5.frozen (p := ⟨w.heap.size + 1 + 1, 1, none⟩) lt_w4_0_2).trans f_e_1
  replace A0 := Lib.hid (A0.out.trans (hm_w5.mono A0.out.size))
  have lt_w5_0_2 : w.heap.size + 1 + 1 < w5.heap.size := by omega
  have lt_w5_0_1 : w.heap.size + 1 < w5.heap.size := Nat.lt_of_succ_lt lt_w5_0_2
  have lt_w5_0_0 : w.heap.size < w5.heap.size := Nat.lt_of_succ_lt lt_w5_0_1
  obtain ⟨le_w5_0_0, le_w5_0_1, le_w5_0_2, le_w5_0_3, lu_w5_0_1, lu_w5_0_2, lu_w5_0_3⟩ := lts lt_w5_0_0
  clear le_w4_0_0 le_w4_0_1 le_w4_0_2 le_w4_0_3 lu_w4_0_1 lu_w4_0_2 lu_w4_0_3 lt_w4_0_0 lt_w4_0_1 lt_w4_0_2
  clear hm_w5
  clear hb_
  go_wp2_with fail
  refine (RS.out _).mono ?_
  rintro e w6 ⟨rfl, hb_⟩
  have s_w6 := hb_.size
  try simp only [World.size_alloc] at s_w6
  have hm_w6 : Below w5.heap.size w5 w6 := Below.trans (b := (w5.alloc (.cells #[.int .i64 (max t free + size * p), .int .i64 (V + (r * p - 1048576) * size)] 25))) (by (repeat' (first | (with_reducible exact Below.refl _ _) | (with_reducible refine Below.alloc ?_ ?_ _) | (with_reducible refine Below.setCell ?_ ?_ _) | (with_reducible refine Below.drew ?_) | (with_reducible assumption) | omega | (simp; done) | (simp; omega)))) (hb_.mono (by first | (simp; done) | (simp; omega)))
  have q_w6 := hm_w6.size
  replace c_s_0 := below_cell hm_w6 c_s_0 lt_w5_0_0
  replace c_s_1 := below_cell hm_w6 c_s_1 lt_w5_0_0
  replace c_c_0 := below_cell hm_w6 c_c_0 lt_w5_0_1
  replace c_c_1 := below_cell hm_w6 c_c_1 lt_w5_0_1
  replace c_e_0 := below_cell hm_w6 c_e_0 lt_w5_0_2
  replace f_e_0 := (hm_w6.frozen (p := ⟨w.heap.size + 1 + 1, 0, none⟩) lt_w5_0_2).trans f_e_0
  replace c_e_1 := below_cell hm_w6 c_e_1 lt_w5_0_2
  replace f_e_1 := (hm_w6.frozen (p := ⟨w.heap.size + 1 + 1, 1, none⟩) lt_w5_0_2).trans f_e_1
  replace A0 := Lib.hid (A0.out.trans (hm_w6.mono A0.out.size))
  have c_n_0 : w6.cell? ⟨w5.heap.size, 0, none⟩ = some (.int .i64 (max t free + size * p)) := by rw [(bcell hb_).1 _ _ (by first | (simp; done) | (simp; omega))]; simp [go_sem]
  have c_n_1 : w6.cell? ⟨w5.heap.size, 1, none⟩ = some (.int .i64 (V + (r * p - 1048576) * size)) := by rw [(bcell hb_).1 _ _ (by first | (simp; done) | (simp; omega))]; simp [go_sem]
  have lt_w6_0_2 : w.heap.size + 1 + 1 < w6.heap.size := by omega
  have lt_w6_0_1 : w.heap.size + 1 < w6.heap.size := Nat.lt_of_succ_lt lt_w6_0_2
  have lt_w6_0_0 : w.heap.size < w6.heap.size := Nat.lt_of_succ_lt lt_w6_0_1
  obtain ⟨le_w6_0_0, le_w6_0_1, le_w6_0_2, le_w6_0_3, lu_w6_0_1, lu_w6_0_2, lu_w6_0_3⟩ := lts lt_w6_0_0
  have lt_w6_1_0 : w5.heap.size < w6.heap.size := by omega
  obtain ⟨le_w6_1_0, le_w6_1_1, le_w6_1_2, le_w6_1_3, lu_w6_1_1, lu_w6_1_2, lu_w6_1_3⟩ := lts lt_w6_1_0
  clear le_w5_0_0 le_w5_0_1 le_w5_0_2 le_w5_0_3 lu_w5_0_1 lu_w5_0_2 lu_w5_0_3 lt_w5_0_0 lt_w5_0_1 lt_w5_0_2
  clear hm_w6
  clear hb_
  go_wp2_with fail
  exact bodyPost_ret (v := .tuple #[.int .i64 0, .agg #[.int .i64 0, .int .i64 0], .int .i64 6]) (by simp [results, Try.results14, go_sem, c_e_0, c_e_1]) rfl ⟨rfl, by have hb := A0.out; have := hb.size; (repeat' (first | (with_reducible exact Below.refl _ _) | (with_reducible refine Below.alloc ?_ ?_ _) | (with_reducible refine Below.setCell ?_ ?_ _) | (with_reducible refine Below.drew ?_) | (with_reducible assumption) | omega | (simp; done) | (simp; omega)))⟩
theorem ref_Step_10_true (r p a l t free size : Int) (h : Cr.ok r p = true) (h2 : Cr.stOk a l = true) (h3 : Cr.argOk t free size = true) (hA : a < t) (hM : ¬ Cr.mid r a l t free < 0) (ho : Cr.stOk (Cr.outA r p a l t free size) (Cr.outL r p a l t free size) = true) (w : World) :
    Calls Try.prog 14 #[.agg #[.int .i64 r, .int .i64 p], .agg #[.int .i64 a, .int .i64 l], .int .i64 t, .int .i64 free, .int .i64 size] w fun e w' => e = .returned (.tuple #[.int .i64 (Cr.start r a l t free), .agg #[.int .i64 (Cr.outA r p a l t free size), .int .i64 (Cr.outL r p a l t free size)], .int .i64 0]) ∧ Below w.heap.size w w' := by
  obtain ⟨p0, p1, r0, r1, rp, a0, a1, l0, l1, t0, t1, f0, f1, s0, s1⟩ := Cr.in_of h h2 h3
  have g0 := And.intro t0 t1
  have g1 := And.intro f0 f1
  have g2 := And.intro s0 s1
  have rp1 := (Cr.prod_bound p0 p1 r0 r1).1
  have C1 := Right_b r p
  rw [h] at C1
  have C1 := Lib.hid C1
  have C2 := RightState_b a l
  rw [h2] at C2
  have C2 := Lib.hid C2
  have I0 := in_any t 0 1073741824
  rw [decide_eq_true g0] at I0
  have I0 := Lib.hid I0
  have I1 := in_any free 0 1073741824
  rw [decide_eq_true g1] at I1
  have I1 := Lib.hid I1
  have I2 := in_any size 1 1542
  rw [decide_eq_true g2] at I2
  have I2 := Lib.hid I2
  have hbeg : Cr.beg a t = t := by unfold Cr.beg; rw [if_pos hA]
  have hlvl : Cr.lvl r a l t = min 0 (min 0 l + r * (t - a)) := by unfold Cr.lvl; rw [if_pos hA]
  have hin := Cr.lvl_in (a := a) (t := t) r0 l0 l1
  have hm := Cr.mid_in (t := t) (free := free) r0 r1 l0 l1 a0 f1 t1 a1
  have hsp := Cr.start_spec (a := a) (l := l) (t := t) (free := free) r0
  have hvm := Cr.lev_mid r a l t free
  have hmd : Cr.mid r a l t free = Cr.lvl r a l t + r * (max (Cr.beg a t) free - Cr.beg a t) := rfl
  have hlv : Cr.lev r a l t free = Cr.lvl r a l t + r * (Cr.start r a l t free - Cr.beg a t) := rfl
  have hst : Cr.start r a l t free = max (Cr.beg a t) free := by unfold Cr.start; rw [if_neg (show ¬ Cr.lvl r a l t + r * (max (Cr.beg a t) free - Cr.beg a t) < 0 from hM)]
  have RS := RightState_b (Cr.outA r p a l t free size) (Cr.outL r p a l t free size)
  rw [ho] at RS
  clear ho h h2 h3
  rw [show Cr.outL r p a l t free size = Cr.lev r a l t free + (r * p - 1048576) * size from rfl, show Cr.outA r p a l t free size = Cr.start r a l t free + size * p from rfl] at RS
  rw [show Cr.outL r p a l t free size = Cr.lev r a l t free + (r * p - 1048576) * size from rfl, show Cr.outA r p a l t free size = Cr.start r a l t free + size * p from rfl]
  rw [hbeg] at hsp hvm hmd hlv hst
  rw [hlvl] at hin hmd hlv
  have gn := Cr.gain r0 r1 (show 0 ≤ max t free - t by omega) (by omega)
  have gu := Cr.gain r0 r1 (show 0 ≤ Cr.start r a l t free - max t free by omega) (by omega)
  have gv := Cr.gain r0 r1 (show 0 ≤ Cr.start r a l t free - t by omega) (by omega)
  have ga := Cr.gain r0 r1 (show 0 ≤ t - a by omega) (by omega)
  have U1 := up_b r p (min 0 l) (t - a) (by omega) (by omega) (by omega) (by omega)
  clear hlvl hbeg
  generalize min 0 l + r * (t - a) = X at *
  have U1 := Lib.hid U1
  have U2 := up_b r p (min 0 X) (max t free - t) (by omega) (by omega) (by omega) (by omega)
  have U3 := up_b r p (min 0 X) (Cr.start r a l t free - t) (by omega) (by omega) (by omega) (by omega)
  rw [← hmd] at U2
  rw [← hlv] at U3
  have U2 := Lib.hid U2
  have vb : 0 ≤ Cr.lev r a l t free ∧ Cr.lev r a l t free ≤ 36028797018963968 := by omega
  have m1 := Int.mul_le_mul (show 1048576 - r * p ≤ 1048576 by omega) s1 (by omega) (by omega)
  have m2 := Int.mul_nonneg (show 0 ≤ 1048576 - r * p by omega) (show 0 ≤ size by omega)
  have m3 : (r * p - 1048576) * size = -((1048576 - r * p) * size) := by rw [← Int.neg_mul]; congr 1; omega
  have m4 := Int.mul_le_mul s1 p1 (by omega) (by omega)
  have m5 := Int.mul_nonneg (show 0 ≤ size by omega) (show 0 ≤ p by omega)
  generalize Cr.lev r a l t free = V at *
  generalize Cr.mid r a l t free = M at *
  generalize Cr.start r a l t free = T at *
  have U3 := Lib.hid U3
  have RS := Lib.hid RS
  have q0 : IntKind.i64.wrap (t - a) = t - a := IntWalk.i64_in _ (by omega)
  have q1 : IntKind.i64.wrap (max t free - t) = max t free - t := IntWalk.i64_in _ (by omega)
  have q2 : IntKind.i64.wrap (T - t) = T - t := IntWalk.i64_in _ (by omega)
  have p1_ : IntKind.i64.wrap (size * p) = size * p := IntWalk.i64_in _ (by omega)
  have p2_ : IntKind.i64.wrap (T + size * p) = T + size * p := IntWalk.i64_in _ (by omega)
  have p3_ : IntKind.i64.wrap (r * p) = r * p := IntWalk.i64_in _ (by omega)
  have p4_ : IntKind.i64.wrap (r * p - 1048576) = r * p - 1048576 := IntWalk.i64_in _ (by omega)
  have p5_ : IntKind.i64.wrap ((r * p - 1048576) * size) = (r * p - 1048576) * size := IntWalk.i64_in _ (by omega)
  have p6_ : IntKind.i64.wrap (V + (r * p - 1048576) * size) = V + (r * p - 1048576) * size := IntWalk.i64_in _ (by omega)
  clear m1 m2 m3 m4 m5 gn gu gv ga hin hm hsp hvm hmd hlv vb
  subst hst
  have A0 : Hid (Below w.heap.size w w) := Lib.hid (Below.refl _ _)
  go_enter Try.func14, Try.ntmps14
  go_wp2_with fail
  refine (C1.out _).mono ?_
  rintro e w1 ⟨rfl, hb_⟩
  have s_w1 := hb_.size
  try simp only [World.size_alloc] at s_w1
  have hm_w1 : Below w.heap.size w w1 := Below.trans (b := (((w.alloc (.cells #[.int .i64 r, .int .i64 p] 23)).alloc (.cells #[.int .i64 a, .int .i64 l] 25)).alloc (.cells #[.int .i64 0, .int .i64 0] 25))) (by (repeat' (first | (with_reducible exact Below.refl _ _) | (with_reducible refine Below.alloc ?_ ?_ _) | (with_reducible refine Below.setCell ?_ ?_ _) | (with_reducible refine Below.drew ?_) | (with_reducible assumption) | omega | (simp; done) | (simp; omega)))) (hb_.mono (by first | (simp; done) | (simp; omega)))
  have q_w1 := hm_w1.size
  replace A0 := Lib.hid (A0.out.trans (hm_w1.mono A0.out.size))
  have c_s_0 : w1.cell? ⟨w.heap.size, 0, none⟩ = some (.int .i64 r) := by rw [(bcell hb_).1 _ _ (by first | (simp; done) | (simp; omega))]; simp [go_sem]
  have c_s_1 : w1.cell? ⟨w.heap.size, 1, none⟩ = some (.int .i64 p) := by rw [(bcell hb_).1 _ _ (by first | (simp; done) | (simp; omega))]; simp [go_sem]
  have c_c_0 : w1.cell? ⟨w.heap.size + 1, 0, none⟩ = some (.int .i64 a) := by rw [(bcell hb_).1 _ _ (by first | (simp; done) | (simp; omega))]; simp [go_sem]
  have c_c_1 : w1.cell? ⟨w.heap.size + 1, 1, none⟩ = some (.int .i64 l) := by rw [(bcell hb_).1 _ _ (by first | (simp; done) | (simp; omega))]; simp [go_sem]
  have c_e_0 : w1.cell? ⟨w.heap.size + 1 + 1, 0, none⟩ = some (.int .i64 0) := by rw [(bcell hb_).1 _ _ (by first | (simp; done) | (simp; omega))]; simp [go_sem]
  have f_e_0 : w1.frozen? ⟨w.heap.size + 1 + 1, 0, none⟩ = false := by rw [(bcell hb_).2 _ _ (by first | (simp; done) | (simp; omega))]; simp [go_sem]
  have c_e_1 : w1.cell? ⟨w.heap.size + 1 + 1, 1, none⟩ = some (.int .i64 0) := by rw [(bcell hb_).1 _ _ (by first | (simp; done) | (simp; omega))]; simp [go_sem]
  have f_e_1 : w1.frozen? ⟨w.heap.size + 1 + 1, 1, none⟩ = false := by rw [(bcell hb_).2 _ _ (by first | (simp; done) | (simp; omega))]; simp [go_sem]
  have lt_w1_0_2 : w.heap.size + 1 + 1 < w1.heap.size := by omega
  have lt_w1_0_1 : w.heap.size + 1 < w1.heap.size := Nat.lt_of_succ_lt lt_w1_0_2
  have lt_w1_0_0 : w.heap.size < w1.heap.size := Nat.lt_of_succ_lt lt_w1_0_1
  obtain ⟨le_w1_0_0, le_w1_0_1, le_w1_0_2, le_w1_0_3, lu_w1_0_1, lu_w1_0_2, lu_w1_0_3⟩ := lts lt_w1_0_0
  clear hm_w1
  clear hb_
  go_wp2_with fail
  refine (C2.out _).mono ?_
  rintro e w2 ⟨rfl, hb_⟩
  have hm_w2 : Below w1.heap.size w1 w2 := hb_
  have q_w2 := hm_w2.size
  replace c_s_0 := below_cell hm_w2 c_s_0 lt_w1_0_0
  replace c_s_1 := below_cell hm_w2 c_s_1 lt_w1_0_0
  replace c_c_0 := below_cell hm_w2 c_c_0 lt_w1_0_1
  replace c_c_1 := below_cell hm_w2 c_c_1 lt_w1_0_1
  replace c_e_0 := below_cell hm_w2 c_e_0 lt_w1_0_2
  replace f_e_0 := (hm_w2.frozen (p := ⟨w.heap.size + 1 + 1, 0, none⟩) lt_w1_0_2).trans f_e_0
  replace c_e_1 := below_cell hm_w2 c_e_1 lt_w1_0_2
  replace f_e_1 := (hm_w2.frozen (p := ⟨w.heap.size + 1 + 1, 1, none⟩) lt_w1_0_2).trans f_e_1
  replace A0 := Lib.hid (A0.out.trans (hm_w2.mono A0.out.size))
  have lt_w2_0_2 : w.heap.size + 1 + 1 < w2.heap.size := by omega
  have lt_w2_0_1 : w.heap.size + 1 < w2.heap.size := Nat.lt_of_succ_lt lt_w2_0_2
  have lt_w2_0_0 : w.heap.size < w2.heap.size := Nat.lt_of_succ_lt lt_w2_0_1
  obtain ⟨le_w2_0_0, le_w2_0_1, le_w2_0_2, le_w2_0_3, lu_w2_0_1, lu_w2_0_2, lu_w2_0_3⟩ := lts lt_w2_0_0
  clear le_w1_0_0 le_w1_0_1 le_w1_0_2 le_w1_0_3 lu_w1_0_1 lu_w1_0_2 lu_w1_0_3 lt_w1_0_0 lt_w1_0_1 lt_w1_0_2
  clear hm_w2
  clear hb_
  go_wp2_with fail
  refine (I0.out _).mono ?_
  rintro e w9 ⟨rfl, rfl⟩
  go_wp2_with fail
  refine (I1.out _).mono ?_
  rintro e w9 ⟨rfl, rfl⟩
  go_wp2_with fail
  refine (I2.out _).mono ?_
  rintro e w9 ⟨rfl, rfl⟩
  go_upto_region 5 with fail
  go_quiet (fail)
  go_wp2_with fail
  refine (U1.out _).mono ?_
  rintro e w3 ⟨rfl, hb_⟩
  replace hb_ : Below w2.heap.size w2 w3 := (belowN (Below.refl _ _) _).trans hb_
  have hm_w3 : Below w2.heap.size w2 w3 := hb_
  have q_w3 := hm_w3.size
  replace c_s_0 := below_cell hm_w3 c_s_0 lt_w2_0_0
  replace c_s_1 := below_cell hm_w3 c_s_1 lt_w2_0_0
  replace c_c_0 := below_cell hm_w3 c_c_0 lt_w2_0_1
  replace c_c_1 := below_cell hm_w3 c_c_1 lt_w2_0_1
  replace c_e_0 := below_cell hm_w3 c_e_0 lt_w2_0_2
  replace f_e_0 := (hm_w3.frozen (p := ⟨w.heap.size + 1 + 1, 0, none⟩) lt_w2_0_2).trans f_e_0
  replace c_e_1 := below_cell hm_w3 c_e_1 lt_w2_0_2
  replace f_e_1 := (hm_w3.frozen (p := ⟨w.heap.size + 1 + 1, 1, none⟩) lt_w2_0_2).trans f_e_1
  replace A0 := Lib.hid (A0.out.trans (hm_w3.mono A0.out.size))
  have lt_w3_0_2 : w.heap.size + 1 + 1 < w3.heap.size := by omega
  have lt_w3_0_1 : w.heap.size + 1 < w3.heap.size := Nat.lt_of_succ_lt lt_w3_0_2
  have lt_w3_0_0 : w.heap.size < w3.heap.size := Nat.lt_of_succ_lt lt_w3_0_1
  obtain ⟨le_w3_0_0, le_w3_0_1, le_w3_0_2, le_w3_0_3, lu_w3_0_1, lu_w3_0_2, lu_w3_0_3⟩ := lts lt_w3_0_0
  clear le_w2_0_0 le_w2_0_1 le_w2_0_2 le_w2_0_3 lu_w2_0_1 lu_w2_0_2 lu_w2_0_3 lt_w2_0_0 lt_w2_0_1 lt_w2_0_2
  clear hm_w3
  clear hb_
  go_wp2_with fail
  refine (U2.out _).mono ?_
  rintro e w4 ⟨rfl, hb_⟩
  have hm_w4 : Below w3.heap.size w3 w4 := hb_
  have q_w4 := hm_w4.size
  replace c_s_0 := below_cell hm_w4 c_s_0 lt_w3_0_0
  replace c_s_1 := below_cell hm_w4 c_s_1 lt_w3_0_0
  replace c_c_0 := below_cell hm_w4 c_c_0 lt_w3_0_1
  replace c_c_1 := below_cell hm_w4 c_c_1 lt_w3_0_1
  replace c_e_0 := below_cell hm_w4 c_e_0 lt_w3_0_2
  replace f_e_0 := (hm_w4.frozen (p := ⟨w.heap.size + 1 + 1, 0, none⟩) lt_w3_0_2).trans f_e_0
  replace c_e_1 := below_cell hm_w4 c_e_1 lt_w3_0_2
  replace f_e_1 := (hm_w4.frozen (p := ⟨w.heap.size + 1 + 1, 1, none⟩) lt_w3_0_2).trans f_e_1
  replace A0 := Lib.hid (A0.out.trans (hm_w4.mono A0.out.size))
  have lt_w4_0_2 : w.heap.size + 1 + 1 < w4.heap.size := by omega
  have lt_w4_0_1 : w.heap.size + 1 < w4.heap.size := Nat.lt_of_succ_lt lt_w4_0_2
  have lt_w4_0_0 : w.heap.size < w4.heap.size := Nat.lt_of_succ_lt lt_w4_0_1
  obtain ⟨le_w4_0_0, le_w4_0_1, le_w4_0_2, le_w4_0_3, lu_w4_0_1, lu_w4_0_2, lu_w4_0_3⟩ := lts lt_w4_0_0
  clear le_w3_0_0 le_w3_0_1 le_w3_0_2 le_w3_0_3 lu_w3_0_1 lu_w3_0_2 lu_w3_0_3 lt_w3_0_0 lt_w3_0_1 lt_w3_0_2
  clear hm_w4
  clear hb_
  go_wp2_with fail
  refine (U3.out _).mono ?_
  rintro e w5 ⟨rfl, hb_⟩
  have hm_w5 : Below w4.heap.size w4 w5 := hb_
  have q_w5 := hm_w5.size
  replace c_s_0 := below_cell hm_w5 c_s_0 lt_w4_0_0
  replace c_s_1 := below_cell hm_w5 c_s_1 lt_w4_0_0
  replace c_c_0 := below_cell hm_w5 c_c_0 lt_w4_0_1
  replace c_c_1 := below_cell hm_w5 c_c_1 lt_w4_0_1
  replace c_e_0 := below_cell hm_w5 c_e_0 lt_w4_0_2
  replace f_e_0 := (hm_w5.frozen (p := ⟨w.heap.size + 1 + 1, 0, none⟩) lt_w4_0_2).trans f_e_0
  replace c_e_1 := below_cell hm_w5 c_e_1 lt_w4_0_2
  replace f_e_1 := (hm_w5.frozen (p := ⟨w.heap.size + 1 + 1, 1, none⟩) lt_w4_0_2).trans f_e_1
  replace A0 := Lib.hid (A0.out.trans (hm_w5.mono A0.out.size))
  have lt_w5_0_2 : w.heap.size + 1 + 1 < w5.heap.size := by omega
  have lt_w5_0_1 : w.heap.size + 1 < w5.heap.size := Nat.lt_of_succ_lt lt_w5_0_2
  have lt_w5_0_0 : w.heap.size < w5.heap.size := Nat.lt_of_succ_lt lt_w5_0_1
  obtain ⟨le_w5_0_0, le_w5_0_1, le_w5_0_2, le_w5_0_3, lu_w5_0_1, lu_w5_0_2, lu_w5_0_3⟩ := lts lt_w5_0_0
  clear le_w4_0_0 le_w4_0_1 le_w4_0_2 le_w4_0_3 lu_w4_0_1 lu_w4_0_2 lu_w4_0_3 lt_w4_0_0 lt_w4_0_1 lt_w4_0_2
  clear hm_w5
  clear hb_
  go_wp2_with fail
  refine (RS.out _).mono ?_
  rintro e w6 ⟨rfl, hb_⟩
  have s_w6 := hb_.size
  try simp only [World.size_alloc] at s_w6
  have hm_w6 : Below w5.heap.size w5 w6 := Below.trans (b := (w5.alloc (.cells #[.int .i64 (max t free + size * p), .int .i64 (V + (r * p - 1048576) * size)] 25))) (by (repeat' (first | (with_reducible exact Below.refl _ _) | (with_reducible refine Below.alloc ?_ ?_ _) | (with_reducible refine Below.setCell ?_ ?_ _) | (with_reducible refine Below.drew ?_) | (with_reducible assumption) | omega | (simp; done) | (simp; omega)))) (hb_.mono (by first | (simp; done) | (simp; omega)))
  have q_w6 := hm_w6.size
  replace c_s_0 := below_cell hm_w6 c_s_0 lt_w5_0_0
  replace c_s_1 := below_cell hm_w6 c_s_1 lt_w5_0_0
  replace c_c_0 := below_cell hm_w6 c_c_0 lt_w5_0_1
  replace c_c_1 := below_cell hm_w6 c_c_1 lt_w5_0_1
  replace c_e_0 := below_cell hm_w6 c_e_0 lt_w5_0_2
  replace f_e_0 := (hm_w6.frozen (p := ⟨w.heap.size + 1 + 1, 0, none⟩) lt_w5_0_2).trans f_e_0
  replace c_e_1 := below_cell hm_w6 c_e_1 lt_w5_0_2
  replace f_e_1 := (hm_w6.frozen (p := ⟨w.heap.size + 1 + 1, 1, none⟩) lt_w5_0_2).trans f_e_1
  replace A0 := Lib.hid (A0.out.trans (hm_w6.mono A0.out.size))
  have c_n_0 : w6.cell? ⟨w5.heap.size, 0, none⟩ = some (.int .i64 (max t free + size * p)) := by rw [(bcell hb_).1 _ _ (by first | (simp; done) | (simp; omega))]; simp [go_sem]
  have c_n_1 : w6.cell? ⟨w5.heap.size, 1, none⟩ = some (.int .i64 (V + (r * p - 1048576) * size)) := by rw [(bcell hb_).1 _ _ (by first | (simp; done) | (simp; omega))]; simp [go_sem]
  have lt_w6_0_2 : w.heap.size + 1 + 1 < w6.heap.size := by omega
  have lt_w6_0_1 : w.heap.size + 1 < w6.heap.size := Nat.lt_of_succ_lt lt_w6_0_2
  have lt_w6_0_0 : w.heap.size < w6.heap.size := Nat.lt_of_succ_lt lt_w6_0_1
  obtain ⟨le_w6_0_0, le_w6_0_1, le_w6_0_2, le_w6_0_3, lu_w6_0_1, lu_w6_0_2, lu_w6_0_3⟩ := lts lt_w6_0_0
  have lt_w6_1_0 : w5.heap.size < w6.heap.size := by omega
  obtain ⟨le_w6_1_0, le_w6_1_1, le_w6_1_2, le_w6_1_3, lu_w6_1_1, lu_w6_1_2, lu_w6_1_3⟩ := lts lt_w6_1_0
  clear le_w5_0_0 le_w5_0_1 le_w5_0_2 le_w5_0_3 lu_w5_0_1 lu_w5_0_2 lu_w5_0_3 lt_w5_0_0 lt_w5_0_1 lt_w5_0_2
  clear hm_w6
  clear hb_
  go_wp2_with fail
  go_region
  all_goals go_wp2_with fail
  all_goals exact bodyPost_ret (v := .tuple #[.int .i64 (max t free), .agg #[.int .i64 (max t free + size * p), .int .i64 (V + (r * p - 1048576) * size)], .int .i64 0]) (by simp [results, Try.results14, go_sem, c_e_0, c_e_1, c_n_0, c_n_1]) rfl ⟨rfl, by have hb := A0.out; have := hb.size; (repeat' (first | (with_reducible exact Below.refl _ _) | (with_reducible refine Below.alloc ?_ ?_ _) | (with_reducible refine Below.setCell ?_ ?_ _) | (with_reducible refine Below.drew ?_) | (with_reducible assumption) | omega | (simp; done) | (simp; omega)))⟩
theorem ref_Step_01_false (r p a l t free size : Int) (h : Cr.ok r p = true) (h2 : Cr.stOk a l = true) (h3 : Cr.argOk t free size = true) (hA : ¬ a < t) (hM : Cr.mid r a l t free < 0) (ho : Cr.stOk (Cr.outA r p a l t free size) (Cr.outL r p a l t free size) = false) (w : World) :
    Calls Try.prog 14 #[.agg #[.int .i64 r, .int .i64 p], .agg #[.int .i64 a, .int .i64 l], .int .i64 t, .int .i64 free, .int .i64 size] w fun e w' => e = .returned (.tuple #[.int .i64 0, .agg #[.int .i64 0, .int .i64 0], .int .i64 6]) ∧ Below w.heap.size w w' := by
  obtain ⟨p0, p1, r0, r1, rp, a0, a1, l0, l1, t0, t1, f0, f1, s0, s1⟩ := Cr.in_of h h2 h3
  have g0 := And.intro t0 t1
  have g1 := And.intro f0 f1
  have g2 := And.intro s0 s1
  have rp1 := (Cr.prod_bound p0 p1 r0 r1).1
  have C1 := Right_b r p
  rw [h] at C1
  have C1 := Lib.hid C1
  have C2 := RightState_b a l
  rw [h2] at C2
  have C2 := Lib.hid C2
  have I0 := in_any t 0 1073741824
  rw [decide_eq_true g0] at I0
  have I0 := Lib.hid I0
  have I1 := in_any free 0 1073741824
  rw [decide_eq_true g1] at I1
  have I1 := Lib.hid I1
  have I2 := in_any size 1 1542
  rw [decide_eq_true g2] at I2
  have I2 := Lib.hid I2
  have hbeg : Cr.beg a t = a := by unfold Cr.beg; rw [if_neg hA]
  have hlvl : Cr.lvl r a l t = l := by unfold Cr.lvl; rw [if_neg hA]
  have hin := Cr.lvl_in (a := a) (t := t) r0 l0 l1
  have hm := Cr.mid_in (t := t) (free := free) r0 r1 l0 l1 a0 f1 t1 a1
  have hsp := Cr.start_spec (a := a) (l := l) (t := t) (free := free) r0
  have hvm := Cr.lev_mid r a l t free
  have hmd : Cr.mid r a l t free = Cr.lvl r a l t + r * (max (Cr.beg a t) free - Cr.beg a t) := rfl
  have hlv : Cr.lev r a l t free = Cr.lvl r a l t + r * (Cr.start r a l t free - Cr.beg a t) := rfl
  have hst : Cr.start r a l t free = Cr.beg a t + (-Cr.lvl r a l t + r - 1) / r := by unfold Cr.start; rw [if_pos (show Cr.lvl r a l t + r * (max (Cr.beg a t) free - Cr.beg a t) < 0 from hM)]
  have RS := RightState_b (Cr.outA r p a l t free size) (Cr.outL r p a l t free size)
  rw [ho] at RS
  clear ho h h2 h3
  rw [show Cr.outL r p a l t free size = Cr.lev r a l t free + (r * p - 1048576) * size from rfl, show Cr.outA r p a l t free size = Cr.start r a l t free + size * p from rfl] at RS
  rw [hbeg] at hsp hvm hmd hlv hst
  rw [hlvl] at hin hmd hlv hst
  have gn := Cr.gain r0 r1 (show 0 ≤ max a free - a by omega) (by omega)
  have gu := Cr.gain r0 r1 (show 0 ≤ Cr.start r a l t free - max a free by omega) (by omega)
  have gv := Cr.gain r0 r1 (show 0 ≤ Cr.start r a l t free - a by omega) (by omega)
  have U2 := up_b r p l (max a free - a) (by omega) (by omega) (by omega) (by omega)
  have U3 := up_b r p l (Cr.start r a l t free - a) (by omega) (by omega) (by omega) (by omega)
  rw [← hmd] at U2
  rw [← hlv] at U3
  have U2 := Lib.hid U2
  clear hlvl hbeg
  have vb : 0 ≤ Cr.lev r a l t free ∧ Cr.lev r a l t free ≤ 36028797018963968 := by omega
  have m1 := Int.mul_le_mul (show 1048576 - r * p ≤ 1048576 by omega) s1 (by omega) (by omega)
  have m2 := Int.mul_nonneg (show 0 ≤ 1048576 - r * p by omega) (show 0 ≤ size by omega)
  have m3 : (r * p - 1048576) * size = -((1048576 - r * p) * size) := by rw [← Int.neg_mul]; congr 1; omega
  have m4 := Int.mul_le_mul s1 p1 (by omega) (by omega)
  have m5 := Int.mul_nonneg (show 0 ≤ size by omega) (show 0 ≤ p by omega)
  generalize Cr.lev r a l t free = V at *
  generalize Cr.mid r a l t free = M at *
  generalize Cr.start r a l t free = T at *
  have U3 := Lib.hid U3
  have RS := Lib.hid RS
  have q0 : IntKind.i64.wrap (t - a) = t - a := IntWalk.i64_in _ (by omega)
  have q1 : IntKind.i64.wrap (max a free - a) = max a free - a := IntWalk.i64_in _ (by omega)
  have q2 : IntKind.i64.wrap (T - a) = T - a := IntWalk.i64_in _ (by omega)
  have hL : l < 0 := by omega
  have cs := Cr.ceil_spec (n := -l) r0 (by omega)
  have q3 : IntKind.i64.wrap (-l) = -l := IntWalk.i64_in _ (by omega)
  have q4 : IntKind.i64.wrap (-l + r) = -l + r := IntWalk.i64_in _ (by omega)
  have q5 : IntKind.i64.wrap (-l + r - 1) = -l + r - 1 := IntWalk.i64_in _ (by omega)
  have q6 : (-l + r - 1).tdiv r = (-l + r - 1) / r := Int.tdiv_eq_ediv_of_nonneg (by omega)
  have q7 : IntKind.i64.wrap ((-l + r - 1) / r) = (-l + r - 1) / r := IntWalk.i64_in _ (by omega)
  have q8 : IntKind.i64.wrap (a + (-l + r - 1) / r) = T := by rw [hst]; exact IntWalk.i64_in _ (by omega)
  have hrn : r ≠ 0 := by omega
  clear cs hL
  have p1_ : IntKind.i64.wrap (size * p) = size * p := IntWalk.i64_in _ (by omega)
  have p2_ : IntKind.i64.wrap (T + size * p) = T + size * p := IntWalk.i64_in _ (by omega)
  have p3_ : IntKind.i64.wrap (r * p) = r * p := IntWalk.i64_in _ (by omega)
  have p4_ : IntKind.i64.wrap (r * p - 1048576) = r * p - 1048576 := IntWalk.i64_in _ (by omega)
  have p5_ : IntKind.i64.wrap ((r * p - 1048576) * size) = (r * p - 1048576) * size := IntWalk.i64_in _ (by omega)
  have p6_ : IntKind.i64.wrap (V + (r * p - 1048576) * size) = V + (r * p - 1048576) * size := IntWalk.i64_in _ (by omega)
  clear m1 m2 m3 m4 m5 gn gu gv hin hm hsp hvm hmd hlv vb
  clear hst
  have A0 : Hid (Below w.heap.size w w) := Lib.hid (Below.refl _ _)
  go_enter Try.func14, Try.ntmps14
  go_wp2_with fail
  refine (C1.out _).mono ?_
  rintro e w1 ⟨rfl, hb_⟩
  have s_w1 := hb_.size
  try simp only [World.size_alloc] at s_w1
  have hm_w1 : Below w.heap.size w w1 := Below.trans (b := (((w.alloc (.cells #[.int .i64 r, .int .i64 p] 23)).alloc (.cells #[.int .i64 a, .int .i64 l] 25)).alloc (.cells #[.int .i64 0, .int .i64 0] 25))) (by (repeat' (first | (with_reducible exact Below.refl _ _) | (with_reducible refine Below.alloc ?_ ?_ _) | (with_reducible refine Below.setCell ?_ ?_ _) | (with_reducible refine Below.drew ?_) | (with_reducible assumption) | omega | (simp; done) | (simp; omega)))) (hb_.mono (by first | (simp; done) | (simp; omega)))
  have q_w1 := hm_w1.size
  replace A0 := Lib.hid (A0.out.trans (hm_w1.mono A0.out.size))
  have c_s_0 : w1.cell? ⟨w.heap.size, 0, none⟩ = some (.int .i64 r) := by rw [(bcell hb_).1 _ _ (by first | (simp; done) | (simp; omega))]; simp [go_sem]
  have c_s_1 : w1.cell? ⟨w.heap.size, 1, none⟩ = some (.int .i64 p) := by rw [(bcell hb_).1 _ _ (by first | (simp; done) | (simp; omega))]; simp [go_sem]
  have c_c_0 : w1.cell? ⟨w.heap.size + 1, 0, none⟩ = some (.int .i64 a) := by rw [(bcell hb_).1 _ _ (by first | (simp; done) | (simp; omega))]; simp [go_sem]
  have c_c_1 : w1.cell? ⟨w.heap.size + 1, 1, none⟩ = some (.int .i64 l) := by rw [(bcell hb_).1 _ _ (by first | (simp; done) | (simp; omega))]; simp [go_sem]
  have c_e_0 : w1.cell? ⟨w.heap.size + 1 + 1, 0, none⟩ = some (.int .i64 0) := by rw [(bcell hb_).1 _ _ (by first | (simp; done) | (simp; omega))]; simp [go_sem]
  have f_e_0 : w1.frozen? ⟨w.heap.size + 1 + 1, 0, none⟩ = false := by rw [(bcell hb_).2 _ _ (by first | (simp; done) | (simp; omega))]; simp [go_sem]
  have c_e_1 : w1.cell? ⟨w.heap.size + 1 + 1, 1, none⟩ = some (.int .i64 0) := by rw [(bcell hb_).1 _ _ (by first | (simp; done) | (simp; omega))]; simp [go_sem]
  have f_e_1 : w1.frozen? ⟨w.heap.size + 1 + 1, 1, none⟩ = false := by rw [(bcell hb_).2 _ _ (by first | (simp; done) | (simp; omega))]; simp [go_sem]
  have lt_w1_0_2 : w.heap.size + 1 + 1 < w1.heap.size := by omega
  have lt_w1_0_1 : w.heap.size + 1 < w1.heap.size := Nat.lt_of_succ_lt lt_w1_0_2
  have lt_w1_0_0 : w.heap.size < w1.heap.size := Nat.lt_of_succ_lt lt_w1_0_1
  obtain ⟨le_w1_0_0, le_w1_0_1, le_w1_0_2, le_w1_0_3, lu_w1_0_1, lu_w1_0_2, lu_w1_0_3⟩ := lts lt_w1_0_0
  clear hm_w1
  clear hb_
  go_wp2_with fail
  refine (C2.out _).mono ?_
  rintro e w2 ⟨rfl, hb_⟩
  have hm_w2 : Below w1.heap.size w1 w2 := hb_
  have q_w2 := hm_w2.size
  replace c_s_0 := below_cell hm_w2 c_s_0 lt_w1_0_0
  replace c_s_1 := below_cell hm_w2 c_s_1 lt_w1_0_0
  replace c_c_0 := below_cell hm_w2 c_c_0 lt_w1_0_1
  replace c_c_1 := below_cell hm_w2 c_c_1 lt_w1_0_1
  replace c_e_0 := below_cell hm_w2 c_e_0 lt_w1_0_2
  replace f_e_0 := (hm_w2.frozen (p := ⟨w.heap.size + 1 + 1, 0, none⟩) lt_w1_0_2).trans f_e_0
  replace c_e_1 := below_cell hm_w2 c_e_1 lt_w1_0_2
  replace f_e_1 := (hm_w2.frozen (p := ⟨w.heap.size + 1 + 1, 1, none⟩) lt_w1_0_2).trans f_e_1
  replace A0 := Lib.hid (A0.out.trans (hm_w2.mono A0.out.size))
  have lt_w2_0_2 : w.heap.size + 1 + 1 < w2.heap.size := by omega
  have lt_w2_0_1 : w.heap.size + 1 < w2.heap.size := Nat.lt_of_succ_lt lt_w2_0_2
  have lt_w2_0_0 : w.heap.size < w2.heap.size := Nat.lt_of_succ_lt lt_w2_0_1
  obtain ⟨le_w2_0_0, le_w2_0_1, le_w2_0_2, le_w2_0_3, lu_w2_0_1, lu_w2_0_2, lu_w2_0_3⟩ := lts lt_w2_0_0
  clear le_w1_0_0 le_w1_0_1 le_w1_0_2 le_w1_0_3 lu_w1_0_1 lu_w1_0_2 lu_w1_0_3 lt_w1_0_0 lt_w1_0_1 lt_w1_0_2
  clear hm_w2
  clear hb_
  go_wp2_with fail
  refine (I0.out _).mono ?_
  rintro e w9 ⟨rfl, rfl⟩
  go_wp2_with fail
  refine (I1.out _).mono ?_
  rintro e w9 ⟨rfl, rfl⟩
  go_wp2_with fail
  refine (I2.out _).mono ?_
  rintro e w9 ⟨rfl, rfl⟩
  go_upto_region 5 with fail
  go_quiet (fail)
  go_wp2_with fail
  refine (U2.out _).mono ?_
  rintro e w4 ⟨rfl, hb_⟩
  replace hb_ : Below w2.heap.size w2 w4 := (belowN (Below.refl _ _) _).trans hb_
  have hm_w4 : Below w2.heap.size w2 w4 := hb_
  have q_w4 := hm_w4.size
  replace c_s_0 := below_cell hm_w4 c_s_0 lt_w2_0_0
  replace c_s_1 := below_cell hm_w4 c_s_1 lt_w2_0_0
  replace c_c_0 := below_cell hm_w4 c_c_0 lt_w2_0_1
  replace c_c_1 := below_cell hm_w4 c_c_1 lt_w2_0_1
  replace c_e_0 := below_cell hm_w4 c_e_0 lt_w2_0_2
  replace f_e_0 := (hm_w4.frozen (p := ⟨w.heap.size + 1 + 1, 0, none⟩) lt_w2_0_2).trans f_e_0
  replace c_e_1 := below_cell hm_w4 c_e_1 lt_w2_0_2
  replace f_e_1 := (hm_w4.frozen (p := ⟨w.heap.size + 1 + 1, 1, none⟩) lt_w2_0_2).trans f_e_1
  replace A0 := Lib.hid (A0.out.trans (hm_w4.mono A0.out.size))
  have lt_w4_0_2 : w.heap.size + 1 + 1 < w4.heap.size := by omega
  have lt_w4_0_1 : w.heap.size + 1 < w4.heap.size := Nat.lt_of_succ_lt lt_w4_0_2
  have lt_w4_0_0 : w.heap.size < w4.heap.size := Nat.lt_of_succ_lt lt_w4_0_1
  obtain ⟨le_w4_0_0, le_w4_0_1, le_w4_0_2, le_w4_0_3, lu_w4_0_1, lu_w4_0_2, lu_w4_0_3⟩ := lts lt_w4_0_0
  clear le_w2_0_0 le_w2_0_1 le_w2_0_2 le_w2_0_3 lu_w2_0_1 lu_w2_0_2 lu_w2_0_3 lt_w2_0_0 lt_w2_0_1 lt_w2_0_2
  clear hm_w4
  clear hb_
  go_wp2_with fail
  refine (U3.out _).mono ?_
  rintro e w5 ⟨rfl, hb_⟩
  have hm_w5 : Below w4.heap.size w4 w5 := hb_
  have q_w5 := hm_w5.size
  replace c_s_0 := below_cell hm_w5 c_s_0 lt_w4_0_0
  replace c_s_1 := below_cell hm_w5 c_s_1 lt_w4_0_0
  replace c_c_0 := below_cell hm_w5 c_c_0 lt_w4_0_1
  replace c_c_1 := below_cell hm_w5 c_c_1 lt_w4_0_1
  replace c_e_0 := below_cell hm_w5 c_e_0 lt_w4_0_2
  replace f_e_0 := (hm_w5.frozen (p := ⟨w.heap.size + 1 + 1, 0, none⟩) lt_w4_0_2).trans f_e_0
  replace c_e_1 := below_cell hm_w5 c_e_1 lt_w4_0_2
  replace f_e_1 := (hm_w5.frozen (p := ⟨w.heap.size + 1 + 1, 1, none⟩) lt_w4_0_2).trans f_e_1
  replace A0 := Lib.hid (A0.out.trans (hm_w5.mono A0.out.size))
  have lt_w5_0_2 : w.heap.size + 1 + 1 < w5.heap.size := by omega
  have lt_w5_0_1 : w.heap.size + 1 < w5.heap.size := Nat.lt_of_succ_lt lt_w5_0_2
  have lt_w5_0_0 : w.heap.size < w5.heap.size := Nat.lt_of_succ_lt lt_w5_0_1
  obtain ⟨le_w5_0_0, le_w5_0_1, le_w5_0_2, le_w5_0_3, lu_w5_0_1, lu_w5_0_2, lu_w5_0_3⟩ := lts lt_w5_0_0
  clear le_w4_0_0 le_w4_0_1 le_w4_0_2 le_w4_0_3 lu_w4_0_1 lu_w4_0_2 lu_w4_0_3 lt_w4_0_0 lt_w4_0_1 lt_w4_0_2
  clear hm_w5
  clear hb_
  go_wp2_with fail
  refine (RS.out _).mono ?_
  rintro e w6 ⟨rfl, hb_⟩
  have s_w6 := hb_.size
  try simp only [World.size_alloc] at s_w6
  have hm_w6 : Below w5.heap.size w5 w6 := Below.trans (b := (w5.alloc (.cells #[.int .i64 (T + size * p), .int .i64 (V + (r * p - 1048576) * size)] 25))) (by (repeat' (first | (with_reducible exact Below.refl _ _) | (with_reducible refine Below.alloc ?_ ?_ _) | (with_reducible refine Below.setCell ?_ ?_ _) | (with_reducible refine Below.drew ?_) | (with_reducible assumption) | omega | (simp; done) | (simp; omega)))) (hb_.mono (by first | (simp; done) | (simp; omega)))
  have q_w6 := hm_w6.size
  replace c_s_0 := below_cell hm_w6 c_s_0 lt_w5_0_0
  replace c_s_1 := below_cell hm_w6 c_s_1 lt_w5_0_0
  replace c_c_0 := below_cell hm_w6 c_c_0 lt_w5_0_1
  replace c_c_1 := below_cell hm_w6 c_c_1 lt_w5_0_1
  replace c_e_0 := below_cell hm_w6 c_e_0 lt_w5_0_2
  replace f_e_0 := (hm_w6.frozen (p := ⟨w.heap.size + 1 + 1, 0, none⟩) lt_w5_0_2).trans f_e_0
  replace c_e_1 := below_cell hm_w6 c_e_1 lt_w5_0_2
  replace f_e_1 := (hm_w6.frozen (p := ⟨w.heap.size + 1 + 1, 1, none⟩) lt_w5_0_2).trans f_e_1
  replace A0 := Lib.hid (A0.out.trans (hm_w6.mono A0.out.size))
  have c_n_0 : w6.cell? ⟨w5.heap.size, 0, none⟩ = some (.int .i64 (T + size * p)) := by rw [(bcell hb_).1 _ _ (by first | (simp; done) | (simp; omega))]; simp [go_sem]
  have c_n_1 : w6.cell? ⟨w5.heap.size, 1, none⟩ = some (.int .i64 (V + (r * p - 1048576) * size)) := by rw [(bcell hb_).1 _ _ (by first | (simp; done) | (simp; omega))]; simp [go_sem]
  have lt_w6_0_2 : w.heap.size + 1 + 1 < w6.heap.size := by omega
  have lt_w6_0_1 : w.heap.size + 1 < w6.heap.size := Nat.lt_of_succ_lt lt_w6_0_2
  have lt_w6_0_0 : w.heap.size < w6.heap.size := Nat.lt_of_succ_lt lt_w6_0_1
  obtain ⟨le_w6_0_0, le_w6_0_1, le_w6_0_2, le_w6_0_3, lu_w6_0_1, lu_w6_0_2, lu_w6_0_3⟩ := lts lt_w6_0_0
  have lt_w6_1_0 : w5.heap.size < w6.heap.size := by omega
  obtain ⟨le_w6_1_0, le_w6_1_1, le_w6_1_2, le_w6_1_3, lu_w6_1_1, lu_w6_1_2, lu_w6_1_3⟩ := lts lt_w6_1_0
  clear le_w5_0_0 le_w5_0_1 le_w5_0_2 le_w5_0_3 lu_w5_0_1 lu_w5_0_2 lu_w5_0_3 lt_w5_0_0 lt_w5_0_1 lt_w5_0_2
  clear hm_w6
  clear hb_
  go_wp2_with fail
  exact bodyPost_ret (v := .tuple #[.int .i64 0, .agg #[.int .i64 0, .int .i64 0], .int .i64 6]) (by simp [results, Try.results14, go_sem, c_e_0, c_e_1]) rfl ⟨rfl, by have hb := A0.out; have := hb.size; (repeat' (first | (with_reducible exact Below.refl _ _) | (with_reducible refine Below.alloc ?_ ?_ _) | (with_reducible refine Below.setCell ?_ ?_ _) | (with_reducible refine Below.drew ?_) | (with_reducible assumption) | omega | (simp; done) | (simp; omega)))⟩
theorem ref_Step_01_true (r p a l t free size : Int) (h : Cr.ok r p = true) (h2 : Cr.stOk a l = true) (h3 : Cr.argOk t free size = true) (hA : ¬ a < t) (hM : Cr.mid r a l t free < 0) (ho : Cr.stOk (Cr.outA r p a l t free size) (Cr.outL r p a l t free size) = true) (w : World) :
    Calls Try.prog 14 #[.agg #[.int .i64 r, .int .i64 p], .agg #[.int .i64 a, .int .i64 l], .int .i64 t, .int .i64 free, .int .i64 size] w fun e w' => e = .returned (.tuple #[.int .i64 (Cr.start r a l t free), .agg #[.int .i64 (Cr.outA r p a l t free size), .int .i64 (Cr.outL r p a l t free size)], .int .i64 0]) ∧ Below w.heap.size w w' := by
  obtain ⟨p0, p1, r0, r1, rp, a0, a1, l0, l1, t0, t1, f0, f1, s0, s1⟩ := Cr.in_of h h2 h3
  have g0 := And.intro t0 t1
  have g1 := And.intro f0 f1
  have g2 := And.intro s0 s1
  have rp1 := (Cr.prod_bound p0 p1 r0 r1).1
  have C1 := Right_b r p
  rw [h] at C1
  have C1 := Lib.hid C1
  have C2 := RightState_b a l
  rw [h2] at C2
  have C2 := Lib.hid C2
  have I0 := in_any t 0 1073741824
  rw [decide_eq_true g0] at I0
  have I0 := Lib.hid I0
  have I1 := in_any free 0 1073741824
  rw [decide_eq_true g1] at I1
  have I1 := Lib.hid I1
  have I2 := in_any size 1 1542
  rw [decide_eq_true g2] at I2
  have I2 := Lib.hid I2
  have hbeg : Cr.beg a t = a := by unfold Cr.beg; rw [if_neg hA]
  have hlvl : Cr.lvl r a l t = l := by unfold Cr.lvl; rw [if_neg hA]
  have hin := Cr.lvl_in (a := a) (t := t) r0 l0 l1
  have hm := Cr.mid_in (t := t) (free := free) r0 r1 l0 l1 a0 f1 t1 a1
  have hsp := Cr.start_spec (a := a) (l := l) (t := t) (free := free) r0
  have hvm := Cr.lev_mid r a l t free
  have hmd : Cr.mid r a l t free = Cr.lvl r a l t + r * (max (Cr.beg a t) free - Cr.beg a t) := rfl
  have hlv : Cr.lev r a l t free = Cr.lvl r a l t + r * (Cr.start r a l t free - Cr.beg a t) := rfl
  have hst : Cr.start r a l t free = Cr.beg a t + (-Cr.lvl r a l t + r - 1) / r := by unfold Cr.start; rw [if_pos (show Cr.lvl r a l t + r * (max (Cr.beg a t) free - Cr.beg a t) < 0 from hM)]
  have RS := RightState_b (Cr.outA r p a l t free size) (Cr.outL r p a l t free size)
  rw [ho] at RS
  clear ho h h2 h3
  rw [show Cr.outL r p a l t free size = Cr.lev r a l t free + (r * p - 1048576) * size from rfl, show Cr.outA r p a l t free size = Cr.start r a l t free + size * p from rfl] at RS
  rw [show Cr.outL r p a l t free size = Cr.lev r a l t free + (r * p - 1048576) * size from rfl, show Cr.outA r p a l t free size = Cr.start r a l t free + size * p from rfl]
  rw [hbeg] at hsp hvm hmd hlv hst
  rw [hlvl] at hin hmd hlv hst
  have gn := Cr.gain r0 r1 (show 0 ≤ max a free - a by omega) (by omega)
  have gu := Cr.gain r0 r1 (show 0 ≤ Cr.start r a l t free - max a free by omega) (by omega)
  have gv := Cr.gain r0 r1 (show 0 ≤ Cr.start r a l t free - a by omega) (by omega)
  have U2 := up_b r p l (max a free - a) (by omega) (by omega) (by omega) (by omega)
  have U3 := up_b r p l (Cr.start r a l t free - a) (by omega) (by omega) (by omega) (by omega)
  rw [← hmd] at U2
  rw [← hlv] at U3
  have U2 := Lib.hid U2
  clear hlvl hbeg
  have vb : 0 ≤ Cr.lev r a l t free ∧ Cr.lev r a l t free ≤ 36028797018963968 := by omega
  have m1 := Int.mul_le_mul (show 1048576 - r * p ≤ 1048576 by omega) s1 (by omega) (by omega)
  have m2 := Int.mul_nonneg (show 0 ≤ 1048576 - r * p by omega) (show 0 ≤ size by omega)
  have m3 : (r * p - 1048576) * size = -((1048576 - r * p) * size) := by rw [← Int.neg_mul]; congr 1; omega
  have m4 := Int.mul_le_mul s1 p1 (by omega) (by omega)
  have m5 := Int.mul_nonneg (show 0 ≤ size by omega) (show 0 ≤ p by omega)
  generalize Cr.lev r a l t free = V at *
  generalize Cr.mid r a l t free = M at *
  generalize Cr.start r a l t free = T at *
  have U3 := Lib.hid U3
  have RS := Lib.hid RS
  have q0 : IntKind.i64.wrap (t - a) = t - a := IntWalk.i64_in _ (by omega)
  have q1 : IntKind.i64.wrap (max a free - a) = max a free - a := IntWalk.i64_in _ (by omega)
  have q2 : IntKind.i64.wrap (T - a) = T - a := IntWalk.i64_in _ (by omega)
  have hL : l < 0 := by omega
  have cs := Cr.ceil_spec (n := -l) r0 (by omega)
  have q3 : IntKind.i64.wrap (-l) = -l := IntWalk.i64_in _ (by omega)
  have q4 : IntKind.i64.wrap (-l + r) = -l + r := IntWalk.i64_in _ (by omega)
  have q5 : IntKind.i64.wrap (-l + r - 1) = -l + r - 1 := IntWalk.i64_in _ (by omega)
  have q6 : (-l + r - 1).tdiv r = (-l + r - 1) / r := Int.tdiv_eq_ediv_of_nonneg (by omega)
  have q7 : IntKind.i64.wrap ((-l + r - 1) / r) = (-l + r - 1) / r := IntWalk.i64_in _ (by omega)
  have q8 : IntKind.i64.wrap (a + (-l + r - 1) / r) = T := by rw [hst]; exact IntWalk.i64_in _ (by omega)
  have hrn : r ≠ 0 := by omega
  clear cs hL
  have p1_ : IntKind.i64.wrap (size * p) = size * p := IntWalk.i64_in _ (by omega)
  have p2_ : IntKind.i64.wrap (T + size * p) = T + size * p := IntWalk.i64_in _ (by omega)
  have p3_ : IntKind.i64.wrap (r * p) = r * p := IntWalk.i64_in _ (by omega)
  have p4_ : IntKind.i64.wrap (r * p - 1048576) = r * p - 1048576 := IntWalk.i64_in _ (by omega)
  have p5_ : IntKind.i64.wrap ((r * p - 1048576) * size) = (r * p - 1048576) * size := IntWalk.i64_in _ (by omega)
  have p6_ : IntKind.i64.wrap (V + (r * p - 1048576) * size) = V + (r * p - 1048576) * size := IntWalk.i64_in _ (by omega)
  clear m1 m2 m3 m4 m5 gn gu gv hin hm hsp hvm hmd hlv vb
  clear hst
  have A0 : Hid (Below w.heap.size w w) := Lib.hid (Below.refl _ _)
  go_enter Try.func14, Try.ntmps14
  go_wp2_with fail
  refine (C1.out _).mono ?_
  rintro e w1 ⟨rfl, hb_⟩
  have s_w1 := hb_.size
  try simp only [World.size_alloc] at s_w1
  have hm_w1 : Below w.heap.size w w1 := Below.trans (b := (((w.alloc (.cells #[.int .i64 r, .int .i64 p] 23)).alloc (.cells #[.int .i64 a, .int .i64 l] 25)).alloc (.cells #[.int .i64 0, .int .i64 0] 25))) (by (repeat' (first | (with_reducible exact Below.refl _ _) | (with_reducible refine Below.alloc ?_ ?_ _) | (with_reducible refine Below.setCell ?_ ?_ _) | (with_reducible refine Below.drew ?_) | (with_reducible assumption) | omega | (simp; done) | (simp; omega)))) (hb_.mono (by first | (simp; done) | (simp; omega)))
  have q_w1 := hm_w1.size
  replace A0 := Lib.hid (A0.out.trans (hm_w1.mono A0.out.size))
  have c_s_0 : w1.cell? ⟨w.heap.size, 0, none⟩ = some (.int .i64 r) := by rw [(bcell hb_).1 _ _ (by first | (simp; done) | (simp; omega))]; simp [go_sem]
  have c_s_1 : w1.cell? ⟨w.heap.size, 1, none⟩ = some (.int .i64 p) := by rw [(bcell hb_).1 _ _ (by first | (simp; done) | (simp; omega))]; simp [go_sem]
  have c_c_0 : w1.cell? ⟨w.heap.size + 1, 0, none⟩ = some (.int .i64 a) := by rw [(bcell hb_).1 _ _ (by first | (simp; done) | (simp; omega))]; simp [go_sem]
  have c_c_1 : w1.cell? ⟨w.heap.size + 1, 1, none⟩ = some (.int .i64 l) := by rw [(bcell hb_).1 _ _ (by first | (simp; done) | (simp; omega))]; simp [go_sem]
  have c_e_0 : w1.cell? ⟨w.heap.size + 1 + 1, 0, none⟩ = some (.int .i64 0) := by rw [(bcell hb_).1 _ _ (by first | (simp; done) | (simp; omega))]; simp [go_sem]
  have f_e_0 : w1.frozen? ⟨w.heap.size + 1 + 1, 0, none⟩ = false := by rw [(bcell hb_).2 _ _ (by first | (simp; done) | (simp; omega))]; simp [go_sem]
  have c_e_1 : w1.cell? ⟨w.heap.size + 1 + 1, 1, none⟩ = some (.int .i64 0) := by rw [(bcell hb_).1 _ _ (by first | (simp; done) | (simp; omega))]; simp [go_sem]
  have f_e_1 : w1.frozen? ⟨w.heap.size + 1 + 1, 1, none⟩ = false := by rw [(bcell hb_).2 _ _ (by first | (simp; done) | (simp; omega))]; simp [go_sem]
  have lt_w1_0_2 : w.heap.size + 1 + 1 < w1.heap.size := by omega
  have lt_w1_0_1 : w.heap.size + 1 < w1.heap.size := Nat.lt_of_succ_lt lt_w1_0_2
  have lt_w1_0_0 : w.heap.size < w1.heap.size := Nat.lt_of_succ_lt lt_w1_0_1
  obtain ⟨le_w1_0_0, le_w1_0_1, le_w1_0_2, le_w1_0_3, lu_w1_0_1, lu_w1_0_2, lu_w1_0_3⟩ := lts lt_w1_0_0
  clear hm_w1
  clear hb_
  go_wp2_with fail
  refine (C2.out _).mono ?_
  rintro e w2 ⟨rfl, hb_⟩
  have hm_w2 : Below w1.heap.size w1 w2 := hb_
  have q_w2 := hm_w2.size
  replace c_s_0 := below_cell hm_w2 c_s_0 lt_w1_0_0
  replace c_s_1 := below_cell hm_w2 c_s_1 lt_w1_0_0
  replace c_c_0 := below_cell hm_w2 c_c_0 lt_w1_0_1
  replace c_c_1 := below_cell hm_w2 c_c_1 lt_w1_0_1
  replace c_e_0 := below_cell hm_w2 c_e_0 lt_w1_0_2
  replace f_e_0 := (hm_w2.frozen (p := ⟨w.heap.size + 1 + 1, 0, none⟩) lt_w1_0_2).trans f_e_0
  replace c_e_1 := below_cell hm_w2 c_e_1 lt_w1_0_2
  replace f_e_1 := (hm_w2.frozen (p := ⟨w.heap.size + 1 + 1, 1, none⟩) lt_w1_0_2).trans f_e_1
  replace A0 := Lib.hid (A0.out.trans (hm_w2.mono A0.out.size))
  have lt_w2_0_2 : w.heap.size + 1 + 1 < w2.heap.size := by omega
  have lt_w2_0_1 : w.heap.size + 1 < w2.heap.size := Nat.lt_of_succ_lt lt_w2_0_2
  have lt_w2_0_0 : w.heap.size < w2.heap.size := Nat.lt_of_succ_lt lt_w2_0_1
  obtain ⟨le_w2_0_0, le_w2_0_1, le_w2_0_2, le_w2_0_3, lu_w2_0_1, lu_w2_0_2, lu_w2_0_3⟩ := lts lt_w2_0_0
  clear le_w1_0_0 le_w1_0_1 le_w1_0_2 le_w1_0_3 lu_w1_0_1 lu_w1_0_2 lu_w1_0_3 lt_w1_0_0 lt_w1_0_1 lt_w1_0_2
  clear hm_w2
  clear hb_
  go_wp2_with fail
  refine (I0.out _).mono ?_
  rintro e w9 ⟨rfl, rfl⟩
  go_wp2_with fail
  refine (I1.out _).mono ?_
  rintro e w9 ⟨rfl, rfl⟩
  go_wp2_with fail
  refine (I2.out _).mono ?_
  rintro e w9 ⟨rfl, rfl⟩
  go_upto_region 5 with fail
  go_quiet (fail)
  go_wp2_with fail
  refine (U2.out _).mono ?_
  rintro e w4 ⟨rfl, hb_⟩
  replace hb_ : Below w2.heap.size w2 w4 := (belowN (Below.refl _ _) _).trans hb_
  have hm_w4 : Below w2.heap.size w2 w4 := hb_
  have q_w4 := hm_w4.size
  replace c_s_0 := below_cell hm_w4 c_s_0 lt_w2_0_0
  replace c_s_1 := below_cell hm_w4 c_s_1 lt_w2_0_0
  replace c_c_0 := below_cell hm_w4 c_c_0 lt_w2_0_1
  replace c_c_1 := below_cell hm_w4 c_c_1 lt_w2_0_1
  replace c_e_0 := below_cell hm_w4 c_e_0 lt_w2_0_2
  replace f_e_0 := (hm_w4.frozen (p := ⟨w.heap.size + 1 + 1, 0, none⟩) lt_w2_0_2).trans f_e_0
  replace c_e_1 := below_cell hm_w4 c_e_1 lt_w2_0_2
  replace f_e_1 := (hm_w4.frozen (p := ⟨w.heap.size + 1 + 1, 1, none⟩) lt_w2_0_2).trans f_e_1
  replace A0 := Lib.hid (A0.out.trans (hm_w4.mono A0.out.size))
  have lt_w4_0_2 : w.heap.size + 1 + 1 < w4.heap.size := by omega
  have lt_w4_0_1 : w.heap.size + 1 < w4.heap.size := Nat.lt_of_succ_lt lt_w4_0_2
  have lt_w4_0_0 : w.heap.size < w4.heap.size := Nat.lt_of_succ_lt lt_w4_0_1
  obtain ⟨le_w4_0_0, le_w4_0_1, le_w4_0_2, le_w4_0_3, lu_w4_0_1, lu_w4_0_2, lu_w4_0_3⟩ := lts lt_w4_0_0
  clear le_w2_0_0 le_w2_0_1 le_w2_0_2 le_w2_0_3 lu_w2_0_1 lu_w2_0_2 lu_w2_0_3 lt_w2_0_0 lt_w2_0_1 lt_w2_0_2
  clear hm_w4
  clear hb_
  go_wp2_with fail
  refine (U3.out _).mono ?_
  rintro e w5 ⟨rfl, hb_⟩
  have hm_w5 : Below w4.heap.size w4 w5 := hb_
  have q_w5 := hm_w5.size
  replace c_s_0 := below_cell hm_w5 c_s_0 lt_w4_0_0
  replace c_s_1 := below_cell hm_w5 c_s_1 lt_w4_0_0
  replace c_c_0 := below_cell hm_w5 c_c_0 lt_w4_0_1
  replace c_c_1 := below_cell hm_w5 c_c_1 lt_w4_0_1
  replace c_e_0 := below_cell hm_w5 c_e_0 lt_w4_0_2
  replace f_e_0 := (hm_w5.frozen (p := ⟨w.heap.size + 1 + 1, 0, none⟩) lt_w4_0_2).trans f_e_0
  replace c_e_1 := below_cell hm_w5 c_e_1 lt_w4_0_2
  replace f_e_1 := (hm_w5.frozen (p := ⟨w.heap.size + 1 + 1, 1, none⟩) lt_w4_0_2).trans f_e_1
  replace A0 := Lib.hid (A0.out.trans (hm_w5.mono A0.out.size))
  have lt_w5_0_2 : w.heap.size + 1 + 1 < w5.heap.size := by omega
  have lt_w5_0_1 : w.heap.size + 1 < w5.heap.size := Nat.lt_of_succ_lt lt_w5_0_2
  have lt_w5_0_0 : w.heap.size < w5.heap.size := Nat.lt_of_succ_lt lt_w5_0_1
  obtain ⟨le_w5_0_0, le_w5_0_1, le_w5_0_2, le_w5_0_3, lu_w5_0_1, lu_w5_0_2, lu_w5_0_3⟩ := lts lt_w5_0_0
  clear le_w4_0_0 le_w4_0_1 le_w4_0_2 le_w4_0_3 lu_w4_0_1 lu_w4_0_2 lu_w4_0_3 lt_w4_0_0 lt_w4_0_1 lt_w4_0_2
  clear hm_w5
  clear hb_
  go_wp2_with fail
  refine (RS.out _).mono ?_
  rintro e w6 ⟨rfl, hb_⟩
  have s_w6 := hb_.size
  try simp only [World.size_alloc] at s_w6
  have hm_w6 : Below w5.heap.size w5 w6 := Below.trans (b := (w5.alloc (.cells #[.int .i64 (T + size * p), .int .i64 (V + (r * p - 1048576) * size)] 25))) (by (repeat' (first | (with_reducible exact Below.refl _ _) | (with_reducible refine Below.alloc ?_ ?_ _) | (with_reducible refine Below.setCell ?_ ?_ _) | (with_reducible refine Below.drew ?_) | (with_reducible assumption) | omega | (simp; done) | (simp; omega)))) (hb_.mono (by first | (simp; done) | (simp; omega)))
  have q_w6 := hm_w6.size
  replace c_s_0 := below_cell hm_w6 c_s_0 lt_w5_0_0
  replace c_s_1 := below_cell hm_w6 c_s_1 lt_w5_0_0
  replace c_c_0 := below_cell hm_w6 c_c_0 lt_w5_0_1
  replace c_c_1 := below_cell hm_w6 c_c_1 lt_w5_0_1
  replace c_e_0 := below_cell hm_w6 c_e_0 lt_w5_0_2
  replace f_e_0 := (hm_w6.frozen (p := ⟨w.heap.size + 1 + 1, 0, none⟩) lt_w5_0_2).trans f_e_0
  replace c_e_1 := below_cell hm_w6 c_e_1 lt_w5_0_2
  replace f_e_1 := (hm_w6.frozen (p := ⟨w.heap.size + 1 + 1, 1, none⟩) lt_w5_0_2).trans f_e_1
  replace A0 := Lib.hid (A0.out.trans (hm_w6.mono A0.out.size))
  have c_n_0 : w6.cell? ⟨w5.heap.size, 0, none⟩ = some (.int .i64 (T + size * p)) := by rw [(bcell hb_).1 _ _ (by first | (simp; done) | (simp; omega))]; simp [go_sem]
  have c_n_1 : w6.cell? ⟨w5.heap.size, 1, none⟩ = some (.int .i64 (V + (r * p - 1048576) * size)) := by rw [(bcell hb_).1 _ _ (by first | (simp; done) | (simp; omega))]; simp [go_sem]
  have lt_w6_0_2 : w.heap.size + 1 + 1 < w6.heap.size := by omega
  have lt_w6_0_1 : w.heap.size + 1 < w6.heap.size := Nat.lt_of_succ_lt lt_w6_0_2
  have lt_w6_0_0 : w.heap.size < w6.heap.size := Nat.lt_of_succ_lt lt_w6_0_1
  obtain ⟨le_w6_0_0, le_w6_0_1, le_w6_0_2, le_w6_0_3, lu_w6_0_1, lu_w6_0_2, lu_w6_0_3⟩ := lts lt_w6_0_0
  have lt_w6_1_0 : w5.heap.size < w6.heap.size := by omega
  obtain ⟨le_w6_1_0, le_w6_1_1, le_w6_1_2, le_w6_1_3, lu_w6_1_1, lu_w6_1_2, lu_w6_1_3⟩ := lts lt_w6_1_0
  clear le_w5_0_0 le_w5_0_1 le_w5_0_2 le_w5_0_3 lu_w5_0_1 lu_w5_0_2 lu_w5_0_3 lt_w5_0_0 lt_w5_0_1 lt_w5_0_2
  clear hm_w6
  clear hb_
  go_wp2_with fail
  go_region
  all_goals go_wp2_with fail
  all_goals exact bodyPost_ret (v := .tuple #[.int .i64 T, .agg #[.int .i64 (T + size * p), .int .i64 (V + (r * p - 1048576) * size)], .int .i64 0]) (by simp [results, Try.results14, go_sem, c_e_0, c_e_1, c_n_0, c_n_1]) rfl ⟨rfl, by have hb := A0.out; have := hb.size; (repeat' (first | (with_reducible exact Below.refl _ _) | (with_reducible refine Below.alloc ?_ ?_ _) | (with_reducible refine Below.setCell ?_ ?_ _) | (with_reducible refine Below.drew ?_) | (with_reducible assumption) | omega | (simp; done) | (simp; omega)))⟩
theorem ref_Step_00_false (r p a l t free size : Int) (h : Cr.ok r p = true) (h2 : Cr.stOk a l = true) (h3 : Cr.argOk t free size = true) (hA : ¬ a < t) (hM : ¬ Cr.mid r a l t free < 0) (ho : Cr.stOk (Cr.outA r p a l t free size) (Cr.outL r p a l t free size) = false) (w : World) :
    Calls Try.prog 14 #[.agg #[.int .i64 r, .int .i64 p], .agg #[.int .i64 a, .int .i64 l], .int .i64 t, .int .i64 free, .int .i64 size] w fun e w' => e = .returned (.tuple #[.int .i64 0, .agg #[.int .i64 0, .int .i64 0], .int .i64 6]) ∧ Below w.heap.size w w' := by
  obtain ⟨p0, p1, r0, r1, rp, a0, a1, l0, l1, t0, t1, f0, f1, s0, s1⟩ := Cr.in_of h h2 h3
  have g0 := And.intro t0 t1
  have g1 := And.intro f0 f1
  have g2 := And.intro s0 s1
  have rp1 := (Cr.prod_bound p0 p1 r0 r1).1
  have C1 := Right_b r p
  rw [h] at C1
  have C1 := Lib.hid C1
  have C2 := RightState_b a l
  rw [h2] at C2
  have C2 := Lib.hid C2
  have I0 := in_any t 0 1073741824
  rw [decide_eq_true g0] at I0
  have I0 := Lib.hid I0
  have I1 := in_any free 0 1073741824
  rw [decide_eq_true g1] at I1
  have I1 := Lib.hid I1
  have I2 := in_any size 1 1542
  rw [decide_eq_true g2] at I2
  have I2 := Lib.hid I2
  have hbeg : Cr.beg a t = a := by unfold Cr.beg; rw [if_neg hA]
  have hlvl : Cr.lvl r a l t = l := by unfold Cr.lvl; rw [if_neg hA]
  have hin := Cr.lvl_in (a := a) (t := t) r0 l0 l1
  have hm := Cr.mid_in (t := t) (free := free) r0 r1 l0 l1 a0 f1 t1 a1
  have hsp := Cr.start_spec (a := a) (l := l) (t := t) (free := free) r0
  have hvm := Cr.lev_mid r a l t free
  have hmd : Cr.mid r a l t free = Cr.lvl r a l t + r * (max (Cr.beg a t) free - Cr.beg a t) := rfl
  have hlv : Cr.lev r a l t free = Cr.lvl r a l t + r * (Cr.start r a l t free - Cr.beg a t) := rfl
  have hst : Cr.start r a l t free = max (Cr.beg a t) free := by unfold Cr.start; rw [if_neg (show ¬ Cr.lvl r a l t + r * (max (Cr.beg a t) free - Cr.beg a t) < 0 from hM)]
  have RS := RightState_b (Cr.outA r p a l t free size) (Cr.outL r p a l t free size)
  rw [ho] at RS
  clear ho h h2 h3
  rw [show Cr.outL r p a l t free size = Cr.lev r a l t free + (r * p - 1048576) * size from rfl, show Cr.outA r p a l t free size = Cr.start r a l t free + size * p from rfl] at RS
  rw [hbeg] at hsp hvm hmd hlv hst
  rw [hlvl] at hin hmd hlv
  have gn := Cr.gain r0 r1 (show 0 ≤ max a free - a by omega) (by omega)
  have gu := Cr.gain r0 r1 (show 0 ≤ Cr.start r a l t free - max a free by omega) (by omega)
  have gv := Cr.gain r0 r1 (show 0 ≤ Cr.start r a l t free - a by omega) (by omega)
  have U2 := up_b r p l (max a free - a) (by omega) (by omega) (by omega) (by omega)
  have U3 := up_b r p l (Cr.start r a l t free - a) (by omega) (by omega) (by omega) (by omega)
  rw [← hmd] at U2
  rw [← hlv] at U3
  have U2 := Lib.hid U2
  clear hlvl hbeg
  have vb : 0 ≤ Cr.lev r a l t free ∧ Cr.lev r a l t free ≤ 36028797018963968 := by omega
  have m1 := Int.mul_le_mul (show 1048576 - r * p ≤ 1048576 by omega) s1 (by omega) (by omega)
  have m2 := Int.mul_nonneg (show 0 ≤ 1048576 - r * p by omega) (show 0 ≤ size by omega)
  have m3 : (r * p - 1048576) * size = -((1048576 - r * p) * size) := by rw [← Int.neg_mul]; congr 1; omega
  have m4 := Int.mul_le_mul s1 p1 (by omega) (by omega)
  have m5 := Int.mul_nonneg (show 0 ≤ size by omega) (show 0 ≤ p by omega)
  generalize Cr.lev r a l t free = V at *
  generalize Cr.mid r a l t free = M at *
  generalize Cr.start r a l t free = T at *
  have U3 := Lib.hid U3
  have RS := Lib.hid RS
  have q0 : IntKind.i64.wrap (t - a) = t - a := IntWalk.i64_in _ (by omega)
  have q1 : IntKind.i64.wrap (max a free - a) = max a free - a := IntWalk.i64_in _ (by omega)
  have q2 : IntKind.i64.wrap (T - a) = T - a := IntWalk.i64_in _ (by omega)
  have p1_ : IntKind.i64.wrap (size * p) = size * p := IntWalk.i64_in _ (by omega)
  have p2_ : IntKind.i64.wrap (T + size * p) = T + size * p := IntWalk.i64_in _ (by omega)
  have p3_ : IntKind.i64.wrap (r * p) = r * p := IntWalk.i64_in _ (by omega)
  have p4_ : IntKind.i64.wrap (r * p - 1048576) = r * p - 1048576 := IntWalk.i64_in _ (by omega)
  have p5_ : IntKind.i64.wrap ((r * p - 1048576) * size) = (r * p - 1048576) * size := IntWalk.i64_in _ (by omega)
  have p6_ : IntKind.i64.wrap (V + (r * p - 1048576) * size) = V + (r * p - 1048576) * size := IntWalk.i64_in _ (by omega)
  clear m1 m2 m3 m4 m5 gn gu gv hin hm hsp hvm hmd hlv vb
  subst hst
  have A0 : Hid (Below w.heap.size w w) := Lib.hid (Below.refl _ _)
  go_enter Try.func14, Try.ntmps14
  go_wp2_with fail
  refine (C1.out _).mono ?_
  rintro e w1 ⟨rfl, hb_⟩
  have s_w1 := hb_.size
  try simp only [World.size_alloc] at s_w1
  have hm_w1 : Below w.heap.size w w1 := Below.trans (b := (((w.alloc (.cells #[.int .i64 r, .int .i64 p] 23)).alloc (.cells #[.int .i64 a, .int .i64 l] 25)).alloc (.cells #[.int .i64 0, .int .i64 0] 25))) (by (repeat' (first | (with_reducible exact Below.refl _ _) | (with_reducible refine Below.alloc ?_ ?_ _) | (with_reducible refine Below.setCell ?_ ?_ _) | (with_reducible refine Below.drew ?_) | (with_reducible assumption) | omega | (simp; done) | (simp; omega)))) (hb_.mono (by first | (simp; done) | (simp; omega)))
  have q_w1 := hm_w1.size
  replace A0 := Lib.hid (A0.out.trans (hm_w1.mono A0.out.size))
  have c_s_0 : w1.cell? ⟨w.heap.size, 0, none⟩ = some (.int .i64 r) := by rw [(bcell hb_).1 _ _ (by first | (simp; done) | (simp; omega))]; simp [go_sem]
  have c_s_1 : w1.cell? ⟨w.heap.size, 1, none⟩ = some (.int .i64 p) := by rw [(bcell hb_).1 _ _ (by first | (simp; done) | (simp; omega))]; simp [go_sem]
  have c_c_0 : w1.cell? ⟨w.heap.size + 1, 0, none⟩ = some (.int .i64 a) := by rw [(bcell hb_).1 _ _ (by first | (simp; done) | (simp; omega))]; simp [go_sem]
  have c_c_1 : w1.cell? ⟨w.heap.size + 1, 1, none⟩ = some (.int .i64 l) := by rw [(bcell hb_).1 _ _ (by first | (simp; done) | (simp; omega))]; simp [go_sem]
  have c_e_0 : w1.cell? ⟨w.heap.size + 1 + 1, 0, none⟩ = some (.int .i64 0) := by rw [(bcell hb_).1 _ _ (by first | (simp; done) | (simp; omega))]; simp [go_sem]
  have f_e_0 : w1.frozen? ⟨w.heap.size + 1 + 1, 0, none⟩ = false := by rw [(bcell hb_).2 _ _ (by first | (simp; done) | (simp; omega))]; simp [go_sem]
  have c_e_1 : w1.cell? ⟨w.heap.size + 1 + 1, 1, none⟩ = some (.int .i64 0) := by rw [(bcell hb_).1 _ _ (by first | (simp; done) | (simp; omega))]; simp [go_sem]
  have f_e_1 : w1.frozen? ⟨w.heap.size + 1 + 1, 1, none⟩ = false := by rw [(bcell hb_).2 _ _ (by first | (simp; done) | (simp; omega))]; simp [go_sem]
  have lt_w1_0_2 : w.heap.size + 1 + 1 < w1.heap.size := by omega
  have lt_w1_0_1 : w.heap.size + 1 < w1.heap.size := Nat.lt_of_succ_lt lt_w1_0_2
  have lt_w1_0_0 : w.heap.size < w1.heap.size := Nat.lt_of_succ_lt lt_w1_0_1
  obtain ⟨le_w1_0_0, le_w1_0_1, le_w1_0_2, le_w1_0_3, lu_w1_0_1, lu_w1_0_2, lu_w1_0_3⟩ := lts lt_w1_0_0
  clear hm_w1
  clear hb_
  go_wp2_with fail
  refine (C2.out _).mono ?_
  rintro e w2 ⟨rfl, hb_⟩
  have hm_w2 : Below w1.heap.size w1 w2 := hb_
  have q_w2 := hm_w2.size
  replace c_s_0 := below_cell hm_w2 c_s_0 lt_w1_0_0
  replace c_s_1 := below_cell hm_w2 c_s_1 lt_w1_0_0
  replace c_c_0 := below_cell hm_w2 c_c_0 lt_w1_0_1
  replace c_c_1 := below_cell hm_w2 c_c_1 lt_w1_0_1
  replace c_e_0 := below_cell hm_w2 c_e_0 lt_w1_0_2
  replace f_e_0 := (hm_w2.frozen (p := ⟨w.heap.size + 1 + 1, 0, none⟩) lt_w1_0_2).trans f_e_0
  replace c_e_1 := below_cell hm_w2 c_e_1 lt_w1_0_2
  replace f_e_1 := (hm_w2.frozen (p := ⟨w.heap.size + 1 + 1, 1, none⟩) lt_w1_0_2).trans f_e_1
  replace A0 := Lib.hid (A0.out.trans (hm_w2.mono A0.out.size))
  have lt_w2_0_2 : w.heap.size + 1 + 1 < w2.heap.size := by omega
  have lt_w2_0_1 : w.heap.size + 1 < w2.heap.size := Nat.lt_of_succ_lt lt_w2_0_2
  have lt_w2_0_0 : w.heap.size < w2.heap.size := Nat.lt_of_succ_lt lt_w2_0_1
  obtain ⟨le_w2_0_0, le_w2_0_1, le_w2_0_2, le_w2_0_3, lu_w2_0_1, lu_w2_0_2, lu_w2_0_3⟩ := lts lt_w2_0_0
  clear le_w1_0_0 le_w1_0_1 le_w1_0_2 le_w1_0_3 lu_w1_0_1 lu_w1_0_2 lu_w1_0_3 lt_w1_0_0 lt_w1_0_1 lt_w1_0_2
  clear hm_w2
  clear hb_
  go_wp2_with fail
  refine (I0.out _).mono ?_
  rintro e w9 ⟨rfl, rfl⟩
  go_wp2_with fail
  refine (I1.out _).mono ?_
  rintro e w9 ⟨rfl, rfl⟩
  go_wp2_with fail
  refine (I2.out _).mono ?_
  rintro e w9 ⟨rfl, rfl⟩
  go_upto_region 5 with fail
  go_quiet (fail)
  go_wp2_with fail
  refine (U2.out _).mono ?_
  rintro e w4 ⟨rfl, hb_⟩
  replace hb_ : Below w2.heap.size w2 w4 := (belowN (Below.refl _ _) _).trans hb_
  have hm_w4 : Below w2.heap.size w2 w4 := hb_
  have q_w4 := hm_w4.size
  replace c_s_0 := below_cell hm_w4 c_s_0 lt_w2_0_0
  replace c_s_1 := below_cell hm_w4 c_s_1 lt_w2_0_0
  replace c_c_0 := below_cell hm_w4 c_c_0 lt_w2_0_1
  replace c_c_1 := below_cell hm_w4 c_c_1 lt_w2_0_1
  replace c_e_0 := below_cell hm_w4 c_e_0 lt_w2_0_2
  replace f_e_0 := (hm_w4.frozen (p := ⟨w.heap.size + 1 + 1, 0, none⟩) lt_w2_0_2).trans f_e_0
  replace c_e_1 := below_cell hm_w4 c_e_1 lt_w2_0_2
  replace f_e_1 := (hm_w4.frozen (p := ⟨w.heap.size + 1 + 1, 1, none⟩) lt_w2_0_2).trans f_e_1
  replace A0 := Lib.hid (A0.out.trans (hm_w4.mono A0.out.size))
  have lt_w4_0_2 : w.heap.size + 1 + 1 < w4.heap.size := by omega
  have lt_w4_0_1 : w.heap.size + 1 < w4.heap.size := Nat.lt_of_succ_lt lt_w4_0_2
  have lt_w4_0_0 : w.heap.size < w4.heap.size := Nat.lt_of_succ_lt lt_w4_0_1
  obtain ⟨le_w4_0_0, le_w4_0_1, le_w4_0_2, le_w4_0_3, lu_w4_0_1, lu_w4_0_2, lu_w4_0_3⟩ := lts lt_w4_0_0
  clear le_w2_0_0 le_w2_0_1 le_w2_0_2 le_w2_0_3 lu_w2_0_1 lu_w2_0_2 lu_w2_0_3 lt_w2_0_0 lt_w2_0_1 lt_w2_0_2
  clear hm_w4
  clear hb_
  go_wp2_with fail
  refine (U3.out _).mono ?_
  rintro e w5 ⟨rfl, hb_⟩
  have hm_w5 : Below w4.heap.size w4 w5 := hb_
  have q_w5 := hm_w5.size
  replace c_s_0 := below_cell hm_w5 c_s_0 lt_w4_0_0
  replace c_s_1 := below_cell hm_w5 c_s_1 lt_w4_0_0
  replace c_c_0 := below_cell hm_w5 c_c_0 lt_w4_0_1
  replace c_c_1 := below_cell hm_w5 c_c_1 lt_w4_0_1
  replace c_e_0 := below_cell hm_w5 c_e_0 lt_w4_0_2
  replace f_e_0 := (hm_w5.frozen (p := ⟨w.heap.size + 1 + 1, 0, none⟩) lt_w4_0_2).trans f_e_0
  replace c_e_1 := below_cell hm_w5 c_e_1 lt_w4_0_2
  replace f_e_1 := (hm_w5.frozen (p := ⟨w.heap.size + 1 + 1, 1, none⟩) lt_w4_0_2).trans f_e_1
  replace A0 := Lib.hid (A0.out.trans (hm_w5.mono A0.out.size))
  have lt_w5_0_2 : w.heap.size + 1 + 1 < w5.heap.size := by omega
  have lt_w5_0_1 : w.heap.size + 1 < w5.heap.size := Nat.lt_of_succ_lt lt_w5_0_2
  have lt_w5_0_0 : w.heap.size < w5.heap.size := Nat.lt_of_succ_lt lt_w5_0_1
  obtain ⟨le_w5_0_0, le_w5_0_1, le_w5_0_2, le_w5_0_3, lu_w5_0_1, lu_w5_0_2, lu_w5_0_3⟩ := lts lt_w5_0_0
  clear le_w4_0_0 le_w4_0_1 le_w4_0_2 le_w4_0_3 lu_w4_0_1 lu_w4_0_2 lu_w4_0_3 lt_w4_0_0 lt_w4_0_1 lt_w4_0_2
  clear hm_w5
  clear hb_
  go_wp2_with fail
  refine (RS.out _).mono ?_
  rintro e w6 ⟨rfl, hb_⟩
  have s_w6 := hb_.size
  try simp only [World.size_alloc] at s_w6
  have hm_w6 : Below w5.heap.size w5 w6 := Below.trans (b := (w5.alloc (.cells #[.int .i64 (max a free + size * p), .int .i64 (V + (r * p - 1048576) * size)] 25))) (by (repeat' (first | (with_reducible exact Below.refl _ _) | (with_reducible refine Below.alloc ?_ ?_ _) | (with_reducible refine Below.setCell ?_ ?_ _) | (with_reducible refine Below.drew ?_) | (with_reducible assumption) | omega | (simp; done) | (simp; omega)))) (hb_.mono (by first | (simp; done) | (simp; omega)))
  have q_w6 := hm_w6.size
  replace c_s_0 := below_cell hm_w6 c_s_0 lt_w5_0_0
  replace c_s_1 := below_cell hm_w6 c_s_1 lt_w5_0_0
  replace c_c_0 := below_cell hm_w6 c_c_0 lt_w5_0_1
  replace c_c_1 := below_cell hm_w6 c_c_1 lt_w5_0_1
  replace c_e_0 := below_cell hm_w6 c_e_0 lt_w5_0_2
  replace f_e_0 := (hm_w6.frozen (p := ⟨w.heap.size + 1 + 1, 0, none⟩) lt_w5_0_2).trans f_e_0
  replace c_e_1 := below_cell hm_w6 c_e_1 lt_w5_0_2
  replace f_e_1 := (hm_w6.frozen (p := ⟨w.heap.size + 1 + 1, 1, none⟩) lt_w5_0_2).trans f_e_1
  replace A0 := Lib.hid (A0.out.trans (hm_w6.mono A0.out.size))
  have c_n_0 : w6.cell? ⟨w5.heap.size, 0, none⟩ = some (.int .i64 (max a free + size * p)) := by rw [(bcell hb_).1 _ _ (by first | (simp; done) | (simp; omega))]; simp [go_sem]
  have c_n_1 : w6.cell? ⟨w5.heap.size, 1, none⟩ = some (.int .i64 (V + (r * p - 1048576) * size)) := by rw [(bcell hb_).1 _ _ (by first | (simp; done) | (simp; omega))]; simp [go_sem]
  have lt_w6_0_2 : w.heap.size + 1 + 1 < w6.heap.size := by omega
  have lt_w6_0_1 : w.heap.size + 1 < w6.heap.size := Nat.lt_of_succ_lt lt_w6_0_2
  have lt_w6_0_0 : w.heap.size < w6.heap.size := Nat.lt_of_succ_lt lt_w6_0_1
  obtain ⟨le_w6_0_0, le_w6_0_1, le_w6_0_2, le_w6_0_3, lu_w6_0_1, lu_w6_0_2, lu_w6_0_3⟩ := lts lt_w6_0_0
  have lt_w6_1_0 : w5.heap.size < w6.heap.size := by omega
  obtain ⟨le_w6_1_0, le_w6_1_1, le_w6_1_2, le_w6_1_3, lu_w6_1_1, lu_w6_1_2, lu_w6_1_3⟩ := lts lt_w6_1_0
  clear le_w5_0_0 le_w5_0_1 le_w5_0_2 le_w5_0_3 lu_w5_0_1 lu_w5_0_2 lu_w5_0_3 lt_w5_0_0 lt_w5_0_1 lt_w5_0_2
  clear hm_w6
  clear hb_
  go_wp2_with fail
  exact bodyPost_ret (v := .tuple #[.int .i64 0, .agg #[.int .i64 0, .int .i64 0], .int .i64 6]) (by simp [results, Try.results14, go_sem, c_e_0, c_e_1]) rfl ⟨rfl, by have hb := A0.out; have := hb.size; (repeat' (first | (with_reducible exact Below.refl _ _) | (with_reducible refine Below.alloc ?_ ?_ _) | (with_reducible refine Below.setCell ?_ ?_ _) | (with_reducible refine Below.drew ?_) | (with_reducible assumption) | omega | (simp; done) | (simp; omega)))⟩
theorem ref_Step_00_true (r p a l t free size : Int) (h : Cr.ok r p = true) (h2 : Cr.stOk a l = true) (h3 : Cr.argOk t free size = true) (hA : ¬ a < t) (hM : ¬ Cr.mid r a l t free < 0) (ho : Cr.stOk (Cr.outA r p a l t free size) (Cr.outL r p a l t free size) = true) (w : World) :
    Calls Try.prog 14 #[.agg #[.int .i64 r, .int .i64 p], .agg #[.int .i64 a, .int .i64 l], .int .i64 t, .int .i64 free, .int .i64 size] w fun e w' => e = .returned (.tuple #[.int .i64 (Cr.start r a l t free), .agg #[.int .i64 (Cr.outA r p a l t free size), .int .i64 (Cr.outL r p a l t free size)], .int .i64 0]) ∧ Below w.heap.size w w' := by
  obtain ⟨p0, p1, r0, r1, rp, a0, a1, l0, l1, t0, t1, f0, f1, s0, s1⟩ := Cr.in_of h h2 h3
  have g0 := And.intro t0 t1
  have g1 := And.intro f0 f1
  have g2 := And.intro s0 s1
  have rp1 := (Cr.prod_bound p0 p1 r0 r1).1
  have C1 := Right_b r p
  rw [h] at C1
  have C1 := Lib.hid C1
  have C2 := RightState_b a l
  rw [h2] at C2
  have C2 := Lib.hid C2
  have I0 := in_any t 0 1073741824
  rw [decide_eq_true g0] at I0
  have I0 := Lib.hid I0
  have I1 := in_any free 0 1073741824
  rw [decide_eq_true g1] at I1
  have I1 := Lib.hid I1
  have I2 := in_any size 1 1542
  rw [decide_eq_true g2] at I2
  have I2 := Lib.hid I2
  have hbeg : Cr.beg a t = a := by unfold Cr.beg; rw [if_neg hA]
  have hlvl : Cr.lvl r a l t = l := by unfold Cr.lvl; rw [if_neg hA]
  have hin := Cr.lvl_in (a := a) (t := t) r0 l0 l1
  have hm := Cr.mid_in (t := t) (free := free) r0 r1 l0 l1 a0 f1 t1 a1
  have hsp := Cr.start_spec (a := a) (l := l) (t := t) (free := free) r0
  have hvm := Cr.lev_mid r a l t free
  have hmd : Cr.mid r a l t free = Cr.lvl r a l t + r * (max (Cr.beg a t) free - Cr.beg a t) := rfl
  have hlv : Cr.lev r a l t free = Cr.lvl r a l t + r * (Cr.start r a l t free - Cr.beg a t) := rfl
  have hst : Cr.start r a l t free = max (Cr.beg a t) free := by unfold Cr.start; rw [if_neg (show ¬ Cr.lvl r a l t + r * (max (Cr.beg a t) free - Cr.beg a t) < 0 from hM)]
  have RS := RightState_b (Cr.outA r p a l t free size) (Cr.outL r p a l t free size)
  rw [ho] at RS
  clear ho h h2 h3
  rw [show Cr.outL r p a l t free size = Cr.lev r a l t free + (r * p - 1048576) * size from rfl, show Cr.outA r p a l t free size = Cr.start r a l t free + size * p from rfl] at RS
  rw [show Cr.outL r p a l t free size = Cr.lev r a l t free + (r * p - 1048576) * size from rfl, show Cr.outA r p a l t free size = Cr.start r a l t free + size * p from rfl]
  rw [hbeg] at hsp hvm hmd hlv hst
  rw [hlvl] at hin hmd hlv
  have gn := Cr.gain r0 r1 (show 0 ≤ max a free - a by omega) (by omega)
  have gu := Cr.gain r0 r1 (show 0 ≤ Cr.start r a l t free - max a free by omega) (by omega)
  have gv := Cr.gain r0 r1 (show 0 ≤ Cr.start r a l t free - a by omega) (by omega)
  have U2 := up_b r p l (max a free - a) (by omega) (by omega) (by omega) (by omega)
  have U3 := up_b r p l (Cr.start r a l t free - a) (by omega) (by omega) (by omega) (by omega)
  rw [← hmd] at U2
  rw [← hlv] at U3
  have U2 := Lib.hid U2
  clear hlvl hbeg
  have vb : 0 ≤ Cr.lev r a l t free ∧ Cr.lev r a l t free ≤ 36028797018963968 := by omega
  have m1 := Int.mul_le_mul (show 1048576 - r * p ≤ 1048576 by omega) s1 (by omega) (by omega)
  have m2 := Int.mul_nonneg (show 0 ≤ 1048576 - r * p by omega) (show 0 ≤ size by omega)
  have m3 : (r * p - 1048576) * size = -((1048576 - r * p) * size) := by rw [← Int.neg_mul]; congr 1; omega
  have m4 := Int.mul_le_mul s1 p1 (by omega) (by omega)
  have m5 := Int.mul_nonneg (show 0 ≤ size by omega) (show 0 ≤ p by omega)
  generalize Cr.lev r a l t free = V at *
  generalize Cr.mid r a l t free = M at *
  generalize Cr.start r a l t free = T at *
  have U3 := Lib.hid U3
  have RS := Lib.hid RS
  have q0 : IntKind.i64.wrap (t - a) = t - a := IntWalk.i64_in _ (by omega)
  have q1 : IntKind.i64.wrap (max a free - a) = max a free - a := IntWalk.i64_in _ (by omega)
  have q2 : IntKind.i64.wrap (T - a) = T - a := IntWalk.i64_in _ (by omega)
  have p1_ : IntKind.i64.wrap (size * p) = size * p := IntWalk.i64_in _ (by omega)
  have p2_ : IntKind.i64.wrap (T + size * p) = T + size * p := IntWalk.i64_in _ (by omega)
  have p3_ : IntKind.i64.wrap (r * p) = r * p := IntWalk.i64_in _ (by omega)
  have p4_ : IntKind.i64.wrap (r * p - 1048576) = r * p - 1048576 := IntWalk.i64_in _ (by omega)
  have p5_ : IntKind.i64.wrap ((r * p - 1048576) * size) = (r * p - 1048576) * size := IntWalk.i64_in _ (by omega)
  have p6_ : IntKind.i64.wrap (V + (r * p - 1048576) * size) = V + (r * p - 1048576) * size := IntWalk.i64_in _ (by omega)
  clear m1 m2 m3 m4 m5 gn gu gv hin hm hsp hvm hmd hlv vb
  subst hst
  have A0 : Hid (Below w.heap.size w w) := Lib.hid (Below.refl _ _)
  go_enter Try.func14, Try.ntmps14
  go_wp2_with fail
  refine (C1.out _).mono ?_
  rintro e w1 ⟨rfl, hb_⟩
  have s_w1 := hb_.size
  try simp only [World.size_alloc] at s_w1
  have hm_w1 : Below w.heap.size w w1 := Below.trans (b := (((w.alloc (.cells #[.int .i64 r, .int .i64 p] 23)).alloc (.cells #[.int .i64 a, .int .i64 l] 25)).alloc (.cells #[.int .i64 0, .int .i64 0] 25))) (by (repeat' (first | (with_reducible exact Below.refl _ _) | (with_reducible refine Below.alloc ?_ ?_ _) | (with_reducible refine Below.setCell ?_ ?_ _) | (with_reducible refine Below.drew ?_) | (with_reducible assumption) | omega | (simp; done) | (simp; omega)))) (hb_.mono (by first | (simp; done) | (simp; omega)))
  have q_w1 := hm_w1.size
  replace A0 := Lib.hid (A0.out.trans (hm_w1.mono A0.out.size))
  have c_s_0 : w1.cell? ⟨w.heap.size, 0, none⟩ = some (.int .i64 r) := by rw [(bcell hb_).1 _ _ (by first | (simp; done) | (simp; omega))]; simp [go_sem]
  have c_s_1 : w1.cell? ⟨w.heap.size, 1, none⟩ = some (.int .i64 p) := by rw [(bcell hb_).1 _ _ (by first | (simp; done) | (simp; omega))]; simp [go_sem]
  have c_c_0 : w1.cell? ⟨w.heap.size + 1, 0, none⟩ = some (.int .i64 a) := by rw [(bcell hb_).1 _ _ (by first | (simp; done) | (simp; omega))]; simp [go_sem]
  have c_c_1 : w1.cell? ⟨w.heap.size + 1, 1, none⟩ = some (.int .i64 l) := by rw [(bcell hb_).1 _ _ (by first | (simp; done) | (simp; omega))]; simp [go_sem]
  have c_e_0 : w1.cell? ⟨w.heap.size + 1 + 1, 0, none⟩ = some (.int .i64 0) := by rw [(bcell hb_).1 _ _ (by first | (simp; done) | (simp; omega))]; simp [go_sem]
  have f_e_0 : w1.frozen? ⟨w.heap.size + 1 + 1, 0, none⟩ = false := by rw [(bcell hb_).2 _ _ (by first | (simp; done) | (simp; omega))]; simp [go_sem]
  have c_e_1 : w1.cell? ⟨w.heap.size + 1 + 1, 1, none⟩ = some (.int .i64 0) := by rw [(bcell hb_).1 _ _ (by first | (simp; done) | (simp; omega))]; simp [go_sem]
  have f_e_1 : w1.frozen? ⟨w.heap.size + 1 + 1, 1, none⟩ = false := by rw [(bcell hb_).2 _ _ (by first | (simp; done) | (simp; omega))]; simp [go_sem]
  have lt_w1_0_2 : w.heap.size + 1 + 1 < w1.heap.size := by omega
  have lt_w1_0_1 : w.heap.size + 1 < w1.heap.size := Nat.lt_of_succ_lt lt_w1_0_2
  have lt_w1_0_0 : w.heap.size < w1.heap.size := Nat.lt_of_succ_lt lt_w1_0_1
  obtain ⟨le_w1_0_0, le_w1_0_1, le_w1_0_2, le_w1_0_3, lu_w1_0_1, lu_w1_0_2, lu_w1_0_3⟩ := lts lt_w1_0_0
  clear hm_w1
  clear hb_
  go_wp2_with fail
  refine (C2.out _).mono ?_
  rintro e w2 ⟨rfl, hb_⟩
  have hm_w2 : Below w1.heap.size w1 w2 := hb_
  have q_w2 := hm_w2.size
  replace c_s_0 := below_cell hm_w2 c_s_0 lt_w1_0_0
  replace c_s_1 := below_cell hm_w2 c_s_1 lt_w1_0_0
  replace c_c_0 := below_cell hm_w2 c_c_0 lt_w1_0_1
  replace c_c_1 := below_cell hm_w2 c_c_1 lt_w1_0_1
  replace c_e_0 := below_cell hm_w2 c_e_0 lt_w1_0_2
  replace f_e_0 := (hm_w2.frozen (p := ⟨w.heap.size + 1 + 1, 0, none⟩) lt_w1_0_2).trans f_e_0
  replace c_e_1 := below_cell hm_w2 c_e_1 lt_w1_0_2
  replace f_e_1 := (hm_w2.frozen (p := ⟨w.heap.size + 1 + 1, 1, none⟩) lt_w1_0_2).trans f_e_1
  replace A0 := Lib.hid (A0.out.trans (hm_w2.mono A0.out.size))
  have lt_w2_0_2 : w.heap.size + 1 + 1 < w2.heap.size := by omega
  have lt_w2_0_1 : w.heap.size + 1 < w2.heap.size := Nat.lt_of_succ_lt lt_w2_0_2
  have lt_w2_0_0 : w.heap.size < w2.heap.size := Nat.lt_of_succ_lt lt_w2_0_1
  obtain ⟨le_w2_0_0, le_w2_0_1, le_w2_0_2, le_w2_0_3, lu_w2_0_1, lu_w2_0_2, lu_w2_0_3⟩ := lts lt_w2_0_0
  clear le_w1_0_0 le_w1_0_1 le_w1_0_2 le_w1_0_3 lu_w1_0_1 lu_w1_0_2 lu_w1_0_3 lt_w1_0_0 lt_w1_0_1 lt_w1_0_2
  clear hm_w2
  clear hb_
  go_wp2_with fail
  refine (I0.out _).mono ?_
  rintro e w9 ⟨rfl, rfl⟩
  go_wp2_with fail
  refine (I1.out _).mono ?_
  rintro e w9 ⟨rfl, rfl⟩
  go_wp2_with fail
  refine (I2.out _).mono ?_
  rintro e w9 ⟨rfl, rfl⟩
  go_upto_region 5 with fail
  go_quiet (fail)
  go_wp2_with fail
  refine (U2.out _).mono ?_
  rintro e w4 ⟨rfl, hb_⟩
  replace hb_ : Below w2.heap.size w2 w4 := (belowN (Below.refl _ _) _).trans hb_
  have hm_w4 : Below w2.heap.size w2 w4 := hb_
  have q_w4 := hm_w4.size
  replace c_s_0 := below_cell hm_w4 c_s_0 lt_w2_0_0
  replace c_s_1 := below_cell hm_w4 c_s_1 lt_w2_0_0
  replace c_c_0 := below_cell hm_w4 c_c_0 lt_w2_0_1
  replace c_c_1 := below_cell hm_w4 c_c_1 lt_w2_0_1
  replace c_e_0 := below_cell hm_w4 c_e_0 lt_w2_0_2
  replace f_e_0 := (hm_w4.frozen (p := ⟨w.heap.size + 1 + 1, 0, none⟩) lt_w2_0_2).trans f_e_0
  replace c_e_1 := below_cell hm_w4 c_e_1 lt_w2_0_2
  replace f_e_1 := (hm_w4.frozen (p := ⟨w.heap.size + 1 + 1, 1, none⟩) lt_w2_0_2).trans f_e_1
  replace A0 := Lib.hid (A0.out.trans (hm_w4.mono A0.out.size))
  have lt_w4_0_2 : w.heap.size + 1 + 1 < w4.heap.size := by omega
  have lt_w4_0_1 : w.heap.size + 1 < w4.heap.size := Nat.lt_of_succ_lt lt_w4_0_2
  have lt_w4_0_0 : w.heap.size < w4.heap.size := Nat.lt_of_succ_lt lt_w4_0_1
  obtain ⟨le_w4_0_0, le_w4_0_1, le_w4_0_2, le_w4_0_3, lu_w4_0_1, lu_w4_0_2, lu_w4_0_3⟩ := lts lt_w4_0_0
  clear le_w2_0_0 le_w2_0_1 le_w2_0_2 le_w2_0_3 lu_w2_0_1 lu_w2_0_2 lu_w2_0_3 lt_w2_0_0 lt_w2_0_1 lt_w2_0_2
  clear hm_w4
  clear hb_
  go_wp2_with fail
  refine (U3.out _).mono ?_
  rintro e w5 ⟨rfl, hb_⟩
  have hm_w5 : Below w4.heap.size w4 w5 := hb_
  have q_w5 := hm_w5.size
  replace c_s_0 := below_cell hm_w5 c_s_0 lt_w4_0_0
  replace c_s_1 := below_cell hm_w5 c_s_1 lt_w4_0_0
  replace c_c_0 := below_cell hm_w5 c_c_0 lt_w4_0_1
  replace c_c_1 := below_cell hm_w5 c_c_1 lt_w4_0_1
  replace c_e_0 := below_cell hm_w5 c_e_0 lt_w4_0_2
  replace f_e_0 := (hm_w5.frozen (p := ⟨w.heap.size + 1 + 1, 0, none⟩) lt_w4_0_2).trans f_e_0
  replace c_e_1 := below_cell hm_w5 c_e_1 lt_w4_0_2
  replace f_e_1 := (hm_w5.frozen (p := ⟨w.heap.size + 1 + 1, 1, none⟩) lt_w4_0_2).trans f_e_1
  replace A0 := Lib.hid (A0.out.trans (hm_w5.mono A0.out.size))
  have lt_w5_0_2 : w.heap.size + 1 + 1 < w5.heap.size := by omega
  have lt_w5_0_1 : w.heap.size + 1 < w5.heap.size := Nat.lt_of_succ_lt lt_w5_0_2
  have lt_w5_0_0 : w.heap.size < w5.heap.size := Nat.lt_of_succ_lt lt_w5_0_1
  obtain ⟨le_w5_0_0, le_w5_0_1, le_w5_0_2, le_w5_0_3, lu_w5_0_1, lu_w5_0_2, lu_w5_0_3⟩ := lts lt_w5_0_0
  clear le_w4_0_0 le_w4_0_1 le_w4_0_2 le_w4_0_3 lu_w4_0_1 lu_w4_0_2 lu_w4_0_3 lt_w4_0_0 lt_w4_0_1 lt_w4_0_2
  clear hm_w5
  clear hb_
  go_wp2_with fail
  refine (RS.out _).mono ?_
  rintro e w6 ⟨rfl, hb_⟩
  have s_w6 := hb_.size
  try simp only [World.size_alloc] at s_w6
  have hm_w6 : Below w5.heap.size w5 w6 := Below.trans (b := (w5.alloc (.cells #[.int .i64 (max a free + size * p), .int .i64 (V + (r * p - 1048576) * size)] 25))) (by (repeat' (first | (with_reducible exact Below.refl _ _) | (with_reducible refine Below.alloc ?_ ?_ _) | (with_reducible refine Below.setCell ?_ ?_ _) | (with_reducible refine Below.drew ?_) | (with_reducible assumption) | omega | (simp; done) | (simp; omega)))) (hb_.mono (by first | (simp; done) | (simp; omega)))
  have q_w6 := hm_w6.size
  replace c_s_0 := below_cell hm_w6 c_s_0 lt_w5_0_0
  replace c_s_1 := below_cell hm_w6 c_s_1 lt_w5_0_0
  replace c_c_0 := below_cell hm_w6 c_c_0 lt_w5_0_1
  replace c_c_1 := below_cell hm_w6 c_c_1 lt_w5_0_1
  replace c_e_0 := below_cell hm_w6 c_e_0 lt_w5_0_2
  replace f_e_0 := (hm_w6.frozen (p := ⟨w.heap.size + 1 + 1, 0, none⟩) lt_w5_0_2).trans f_e_0
  replace c_e_1 := below_cell hm_w6 c_e_1 lt_w5_0_2
  replace f_e_1 := (hm_w6.frozen (p := ⟨w.heap.size + 1 + 1, 1, none⟩) lt_w5_0_2).trans f_e_1
  replace A0 := Lib.hid (A0.out.trans (hm_w6.mono A0.out.size))
  have c_n_0 : w6.cell? ⟨w5.heap.size, 0, none⟩ = some (.int .i64 (max a free + size * p)) := by rw [(bcell hb_).1 _ _ (by first | (simp; done) | (simp; omega))]; simp [go_sem]
  have c_n_1 : w6.cell? ⟨w5.heap.size, 1, none⟩ = some (.int .i64 (V + (r * p - 1048576) * size)) := by rw [(bcell hb_).1 _ _ (by first | (simp; done) | (simp; omega))]; simp [go_sem]
  have lt_w6_0_2 : w.heap.size + 1 + 1 < w6.heap.size := by omega
  have lt_w6_0_1 : w.heap.size + 1 < w6.heap.size := Nat.lt_of_succ_lt lt_w6_0_2
  have lt_w6_0_0 : w.heap.size < w6.heap.size := Nat.lt_of_succ_lt lt_w6_0_1
  obtain ⟨le_w6_0_0, le_w6_0_1, le_w6_0_2, le_w6_0_3, lu_w6_0_1, lu_w6_0_2, lu_w6_0_3⟩ := lts lt_w6_0_0
  have lt_w6_1_0 : w5.heap.size < w6.heap.size := by omega
  obtain ⟨le_w6_1_0, le_w6_1_1, le_w6_1_2, le_w6_1_3, lu_w6_1_1, lu_w6_1_2, lu_w6_1_3⟩ := lts lt_w6_1_0
  clear le_w5_0_0 le_w5_0_1 le_w5_0_2 le_w5_0_3 lu_w5_0_1 lu_w5_0_2 lu_w5_0_3 lt_w5_0_0 lt_w5_0_1 lt_w5_0_2
  clear hm_w6
  clear hb_
  go_wp2_with fail
  go_region
  all_goals go_wp2_with fail
  all_goals exact bodyPost_ret (v := .tuple #[.int .i64 (max a free), .agg #[.int .i64 (max a free + size * p), .int .i64 (V + (r * p - 1048576) * size)], .int .i64 0]) (by simp [results, Try.results14, go_sem, c_e_0, c_e_1, c_n_0, c_n_1]) rfl ⟨rfl, by have hb := A0.out; have := hb.size; (repeat' (first | (with_reducible exact Below.refl _ _) | (with_reducible refine Below.alloc ?_ ?_ _) | (with_reducible refine Below.setCell ?_ ?_ _) | (with_reducible refine Below.drew ?_) | (with_reducible assumption) | omega | (simp; done) | (simp; omega)))⟩
theorem ref_Step_any (r p a l t free size : Int) (w : World) :
    Calls Try.prog 14 #[.agg #[.int .i64 r, .int .i64 p], .agg #[.int .i64 a, .int .i64 l], .int .i64 t, .int .i64 free, .int .i64 size] w fun e w' => e = .returned (.tuple #[.int .i64 (Cr.sX r p a l t free size (Cr.start r a l t free)), .agg #[.int .i64 (Cr.sX r p a l t free size (Cr.outA r p a l t free size)), .int .i64 (Cr.sX r p a l t free size (Cr.outL r p a l t free size))], .int .i64 (Cr.stepE r p a l t free size)]) ∧ Below w.heap.size w w' := by
  unfold Cr.sX
  cases h1 : Cr.ok r p
  · rw [show Cr.stepE r p a l t free size = 450 by unfold Cr.stepE; rw [if_pos (.inl h1)]]
    exact ref_Step_c r p a l t free size h1 w
  · cases h2 : Cr.stOk a l
    · rw [show Cr.stepE r p a l t free size = 450 by unfold Cr.stepE; rw [if_pos (.inr h2)]]
      exact ref_Step_s r p a l t free size h1 h2 w
    · have hn : ¬ (Cr.ok r p = false ∨ Cr.stOk a l = false) := by rw [h1, h2]; simp
      cases h3 : Cr.argOk t free size
      · rw [show Cr.stepE r p a l t free size = 2 by unfold Cr.stepE; rw [if_neg hn, if_pos h3]]
        have h4 := of_decide_eq_false h3
        by_cases g0 : 0 ≤ t ∧ t ≤ 1073741824
        · by_cases g1 : 0 ≤ free ∧ free ≤ 1073741824
          · exact ref_Step_a2 r p a l t free size h1 h2 g0 g1 (by omega) w
          · exact ref_Step_a1 r p a l t free size h1 h2 g0 g1 w
        · exact ref_Step_a0 r p a l t free size h1 h2 g0 w
      · cases ho : Cr.stOk (Cr.outA r p a l t free size) (Cr.outL r p a l t free size)
        · rw [show Cr.stepE r p a l t free size = 6 by unfold Cr.stepE; rw [if_neg hn, if_neg (by rw [h3]; simp), if_neg (by rw [ho]; simp)]]
          by_cases hA : a < t <;> by_cases hM : Cr.mid r a l t free < 0
          · exact ref_Step_11_false r p a l t free size h1 h2 h3 hA hM ho w
          · exact ref_Step_10_false r p a l t free size h1 h2 h3 hA hM ho w
          · exact ref_Step_01_false r p a l t free size h1 h2 h3 hA hM ho w
          · exact ref_Step_00_false r p a l t free size h1 h2 h3 hA hM ho w
        · rw [show Cr.stepE r p a l t free size = 0 by unfold Cr.stepE; rw [if_neg hn, if_neg (by rw [h3]; simp), if_pos ho]]
          by_cases hA : a < t <;> by_cases hM : Cr.mid r a l t free < 0
          · exact ref_Step_11_true r p a l t free size h1 h2 h3 hA hM ho w
          · exact ref_Step_10_true r p a l t free size h1 h2 h3 hA hM ho w
          · exact ref_Step_01_true r p a l t free size h1 h2 h3 hA hM ho w
          · exact ref_Step_00_true r p a l t free size h1 h2 h3 hA hM ho w

end CrW
end Go.Proofs.Ytoglmfpmeajbeaa
