/- CreditSteps: the walk of the law. -/
import Derived.Test.YtoglmfpmeajbeaaCrX
import Derived.Test.YtoglmfpmeajbeaaCrR
import Derived.Test.YtoglmfpmeajbeaaCrT
import Derived.Deep.DeepCutAuto
namespace Go.Proofs.Ytoglmfpmeajbeaa
set_option linter.unusedSimpArgs false
set_option linter.unusedVariables false
open Go.RowKit
namespace CrW
theorem Of_u (x y : Nat) (hx : x < 4294967296) (hy : y < 4294967296) (w : World) : Calls Try.prog 8 #[.int .u32 x, .int .u16 ((y % 65536 : Nat) : Int)] w fun e w' => e = .returned (.agg #[.int .i64 (Cr.ofR x (1 + ((y % 65536 : Nat) : Int) % 1000)), .int .i64 (1 + ((y % 65536 : Nat) : Int) % 1000)]) ∧ Below w.heap.size w w' := Of_any x (y % 65536) hx (by omega) w
theorem Check_both (r p : Int) : ∃ e : Int,
    (∀ w, Calls Try.prog 9 #[.agg #[.int .i64 r, .int .i64 p]] w fun e' w' => e' = .returned (.int .i64 e) ∧ Below w.heap.size w w') ∧
    (∀ w, Calls Try.prog 10 #[.agg #[.int .i64 r, .int .i64 p]] w fun e' w' => e' = .returned (.int .i64 e) ∧ Below w.heap.size w w') := ⟨_, Check_b r p, ref_Check_any r p⟩
theorem State_both (a l : Int) : ∃ e : Int,
    (∀ w, Calls Try.prog 11 #[.agg #[.int .i64 a, .int .i64 l]] w fun e' w' => e' = .returned (.int .i64 e) ∧ Below w.heap.size w w') ∧
    (∀ w, Calls Try.prog 12 #[.agg #[.int .i64 a, .int .i64 l]] w fun e' w' => e' = .returned (.int .i64 e) ∧ Below w.heap.size w w') := ⟨_, CheckState_b a l, ref_CheckState_any a l⟩
theorem Step_both (r p a l t f z : Int) : ∃ s b m e : Int,
    (∀ w, Calls Try.prog 13 #[.agg #[.int .i64 r, .int .i64 p], .agg #[.int .i64 a, .int .i64 l], .int .i64 t, .int .i64 f, .int .i64 z] w fun e' w' => e' = .returned (.tuple #[.int .i64 s, .agg #[.int .i64 b, .int .i64 m], .int .i64 e]) ∧ Below w.heap.size w w') ∧
    (∀ w, Calls Try.prog 14 #[.agg #[.int .i64 r, .int .i64 p], .agg #[.int .i64 a, .int .i64 l], .int .i64 t, .int .i64 f, .int .i64 z] w fun e' w' => e' = .returned (.tuple #[.int .i64 s, .agg #[.int .i64 b, .int .i64 m], .int .i64 e]) ∧ Below w.heap.size w w') := ⟨_, _, _, _, Step_any r p a l t f z, ref_Step_any r p a l t f z⟩
set_option maxRecDepth 100000 in
set_option maxHeartbeats 8000000 in
theorem law_Steps (r p a l : Int) (x y : Nat) (hx : x < 4294967296) (hy : y < 4294967296) (x0 x1 x2 : Int) (w : World) :
    Calls Try.prog 3 #[.agg #[.int .i64 r, .int .i64 p], .agg #[.int .i64 a, .int .i64 l], .agg #[.int .u32 x, .int .u32 y], .agg #[.int .i64 x0, .int .i64 x1, .int .i64 x2]] w fun e w' => e = .returned (.bool true) ∧ Below w.heap.size w w' := by
  have CO := Lib.hid (Of_u x y hx hy)
  obtain ⟨o1, ho1⟩ : ∃ o, Cr.ofR x (1 + ((y % 65536 : Nat) : Int) % 1000) = o := ⟨_, rfl⟩
  obtain ⟨o2, ho2⟩ : ∃ o : Int, 1 + ((y % 65536 : Nat) : Int) % 1000 = o := ⟨_, rfl⟩
  rw [ho1, ho2] at CO
  clear ho1 ho2
  have qy : IntKind.u16.wrap (y : Int) = ((y % 65536 : Nat) : Int) := by show (y : Int) % 65536 = _; omega
  have A0 : Hid (Below w.heap.size w w) := Lib.hid (Below.refl _ _)
  go_enter Try.func3, Try.ntmps3
  go_wp2_with fail
  refine (CO.out _).mono ?_
  rintro e w1 ⟨rfl, hb_⟩
  have s_w1 := hb_.size
  try simp only [World.size_alloc] at s_w1
  have hm_w1 : Below w.heap.size w w1 := Below.trans (b := ((((w.alloc (.cells #[.int .i64 r, .int .i64 p] 23)).alloc (.cells #[.int .i64 a, .int .i64 l] 25)).alloc (.cells #[.int .u32 x, .int .u32 y] 27)).alloc (.cells #[.int .i64 x0, .int .i64 x1, .int .i64 x2] 28))) (by (repeat' (first | (with_reducible exact Below.refl _ _) | (with_reducible refine Below.alloc ?_ ?_ _) | (with_reducible refine Below.setCell ?_ ?_ _) | (with_reducible refine Below.drew ?_) | (with_reducible assumption) | omega | (simp; done) | (simp; omega)))) (hb_.mono (by first | (simp; done) | (simp; omega)))
  have q_w1 := hm_w1.size
  replace A0 := Lib.hid (A0.out.trans (hm_w1.mono A0.out.size))
  have c_s_0 : w1.cell? ⟨w.heap.size, 0, none⟩ = some (.int .i64 r) := by rw [(bcell hb_).1 _ _ (by first | (simp; done) | (simp; omega))]; simp [go_sem]
  have c_s_1 : w1.cell? ⟨w.heap.size, 1, none⟩ = some (.int .i64 p) := by rw [(bcell hb_).1 _ _ (by first | (simp; done) | (simp; omega))]; simp [go_sem]
  have c_c_0 : w1.cell? ⟨w.heap.size + 1, 0, none⟩ = some (.int .i64 a) := by rw [(bcell hb_).1 _ _ (by first | (simp; done) | (simp; omega))]; simp [go_sem]
  have c_c_1 : w1.cell? ⟨w.heap.size + 1, 1, none⟩ = some (.int .i64 l) := by rw [(bcell hb_).1 _ _ (by first | (simp; done) | (simp; omega))]; simp [go_sem]
  have c_x_0 : w1.cell? ⟨w.heap.size + 1 + 1 + 1, 0, none⟩ = some (.int .i64 x0) := by rw [(bcell hb_).1 _ _ (by first | (simp; done) | (simp; omega))]; simp [go_sem]
  have c_x_1 : w1.cell? ⟨w.heap.size + 1 + 1 + 1, 1, none⟩ = some (.int .i64 x1) := by rw [(bcell hb_).1 _ _ (by first | (simp; done) | (simp; omega))]; simp [go_sem]
  have c_x_2 : w1.cell? ⟨w.heap.size + 1 + 1 + 1, 2, none⟩ = some (.int .i64 x2) := by rw [(bcell hb_).1 _ _ (by first | (simp; done) | (simp; omega))]; simp [go_sem]
  have lt_w1_0_3 : w.heap.size + 1 + 1 + 1 < w1.heap.size := by omega
  have lt_w1_0_2 : w.heap.size + 1 + 1 < w1.heap.size := Nat.lt_of_succ_lt lt_w1_0_3
  have lt_w1_0_1 : w.heap.size + 1 < w1.heap.size := Nat.lt_of_succ_lt lt_w1_0_2
  have lt_w1_0_0 : w.heap.size < w1.heap.size := Nat.lt_of_succ_lt lt_w1_0_1
  obtain ⟨le_w1_0_0, le_w1_0_1, le_w1_0_2, le_w1_0_3, lu_w1_0_1, lu_w1_0_2, lu_w1_0_3⟩ := lts lt_w1_0_0
  clear hm_w1
  clear hb_
  go_upto_region 2 with fail
  obtain ⟨W2, hW2⟩ : ∃ W2, (w1.alloc (.cells #[.int .i64 o1, .int .i64 o2] 23)) = W2 := ⟨_, rfl⟩
  have hm_W2 : Below w1.heap.size w1 W2 := by rw [← hW2]; (repeat' (first | (with_reducible exact Below.refl _ _) | (with_reducible refine Below.alloc ?_ ?_ _) | (with_reducible refine Below.setCell ?_ ?_ _) | (with_reducible refine Below.drew ?_) | (with_reducible assumption) | omega | (simp; done) | (simp; omega)))
  have q_W2 : w1.heap.size + 1 ≤ W2.heap.size := by rw [← hW2]; simp
  replace c_s_0 := below_cell hm_W2 c_s_0 lt_w1_0_0
  replace c_s_1 := below_cell hm_W2 c_s_1 lt_w1_0_0
  replace c_c_0 := below_cell hm_W2 c_c_0 lt_w1_0_1
  replace c_c_1 := below_cell hm_W2 c_c_1 lt_w1_0_1
  replace c_x_0 := below_cell hm_W2 c_x_0 lt_w1_0_3
  replace c_x_1 := below_cell hm_W2 c_x_1 lt_w1_0_3
  replace c_x_2 := below_cell hm_W2 c_x_2 lt_w1_0_3
  replace A0 := Lib.hid (A0.out.trans (hm_W2.mono A0.out.size))
  have c_o_0 : W2.cell? ⟨w1.heap.size, 0, none⟩ = some (.int .i64 o1) := by rw [← hW2]; simp [go_sem]
  have c_o_1 : W2.cell? ⟨w1.heap.size, 1, none⟩ = some (.int .i64 o2) := by rw [← hW2]; simp [go_sem]
  rw [hW2]
  have lt_W2_0_3 : w.heap.size + 1 + 1 + 1 < W2.heap.size := by omega
  have lt_W2_0_2 : w.heap.size + 1 + 1 < W2.heap.size := Nat.lt_of_succ_lt lt_W2_0_3
  have lt_W2_0_1 : w.heap.size + 1 < W2.heap.size := Nat.lt_of_succ_lt lt_W2_0_2
  have lt_W2_0_0 : w.heap.size < W2.heap.size := Nat.lt_of_succ_lt lt_W2_0_1
  obtain ⟨le_W2_0_0, le_W2_0_1, le_W2_0_2, le_W2_0_3, lu_W2_0_1, lu_W2_0_2, lu_W2_0_3⟩ := lts lt_W2_0_0
  have lt_W2_1_0 : w1.heap.size < W2.heap.size := by omega
  obtain ⟨le_W2_1_0, le_W2_1_1, le_W2_1_2, le_W2_1_3, lu_W2_1_1, lu_W2_1_2, lu_W2_1_3⟩ := lts lt_W2_1_0
  clear le_w1_0_0 le_w1_0_1 le_w1_0_2 le_w1_0_3 lu_w1_0_1 lu_w1_0_2 lu_w1_0_3 lt_w1_0_0 lt_w1_0_1 lt_w1_0_2 lt_w1_0_3
  clear hW2 hm_W2
  go_cut [10] (fun s10 wx => ∃ p_ q_ : Int, s10 = .pointer (some ⟨W2.heap.size, 0, none⟩) ∧ wx.cell? ⟨W2.heap.size, 0, none⟩ = some (.int .i64 p_) ∧ wx.cell? ⟨W2.heap.size, 1, none⟩ = some (.int .i64 q_) ∧ W2.heap.size < wx.heap.size ∧ Below W2.heap.size W2 wx)
  case first =>
    go_wp2_with fail
    go_meet
    exact ⟨_, _, rfl, (by simp [go_sem]; exact rfl), (by simp [go_sem]; exact rfl), by simp, by (repeat' (first | (with_reducible exact Below.refl _ _) | (with_reducible refine Below.alloc ?_ ?_ _) | (with_reducible refine Below.setCell ?_ ?_ _) | (with_reducible refine Below.drew ?_) | (with_reducible assumption) | omega | (simp; done) | (simp; omega)))⟩
  case rest =>
    obtain ⟨p_, q_, rfl, c_g_0, c_g_1, hgz, hbc⟩ := hcut
    obtain ⟨W3, rfl⟩ : ∃ W3 : World, W3 = wc := ⟨_, rfl⟩
    have hm_W3 : Below W2.heap.size W2 W3 := hbc
    have q_W3 := hm_W3.size
    replace c_s_0 := below_cell hm_W3 c_s_0 lt_W2_0_0
    replace c_s_1 := below_cell hm_W3 c_s_1 lt_W2_0_0
    replace c_c_0 := below_cell hm_W3 c_c_0 lt_W2_0_1
    replace c_c_1 := below_cell hm_W3 c_c_1 lt_W2_0_1
    replace c_x_0 := below_cell hm_W3 c_x_0 lt_W2_0_3
    replace c_x_1 := below_cell hm_W3 c_x_1 lt_W2_0_3
    replace c_x_2 := below_cell hm_W3 c_x_2 lt_W2_0_3
    replace c_o_0 := below_cell hm_W3 c_o_0 lt_W2_1_0
    replace c_o_1 := below_cell hm_W3 c_o_1 lt_W2_1_0
    replace A0 := Lib.hid (A0.out.trans (hm_W3.mono A0.out.size))
    have lt_W3_0_3 : w.heap.size + 1 + 1 + 1 < W3.heap.size := by omega
    have lt_W3_0_2 : w.heap.size + 1 + 1 < W3.heap.size := Nat.lt_of_succ_lt lt_W3_0_3
    have lt_W3_0_1 : w.heap.size + 1 < W3.heap.size := Nat.lt_of_succ_lt lt_W3_0_2
    have lt_W3_0_0 : w.heap.size < W3.heap.size := Nat.lt_of_succ_lt lt_W3_0_1
    obtain ⟨le_W3_0_0, le_W3_0_1, le_W3_0_2, le_W3_0_3, lu_W3_0_1, lu_W3_0_2, lu_W3_0_3⟩ := lts lt_W3_0_0
    have lt_W3_1_0 : w1.heap.size < W3.heap.size := by omega
    obtain ⟨le_W3_1_0, le_W3_1_1, le_W3_1_2, le_W3_1_3, lu_W3_1_1, lu_W3_1_2, lu_W3_1_3⟩ := lts lt_W3_1_0
    clear le_W2_0_0 le_W2_0_1 le_W2_0_2 le_W2_0_3 lu_W2_0_1 lu_W2_0_2 lu_W2_0_3 lt_W2_0_0 lt_W2_0_1 lt_W2_0_2 lt_W2_0_3
    clear le_W2_1_0 le_W2_1_1 le_W2_1_2 le_W2_1_3 lu_W2_1_1 lu_W2_1_2 lu_W2_1_3 lt_W2_1_0
    clear hm_W3
    clear hbc
    have lt_W3_0_3 : w.heap.size + 1 + 1 + 1 < W3.heap.size := by omega
    have lt_W3_0_2 : w.heap.size + 1 + 1 < W3.heap.size := Nat.lt_of_succ_lt lt_W3_0_3
    have lt_W3_0_1 : w.heap.size + 1 < W3.heap.size := Nat.lt_of_succ_lt lt_W3_0_2
    have lt_W3_0_0 : w.heap.size < W3.heap.size := Nat.lt_of_succ_lt lt_W3_0_1
    obtain ⟨le_W3_0_0, le_W3_0_1, le_W3_0_2, le_W3_0_3, lu_W3_0_1, lu_W3_0_2, lu_W3_0_3⟩ := lts lt_W3_0_0
    have lt_W3_1_0 : w1.heap.size < W3.heap.size := by omega
    obtain ⟨le_W3_1_0, le_W3_1_1, le_W3_1_2, le_W3_1_3, lu_W3_1_1, lu_W3_1_2, lu_W3_1_3⟩ := lts lt_W3_1_0
    have lt_W3_2_0 : W2.heap.size < W3.heap.size := by omega
    obtain ⟨le_W3_2_0, le_W3_2_1, le_W3_2_2, le_W3_2_3, lu_W3_2_1, lu_W3_2_2, lu_W3_2_3⟩ := lts lt_W3_2_0
    clear le_W3_0_0 le_W3_0_1 le_W3_0_2 le_W3_0_3 lu_W3_0_1 lu_W3_0_2 lu_W3_0_3 lt_W3_0_0 lt_W3_0_1 lt_W3_0_2 lt_W3_0_3
    clear le_W3_1_0 le_W3_1_1 le_W3_1_2 le_W3_1_3 lu_W3_1_1 lu_W3_1_2 lu_W3_1_3 lt_W3_1_0
    clear hgz CO
    go_wp2_with fail
    go_loopw [54] (fun i wr => ∃ k : Nat, k ≤ 4 ∧ i = .int .i64 k ∧ Below W3.heap.size W3 wr) (fun i _ => 4 - (intOf i).toNat)
    case atStart => exact ⟨0, by omega, rfl, Below.refl _ _⟩
    case round =>
      obtain ⟨k, hk, rfl, hbr⟩ := hrel
      obtain ⟨wo, rfl⟩ : ∃ wo : World, wo = wr := ⟨_, rfl⟩
      have K1 := Lib.hid hbr
      have hm_wo : Below W3.heap.size W3 wo := hbr
      have q_wo := hm_wo.size
      replace c_s_0 := below_cell hm_wo c_s_0 lt_W3_0_0
      replace c_s_1 := below_cell hm_wo c_s_1 lt_W3_0_0
      replace c_c_0 := below_cell hm_wo c_c_0 lt_W3_0_1
      replace c_c_1 := below_cell hm_wo c_c_1 lt_W3_0_1
      replace c_x_0 := below_cell hm_wo c_x_0 lt_W3_0_3
      replace c_x_1 := below_cell hm_wo c_x_1 lt_W3_0_3
      replace c_x_2 := below_cell hm_wo c_x_2 lt_W3_0_3
      replace c_o_0 := below_cell hm_wo c_o_0 lt_W3_1_0
      replace c_o_1 := below_cell hm_wo c_o_1 lt_W3_1_0
      replace c_g_0 := below_cell hm_wo c_g_0 lt_W3_2_0
      replace c_g_1 := below_cell hm_wo c_g_1 lt_W3_2_0
      replace A0 := Lib.hid (A0.out.trans (hm_wo.mono A0.out.size))
      have lt_wo_0_3 : w.heap.size + 1 + 1 + 1 < wo.heap.size := by omega
      have lt_wo_0_2 : w.heap.size + 1 + 1 < wo.heap.size := Nat.lt_of_succ_lt lt_wo_0_3
      have lt_wo_0_1 : w.heap.size + 1 < wo.heap.size := Nat.lt_of_succ_lt lt_wo_0_2
      have lt_wo_0_0 : w.heap.size < wo.heap.size := Nat.lt_of_succ_lt lt_wo_0_1
      obtain ⟨le_wo_0_0, le_wo_0_1, le_wo_0_2, le_wo_0_3, lu_wo_0_1, lu_wo_0_2, lu_wo_0_3⟩ := lts lt_wo_0_0
      have lt_wo_1_0 : w1.heap.size < wo.heap.size := by omega
      obtain ⟨le_wo_1_0, le_wo_1_1, le_wo_1_2, le_wo_1_3, lu_wo_1_1, lu_wo_1_2, lu_wo_1_3⟩ := lts lt_wo_1_0
      have lt_wo_2_0 : W2.heap.size < wo.heap.size := by omega
      obtain ⟨le_wo_2_0, le_wo_2_1, le_wo_2_2, le_wo_2_3, lu_wo_2_1, lu_wo_2_2, lu_wo_2_3⟩ := lts lt_wo_2_0
      clear le_W3_0_0 le_W3_0_1 le_W3_0_2 le_W3_0_3 lu_W3_0_1 lu_W3_0_2 lu_W3_0_3 lt_W3_0_0 lt_W3_0_1 lt_W3_0_2 lt_W3_0_3
      clear le_W3_1_0 le_W3_1_1 le_W3_1_2 le_W3_1_3 lu_W3_1_1 lu_W3_1_2 lu_W3_1_3 lt_W3_1_0
      clear le_W3_2_0 le_W3_2_1 le_W3_2_2 le_W3_2_3 lu_W3_2_1 lu_W3_2_2 lu_W3_2_3 lt_W3_2_0
      clear hm_wo
      clear hbr
      by_cases hlt : k < 4
      · have dk : decide ((k : Int) < 4) = true := decide_eq_true (by omega)
        obtain ⟨kr, kp, hix⟩ : ∃ kr kp : Int, ∀ W, (Instr.index 32 (.agg #[.int .i64 r, .int .i64 p, .int .i64 o1, .int .i64 o2, .int .i64 r, .int .i64 o2, .int .i64 o1, .int .i64 p]) (.int .i64 (k : Int))).run Try.prog W = .ok (.agg #[.int .i64 kr, .int .i64 kp]) W := by
          have h4 : k = 0 ∨ k = 1 ∨ k = 2 ∨ k = 3 := by omega
          rcases h4 with rfl | rfl | rfl | rfl
          · exact ⟨r, p, fun W => by kernel_rfl⟩
          · exact ⟨o1, o2, fun W => by kernel_rfl⟩
          · exact ⟨r, o2, fun W => by kernel_rfl⟩
          · exact ⟨o1, p, fun W => by kernel_rfl⟩
        obtain ⟨ce, N1, N2⟩ := Check_both kr kp
        have E1 := Lib.hid N1
        have E2 := Lib.hid N2
        clear N1 N2
        go_upto_region 6 with fail
        clear hix
        obtain ⟨W4, hW4⟩ : ∃ W4, (wo.alloc (.cells #[.int .i64 kr, .int .i64 kp] 23)) = W4 := ⟨_, rfl⟩
        have hm_W4 : Below wo.heap.size wo W4 := by rw [← hW4]; (repeat' (first | (with_reducible exact Below.refl _ _) | (with_reducible refine Below.alloc ?_ ?_ _) | (with_reducible refine Below.setCell ?_ ?_ _) | (with_reducible refine Below.drew ?_) | (with_reducible assumption) | omega | (simp; done) | (simp; omega)))
        have q_W4 : wo.heap.size + 1 ≤ W4.heap.size := by rw [← hW4]; simp
        replace c_s_0 := below_cell hm_W4 c_s_0 lt_wo_0_0
        replace c_s_1 := below_cell hm_W4 c_s_1 lt_wo_0_0
        replace c_c_0 := below_cell hm_W4 c_c_0 lt_wo_0_1
        replace c_c_1 := below_cell hm_W4 c_c_1 lt_wo_0_1
        replace c_x_0 := below_cell hm_W4 c_x_0 lt_wo_0_3
        replace c_x_1 := below_cell hm_W4 c_x_1 lt_wo_0_3
        replace c_x_2 := below_cell hm_W4 c_x_2 lt_wo_0_3
        replace c_o_0 := below_cell hm_W4 c_o_0 lt_wo_1_0
        replace c_o_1 := below_cell hm_W4 c_o_1 lt_wo_1_0
        replace c_g_0 := below_cell hm_W4 c_g_0 lt_wo_2_0
        replace c_g_1 := below_cell hm_W4 c_g_1 lt_wo_2_0
        replace A0 := Lib.hid (A0.out.trans (hm_W4.mono A0.out.size))
        replace K1 := Lib.hid (K1.out.trans (hm_W4.mono K1.out.size))
        have c_k_0 : W4.cell? ⟨wo.heap.size, 0, none⟩ = some (.int .i64 kr) := by rw [← hW4]; simp [go_sem]
        have c_k_1 : W4.cell? ⟨wo.heap.size, 1, none⟩ = some (.int .i64 kp) := by rw [← hW4]; simp [go_sem]
        rw [hW4]
        have lt_W4_0_3 : w.heap.size + 1 + 1 + 1 < W4.heap.size := by omega
        have lt_W4_0_2 : w.heap.size + 1 + 1 < W4.heap.size := Nat.lt_of_succ_lt lt_W4_0_3
        have lt_W4_0_1 : w.heap.size + 1 < W4.heap.size := Nat.lt_of_succ_lt lt_W4_0_2
        have lt_W4_0_0 : w.heap.size < W4.heap.size := Nat.lt_of_succ_lt lt_W4_0_1
        obtain ⟨le_W4_0_0, le_W4_0_1, le_W4_0_2, le_W4_0_3, lu_W4_0_1, lu_W4_0_2, lu_W4_0_3⟩ := lts lt_W4_0_0
        have lt_W4_1_0 : w1.heap.size < W4.heap.size := by omega
        obtain ⟨le_W4_1_0, le_W4_1_1, le_W4_1_2, le_W4_1_3, lu_W4_1_1, lu_W4_1_2, lu_W4_1_3⟩ := lts lt_W4_1_0
        have lt_W4_2_0 : W2.heap.size < W4.heap.size := by omega
        obtain ⟨le_W4_2_0, le_W4_2_1, le_W4_2_2, le_W4_2_3, lu_W4_2_1, lu_W4_2_2, lu_W4_2_3⟩ := lts lt_W4_2_0
        have lt_W4_3_0 : wo.heap.size < W4.heap.size := by omega
        obtain ⟨le_W4_3_0, le_W4_3_1, le_W4_3_2, le_W4_3_3, lu_W4_3_1, lu_W4_3_2, lu_W4_3_3⟩ := lts lt_W4_3_0
        clear le_wo_0_0 le_wo_0_1 le_wo_0_2 le_wo_0_3 lu_wo_0_1 lu_wo_0_2 lu_wo_0_3 lt_wo_0_0 lt_wo_0_1 lt_wo_0_2 lt_wo_0_3
        clear le_wo_1_0 le_wo_1_1 le_wo_1_2 le_wo_1_3 lu_wo_1_1 lu_wo_1_2 lu_wo_1_3 lt_wo_1_0
        clear le_wo_2_0 le_wo_2_1 le_wo_2_2 le_wo_2_3 lu_wo_2_1 lu_wo_2_2 lu_wo_2_3 lt_wo_2_0
        clear hW4 hm_W4
        clear c_s_0
        clear c_s_1
        clear c_o_0
        clear c_o_1
        go_wp2_with fail
        go_loopw [71] (fun i wr => ∃ q : Nat, q ≤ 5 ∧ i = .int .i64 q ∧ Below W4.heap.size W4 wr) (fun i _ => 5 - (intOf i).toNat)
        case atStart => exact ⟨0, by omega, rfl, Below.refl _ _⟩
        case round =>
          obtain ⟨q, hq, rfl, hbr⟩ := hrel
          obtain ⟨wq, rfl⟩ : ∃ wq : World, wq = wr := ⟨_, rfl⟩
          have K2 := Lib.hid hbr
          have hm_wq : Below W4.heap.size W4 wq := hbr
          have q_wq := hm_wq.size
          replace c_c_0 := below_cell hm_wq c_c_0 lt_W4_0_1
          replace c_c_1 := below_cell hm_wq c_c_1 lt_W4_0_1
          replace c_x_0 := below_cell hm_wq c_x_0 lt_W4_0_3
          replace c_x_1 := below_cell hm_wq c_x_1 lt_W4_0_3
          replace c_x_2 := below_cell hm_wq c_x_2 lt_W4_0_3
          replace c_g_0 := below_cell hm_wq c_g_0 lt_W4_2_0
          replace c_g_1 := below_cell hm_wq c_g_1 lt_W4_2_0
          replace c_k_0 := below_cell hm_wq c_k_0 lt_W4_3_0
          replace c_k_1 := below_cell hm_wq c_k_1 lt_W4_3_0
          replace A0 := Lib.hid (A0.out.trans (hm_wq.mono A0.out.size))
          replace K1 := Lib.hid (K1.out.trans (hm_wq.mono K1.out.size))
          have lt_wq_0_3 : w.heap.size + 1 + 1 + 1 < wq.heap.size := by omega
          have lt_wq_0_2 : w.heap.size + 1 + 1 < wq.heap.size := Nat.lt_of_succ_lt lt_wq_0_3
          have lt_wq_0_1 : w.heap.size + 1 < wq.heap.size := Nat.lt_of_succ_lt lt_wq_0_2
          have lt_wq_0_0 : w.heap.size < wq.heap.size := Nat.lt_of_succ_lt lt_wq_0_1
          obtain ⟨le_wq_0_0, le_wq_0_1, le_wq_0_2, le_wq_0_3, lu_wq_0_1, lu_wq_0_2, lu_wq_0_3⟩ := lts lt_wq_0_0
          have lt_wq_1_0 : W2.heap.size < wq.heap.size := by omega
          obtain ⟨le_wq_1_0, le_wq_1_1, le_wq_1_2, le_wq_1_3, lu_wq_1_1, lu_wq_1_2, lu_wq_1_3⟩ := lts lt_wq_1_0
          have lt_wq_2_0 : wo.heap.size < wq.heap.size := by omega
          obtain ⟨le_wq_2_0, le_wq_2_1, le_wq_2_2, le_wq_2_3, lu_wq_2_1, lu_wq_2_2, lu_wq_2_3⟩ := lts lt_wq_2_0
          clear le_W4_0_0 le_W4_0_1 le_W4_0_2 le_W4_0_3 lu_W4_0_1 lu_W4_0_2 lu_W4_0_3 lt_W4_0_0 lt_W4_0_1 lt_W4_0_2 lt_W4_0_3
          clear le_W4_1_0 le_W4_1_1 le_W4_1_2 le_W4_1_3 lu_W4_1_1 lu_W4_1_2 lu_W4_1_3 lt_W4_1_0
          clear le_W4_2_0 le_W4_2_1 le_W4_2_2 le_W4_2_3 lu_W4_2_1 lu_W4_2_2 lu_W4_2_3 lt_W4_2_0
          clear le_W4_3_0 le_W4_3_1 le_W4_3_2 le_W4_3_3 lu_W4_3_1 lu_W4_3_2 lu_W4_3_3 lt_W4_3_0
          clear hm_wq
          clear hbr
          by_cases hlt2 : q < 5
          · have dq : decide ((q : Int) < 5) = true := decide_eq_true (by omega)
            obtain ⟨sa, sl, hix⟩ : ∃ sa sl : Int, ∀ W, (Instr.index 33 (.agg #[.int .i64 a, .int .i64 l, .int .i64 p_, .int .i64 q_, .int .i64 a, .int .i64 q_, .int .i64 p_, .int .i64 l, .int .i64 0, .int .i64 0]) (.int .i64 (q : Int))).run Try.prog W = .ok (.agg #[.int .i64 sa, .int .i64 sl]) W := by
              have h4 : q = 0 ∨ q = 1 ∨ q = 2 ∨ q = 3 ∨ q = 4 := by omega
              rcases h4 with rfl | rfl | rfl | rfl | rfl
              · exact ⟨a, l, fun W => by kernel_rfl⟩
              · exact ⟨p_, q_, fun W => by kernel_rfl⟩
              · exact ⟨a, q_, fun W => by kernel_rfl⟩
              · exact ⟨p_, l, fun W => by kernel_rfl⟩
              · exact ⟨0, 0, fun W => by kernel_rfl⟩
            obtain ⟨de, N1, N2⟩ := State_both sa sl
            have E3 := Lib.hid N1
            have E4 := Lib.hid N2
            clear N1 N2
            go_upto_region 9 with fail
            clear hix
            clear c_c_0
            clear c_c_1
            clear c_g_0
            clear c_g_1
            obtain ⟨X, hX⟩ : ∃ X, (wq.alloc (.cells #[.int .i64 sa, .int .i64 sl] 25)) = X := ⟨_, rfl⟩
            have hm_X : Below wq.heap.size wq X := by rw [← hX]; (repeat' (first | (with_reducible exact Below.refl _ _) | (with_reducible refine Below.alloc ?_ ?_ _) | (with_reducible refine Below.setCell ?_ ?_ _) | (with_reducible refine Below.drew ?_) | (with_reducible assumption) | omega | (simp; done) | (simp; omega)))
            have q_X : wq.heap.size + 1 ≤ X.heap.size := by rw [← hX]; simp
            replace c_x_0 := below_cell hm_X c_x_0 lt_wq_0_3
            replace c_x_1 := below_cell hm_X c_x_1 lt_wq_0_3
            replace c_x_2 := below_cell hm_X c_x_2 lt_wq_0_3
            replace c_k_0 := below_cell hm_X c_k_0 lt_wq_2_0
            replace c_k_1 := below_cell hm_X c_k_1 lt_wq_2_0
            replace A0 := Lib.hid (A0.out.trans (hm_X.mono A0.out.size))
            replace K1 := Lib.hid (K1.out.trans (hm_X.mono K1.out.size))
            replace K2 := Lib.hid (K2.out.trans (hm_X.mono K2.out.size))
            have c_t_0 : X.cell? ⟨wq.heap.size, 0, none⟩ = some (.int .i64 sa) := by rw [← hX]; simp [go_sem]
            have c_t_1 : X.cell? ⟨wq.heap.size, 1, none⟩ = some (.int .i64 sl) := by rw [← hX]; simp [go_sem]
            rw [hX]
            have lt_X_0_3 : w.heap.size + 1 + 1 + 1 < X.heap.size := by omega
            have lt_X_0_2 : w.heap.size + 1 + 1 < X.heap.size := Nat.lt_of_succ_lt lt_X_0_3
            have lt_X_0_1 : w.heap.size + 1 < X.heap.size := Nat.lt_of_succ_lt lt_X_0_2
            have lt_X_0_0 : w.heap.size < X.heap.size := Nat.lt_of_succ_lt lt_X_0_1
            obtain ⟨le_X_0_0, le_X_0_1, le_X_0_2, le_X_0_3, lu_X_0_1, lu_X_0_2, lu_X_0_3⟩ := lts lt_X_0_0
            have lt_X_1_0 : wo.heap.size < X.heap.size := by omega
            obtain ⟨le_X_1_0, le_X_1_1, le_X_1_2, le_X_1_3, lu_X_1_1, lu_X_1_2, lu_X_1_3⟩ := lts lt_X_1_0
            have lt_X_2_0 : wq.heap.size < X.heap.size := by omega
            obtain ⟨le_X_2_0, le_X_2_1, le_X_2_2, le_X_2_3, lu_X_2_1, lu_X_2_2, lu_X_2_3⟩ := lts lt_X_2_0
            clear le_wq_0_0 le_wq_0_1 le_wq_0_2 le_wq_0_3 lu_wq_0_1 lu_wq_0_2 lu_wq_0_3 lt_wq_0_0 lt_wq_0_1 lt_wq_0_2 lt_wq_0_3
            clear le_wq_1_0 le_wq_1_1 le_wq_1_2 le_wq_1_3 lu_wq_1_1 lu_wq_1_2 lu_wq_1_3 lt_wq_1_0
            clear le_wq_2_0 le_wq_2_1 le_wq_2_2 le_wq_2_3 lu_wq_2_1 lu_wq_2_2 lu_wq_2_3 lt_wq_2_0
            clear hX hm_X
            have HSx : Hid (∀ w', Below X.heap.size X w' → (Below X.heap.size X w' ∧ w'.cell? ⟨wo.heap.size, 0, none⟩ = some (.int .i64 kr) ∧ w'.cell? ⟨wo.heap.size, 1, none⟩ = some (.int .i64 kp) ∧ w'.cell? ⟨wq.heap.size, 0, none⟩ = some (.int .i64 sa) ∧ w'.cell? ⟨wq.heap.size, 1, none⟩ = some (.int .i64 sl))) := Lib.hid (fun w' h => ⟨h, below_cell h c_k_0 lt_X_1_0, below_cell h c_k_1 lt_X_1_0, below_cell h c_t_0 lt_X_2_0, below_cell h c_t_1 lt_X_2_0⟩)
            go_cut [85] (fun s85 wx => s85 = .bool false ∧ Below X.heap.size X wx)
            case first =>
              go_region_held3 (fun w' => Below X.heap.size X w' ∧ w'.cell? ⟨wo.heap.size, 0, none⟩ = some (.int .i64 kr) ∧ w'.cell? ⟨wo.heap.size, 1, none⟩ = some (.int .i64 kp) ∧ w'.cell? ⟨wq.heap.size, 0, none⟩ = some (.int .i64 sa) ∧ w'.cell? ⟨wq.heap.size, 1, none⟩ = some (.int .i64 sl))
                ((refine HSx.out _ ?_; first | assumption | (repeat' (first | (with_reducible exact Below.refl _ _) | (with_reducible refine Below.alloc ?_ ?_ _) | (with_reducible refine Below.setCell ?_ ?_ _) | (with_reducible refine Below.drew ?_) | (with_reducible assumption) | omega | (simp; done) | (simp; omega)))))
                (first | (go_at_call_of 9 (Value.agg #[.int .i64 kr, .int .i64 kp]); go_split_ands; refine (E1.out _).mono ?_; rintro e wA ⟨rfl, hrwA⟩; have hbwA := carry2 (w := X) (by assumption) hrwA; try clear hrwA) | (go_at_call_of 10 (Value.agg #[.int .i64 kr, .int .i64 kp]); go_split_ands; refine (E2.out _).mono ?_; rintro e wB ⟨rfl, hrwB⟩; have hbwB := carry2 (w := X) (by assumption) hrwB; try clear hrwB) | (go_at_call_of 11 (Value.agg #[.int .i64 sa, .int .i64 sl]); go_split_ands; refine (E3.out _).mono ?_; rintro e wC ⟨rfl, hrwC⟩; have hbwC := carry2 (w := X) (by assumption) hrwC; try clear hrwC) | (go_at_call_of 12 (Value.agg #[.int .i64 sa, .int .i64 sl]); go_split_ands; refine (E4.out _).mono ?_; rintro e wD ⟨rfl, hrwD⟩; have hbwD := carry2 (w := X) (by assumption) hrwD; try clear hrwD))
              all_goals
                go_wp2_with fail
                go_meet
                first | exact ⟨rfl, by assumption⟩ | exact ⟨by simp [go_sem], by assumption⟩ | (trace_state; fail)
            case rest =>
              clear HSx
              obtain ⟨rfl, hbc⟩ := hcut
              obtain ⟨Y, rfl⟩ : ∃ Y : World, Y = wc := ⟨_, rfl⟩
              have hm_Y : Below X.heap.size X Y := hbc
              have q_Y := hm_Y.size
              replace c_x_0 := below_cell hm_Y c_x_0 lt_X_0_3
              replace c_x_1 := below_cell hm_Y c_x_1 lt_X_0_3
              replace c_x_2 := below_cell hm_Y c_x_2 lt_X_0_3
              replace c_k_0 := below_cell hm_Y c_k_0 lt_X_1_0
              replace c_k_1 := below_cell hm_Y c_k_1 lt_X_1_0
              replace c_t_0 := below_cell hm_Y c_t_0 lt_X_2_0
              replace c_t_1 := below_cell hm_Y c_t_1 lt_X_2_0
              replace A0 := Lib.hid (A0.out.trans (hm_Y.mono A0.out.size))
              replace K1 := Lib.hid (K1.out.trans (hm_Y.mono K1.out.size))
              replace K2 := Lib.hid (K2.out.trans (hm_Y.mono K2.out.size))
              have lt_Y_0_3 : w.heap.size + 1 + 1 + 1 < Y.heap.size := by omega
              have lt_Y_0_2 : w.heap.size + 1 + 1 < Y.heap.size := Nat.lt_of_succ_lt lt_Y_0_3
              have lt_Y_0_1 : w.heap.size + 1 < Y.heap.size := Nat.lt_of_succ_lt lt_Y_0_2
              have lt_Y_0_0 : w.heap.size < Y.heap.size := Nat.lt_of_succ_lt lt_Y_0_1
              obtain ⟨le_Y_0_0, le_Y_0_1, le_Y_0_2, le_Y_0_3, lu_Y_0_1, lu_Y_0_2, lu_Y_0_3⟩ := lts lt_Y_0_0
              have lt_Y_1_0 : wo.heap.size < Y.heap.size := by omega
              obtain ⟨le_Y_1_0, le_Y_1_1, le_Y_1_2, le_Y_1_3, lu_Y_1_1, lu_Y_1_2, lu_Y_1_3⟩ := lts lt_Y_1_0
              have lt_Y_2_0 : wq.heap.size < Y.heap.size := by omega
              obtain ⟨le_Y_2_0, le_Y_2_1, le_Y_2_2, le_Y_2_3, lu_Y_2_1, lu_Y_2_2, lu_Y_2_3⟩ := lts lt_Y_2_0
              clear le_X_0_0 le_X_0_1 le_X_0_2 le_X_0_3 lu_X_0_1 lu_X_0_2 lu_X_0_3 lt_X_0_0 lt_X_0_1 lt_X_0_2 lt_X_0_3
              clear le_X_1_0 le_X_1_1 le_X_1_2 le_X_1_3 lu_X_1_1 lu_X_1_2 lu_X_1_3 lt_X_1_0
              clear le_X_2_0 le_X_2_1 le_X_2_2 le_X_2_3 lu_X_2_1 lu_X_2_2 lu_X_2_3 lt_X_2_0
              clear hm_Y
              clear hbc
              clear E3 E4
              go_upto_region 11 with fail
              go_cut [15, 16, 17] (fun s15 s16 s17 wx => ∃ t1 t2 t3 : Int, s15 = .int .i64 t1 ∧ s16 = .int .i64 t2 ∧ s17 = .int .i64 t3 ∧ Below Y.heap.size Y wx)
              case first =>
                go_quiet (fail)
                all_goals
                  go_wp2_with fail
                  go_meet
                  exact ⟨_, _, _, rfl, rfl, rfl, belowN (Below.refl _ _) _⟩
              case rest =>
                obtain ⟨t1, t2, t3, rfl, rfl, rfl, hbc⟩ := hcut
                obtain ⟨Y2, rfl⟩ : ∃ Y2 : World, Y2 = wc := ⟨_, rfl⟩
                have hm_Y2 : Below Y.heap.size Y Y2 := hbc
                have q_Y2 := hm_Y2.size
                replace c_x_0 := below_cell hm_Y2 c_x_0 lt_Y_0_3
                replace c_x_1 := below_cell hm_Y2 c_x_1 lt_Y_0_3
                replace c_x_2 := below_cell hm_Y2 c_x_2 lt_Y_0_3
                replace c_k_0 := below_cell hm_Y2 c_k_0 lt_Y_1_0
                replace c_k_1 := below_cell hm_Y2 c_k_1 lt_Y_1_0
                replace c_t_0 := below_cell hm_Y2 c_t_0 lt_Y_2_0
                replace c_t_1 := below_cell hm_Y2 c_t_1 lt_Y_2_0
                replace A0 := Lib.hid (A0.out.trans (hm_Y2.mono A0.out.size))
                replace K1 := Lib.hid (K1.out.trans (hm_Y2.mono K1.out.size))
                replace K2 := Lib.hid (K2.out.trans (hm_Y2.mono K2.out.size))
                have lt_Y2_0_3 : w.heap.size + 1 + 1 + 1 < Y2.heap.size := by omega
                have lt_Y2_0_2 : w.heap.size + 1 + 1 < Y2.heap.size := Nat.lt_of_succ_lt lt_Y2_0_3
                have lt_Y2_0_1 : w.heap.size + 1 < Y2.heap.size := Nat.lt_of_succ_lt lt_Y2_0_2
                have lt_Y2_0_0 : w.heap.size < Y2.heap.size := Nat.lt_of_succ_lt lt_Y2_0_1
                obtain ⟨le_Y2_0_0, le_Y2_0_1, le_Y2_0_2, le_Y2_0_3, lu_Y2_0_1, lu_Y2_0_2, lu_Y2_0_3⟩ := lts lt_Y2_0_0
                have lt_Y2_1_0 : wo.heap.size < Y2.heap.size := by omega
                obtain ⟨le_Y2_1_0, le_Y2_1_1, le_Y2_1_2, le_Y2_1_3, lu_Y2_1_1, lu_Y2_1_2, lu_Y2_1_3⟩ := lts lt_Y2_1_0
                have lt_Y2_2_0 : wq.heap.size < Y2.heap.size := by omega
                obtain ⟨le_Y2_2_0, le_Y2_2_1, le_Y2_2_2, le_Y2_2_3, lu_Y2_2_1, lu_Y2_2_2, lu_Y2_2_3⟩ := lts lt_Y2_2_0
                clear le_Y_0_0 le_Y_0_1 le_Y_0_2 le_Y_0_3 lu_Y_0_1 lu_Y_0_2 lu_Y_0_3 lt_Y_0_0 lt_Y_0_1 lt_Y_0_2 lt_Y_0_3
                clear le_Y_1_0 le_Y_1_1 le_Y_1_2 le_Y_1_3 lu_Y_1_1 lu_Y_1_2 lu_Y_1_3 lt_Y_1_0
                clear le_Y_2_0 le_Y_2_1 le_Y_2_2 le_Y_2_3 lu_Y_2_1 lu_Y_2_2 lu_Y_2_3 lt_Y_2_0
                clear hm_Y2
                clear hbc
                go_wp2_with fail
                go_loopw [126] (fun i wr => ∃ j : Nat, j ≤ 6 ∧ i = .int .i64 j ∧ Below Y2.heap.size Y2 wr) (fun i _ => 6 - (intOf i).toNat)
                case atStart => exact ⟨0, by omega, rfl, Below.refl _ _⟩
                case round =>
                  obtain ⟨j, hj, rfl, hbr⟩ := hrel
                  obtain ⟨wj, rfl⟩ : ∃ wj : World, wj = wr := ⟨_, rfl⟩
                  have K3 := Lib.hid hbr
                  have hm_wj : Below Y2.heap.size Y2 wj := hbr
                  have q_wj := hm_wj.size
                  replace c_x_0 := below_cell hm_wj c_x_0 lt_Y2_0_3
                  replace c_x_1 := below_cell hm_wj c_x_1 lt_Y2_0_3
                  replace c_x_2 := below_cell hm_wj c_x_2 lt_Y2_0_3
                  replace c_k_0 := below_cell hm_wj c_k_0 lt_Y2_1_0
                  replace c_k_1 := below_cell hm_wj c_k_1 lt_Y2_1_0
                  replace c_t_0 := below_cell hm_wj c_t_0 lt_Y2_2_0
                  replace c_t_1 := below_cell hm_wj c_t_1 lt_Y2_2_0
                  replace A0 := Lib.hid (A0.out.trans (hm_wj.mono A0.out.size))
                  replace K1 := Lib.hid (K1.out.trans (hm_wj.mono K1.out.size))
                  replace K2 := Lib.hid (K2.out.trans (hm_wj.mono K2.out.size))
                  have lt_wj_0_3 : w.heap.size + 1 + 1 + 1 < wj.heap.size := by omega
                  have lt_wj_0_2 : w.heap.size + 1 + 1 < wj.heap.size := Nat.lt_of_succ_lt lt_wj_0_3
                  have lt_wj_0_1 : w.heap.size + 1 < wj.heap.size := Nat.lt_of_succ_lt lt_wj_0_2
                  have lt_wj_0_0 : w.heap.size < wj.heap.size := Nat.lt_of_succ_lt lt_wj_0_1
                  obtain ⟨le_wj_0_0, le_wj_0_1, le_wj_0_2, le_wj_0_3, lu_wj_0_1, lu_wj_0_2, lu_wj_0_3⟩ := lts lt_wj_0_0
                  have lt_wj_1_0 : wo.heap.size < wj.heap.size := by omega
                  obtain ⟨le_wj_1_0, le_wj_1_1, le_wj_1_2, le_wj_1_3, lu_wj_1_1, lu_wj_1_2, lu_wj_1_3⟩ := lts lt_wj_1_0
                  have lt_wj_2_0 : wq.heap.size < wj.heap.size := by omega
                  obtain ⟨le_wj_2_0, le_wj_2_1, le_wj_2_2, le_wj_2_3, lu_wj_2_1, lu_wj_2_2, lu_wj_2_3⟩ := lts lt_wj_2_0
                  clear le_Y2_0_0 le_Y2_0_1 le_Y2_0_2 le_Y2_0_3 lu_Y2_0_1 lu_Y2_0_2 lu_Y2_0_3 lt_Y2_0_0 lt_Y2_0_1 lt_Y2_0_2 lt_Y2_0_3
                  clear le_Y2_1_0 le_Y2_1_1 le_Y2_1_2 le_Y2_1_3 lu_Y2_1_1 lu_Y2_1_2 lu_Y2_1_3 lt_Y2_1_0
                  clear le_Y2_2_0 le_Y2_2_1 le_Y2_2_2 le_Y2_2_3 lu_Y2_2_1 lu_Y2_2_2 lu_Y2_2_3 lt_Y2_2_0
                  clear hm_wj
                  clear hbr
                  by_cases hlt3 : j < 6
                  · skip
                    obtain ⟨y0, y1, y2, hix⟩ : ∃ y0 y1 y2 : Int, ∀ W, (Instr.index 37 (.agg #[.int .i64 x0, .int .i64 x1, .int .i64 x2, .int .i64 t1, .int .i64 t2, .int .i64 t3, .int .i64 t1, .int .i64 0, .int .i64 t3, .int .i64 x0, .int .i64 t2, .int .i64 t3, .int .i64 t1, .int .i64 x1, .int .i64 t3, .int .i64 sa, .int .i64 0, .int .i64 x2]) (.int .i64 (j : Int))).run Try.prog W = .ok (.agg #[.int .i64 y0, .int .i64 y1, .int .i64 y2]) W := by
                      have h4 : j = 0 ∨ j = 1 ∨ j = 2 ∨ j = 3 ∨ j = 4 ∨ j = 5 := by omega
                      rcases h4 with rfl | rfl | rfl | rfl | rfl | rfl
                      · exact ⟨x0, x1, x2, fun W => by kernel_rfl⟩
                      · exact ⟨t1, t2, t3, fun W => by kernel_rfl⟩
                      · exact ⟨t1, 0, t3, fun W => by kernel_rfl⟩
                      · exact ⟨x0, t2, t3, fun W => by kernel_rfl⟩
                      · exact ⟨t1, x1, t3, fun W => by kernel_rfl⟩
                      · exact ⟨sa, 0, x2, fun W => by kernel_rfl⟩
                    obtain ⟨et, ea, el, ee, N1, N2⟩ := Step_both kr kp sa sl y0 y1 y2
                    have E5 := Lib.hid N1
                    have E6 := Lib.hid N2
                    clear N1 N2
                    go_wp2_with fail
                    refine (E5.out _).mono ?_
                    rintro e w9 ⟨rfl, hb_⟩
                    have s_w9 := hb_.size
                    try simp only [World.size_alloc] at s_w9
                    have hm_w9 : Below wj.heap.size wj w9 := Below.trans (b := (wj.alloc (.cells #[.int .i64 y0, .int .i64 y1, .int .i64 y2] 28))) (by (repeat' (first | (with_reducible exact Below.refl _ _) | (with_reducible refine Below.alloc ?_ ?_ _) | (with_reducible refine Below.setCell ?_ ?_ _) | (with_reducible refine Below.drew ?_) | (with_reducible assumption) | omega | (simp; done) | (simp; omega)))) (hb_.mono (by first | (simp; done) | (simp; omega)))
                    have q_w9 := hm_w9.size
                    replace c_x_0 := below_cell hm_w9 c_x_0 lt_wj_0_3
                    replace c_x_1 := below_cell hm_w9 c_x_1 lt_wj_0_3
                    replace c_x_2 := below_cell hm_w9 c_x_2 lt_wj_0_3
                    replace c_k_0 := below_cell hm_w9 c_k_0 lt_wj_1_0
                    replace c_k_1 := below_cell hm_w9 c_k_1 lt_wj_1_0
                    replace c_t_0 := below_cell hm_w9 c_t_0 lt_wj_2_0
                    replace c_t_1 := below_cell hm_w9 c_t_1 lt_wj_2_0
                    replace A0 := Lib.hid (A0.out.trans (hm_w9.mono A0.out.size))
                    replace K1 := Lib.hid (K1.out.trans (hm_w9.mono K1.out.size))
                    replace K2 := Lib.hid (K2.out.trans (hm_w9.mono K2.out.size))
                    replace K3 := Lib.hid (K3.out.trans (hm_w9.mono K3.out.size))
                    have c_y_0 : w9.cell? ⟨wj.heap.size, 0, none⟩ = some (.int .i64 y0) := by rw [(bcell hb_).1 _ _ (by first | (simp; done) | (simp; omega))]; simp [go_sem]
                    have c_y_1 : w9.cell? ⟨wj.heap.size, 1, none⟩ = some (.int .i64 y1) := by rw [(bcell hb_).1 _ _ (by first | (simp; done) | (simp; omega))]; simp [go_sem]
                    have c_y_2 : w9.cell? ⟨wj.heap.size, 2, none⟩ = some (.int .i64 y2) := by rw [(bcell hb_).1 _ _ (by first | (simp; done) | (simp; omega))]; simp [go_sem]
                    have lt_w9_0_3 : w.heap.size + 1 + 1 + 1 < w9.heap.size := by omega
                    have lt_w9_0_2 : w.heap.size + 1 + 1 < w9.heap.size := Nat.lt_of_succ_lt lt_w9_0_3
                    have lt_w9_0_1 : w.heap.size + 1 < w9.heap.size := Nat.lt_of_succ_lt lt_w9_0_2
                    have lt_w9_0_0 : w.heap.size < w9.heap.size := Nat.lt_of_succ_lt lt_w9_0_1
                    obtain ⟨le_w9_0_0, le_w9_0_1, le_w9_0_2, le_w9_0_3, lu_w9_0_1, lu_w9_0_2, lu_w9_0_3⟩ := lts lt_w9_0_0
                    have lt_w9_1_0 : wo.heap.size < w9.heap.size := by omega
                    obtain ⟨le_w9_1_0, le_w9_1_1, le_w9_1_2, le_w9_1_3, lu_w9_1_1, lu_w9_1_2, lu_w9_1_3⟩ := lts lt_w9_1_0
                    have lt_w9_2_0 : wq.heap.size < w9.heap.size := by omega
                    obtain ⟨le_w9_2_0, le_w9_2_1, le_w9_2_2, le_w9_2_3, lu_w9_2_1, lu_w9_2_2, lu_w9_2_3⟩ := lts lt_w9_2_0
                    have lt_w9_3_0 : wj.heap.size < w9.heap.size := by omega
                    obtain ⟨le_w9_3_0, le_w9_3_1, le_w9_3_2, le_w9_3_3, lu_w9_3_1, lu_w9_3_2, lu_w9_3_3⟩ := lts lt_w9_3_0
                    clear le_wj_0_0 le_wj_0_1 le_wj_0_2 le_wj_0_3 lu_wj_0_1 lu_wj_0_2 lu_wj_0_3 lt_wj_0_0 lt_wj_0_1 lt_wj_0_2 lt_wj_0_3
                    clear le_wj_1_0 le_wj_1_1 le_wj_1_2 le_wj_1_3 lu_wj_1_1 lu_wj_1_2 lu_wj_1_3 lt_wj_1_0
                    clear le_wj_2_0 le_wj_2_1 le_wj_2_2 le_wj_2_3 lu_wj_2_1 lu_wj_2_2 lu_wj_2_3 lt_wj_2_0
                    clear hm_w9
                    clear hb_
                    clear hix
                    go_wp2_with fail
                    refine (E6.out _).mono ?_
                    rintro e w10 ⟨rfl, hb_⟩
                    have s_w10 := hb_.size
                    try simp only [World.size_alloc] at s_w10
                    have hm_w10 : Below w9.heap.size w9 w10 := Below.trans (b := (w9.alloc (.cells #[.int .i64 ea, .int .i64 el] 25))) (by (repeat' (first | (with_reducible exact Below.refl _ _) | (with_reducible refine Below.alloc ?_ ?_ _) | (with_reducible refine Below.setCell ?_ ?_ _) | (with_reducible refine Below.drew ?_) | (with_reducible assumption) | omega | (simp; done) | (simp; omega)))) (hb_.mono (by first | (simp; done) | (simp; omega)))
                    have q_w10 := hm_w10.size
                    replace c_x_0 := below_cell hm_w10 c_x_0 lt_w9_0_3
                    replace c_x_1 := below_cell hm_w10 c_x_1 lt_w9_0_3
                    replace c_x_2 := below_cell hm_w10 c_x_2 lt_w9_0_3
                    replace c_k_0 := below_cell hm_w10 c_k_0 lt_w9_1_0
                    replace c_k_1 := below_cell hm_w10 c_k_1 lt_w9_1_0
                    replace c_t_0 := below_cell hm_w10 c_t_0 lt_w9_2_0
                    replace c_t_1 := below_cell hm_w10 c_t_1 lt_w9_2_0
                    replace c_y_0 := below_cell hm_w10 c_y_0 lt_w9_3_0
                    replace c_y_1 := below_cell hm_w10 c_y_1 lt_w9_3_0
                    replace c_y_2 := below_cell hm_w10 c_y_2 lt_w9_3_0
                    replace A0 := Lib.hid (A0.out.trans (hm_w10.mono A0.out.size))
                    replace K1 := Lib.hid (K1.out.trans (hm_w10.mono K1.out.size))
                    replace K2 := Lib.hid (K2.out.trans (hm_w10.mono K2.out.size))
                    replace K3 := Lib.hid (K3.out.trans (hm_w10.mono K3.out.size))
                    have c_e1_0 : w10.cell? ⟨w9.heap.size, 0, none⟩ = some (.int .i64 ea) := by rw [(bcell hb_).1 _ _ (by first | (simp; done) | (simp; omega))]; simp [go_sem]
                    have c_e1_1 : w10.cell? ⟨w9.heap.size, 1, none⟩ = some (.int .i64 el) := by rw [(bcell hb_).1 _ _ (by first | (simp; done) | (simp; omega))]; simp [go_sem]
                    have lt_w10_0_3 : w.heap.size + 1 + 1 + 1 < w10.heap.size := by omega
                    have lt_w10_0_2 : w.heap.size + 1 + 1 < w10.heap.size := Nat.lt_of_succ_lt lt_w10_0_3
                    have lt_w10_0_1 : w.heap.size + 1 < w10.heap.size := Nat.lt_of_succ_lt lt_w10_0_2
                    have lt_w10_0_0 : w.heap.size < w10.heap.size := Nat.lt_of_succ_lt lt_w10_0_1
                    obtain ⟨le_w10_0_0, le_w10_0_1, le_w10_0_2, le_w10_0_3, lu_w10_0_1, lu_w10_0_2, lu_w10_0_3⟩ := lts lt_w10_0_0
                    have lt_w10_1_0 : wo.heap.size < w10.heap.size := by omega
                    obtain ⟨le_w10_1_0, le_w10_1_1, le_w10_1_2, le_w10_1_3, lu_w10_1_1, lu_w10_1_2, lu_w10_1_3⟩ := lts lt_w10_1_0
                    have lt_w10_2_0 : wq.heap.size < w10.heap.size := by omega
                    obtain ⟨le_w10_2_0, le_w10_2_1, le_w10_2_2, le_w10_2_3, lu_w10_2_1, lu_w10_2_2, lu_w10_2_3⟩ := lts lt_w10_2_0
                    have lt_w10_3_0 : wj.heap.size < w10.heap.size := by omega
                    obtain ⟨le_w10_3_0, le_w10_3_1, le_w10_3_2, le_w10_3_3, lu_w10_3_1, lu_w10_3_2, lu_w10_3_3⟩ := lts lt_w10_3_0
                    have lt_w10_4_0 : w9.heap.size < w10.heap.size := by omega
                    obtain ⟨le_w10_4_0, le_w10_4_1, le_w10_4_2, le_w10_4_3, lu_w10_4_1, lu_w10_4_2, lu_w10_4_3⟩ := lts lt_w10_4_0
                    clear le_w9_0_0 le_w9_0_1 le_w9_0_2 le_w9_0_3 lu_w9_0_1 lu_w9_0_2 lu_w9_0_3 lt_w9_0_0 lt_w9_0_1 lt_w9_0_2 lt_w9_0_3
                    clear le_w9_1_0 le_w9_1_1 le_w9_1_2 le_w9_1_3 lu_w9_1_1 lu_w9_1_2 lu_w9_1_3 lt_w9_1_0
                    clear le_w9_2_0 le_w9_2_1 le_w9_2_2 le_w9_2_3 lu_w9_2_1 lu_w9_2_2 lu_w9_2_3 lt_w9_2_0
                    clear le_w9_3_0 le_w9_3_1 le_w9_3_2 le_w9_3_3 lu_w9_3_1 lu_w9_3_2 lu_w9_3_3 lt_w9_3_0
                    clear hm_w10
                    clear hb_
                    clear E5 E6
                    go_wp2_with fail
                    go_roundw
                    case rel => exact ⟨j + 1, by omega, by go_num, K3.out.alloc K3.out.size _⟩
                    case measure => simp [intOf]; omega
                  · go_wp2_with fail
                    go_roundw
                    case rel => exact ⟨q + 1, by omega, by go_num, K2.out⟩
                    case measure => simp [intOf]; omega
          · go_wp2_with fail
            go_roundw
            case rel => exact ⟨k + 1, by omega, by go_num, K1.out⟩
            case measure => simp [intOf]; omega
      · skip
        go_wp2_with fail
        refine (works_any _).mono ?_
        rintro e w11 ⟨rfl, hb_⟩
        have hm_w11 : Below wo.heap.size wo w11 := hb_
        have q_w11 := hm_w11.size
        replace c_s_0 := below_cell hm_w11 c_s_0 lt_wo_0_0
        replace c_s_1 := below_cell hm_w11 c_s_1 lt_wo_0_0
        replace c_c_0 := below_cell hm_w11 c_c_0 lt_wo_0_1
        replace c_c_1 := below_cell hm_w11 c_c_1 lt_wo_0_1
        replace c_x_0 := below_cell hm_w11 c_x_0 lt_wo_0_3
        replace c_x_1 := below_cell hm_w11 c_x_1 lt_wo_0_3
        replace c_x_2 := below_cell hm_w11 c_x_2 lt_wo_0_3
        replace c_o_0 := below_cell hm_w11 c_o_0 lt_wo_1_0
        replace c_o_1 := below_cell hm_w11 c_o_1 lt_wo_1_0
        replace c_g_0 := below_cell hm_w11 c_g_0 lt_wo_2_0
        replace c_g_1 := below_cell hm_w11 c_g_1 lt_wo_2_0
        replace A0 := Lib.hid (A0.out.trans (hm_w11.mono A0.out.size))
        replace K1 := Lib.hid (K1.out.trans (hm_w11.mono K1.out.size))
        have lt_w11_0_3 : w.heap.size + 1 + 1 + 1 < w11.heap.size := by omega
        have lt_w11_0_2 : w.heap.size + 1 + 1 < w11.heap.size := Nat.lt_of_succ_lt lt_w11_0_3
        have lt_w11_0_1 : w.heap.size + 1 < w11.heap.size := Nat.lt_of_succ_lt lt_w11_0_2
        have lt_w11_0_0 : w.heap.size < w11.heap.size := Nat.lt_of_succ_lt lt_w11_0_1
        obtain ⟨le_w11_0_0, le_w11_0_1, le_w11_0_2, le_w11_0_3, lu_w11_0_1, lu_w11_0_2, lu_w11_0_3⟩ := lts lt_w11_0_0
        have lt_w11_1_0 : w1.heap.size < w11.heap.size := by omega
        obtain ⟨le_w11_1_0, le_w11_1_1, le_w11_1_2, le_w11_1_3, lu_w11_1_1, lu_w11_1_2, lu_w11_1_3⟩ := lts lt_w11_1_0
        have lt_w11_2_0 : W2.heap.size < w11.heap.size := by omega
        obtain ⟨le_w11_2_0, le_w11_2_1, le_w11_2_2, le_w11_2_3, lu_w11_2_1, lu_w11_2_2, lu_w11_2_3⟩ := lts lt_w11_2_0
        clear le_wo_0_0 le_wo_0_1 le_wo_0_2 le_wo_0_3 lu_wo_0_1 lu_wo_0_2 lu_wo_0_3 lt_wo_0_0 lt_wo_0_1 lt_wo_0_2 lt_wo_0_3
        clear le_wo_1_0 le_wo_1_1 le_wo_1_2 le_wo_1_3 lu_wo_1_1 lu_wo_1_2 lu_wo_1_3 lt_wo_1_0
        clear le_wo_2_0 le_wo_2_1 le_wo_2_2 le_wo_2_3 lu_wo_2_1 lu_wo_2_2 lu_wo_2_3 lt_wo_2_0
        clear hm_w11
        clear hb_
        go_wp2_with fail
        go_ret
        exact ⟨rfl, A0.out⟩
end CrW
end Go.Proofs.Ytoglmfpmeajbeaa
