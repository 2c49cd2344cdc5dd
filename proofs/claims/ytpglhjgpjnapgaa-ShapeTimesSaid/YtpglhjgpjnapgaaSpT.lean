/- ShapeTimes: the walk of the law. -/
import Derived.Test.YtpglhjgpjnapgaaSpL
import Derived.Test.YtpglhjgpjnapgaaSpR
import Derived.Test.YtpglhjgpjnapgaaDrB
import Derived.Deep.DeepCutAuto
namespace Go.Proofs.Ytpglhjgpjnapgaa
set_option linter.unusedSimpArgs false
set_option linter.unusedVariables false
open Go.RowKit
namespace SpW
theorem u64_pos (n : Int) (h1 : 1 ≤ n) (h2 : n ≤ 9223372036854775807) : IntKind.u64.wrap n = n := by show n % 18446744073709551616 = n; omega
theorem New_both (b r : Int) : ∃ t e : Int,
    (∀ w, Calls Try.prog 9 #[.agg #[.int .i64 b, .int .i64 r]] w fun e' w' => e' = .returned (.tuple #[.agg #[.int .i64 0, .int .i64 t], .int .i64 e]) ∧ Below w.heap.size w w') ∧
    (∀ w, Calls Try.prog 10 #[.agg #[.int .i64 b, .int .i64 r]] w fun e' w' => e' = .returned (.tuple #[.agg #[.int .i64 0, .int .i64 t], .int .i64 e]) ∧ Below w.heap.size w w') := ⟨_, _, New_any b r, ref_New b r⟩
theorem Check_both (b r l v : Int) : ∃ e : Int,
    (∀ w, Calls Try.prog 11 #[.agg #[.int .i64 b, .int .i64 r], .agg #[.int .i64 l, .int .i64 v]] w fun e' w' => e' = .returned (.int .i64 e) ∧ Below w.heap.size w w') ∧
    (∀ w, Calls Try.prog 12 #[.agg #[.int .i64 b, .int .i64 r], .agg #[.int .i64 l, .int .i64 v]] w fun e' w' => e' = .returned (.int .i64 e) ∧ Below w.heap.size w w') := ⟨_, Check_any b r l v, ref_Check b r l v⟩
theorem Elig_both (b r l v a z : Int) : ∃ t n e : Int,
    (∀ w, Calls Try.prog 13 #[.agg #[.int .i64 b, .int .i64 r], .agg #[.int .i64 l, .int .i64 v], .int .i64 a, .int .i64 z] w fun e' w' => e' = .returned (.tuple #[.int .i64 t, .agg #[.int .i64 t, .int .i64 n], .int .i64 e]) ∧ Below w.heap.size w w') ∧
    (∀ w, Calls Try.prog 14 #[.agg #[.int .i64 b, .int .i64 r], .agg #[.int .i64 l, .int .i64 v], .int .i64 a, .int .i64 z] w fun e' w' => e' = .returned (.tuple #[.int .i64 t, .agg #[.int .i64 t, .int .i64 n], .int .i64 e]) ∧ Below w.heap.size w w') := ⟨_, _, _, Elig_any b r l v a z, ref_Elig_any b r l v a z⟩
set_option maxRecDepth 100000 in
set_option maxHeartbeats 8000000 in
theorem law_Times (b r : Int) (x y : Nat) (hx : x < 4294967296) (hy : y < 4294967296) (G : Option Addr) (lg cg : Nat) (S : Option Addr) (ls cs : Nat) (l v a z : Int) (w : World) :
    Calls Try.prog 3 #[.agg #[.int .i64 b, .int .i64 r], .agg #[.int .u32 x, .int .u32 y, .slice G lg cg, .slice S ls cs], .agg #[.int .i64 l, .int .i64 v], .agg #[.int .i64 a, .int .i64 z]] w fun e w' => e = .returned (.bool true) ∧ Below w.heap.size w w' := by
  have CB := Lib.hid (MtW.Bucket_any x y hx hy (.slice G lg cg) (.slice S ls cs))
  obtain ⟨ob, hob⟩ : ∃ ob : Int, 1 + (x : Int) % 1048576 = ob := ⟨_, rfl⟩
  obtain ⟨or_, hor⟩ : ∃ or_ : Int, 1 + (y : Int) % 2097152 = or_ := ⟨_, rfl⟩
  have ob0 : 1 ≤ ob ∧ ob ≤ 1048576 := by omega
  have or0 : 1 ≤ or_ ∧ or_ ≤ 2097152 := by omega
  rw [hob, hor] at CB
  clear hob hor
  have A0 : Hid (Below w.heap.size w w) := Lib.hid (Below.refl _ _)
  go_enter Try.func3, Try.ntmps3
  go_wp2_with fail
  refine (CB.out _).mono ?_
  rintro e w1 ⟨rfl, hb_⟩
  have s_w1 := hb_.size
  try simp only [World.size_alloc] at s_w1
  have hm_w1 : Below w.heap.size w w1 := Below.trans (b := ((((w.alloc (.cells #[.int .i64 b, .int .i64 r] 23)).alloc (.cells #[.int .u32 x, .int .u32 y, .slice G lg cg, .slice S ls cs] 27)).alloc (.cells #[.int .i64 l, .int .i64 v] 29)).alloc (.cells #[.int .i64 a, .int .i64 z] 31))) (by (repeat' (first | (with_reducible exact Below.refl _ _) | (with_reducible refine Below.alloc ?_ ?_ _) | (with_reducible refine Below.setCell ?_ ?_ _) | (with_reducible refine Below.drew ?_) | (with_reducible assumption) | omega | (simp; done) | (simp; omega)))) (hb_.mono (by first | (simp; done) | (simp; omega)))
  have q_w1 := hm_w1.size
  replace A0 := Lib.hid (A0.out.trans (hm_w1.mono A0.out.size))
  have c_b_0 : w1.cell? ⟨w.heap.size, 0, none⟩ = some (.int .i64 b) := by rw [(bcell hb_).1 _ _ (by first | (simp; done) | (simp; omega))]; simp [go_sem]
  have c_b_1 : w1.cell? ⟨w.heap.size, 1, none⟩ = some (.int .i64 r) := by rw [(bcell hb_).1 _ _ (by first | (simp; done) | (simp; omega))]; simp [go_sem]
  have c_s_0 : w1.cell? ⟨w.heap.size + 1 + 1, 0, none⟩ = some (.int .i64 l) := by rw [(bcell hb_).1 _ _ (by first | (simp; done) | (simp; omega))]; simp [go_sem]
  have c_s_1 : w1.cell? ⟨w.heap.size + 1 + 1, 1, none⟩ = some (.int .i64 v) := by rw [(bcell hb_).1 _ _ (by first | (simp; done) | (simp; omega))]; simp [go_sem]
  have c_x_0 : w1.cell? ⟨w.heap.size + 1 + 1 + 1, 0, none⟩ = some (.int .i64 a) := by rw [(bcell hb_).1 _ _ (by first | (simp; done) | (simp; omega))]; simp [go_sem]
  have c_x_1 : w1.cell? ⟨w.heap.size + 1 + 1 + 1, 1, none⟩ = some (.int .i64 z) := by rw [(bcell hb_).1 _ _ (by first | (simp; done) | (simp; omega))]; simp [go_sem]
  have lt_w1_0_3 : w.heap.size + 1 + 1 + 1 < w1.heap.size := by omega
  have lt_w1_0_2 : w.heap.size + 1 + 1 < w1.heap.size := Nat.lt_of_succ_lt lt_w1_0_3
  have lt_w1_0_1 : w.heap.size + 1 < w1.heap.size := Nat.lt_of_succ_lt lt_w1_0_2
  have lt_w1_0_0 : w.heap.size < w1.heap.size := Nat.lt_of_succ_lt lt_w1_0_1
  obtain ⟨le_w1_0_0, le_w1_0_1, le_w1_0_2, le_w1_0_3, lu_w1_0_1, lu_w1_0_2, lu_w1_0_3⟩ := lts lt_w1_0_0
  clear hm_w1
  clear hb_
  go_upto_region 2 with fail
  obtain ⟨W2, hW2⟩ : ∃ W2, (w1.alloc (.cells #[.int .i64 ob, .int .i64 or_] 23)) = W2 := ⟨_, rfl⟩
  have hm_W2 : Below w1.heap.size w1 W2 := by rw [← hW2]; (repeat' (first | (with_reducible exact Below.refl _ _) | (with_reducible refine Below.alloc ?_ ?_ _) | (with_reducible refine Below.setCell ?_ ?_ _) | (with_reducible refine Below.drew ?_) | (with_reducible assumption) | omega | (simp; done) | (simp; omega)))
  have q_W2 : w1.heap.size + 1 ≤ W2.heap.size := by rw [← hW2]; simp
  replace c_b_0 := below_cell hm_W2 c_b_0 lt_w1_0_0
  replace c_b_1 := below_cell hm_W2 c_b_1 lt_w1_0_0
  replace c_s_0 := below_cell hm_W2 c_s_0 lt_w1_0_2
  replace c_s_1 := below_cell hm_W2 c_s_1 lt_w1_0_2
  replace c_x_0 := below_cell hm_W2 c_x_0 lt_w1_0_3
  replace c_x_1 := below_cell hm_W2 c_x_1 lt_w1_0_3
  replace A0 := Lib.hid (A0.out.trans (hm_W2.mono A0.out.size))
  have c_o_0 : W2.cell? ⟨w1.heap.size, 0, none⟩ = some (.int .i64 ob) := by rw [← hW2]; simp [go_sem]
  have c_o_1 : W2.cell? ⟨w1.heap.size, 1, none⟩ = some (.int .i64 or_) := by rw [← hW2]; simp [go_sem]
  rw [hW2]
  have lt_W2_0_3 : w.heap.size + 1 + 1 + 1 < W2.heap.size := by omega
  have lt_W2_0_2 : w.heap.size + 1 + 1 < W2.heap.size := Nat.lt_of_succ_lt lt_W2_0_3
  have lt_W2_0_1 : w.heap.size + 1 < W2.heap.size := Nat.lt_of_succ_lt lt_W2_0_2
  have lt_W2_0_0 : w.heap.size < W2.heap.size := Nat.lt_of_succ_lt lt_W2_0_1
  obtain ⟨le_W2_0_0, le_W2_0_1, le_W2_0_2, le_W2_0_3, lu_W2_0_1, lu_W2_0_2, lu_W2_0_3⟩ := lts lt_W2_0_0
  have lt_W2_1_0 : w1.heap.size < W2.heap.size := by omega
  obtain ⟨le_W2_1_0, le_W2_1_1, le_W2_1_2, le_W2_1_3, lu_W2_1_1, lu_W2_1_2, lu_W2_1_3⟩ := lts lt_W2_1_0
  clear le_w1_0_0 le_w1_0_1 le_w1_0_2 le_w1_0_3 lu_w1_0_1 lu_w1_0_2 lu_w1_0_3 lt_w1_0_0 lt_w1_0_1 lt_w1_0_2 lt_w1_0_3
  clear hW2 hm_W2
  go_cut [10] (fun s10 wx => ∃ p q : Int, s10 = .pointer (some ⟨W2.heap.size, 0, none⟩) ∧ wx.cell? ⟨W2.heap.size, 0, none⟩ = some (.int .i64 p) ∧ wx.cell? ⟨W2.heap.size, 1, none⟩ = some (.int .i64 q) ∧ W2.heap.size < wx.heap.size ∧ Below W2.heap.size W2 wx)
  case first =>
    have q1 : IntKind.i64.wrap (ob * 1048576) = ob * 1048576 := IntWalk.i64_in _ (by omega)
    have q2 : IntKind.i64.wrap (ob * 1048576 + 1) = ob * 1048576 + 1 := IntWalk.i64_in _ (by omega)
    have u1 : IntKind.u64.wrap (ob * 1048576 + 1) = ob * 1048576 + 1 := u64_pos _ (by omega) (by omega)
    have z1 : ¬ ob * 1048576 + 1 = 0 := by omega
    go_region
    all_goals
      go_wp2_with fail
      go_meet
      exact ⟨_, _, rfl, (by simp [go_sem]; exact rfl), (by simp [go_sem]; exact rfl), by simp, by (repeat' (first | (with_reducible exact Below.refl _ _) | (with_reducible refine Below.alloc ?_ ?_ _) | (with_reducible refine Below.setCell ?_ ?_ _) | (with_reducible refine Below.drew ?_) | (with_reducible assumption) | omega | (simp; done) | (simp; omega)))⟩
  case rest =>
    obtain ⟨p, q, rfl, c_g_0, c_g_1, hgz, hbc⟩ := hcut
    obtain ⟨W3, rfl⟩ : ∃ W3 : World, W3 = wc := ⟨_, rfl⟩
    have hm_W3 : Below W2.heap.size W2 W3 := hbc
    have q_W3 := hm_W3.size
    replace c_b_0 := below_cell hm_W3 c_b_0 lt_W2_0_0
    replace c_b_1 := below_cell hm_W3 c_b_1 lt_W2_0_0
    replace c_s_0 := below_cell hm_W3 c_s_0 lt_W2_0_2
    replace c_s_1 := below_cell hm_W3 c_s_1 lt_W2_0_2
    replace c_x_0 := below_cell hm_W3 c_x_0 lt_W2_0_3
    replace c_x_1 := below_cell hm_W3 c_x_1 lt_W2_0_3
    replace c_o_0 := below_cell hm_W3 c_o_0 lt_W2_1_0
    replace c_o_1 := below_cell hm_W3 c_o_1 lt_W2_1_0
    replace A0 := Lib.hid (A0.out.trans (hm_W3.mono A0.out.size))
    have lt_W3_0_3 : w.heap.size + 1 + 1 + 1 < W3.heap.size := by omega
    have lt_W3_0_2 : w.heap.size + 1 + 1 < W3.heap.size := Nat.lt_of_succ_lt lt_W3_0_3
    have lt_W3_0_1 : w.heap.size + 1 < W3.heap.size := Nat.lt_of_succ_lt lt_W3_0_2
    have lt_W3_0_0 : w.heap.size < W3.heap.size := Nat.lt_of_succ_lt lt_W3_0_1
    obtain ⟨le_W3_0_0, le_W3_0_1, le_W3_0_2, le_W3_0_3, lu_W3_0_1, lu_W3_0_2, lu_W3_0_3⟩ := lts lt_W3_0_0
    have lt_W3_1_0 : w1.heap.size < W3.heap.size := by omega
    obtain ⟨le_W3_1_0, le_W3_1_1, le_W3_1_2, le_W3_1_3, lu_W3_1_1, lu_W3_1_2, lu_W3_1_3⟩ := lts lt_W3_1_0
    clear le_W2_0_0 le_W2_0_1 le_W2_0_2 le_W2_0_3 lu_W2_0_1 lu_W2_0_2 lu_W2_0_3 lt_W2_0_0 lt_W2_0_1 lt_W2_0_2 lt_W2_0_3
    clear le_W2_1_0 le_W2_1_1 le_W2_1_2 le_W2_1_3 lu_W2_1_1 lu_W2_1_2 lu_W2_1_3 lt_W2_1_0
    clear hm_W3
    clear hbc
    have lt_W3_0_3 : w.heap.size + 1 + 1 + 1 < W3.heap.size := by omega
    have lt_W3_0_2 : w.heap.size + 1 + 1 < W3.heap.size := Nat.lt_of_succ_lt lt_W3_0_3
    have lt_W3_0_1 : w.heap.size + 1 < W3.heap.size := Nat.lt_of_succ_lt lt_W3_0_2
    have lt_W3_0_0 : w.heap.size < W3.heap.size := Nat.lt_of_succ_lt lt_W3_0_1
    obtain ⟨le_W3_0_0, le_W3_0_1, le_W3_0_2, le_W3_0_3, lu_W3_0_1, lu_W3_0_2, lu_W3_0_3⟩ := lts lt_W3_0_0
    have lt_W3_1_0 : w1.heap.size < W3.heap.size := by omega
    obtain ⟨le_W3_1_0, le_W3_1_1, le_W3_1_2, le_W3_1_3, lu_W3_1_1, lu_W3_1_2, lu_W3_1_3⟩ := lts lt_W3_1_0
    have lt_W3_2_0 : W2.heap.size < W3.heap.size := by omega
    obtain ⟨le_W3_2_0, le_W3_2_1, le_W3_2_2, le_W3_2_3, lu_W3_2_1, lu_W3_2_2, lu_W3_2_3⟩ := lts lt_W3_2_0
    clear le_W3_0_0 le_W3_0_1 le_W3_0_2 le_W3_0_3 lu_W3_0_1 lu_W3_0_2 lu_W3_0_3 lt_W3_0_0 lt_W3_0_1 lt_W3_0_2 lt_W3_0_3
    clear le_W3_1_0 le_W3_1_1 le_W3_1_2 le_W3_1_3 lu_W3_1_1 lu_W3_1_2 lu_W3_1_3 lt_W3_1_0
    clear hgz
    clear CB
    have L1 : Hid (Below W3.heap.size W3 W3) := Lib.hid (Below.refl _ _)
    go_wp2_with fail
    go_loopw [51] (fun i wr => ∃ k : Nat, k ≤ 3 ∧ i = .int .i64 k ∧ Below W3.heap.size W3 wr) (fun i _ => 3 - (intOf i).toNat)
    case atStart => exact ⟨0, by omega, rfl, Below.refl _ _⟩
    case round =>
      obtain ⟨k, hk, rfl, hbr⟩ := hrel
      obtain ⟨wo, rfl⟩ : ∃ wo : World, wo = wr := ⟨_, rfl⟩
      have K1 := Lib.hid hbr
      have hm_wo : Below W3.heap.size W3 wo := hbr
      have q_wo := hm_wo.size
      replace c_b_0 := below_cell hm_wo c_b_0 lt_W3_0_0
      replace c_b_1 := below_cell hm_wo c_b_1 lt_W3_0_0
      replace c_s_0 := below_cell hm_wo c_s_0 lt_W3_0_2
      replace c_s_1 := below_cell hm_wo c_s_1 lt_W3_0_2
      replace c_x_0 := below_cell hm_wo c_x_0 lt_W3_0_3
      replace c_x_1 := below_cell hm_wo c_x_1 lt_W3_0_3
      replace c_o_0 := below_cell hm_wo c_o_0 lt_W3_1_0
      replace c_o_1 := below_cell hm_wo c_o_1 lt_W3_1_0
      replace c_g_0 := below_cell hm_wo c_g_0 lt_W3_2_0
      replace c_g_1 := below_cell hm_wo c_g_1 lt_W3_2_0
      replace A0 := Lib.hid (A0.out.trans (hm_wo.mono A0.out.size))
      replace L1 := Lib.hid (L1.out.trans (hm_wo.mono L1.out.size))
      have lt_wo_0_3 : w.heap.size + 1 + 1 + 1 < wo.heap.size := by omega
      have lt_wo_0_2 : w.heap.size + 1 + 1 < wo.heap.size := Nat.lt_of_succ_lt lt_wo_0_3
      have lt_wo_0_1 : w.heap.size + 1 < wo.heap.size := Nat.lt_of_succ_lt lt_wo_0_2
      have lt_wo_0_0 : w.heap.size < wo.heap.size := Nat.lt_of_succ_lt lt_wo_0_1
      obtain ⟨le_wo_0_0, le_wo_0_1, le_wo_0_2, le_wo_0_3, lu_wo_0_1, lu_wo_0_2, lu_wo_0_3⟩ := lts lt_wo_0_0
      have lt_wo_1_0 : w1.heap.size < wo.heap.size := by omega
      obtain ⟨le_wo_1_0, le_wo_1_1, le_wo_1_2, le_wo_1_3, lu_wo_1_1, lu_wo_1_2, lu_wo_1_3⟩ := lts lt_wo_1_0
      have lt_wo_2_0 : W2.heap.size < wo.heap.size := by omega
      obtain ⟨le_wo_2_0, le_wo_2_1, le_wo_2_2, le_wo_2_3, lu_wo_2_1, lu_wo_2_2, lu_wo_2_3⟩ := lts lt_wo_2_0
      clear le_W3_0_0 le_W3_0_1 le_W3_0_2 le_W3_0_3 lu_W3_0_1 lu_W3_0_2 lu_W3_0_3 lt_W3_0_0 lt_W3_0_1 lt_W3_0_2 lt_W3_0_3
      clear le_W3_1_0 le_W3_1_1 le_W3_1_2 le_W3_1_3 lu_W3_1_1 lu_W3_1_2 lu_W3_1_3 lt_W3_1_0
      clear le_W3_2_0 le_W3_2_1 le_W3_2_2 le_W3_2_3 lu_W3_2_1 lu_W3_2_2 lu_W3_2_3 lt_W3_2_0
      clear hm_wo
      clear hbr
      by_cases hlt : k < 3
      · skip
        obtain ⟨kb, kr, hix⟩ : ∃ kb kr : Int, ∀ W, (Instr.index 34 (.agg #[.int .i64 b, .int .i64 r, .int .i64 ob, .int .i64 or_, .int .i64 ob, .int .i64 131072]) (.int .i64 (k : Int))).run Try.prog W = .ok (.agg #[.int .i64 kb, .int .i64 kr]) W := by
          have h4 : k = 0 ∨ k = 1 ∨ k = 2 := by omega
          rcases h4 with rfl | rfl | rfl
          · exact ⟨b, r, fun W => by kernel_rfl⟩
          · exact ⟨ob, or_, fun W => by kernel_rfl⟩
          · exact ⟨ob, 131072, fun W => by kernel_rfl⟩
        obtain ⟨nt, ne, N1, N2⟩ := New_both kb kr
        have H1 := Lib.hid N1
        have H2 := Lib.hid N2
        clear N1 N2
        have CK := fun l v => Lib.hid (Check_both kb kr l v)
        go_wp2_with fail
        refine (H1.out _).mono ?_
        rintro e w5 ⟨rfl, hb_⟩
        have s_w5 := hb_.size
        try simp only [World.size_alloc] at s_w5
        have hm_w5 : Below wo.heap.size wo w5 := Below.trans (b := (wo.alloc (.cells #[.int .i64 kb, .int .i64 kr] 23))) (by (repeat' (first | (with_reducible exact Below.refl _ _) | (with_reducible refine Below.alloc ?_ ?_ _) | (with_reducible refine Below.setCell ?_ ?_ _) | (with_reducible refine Below.drew ?_) | (with_reducible assumption) | omega | (simp; done) | (simp; omega)))) (hb_.mono (by first | (simp; done) | (simp; omega)))
        have q_w5 := hm_w5.size
        replace c_b_0 := below_cell hm_w5 c_b_0 lt_wo_0_0
        replace c_b_1 := below_cell hm_w5 c_b_1 lt_wo_0_0
        replace c_s_0 := below_cell hm_w5 c_s_0 lt_wo_0_2
        replace c_s_1 := below_cell hm_w5 c_s_1 lt_wo_0_2
        replace c_x_0 := below_cell hm_w5 c_x_0 lt_wo_0_3
        replace c_x_1 := below_cell hm_w5 c_x_1 lt_wo_0_3
        replace c_o_0 := below_cell hm_w5 c_o_0 lt_wo_1_0
        replace c_o_1 := below_cell hm_w5 c_o_1 lt_wo_1_0
        replace c_g_0 := below_cell hm_w5 c_g_0 lt_wo_2_0
        replace c_g_1 := below_cell hm_w5 c_g_1 lt_wo_2_0
        replace A0 := Lib.hid (A0.out.trans (hm_w5.mono A0.out.size))
        replace L1 := Lib.hid (L1.out.trans (hm_w5.mono L1.out.size))
        replace K1 := Lib.hid (K1.out.trans (hm_w5.mono K1.out.size))
        have c_k_0 : w5.cell? ⟨wo.heap.size, 0, none⟩ = some (.int .i64 kb) := by rw [(bcell hb_).1 _ _ (by first | (simp; done) | (simp; omega))]; simp [go_sem]
        have c_k_1 : w5.cell? ⟨wo.heap.size, 1, none⟩ = some (.int .i64 kr) := by rw [(bcell hb_).1 _ _ (by first | (simp; done) | (simp; omega))]; simp [go_sem]
        have lt_w5_0_3 : w.heap.size + 1 + 1 + 1 < w5.heap.size := by omega
        have lt_w5_0_2 : w.heap.size + 1 + 1 < w5.heap.size := Nat.lt_of_succ_lt lt_w5_0_3
        have lt_w5_0_1 : w.heap.size + 1 < w5.heap.size := Nat.lt_of_succ_lt lt_w5_0_2
        have lt_w5_0_0 : w.heap.size < w5.heap.size := Nat.lt_of_succ_lt lt_w5_0_1
        obtain ⟨le_w5_0_0, le_w5_0_1, le_w5_0_2, le_w5_0_3, lu_w5_0_1, lu_w5_0_2, lu_w5_0_3⟩ := lts lt_w5_0_0
        have lt_w5_1_0 : w1.heap.size < w5.heap.size := by omega
        obtain ⟨le_w5_1_0, le_w5_1_1, le_w5_1_2, le_w5_1_3, lu_w5_1_1, lu_w5_1_2, lu_w5_1_3⟩ := lts lt_w5_1_0
        have lt_w5_2_0 : W2.heap.size < w5.heap.size := by omega
        obtain ⟨le_w5_2_0, le_w5_2_1, le_w5_2_2, le_w5_2_3, lu_w5_2_1, lu_w5_2_2, lu_w5_2_3⟩ := lts lt_w5_2_0
        have lt_w5_3_0 : wo.heap.size < w5.heap.size := by omega
        obtain ⟨le_w5_3_0, le_w5_3_1, le_w5_3_2, le_w5_3_3, lu_w5_3_1, lu_w5_3_2, lu_w5_3_3⟩ := lts lt_w5_3_0
        clear le_wo_0_0 le_wo_0_1 le_wo_0_2 le_wo_0_3 lu_wo_0_1 lu_wo_0_2 lu_wo_0_3 lt_wo_0_0 lt_wo_0_1 lt_wo_0_2 lt_wo_0_3
        clear le_wo_1_0 le_wo_1_1 le_wo_1_2 le_wo_1_3 lu_wo_1_1 lu_wo_1_2 lu_wo_1_3 lt_wo_1_0
        clear le_wo_2_0 le_wo_2_1 le_wo_2_2 le_wo_2_3 lu_wo_2_1 lu_wo_2_2 lu_wo_2_3 lt_wo_2_0
        clear hm_w5
        clear hb_
        go_wp2_with fail
        refine (H2.out _).mono ?_
        rintro e w6 ⟨rfl, hb_⟩
        have s_w6 := hb_.size
        try simp only [World.size_alloc] at s_w6
        have hm_w6 : Below w5.heap.size w5 w6 := Below.trans (b := (w5.alloc (.cells #[.int .i64 0, .int .i64 nt] 29))) (by (repeat' (first | (with_reducible exact Below.refl _ _) | (with_reducible refine Below.alloc ?_ ?_ _) | (with_reducible refine Below.setCell ?_ ?_ _) | (with_reducible refine Below.drew ?_) | (with_reducible assumption) | omega | (simp; done) | (simp; omega)))) (hb_.mono (by first | (simp; done) | (simp; omega)))
        have q_w6 := hm_w6.size
        replace c_b_0 := below_cell hm_w6 c_b_0 lt_w5_0_0
        replace c_b_1 := below_cell hm_w6 c_b_1 lt_w5_0_0
        replace c_s_0 := below_cell hm_w6 c_s_0 lt_w5_0_2
        replace c_s_1 := below_cell hm_w6 c_s_1 lt_w5_0_2
        replace c_x_0 := below_cell hm_w6 c_x_0 lt_w5_0_3
        replace c_x_1 := below_cell hm_w6 c_x_1 lt_w5_0_3
        replace c_o_0 := below_cell hm_w6 c_o_0 lt_w5_1_0
        replace c_o_1 := below_cell hm_w6 c_o_1 lt_w5_1_0
        replace c_g_0 := below_cell hm_w6 c_g_0 lt_w5_2_0
        replace c_g_1 := below_cell hm_w6 c_g_1 lt_w5_2_0
        replace c_k_0 := below_cell hm_w6 c_k_0 lt_w5_3_0
        replace c_k_1 := below_cell hm_w6 c_k_1 lt_w5_3_0
        replace A0 := Lib.hid (A0.out.trans (hm_w6.mono A0.out.size))
        replace L1 := Lib.hid (L1.out.trans (hm_w6.mono L1.out.size))
        replace K1 := Lib.hid (K1.out.trans (hm_w6.mono K1.out.size))
        have c_n1_0 : w6.cell? ⟨w5.heap.size, 0, none⟩ = some (.int .i64 0) := by rw [(bcell hb_).1 _ _ (by first | (simp; done) | (simp; omega))]; simp [go_sem]
        have c_n1_1 : w6.cell? ⟨w5.heap.size, 1, none⟩ = some (.int .i64 nt) := by rw [(bcell hb_).1 _ _ (by first | (simp; done) | (simp; omega))]; simp [go_sem]
        have lt_w6_0_3 : w.heap.size + 1 + 1 + 1 < w6.heap.size := by omega
        have lt_w6_0_2 : w.heap.size + 1 + 1 < w6.heap.size := Nat.lt_of_succ_lt lt_w6_0_3
        have lt_w6_0_1 : w.heap.size + 1 < w6.heap.size := Nat.lt_of_succ_lt lt_w6_0_2
        have lt_w6_0_0 : w.heap.size < w6.heap.size := Nat.lt_of_succ_lt lt_w6_0_1
        obtain ⟨le_w6_0_0, le_w6_0_1, le_w6_0_2, le_w6_0_3, lu_w6_0_1, lu_w6_0_2, lu_w6_0_3⟩ := lts lt_w6_0_0
        have lt_w6_1_0 : w1.heap.size < w6.heap.size := by omega
        obtain ⟨le_w6_1_0, le_w6_1_1, le_w6_1_2, le_w6_1_3, lu_w6_1_1, lu_w6_1_2, lu_w6_1_3⟩ := lts lt_w6_1_0
        have lt_w6_2_0 : W2.heap.size < w6.heap.size := by omega
        obtain ⟨le_w6_2_0, le_w6_2_1, le_w6_2_2, le_w6_2_3, lu_w6_2_1, lu_w6_2_2, lu_w6_2_3⟩ := lts lt_w6_2_0
        have lt_w6_3_0 : wo.heap.size < w6.heap.size := by omega
        obtain ⟨le_w6_3_0, le_w6_3_1, le_w6_3_2, le_w6_3_3, lu_w6_3_1, lu_w6_3_2, lu_w6_3_3⟩ := lts lt_w6_3_0
        have lt_w6_4_0 : w5.heap.size < w6.heap.size := by omega
        obtain ⟨le_w6_4_0, le_w6_4_1, le_w6_4_2, le_w6_4_3, lu_w6_4_1, lu_w6_4_2, lu_w6_4_3⟩ := lts lt_w6_4_0
        clear le_w5_0_0 le_w5_0_1 le_w5_0_2 le_w5_0_3 lu_w5_0_1 lu_w5_0_2 lu_w5_0_3 lt_w5_0_0 lt_w5_0_1 lt_w5_0_2 lt_w5_0_3
        clear le_w5_1_0 le_w5_1_1 le_w5_1_2 le_w5_1_3 lu_w5_1_1 lu_w5_1_2 lu_w5_1_3 lt_w5_1_0
        clear le_w5_2_0 le_w5_2_1 le_w5_2_2 le_w5_2_3 lu_w5_2_1 lu_w5_2_2 lu_w5_2_3 lt_w5_2_0
        clear le_w5_3_0 le_w5_3_1 le_w5_3_2 le_w5_3_3 lu_w5_3_1 lu_w5_3_2 lu_w5_3_3 lt_w5_3_0
        clear hm_w6
        clear hb_
        clear hix H1 H2
        go_upto_region 10 with fail
        obtain ⟨W6, hW6⟩ : ∃ W6, (w6.alloc (.cells #[.int .i64 0, .int .i64 nt] 29)) = W6 := ⟨_, rfl⟩
        have hm_W6 : Below w6.heap.size w6 W6 := by rw [← hW6]; (repeat' (first | (with_reducible exact Below.refl _ _) | (with_reducible refine Below.alloc ?_ ?_ _) | (with_reducible refine Below.setCell ?_ ?_ _) | (with_reducible refine Below.drew ?_) | (with_reducible assumption) | omega | (simp; done) | (simp; omega)))
        have q_W6 : w6.heap.size + 1 ≤ W6.heap.size := by rw [← hW6]; simp
        replace c_b_0 := below_cell hm_W6 c_b_0 lt_w6_0_0
        replace c_b_1 := below_cell hm_W6 c_b_1 lt_w6_0_0
        replace c_s_0 := below_cell hm_W6 c_s_0 lt_w6_0_2
        replace c_s_1 := below_cell hm_W6 c_s_1 lt_w6_0_2
        replace c_x_0 := below_cell hm_W6 c_x_0 lt_w6_0_3
        replace c_x_1 := below_cell hm_W6 c_x_1 lt_w6_0_3
        replace c_o_0 := below_cell hm_W6 c_o_0 lt_w6_1_0
        replace c_o_1 := below_cell hm_W6 c_o_1 lt_w6_1_0
        replace c_g_0 := below_cell hm_W6 c_g_0 lt_w6_2_0
        replace c_g_1 := below_cell hm_W6 c_g_1 lt_w6_2_0
        replace c_k_0 := below_cell hm_W6 c_k_0 lt_w6_3_0
        replace c_k_1 := below_cell hm_W6 c_k_1 lt_w6_3_0
        replace c_n1_0 := below_cell hm_W6 c_n1_0 lt_w6_4_0
        replace c_n1_1 := below_cell hm_W6 c_n1_1 lt_w6_4_0
        replace A0 := Lib.hid (A0.out.trans (hm_W6.mono A0.out.size))
        replace L1 := Lib.hid (L1.out.trans (hm_W6.mono L1.out.size))
        replace K1 := Lib.hid (K1.out.trans (hm_W6.mono K1.out.size))
        have c_n2_0 : W6.cell? ⟨w6.heap.size, 0, none⟩ = some (.int .i64 0) := by rw [← hW6]; simp [go_sem]
        have c_n2_1 : W6.cell? ⟨w6.heap.size, 1, none⟩ = some (.int .i64 nt) := by rw [← hW6]; simp [go_sem]
        rw [hW6]
        have lt_W6_0_3 : w.heap.size + 1 + 1 + 1 < W6.heap.size := by omega
        have lt_W6_0_2 : w.heap.size + 1 + 1 < W6.heap.size := Nat.lt_of_succ_lt lt_W6_0_3
        have lt_W6_0_1 : w.heap.size + 1 < W6.heap.size := Nat.lt_of_succ_lt lt_W6_0_2
        have lt_W6_0_0 : w.heap.size < W6.heap.size := Nat.lt_of_succ_lt lt_W6_0_1
        obtain ⟨le_W6_0_0, le_W6_0_1, le_W6_0_2, le_W6_0_3, lu_W6_0_1, lu_W6_0_2, lu_W6_0_3⟩ := lts lt_W6_0_0
        have lt_W6_1_0 : w1.heap.size < W6.heap.size := by omega
        obtain ⟨le_W6_1_0, le_W6_1_1, le_W6_1_2, le_W6_1_3, lu_W6_1_1, lu_W6_1_2, lu_W6_1_3⟩ := lts lt_W6_1_0
        have lt_W6_2_0 : W2.heap.size < W6.heap.size := by omega
        obtain ⟨le_W6_2_0, le_W6_2_1, le_W6_2_2, le_W6_2_3, lu_W6_2_1, lu_W6_2_2, lu_W6_2_3⟩ := lts lt_W6_2_0
        have lt_W6_3_0 : wo.heap.size < W6.heap.size := by omega
        obtain ⟨le_W6_3_0, le_W6_3_1, le_W6_3_2, le_W6_3_3, lu_W6_3_1, lu_W6_3_2, lu_W6_3_3⟩ := lts lt_W6_3_0
        have lt_W6_4_0 : w5.heap.size < W6.heap.size := by omega
        obtain ⟨le_W6_4_0, le_W6_4_1, le_W6_4_2, le_W6_4_3, lu_W6_4_1, lu_W6_4_2, lu_W6_4_3⟩ := lts lt_W6_4_0
        have lt_W6_5_0 : w6.heap.size < W6.heap.size := by omega
        obtain ⟨le_W6_5_0, le_W6_5_1, le_W6_5_2, le_W6_5_3, lu_W6_5_1, lu_W6_5_2, lu_W6_5_3⟩ := lts lt_W6_5_0
        clear le_w6_0_0 le_w6_0_1 le_w6_0_2 le_w6_0_3 lu_w6_0_1 lu_w6_0_2 lu_w6_0_3 lt_w6_0_0 lt_w6_0_1 lt_w6_0_2 lt_w6_0_3
        clear le_w6_1_0 le_w6_1_1 le_w6_1_2 le_w6_1_3 lu_w6_1_1 lu_w6_1_2 lu_w6_1_3 lt_w6_1_0
        clear le_w6_2_0 le_w6_2_1 le_w6_2_2 le_w6_2_3 lu_w6_2_1 lu_w6_2_2 lu_w6_2_3 lt_w6_2_0
        clear le_w6_3_0 le_w6_3_1 le_w6_3_2 le_w6_3_3 lu_w6_3_1 lu_w6_3_2 lu_w6_3_3 lt_w6_3_0
        clear le_w6_4_0 le_w6_4_1 le_w6_4_2 le_w6_4_3 lu_w6_4_1 lu_w6_4_2 lu_w6_4_3 lt_w6_4_0
        clear hW6 hm_W6
        go_cut [92, 93] (fun s i wx => W6 = wx ∧ i = .int .i64 0 ∧ ∃ z1 z2 z3 z4 z5 z6 z7 z8 z9 z10 z11 z12 : Int, s = .agg #[.int .i64 z1, .int .i64 z2, .int .i64 z3, .int .i64 z4, .int .i64 z5, .int .i64 z6, .int .i64 z7, .int .i64 z8, .int .i64 z9, .int .i64 z10, .int .i64 z11, .int .i64 z12])
        case first =>
          go_wp2_with fail
          go_meet
          exact ⟨rfl, rfl, _, _, _, _, _, _, _, _, _, _, _, _, rfl⟩
        case rest =>
          obtain ⟨rfl, rfl, z1, z2, z3, z4, z5, z6, z7, z8, z9, z10, z11, z12, rfl⟩ := hcut
          clear c_b_0
          clear c_b_1
          clear c_s_0
          clear c_s_1
          clear c_g_0
          clear c_g_1
          clear c_n1_0
          clear c_n1_1
          clear c_n2_0
          clear c_n2_1
          go_wp2_with fail
          go_loopw [93] (fun i wr => ∃ q : Nat, q ≤ 6 ∧ i = .int .i64 q ∧ Below W6.heap.size W6 wr) (fun i _ => 6 - (intOf i).toNat)
          case atStart => exact ⟨0, by omega, rfl, Below.refl _ _⟩
          case round =>
            obtain ⟨q_, hq, rfl, hbr⟩ := hrel
            obtain ⟨wq, rfl⟩ : ∃ wq : World, wq = wr := ⟨_, rfl⟩
            have K2 := Lib.hid hbr
            have hm_wq : Below W6.heap.size W6 wq := hbr
            have q_wq := hm_wq.size
            replace c_x_0 := below_cell hm_wq c_x_0 lt_W6_0_3
            replace c_x_1 := below_cell hm_wq c_x_1 lt_W6_0_3
            replace c_o_0 := below_cell hm_wq c_o_0 lt_W6_1_0
            replace c_o_1 := below_cell hm_wq c_o_1 lt_W6_1_0
            replace c_k_0 := below_cell hm_wq c_k_0 lt_W6_3_0
            replace c_k_1 := below_cell hm_wq c_k_1 lt_W6_3_0
            replace A0 := Lib.hid (A0.out.trans (hm_wq.mono A0.out.size))
            replace L1 := Lib.hid (L1.out.trans (hm_wq.mono L1.out.size))
            replace K1 := Lib.hid (K1.out.trans (hm_wq.mono K1.out.size))
            have lt_wq_0_3 : w.heap.size + 1 + 1 + 1 < wq.heap.size := by omega
            have lt_wq_0_2 : w.heap.size + 1 + 1 < wq.heap.size := Nat.lt_of_succ_lt lt_wq_0_3
            have lt_wq_0_1 : w.heap.size + 1 < wq.heap.size := Nat.lt_of_succ_lt lt_wq_0_2
            have lt_wq_0_0 : w.heap.size < wq.heap.size := Nat.lt_of_succ_lt lt_wq_0_1
            obtain ⟨le_wq_0_0, le_wq_0_1, le_wq_0_2, le_wq_0_3, lu_wq_0_1, lu_wq_0_2, lu_wq_0_3⟩ := lts lt_wq_0_0
            have lt_wq_1_0 : w1.heap.size < wq.heap.size := by omega
            obtain ⟨le_wq_1_0, le_wq_1_1, le_wq_1_2, le_wq_1_3, lu_wq_1_1, lu_wq_1_2, lu_wq_1_3⟩ := lts lt_wq_1_0
            have lt_wq_2_0 : wo.heap.size < wq.heap.size := by omega
            obtain ⟨le_wq_2_0, le_wq_2_1, le_wq_2_2, le_wq_2_3, lu_wq_2_1, lu_wq_2_2, lu_wq_2_3⟩ := lts lt_wq_2_0
            clear le_W6_0_0 le_W6_0_1 le_W6_0_2 le_W6_0_3 lu_W6_0_1 lu_W6_0_2 lu_W6_0_3 lt_W6_0_0 lt_W6_0_1 lt_W6_0_2 lt_W6_0_3
            clear le_W6_1_0 le_W6_1_1 le_W6_1_2 le_W6_1_3 lu_W6_1_1 lu_W6_1_2 lu_W6_1_3 lt_W6_1_0
            clear le_W6_2_0 le_W6_2_1 le_W6_2_2 le_W6_2_3 lu_W6_2_1 lu_W6_2_2 lu_W6_2_3 lt_W6_2_0
            clear le_W6_3_0 le_W6_3_1 le_W6_3_2 le_W6_3_3 lu_W6_3_1 lu_W6_3_2 lu_W6_3_3 lt_W6_3_0
            clear le_W6_4_0 le_W6_4_1 le_W6_4_2 le_W6_4_3 lu_W6_4_1 lu_W6_4_2 lu_W6_4_3 lt_W6_4_0
            clear le_W6_5_0 le_W6_5_1 le_W6_5_2 le_W6_5_3 lu_W6_5_1 lu_W6_5_2 lu_W6_5_3 lt_W6_5_0
            clear hm_wq
            clear hbr
            by_cases hlt2 : q_ < 6
            · skip
              obtain ⟨sl, sv, hix⟩ : ∃ sl sv : Int, ∀ W, (Instr.index 38 (.agg #[.int .i64 z1, .int .i64 z2, .int .i64 z3, .int .i64 z4, .int .i64 z5, .int .i64 z6, .int .i64 z7, .int .i64 z8, .int .i64 z9, .int .i64 z10, .int .i64 z11, .int .i64 z12]) (.int .i64 (q_ : Int))).run Try.prog W = .ok (.agg #[.int .i64 sl, .int .i64 sv]) W := by
                have h4 : q_ = 0 ∨ q_ = 1 ∨ q_ = 2 ∨ q_ = 3 ∨ q_ = 4 ∨ q_ = 5 := by omega
                rcases h4 with rfl | rfl | rfl | rfl | rfl | rfl
                · exact ⟨z1, z2, fun W => by kernel_rfl⟩
                · exact ⟨z3, z4, fun W => by kernel_rfl⟩
                · exact ⟨z5, z6, fun W => by kernel_rfl⟩
                · exact ⟨z7, z8, fun W => by kernel_rfl⟩
                · exact ⟨z9, z10, fun W => by kernel_rfl⟩
                · exact ⟨z11, z12, fun W => by kernel_rfl⟩
              obtain ⟨ce, N1, N2⟩ := Check_both kb kr sl sv
              have E1 := Lib.hid N1
              have E2 := Lib.hid N2
              clear N1 N2 CK
              go_upto_region 13 with fail
              clear hix
              obtain ⟨X, hX⟩ : ∃ X, (wq.alloc (.cells #[.int .i64 sl, .int .i64 sv] 29)) = X := ⟨_, rfl⟩
              have hm_X : Below wq.heap.size wq X := by rw [← hX]; (repeat' (first | (with_reducible exact Below.refl _ _) | (with_reducible refine Below.alloc ?_ ?_ _) | (with_reducible refine Below.setCell ?_ ?_ _) | (with_reducible refine Below.drew ?_) | (with_reducible assumption) | omega | (simp; done) | (simp; omega)))
              have q_X : wq.heap.size + 1 ≤ X.heap.size := by rw [← hX]; simp
              replace c_x_0 := below_cell hm_X c_x_0 lt_wq_0_3
              replace c_x_1 := below_cell hm_X c_x_1 lt_wq_0_3
              replace c_o_0 := below_cell hm_X c_o_0 lt_wq_1_0
              replace c_o_1 := below_cell hm_X c_o_1 lt_wq_1_0
              replace c_k_0 := below_cell hm_X c_k_0 lt_wq_2_0
              replace c_k_1 := below_cell hm_X c_k_1 lt_wq_2_0
              replace A0 := Lib.hid (A0.out.trans (hm_X.mono A0.out.size))
              replace L1 := Lib.hid (L1.out.trans (hm_X.mono L1.out.size))
              replace K1 := Lib.hid (K1.out.trans (hm_X.mono K1.out.size))
              replace K2 := Lib.hid (K2.out.trans (hm_X.mono K2.out.size))
              have c_t_0 : X.cell? ⟨wq.heap.size, 0, none⟩ = some (.int .i64 sl) := by rw [← hX]; simp [go_sem]
              have c_t_1 : X.cell? ⟨wq.heap.size, 1, none⟩ = some (.int .i64 sv) := by rw [← hX]; simp [go_sem]
              rw [hX]
              have lt_X_0_3 : w.heap.size + 1 + 1 + 1 < X.heap.size := by omega
              have lt_X_0_2 : w.heap.size + 1 + 1 < X.heap.size := Nat.lt_of_succ_lt lt_X_0_3
              have lt_X_0_1 : w.heap.size + 1 < X.heap.size := Nat.lt_of_succ_lt lt_X_0_2
              have lt_X_0_0 : w.heap.size < X.heap.size := Nat.lt_of_succ_lt lt_X_0_1
              obtain ⟨le_X_0_0, le_X_0_1, le_X_0_2, le_X_0_3, lu_X_0_1, lu_X_0_2, lu_X_0_3⟩ := lts lt_X_0_0
              have lt_X_1_0 : w1.heap.size < X.heap.size := by omega
              obtain ⟨le_X_1_0, le_X_1_1, le_X_1_2, le_X_1_3, lu_X_1_1, lu_X_1_2, lu_X_1_3⟩ := lts lt_X_1_0
              have lt_X_2_0 : wo.heap.size < X.heap.size := by omega
              obtain ⟨le_X_2_0, le_X_2_1, le_X_2_2, le_X_2_3, lu_X_2_1, lu_X_2_2, lu_X_2_3⟩ := lts lt_X_2_0
              have lt_X_3_0 : wq.heap.size < X.heap.size := by omega
              obtain ⟨le_X_3_0, le_X_3_1, le_X_3_2, le_X_3_3, lu_X_3_1, lu_X_3_2, lu_X_3_3⟩ := lts lt_X_3_0
              clear le_wq_0_0 le_wq_0_1 le_wq_0_2 le_wq_0_3 lu_wq_0_1 lu_wq_0_2 lu_wq_0_3 lt_wq_0_0 lt_wq_0_1 lt_wq_0_2 lt_wq_0_3
              clear le_wq_1_0 le_wq_1_1 le_wq_1_2 le_wq_1_3 lu_wq_1_1 lu_wq_1_2 lu_wq_1_3 lt_wq_1_0
              clear le_wq_2_0 le_wq_2_1 le_wq_2_2 le_wq_2_3 lu_wq_2_1 lu_wq_2_2 lu_wq_2_3 lt_wq_2_0
              clear hX hm_X
              have HSx : Hid (∀ w', Below X.heap.size X w' → (Below X.heap.size X w' ∧ w'.cell? ⟨wo.heap.size, 0, none⟩ = some (.int .i64 kb) ∧ w'.cell? ⟨wo.heap.size, 1, none⟩ = some (.int .i64 kr) ∧ w'.cell? ⟨wq.heap.size, 0, none⟩ = some (.int .i64 sl) ∧ w'.cell? ⟨wq.heap.size, 1, none⟩ = some (.int .i64 sv))) := Lib.hid (fun w' h => ⟨h, below_cell h c_k_0 lt_X_2_0, below_cell h c_k_1 lt_X_2_0, below_cell h c_t_0 lt_X_3_0, below_cell h c_t_1 lt_X_3_0⟩)
              go_cut [102] (fun s102 wx => s102 = .bool false ∧ Below X.heap.size X wx)
              case first =>
                go_region_held3 (fun w' => Below X.heap.size X w' ∧ w'.cell? ⟨wo.heap.size, 0, none⟩ = some (.int .i64 kb) ∧ w'.cell? ⟨wo.heap.size, 1, none⟩ = some (.int .i64 kr) ∧ w'.cell? ⟨wq.heap.size, 0, none⟩ = some (.int .i64 sl) ∧ w'.cell? ⟨wq.heap.size, 1, none⟩ = some (.int .i64 sv))
                  ((refine HSx.out _ ?_; first | assumption | (repeat' (first | (with_reducible exact Below.refl _ _) | (with_reducible refine Below.alloc ?_ ?_ _) | (with_reducible refine Below.setCell ?_ ?_ _) | (with_reducible refine Below.drew ?_) | (with_reducible assumption) | omega | (simp; done) | (simp; omega)))))
                  (first | (go_at_call_of 11 (Value.agg #[.int .i64 kb, .int .i64 kr]); go_split_ands; refine (E1.out _).mono ?_; rintro e w7 ⟨rfl, hrA⟩; have hbA := carry2 (w := X) (by assumption) hrA) | (go_at_call_of 12 (Value.agg #[.int .i64 kb, .int .i64 kr]); go_split_ands; refine (E2.out _).mono ?_; rintro e w8 ⟨rfl, hrB⟩; have hbB := carry2 (w := X) (by assumption) hrB))
                all_goals
                  go_wp2_with fail
                  go_meet
                  exact ⟨rfl, by first | exact hbB | exact hbA⟩
              case rest =>
                clear HSx
                obtain ⟨rfl, hbc⟩ := hcut
                obtain ⟨Y, rfl⟩ : ∃ Y : World, Y = wc := ⟨_, rfl⟩
                have hm_Y : Below X.heap.size X Y := hbc
                have q_Y := hm_Y.size
                replace c_x_0 := below_cell hm_Y c_x_0 lt_X_0_3
                replace c_x_1 := below_cell hm_Y c_x_1 lt_X_0_3
                replace c_o_0 := below_cell hm_Y c_o_0 lt_X_1_0
                replace c_o_1 := below_cell hm_Y c_o_1 lt_X_1_0
                replace c_k_0 := below_cell hm_Y c_k_0 lt_X_2_0
                replace c_k_1 := below_cell hm_Y c_k_1 lt_X_2_0
                replace c_t_0 := below_cell hm_Y c_t_0 lt_X_3_0
                replace c_t_1 := below_cell hm_Y c_t_1 lt_X_3_0
                replace A0 := Lib.hid (A0.out.trans (hm_Y.mono A0.out.size))
                replace L1 := Lib.hid (L1.out.trans (hm_Y.mono L1.out.size))
                replace K1 := Lib.hid (K1.out.trans (hm_Y.mono K1.out.size))
                replace K2 := Lib.hid (K2.out.trans (hm_Y.mono K2.out.size))
                have lt_Y_0_3 : w.heap.size + 1 + 1 + 1 < Y.heap.size := by omega
                have lt_Y_0_2 : w.heap.size + 1 + 1 < Y.heap.size := Nat.lt_of_succ_lt lt_Y_0_3
                have lt_Y_0_1 : w.heap.size + 1 < Y.heap.size := Nat.lt_of_succ_lt lt_Y_0_2
                have lt_Y_0_0 : w.heap.size < Y.heap.size := Nat.lt_of_succ_lt lt_Y_0_1
                obtain ⟨le_Y_0_0, le_Y_0_1, le_Y_0_2, le_Y_0_3, lu_Y_0_1, lu_Y_0_2, lu_Y_0_3⟩ := lts lt_Y_0_0
                have lt_Y_1_0 : w1.heap.size < Y.heap.size := by omega
                obtain ⟨le_Y_1_0, le_Y_1_1, le_Y_1_2, le_Y_1_3, lu_Y_1_1, lu_Y_1_2, lu_Y_1_3⟩ := lts lt_Y_1_0
                have lt_Y_2_0 : wo.heap.size < Y.heap.size := by omega
                obtain ⟨le_Y_2_0, le_Y_2_1, le_Y_2_2, le_Y_2_3, lu_Y_2_1, lu_Y_2_2, lu_Y_2_3⟩ := lts lt_Y_2_0
                have lt_Y_3_0 : wq.heap.size < Y.heap.size := by omega
                obtain ⟨le_Y_3_0, le_Y_3_1, le_Y_3_2, le_Y_3_3, lu_Y_3_1, lu_Y_3_2, lu_Y_3_3⟩ := lts lt_Y_3_0
                clear le_X_0_0 le_X_0_1 le_X_0_2 le_X_0_3 lu_X_0_1 lu_X_0_2 lu_X_0_3 lt_X_0_0 lt_X_0_1 lt_X_0_2 lt_X_0_3
                clear le_X_1_0 le_X_1_1 le_X_1_2 le_X_1_3 lu_X_1_1 lu_X_1_2 lu_X_1_3 lt_X_1_0
                clear le_X_2_0 le_X_2_1 le_X_2_2 le_X_2_3 lu_X_2_1 lu_X_2_2 lu_X_2_3 lt_X_2_0
                clear le_X_3_0 le_X_3_1 le_X_3_2 le_X_3_3 lu_X_3_1 lu_X_3_2 lu_X_3_3 lt_X_3_0
                clear hm_Y
                clear hbc
                clear E1 E2
                go_upto_region 15 with fail
                go_cut [129, 130] (fun s i wx => i = .int .i64 0 ∧ Below Y.heap.size Y wx ∧ ∃ y1 y2 y3 y4 y5 y6 y7 y8 : Int, s = .agg #[.int .i64 y1, .int .i64 y2, .int .i64 y3, .int .i64 y4, .int .i64 y5, .int .i64 y6, .int .i64 y7, .int .i64 y8])
                case first =>
                  have u1 : IntKind.u64.wrap ob = ob := u64_pos _ (by omega) (by omega)
                  have z1 : ¬ ob = 0 := by omega
                  go_quiet (fail)
                  all_goals
                    go_wp2_with fail
                    go_meet
                    exact ⟨rfl, belowN (Below.refl _ _) _, _, _, _, _, _, _, _, _, rfl⟩
                case rest =>
                  obtain ⟨rfl, hbc, y1, y2, y3, y4, y5, y6, y7, y8, rfl⟩ := hcut
                  obtain ⟨Y2, rfl⟩ : ∃ Y2 : World, Y2 = wc := ⟨_, rfl⟩
                  have hm_Y2 : Below Y.heap.size Y Y2 := hbc
                  have q_Y2 := hm_Y2.size
                  replace c_x_0 := below_cell hm_Y2 c_x_0 lt_Y_0_3
                  replace c_x_1 := below_cell hm_Y2 c_x_1 lt_Y_0_3
                  replace c_o_0 := below_cell hm_Y2 c_o_0 lt_Y_1_0
                  replace c_o_1 := below_cell hm_Y2 c_o_1 lt_Y_1_0
                  replace c_k_0 := below_cell hm_Y2 c_k_0 lt_Y_2_0
                  replace c_k_1 := below_cell hm_Y2 c_k_1 lt_Y_2_0
                  replace c_t_0 := below_cell hm_Y2 c_t_0 lt_Y_3_0
                  replace c_t_1 := below_cell hm_Y2 c_t_1 lt_Y_3_0
                  replace A0 := Lib.hid (A0.out.trans (hm_Y2.mono A0.out.size))
                  replace L1 := Lib.hid (L1.out.trans (hm_Y2.mono L1.out.size))
                  replace K1 := Lib.hid (K1.out.trans (hm_Y2.mono K1.out.size))
                  replace K2 := Lib.hid (K2.out.trans (hm_Y2.mono K2.out.size))
                  have lt_Y2_0_3 : w.heap.size + 1 + 1 + 1 < Y2.heap.size := by omega
                  have lt_Y2_0_2 : w.heap.size + 1 + 1 < Y2.heap.size := Nat.lt_of_succ_lt lt_Y2_0_3
                  have lt_Y2_0_1 : w.heap.size + 1 < Y2.heap.size := Nat.lt_of_succ_lt lt_Y2_0_2
                  have lt_Y2_0_0 : w.heap.size < Y2.heap.size := Nat.lt_of_succ_lt lt_Y2_0_1
                  obtain ⟨le_Y2_0_0, le_Y2_0_1, le_Y2_0_2, le_Y2_0_3, lu_Y2_0_1, lu_Y2_0_2, lu_Y2_0_3⟩ := lts lt_Y2_0_0
                  have lt_Y2_1_0 : w1.heap.size < Y2.heap.size := by omega
                  obtain ⟨le_Y2_1_0, le_Y2_1_1, le_Y2_1_2, le_Y2_1_3, lu_Y2_1_1, lu_Y2_1_2, lu_Y2_1_3⟩ := lts lt_Y2_1_0
                  have lt_Y2_2_0 : wo.heap.size < Y2.heap.size := by omega
                  obtain ⟨le_Y2_2_0, le_Y2_2_1, le_Y2_2_2, le_Y2_2_3, lu_Y2_2_1, lu_Y2_2_2, lu_Y2_2_3⟩ := lts lt_Y2_2_0
                  have lt_Y2_3_0 : wq.heap.size < Y2.heap.size := by omega
                  obtain ⟨le_Y2_3_0, le_Y2_3_1, le_Y2_3_2, le_Y2_3_3, lu_Y2_3_1, lu_Y2_3_2, lu_Y2_3_3⟩ := lts lt_Y2_3_0
                  clear le_Y_0_0 le_Y_0_1 le_Y_0_2 le_Y_0_3 lu_Y_0_1 lu_Y_0_2 lu_Y_0_3 lt_Y_0_0 lt_Y_0_1 lt_Y_0_2 lt_Y_0_3
                  clear le_Y_1_0 le_Y_1_1 le_Y_1_2 le_Y_1_3 lu_Y_1_1 lu_Y_1_2 lu_Y_1_3 lt_Y_1_0
                  clear le_Y_2_0 le_Y_2_1 le_Y_2_2 le_Y_2_3 lu_Y_2_1 lu_Y_2_2 lu_Y_2_3 lt_Y_2_0
                  clear le_Y_3_0 le_Y_3_1 le_Y_3_2 le_Y_3_3 lu_Y_3_1 lu_Y_3_2 lu_Y_3_3 lt_Y_3_0
                  clear hm_Y2
                  clear hbc
                  go_wp2_with fail
                  go_loopw [130] (fun i wr => ∃ j : Nat, j ≤ 4 ∧ i = .int .i64 j ∧ Below Y2.heap.size Y2 wr) (fun i _ => 4 - (intOf i).toNat)
                  case atStart => exact ⟨0, by omega, rfl, Below.refl _ _⟩
                  case round =>
                    obtain ⟨j, hj, rfl, hbr⟩ := hrel
                    obtain ⟨wj, rfl⟩ : ∃ wj : World, wj = wr := ⟨_, rfl⟩
                    have K3 := Lib.hid hbr
                    have hm_wj : Below Y2.heap.size Y2 wj := hbr
                    have q_wj := hm_wj.size
                    replace c_x_0 := below_cell hm_wj c_x_0 lt_Y2_0_3
                    replace c_x_1 := below_cell hm_wj c_x_1 lt_Y2_0_3
                    replace c_o_0 := below_cell hm_wj c_o_0 lt_Y2_1_0
                    replace c_o_1 := below_cell hm_wj c_o_1 lt_Y2_1_0
                    replace c_k_0 := below_cell hm_wj c_k_0 lt_Y2_2_0
                    replace c_k_1 := below_cell hm_wj c_k_1 lt_Y2_2_0
                    replace c_t_0 := below_cell hm_wj c_t_0 lt_Y2_3_0
                    replace c_t_1 := below_cell hm_wj c_t_1 lt_Y2_3_0
                    replace A0 := Lib.hid (A0.out.trans (hm_wj.mono A0.out.size))
                    replace L1 := Lib.hid (L1.out.trans (hm_wj.mono L1.out.size))
                    replace K1 := Lib.hid (K1.out.trans (hm_wj.mono K1.out.size))
                    replace K2 := Lib.hid (K2.out.trans (hm_wj.mono K2.out.size))
                    have lt_wj_0_3 : w.heap.size + 1 + 1 + 1 < wj.heap.size := by omega
                    have lt_wj_0_2 : w.heap.size + 1 + 1 < wj.heap.size := Nat.lt_of_succ_lt lt_wj_0_3
                    have lt_wj_0_1 : w.heap.size + 1 < wj.heap.size := Nat.lt_of_succ_lt lt_wj_0_2
                    have lt_wj_0_0 : w.heap.size < wj.heap.size := Nat.lt_of_succ_lt lt_wj_0_1
                    obtain ⟨le_wj_0_0, le_wj_0_1, le_wj_0_2, le_wj_0_3, lu_wj_0_1, lu_wj_0_2, lu_wj_0_3⟩ := lts lt_wj_0_0
                    have lt_wj_1_0 : w1.heap.size < wj.heap.size := by omega
                    obtain ⟨le_wj_1_0, le_wj_1_1, le_wj_1_2, le_wj_1_3, lu_wj_1_1, lu_wj_1_2, lu_wj_1_3⟩ := lts lt_wj_1_0
                    have lt_wj_2_0 : wo.heap.size < wj.heap.size := by omega
                    obtain ⟨le_wj_2_0, le_wj_2_1, le_wj_2_2, le_wj_2_3, lu_wj_2_1, lu_wj_2_2, lu_wj_2_3⟩ := lts lt_wj_2_0
                    have lt_wj_3_0 : wq.heap.size < wj.heap.size := by omega
                    obtain ⟨le_wj_3_0, le_wj_3_1, le_wj_3_2, le_wj_3_3, lu_wj_3_1, lu_wj_3_2, lu_wj_3_3⟩ := lts lt_wj_3_0
                    clear le_Y2_0_0 le_Y2_0_1 le_Y2_0_2 le_Y2_0_3 lu_Y2_0_1 lu_Y2_0_2 lu_Y2_0_3 lt_Y2_0_0 lt_Y2_0_1 lt_Y2_0_2 lt_Y2_0_3
                    clear le_Y2_1_0 le_Y2_1_1 le_Y2_1_2 le_Y2_1_3 lu_Y2_1_1 lu_Y2_1_2 lu_Y2_1_3 lt_Y2_1_0
                    clear le_Y2_2_0 le_Y2_2_1 le_Y2_2_2 le_Y2_2_3 lu_Y2_2_1 lu_Y2_2_2 lu_Y2_2_3 lt_Y2_2_0
                    clear le_Y2_3_0 le_Y2_3_1 le_Y2_3_2 le_Y2_3_3 lu_Y2_3_1 lu_Y2_3_2 lu_Y2_3_3 lt_Y2_3_0
                    clear hm_wj
                    clear hbr
                    by_cases hlt3 : j < 4
                    · skip
                      obtain ⟨ya, yz, hix⟩ : ∃ ya yz : Int, ∀ W, (Instr.index 40 (.agg #[.int .i64 y1, .int .i64 y2, .int .i64 y3, .int .i64 y4, .int .i64 y5, .int .i64 y6, .int .i64 y7, .int .i64 y8]) (.int .i64 (j : Int))).run Try.prog W = .ok (.agg #[.int .i64 ya, .int .i64 yz]) W := by
                        have h4 : j = 0 ∨ j = 1 ∨ j = 2 ∨ j = 3 := by omega
                        rcases h4 with rfl | rfl | rfl | rfl
                        · exact ⟨y1, y2, fun W => by kernel_rfl⟩
                        · exact ⟨y3, y4, fun W => by kernel_rfl⟩
                        · exact ⟨y5, y6, fun W => by kernel_rfl⟩
                        · exact ⟨y7, y8, fun W => by kernel_rfl⟩
                      obtain ⟨et, en, ee, N1, N2⟩ := Elig_both kb kr sl sv ya yz
                      have E1 := Lib.hid N1
                      have E2 := Lib.hid N2
                      clear N1 N2
                      go_wp2_with fail
                      refine (E1.out _).mono ?_
                      rintro e w9 ⟨rfl, hb_⟩
                      have s_w9 := hb_.size
                      try simp only [World.size_alloc] at s_w9
                      have hm_w9 : Below wj.heap.size wj w9 := Below.trans (b := (wj.alloc (.cells #[.int .i64 ya, .int .i64 yz] 31))) (by (repeat' (first | (with_reducible exact Below.refl _ _) | (with_reducible refine Below.alloc ?_ ?_ _) | (with_reducible refine Below.setCell ?_ ?_ _) | (with_reducible refine Below.drew ?_) | (with_reducible assumption) | omega | (simp; done) | (simp; omega)))) (hb_.mono (by first | (simp; done) | (simp; omega)))
                      have q_w9 := hm_w9.size
                      replace c_x_0 := below_cell hm_w9 c_x_0 lt_wj_0_3
                      replace c_x_1 := below_cell hm_w9 c_x_1 lt_wj_0_3
                      replace c_o_0 := below_cell hm_w9 c_o_0 lt_wj_1_0
                      replace c_o_1 := below_cell hm_w9 c_o_1 lt_wj_1_0
                      replace c_k_0 := below_cell hm_w9 c_k_0 lt_wj_2_0
                      replace c_k_1 := below_cell hm_w9 c_k_1 lt_wj_2_0
                      replace c_t_0 := below_cell hm_w9 c_t_0 lt_wj_3_0
                      replace c_t_1 := below_cell hm_w9 c_t_1 lt_wj_3_0
                      replace A0 := Lib.hid (A0.out.trans (hm_w9.mono A0.out.size))
                      replace L1 := Lib.hid (L1.out.trans (hm_w9.mono L1.out.size))
                      replace K1 := Lib.hid (K1.out.trans (hm_w9.mono K1.out.size))
                      replace K2 := Lib.hid (K2.out.trans (hm_w9.mono K2.out.size))
                      replace K3 := Lib.hid (K3.out.trans (hm_w9.mono K3.out.size))
                      have c_y_0 : w9.cell? ⟨wj.heap.size, 0, none⟩ = some (.int .i64 ya) := by rw [(bcell hb_).1 _ _ (by first | (simp; done) | (simp; omega))]; simp [go_sem]
                      have c_y_1 : w9.cell? ⟨wj.heap.size, 1, none⟩ = some (.int .i64 yz) := by rw [(bcell hb_).1 _ _ (by first | (simp; done) | (simp; omega))]; simp [go_sem]
                      have lt_w9_0_3 : w.heap.size + 1 + 1 + 1 < w9.heap.size := by omega
                      have lt_w9_0_2 : w.heap.size + 1 + 1 < w9.heap.size := Nat.lt_of_succ_lt lt_w9_0_3
                      have lt_w9_0_1 : w.heap.size + 1 < w9.heap.size := Nat.lt_of_succ_lt lt_w9_0_2
                      have lt_w9_0_0 : w.heap.size < w9.heap.size := Nat.lt_of_succ_lt lt_w9_0_1
                      obtain ⟨le_w9_0_0, le_w9_0_1, le_w9_0_2, le_w9_0_3, lu_w9_0_1, lu_w9_0_2, lu_w9_0_3⟩ := lts lt_w9_0_0
                      have lt_w9_1_0 : w1.heap.size < w9.heap.size := by omega
                      obtain ⟨le_w9_1_0, le_w9_1_1, le_w9_1_2, le_w9_1_3, lu_w9_1_1, lu_w9_1_2, lu_w9_1_3⟩ := lts lt_w9_1_0
                      have lt_w9_2_0 : wo.heap.size < w9.heap.size := by omega
                      obtain ⟨le_w9_2_0, le_w9_2_1, le_w9_2_2, le_w9_2_3, lu_w9_2_1, lu_w9_2_2, lu_w9_2_3⟩ := lts lt_w9_2_0
                      have lt_w9_3_0 : wq.heap.size < w9.heap.size := by omega
                      obtain ⟨le_w9_3_0, le_w9_3_1, le_w9_3_2, le_w9_3_3, lu_w9_3_1, lu_w9_3_2, lu_w9_3_3⟩ := lts lt_w9_3_0
                      have lt_w9_4_0 : wj.heap.size < w9.heap.size := by omega
                      obtain ⟨le_w9_4_0, le_w9_4_1, le_w9_4_2, le_w9_4_3, lu_w9_4_1, lu_w9_4_2, lu_w9_4_3⟩ := lts lt_w9_4_0
                      clear le_wj_0_0 le_wj_0_1 le_wj_0_2 le_wj_0_3 lu_wj_0_1 lu_wj_0_2 lu_wj_0_3 lt_wj_0_0 lt_wj_0_1 lt_wj_0_2 lt_wj_0_3
                      clear le_wj_1_0 le_wj_1_1 le_wj_1_2 le_wj_1_3 lu_wj_1_1 lu_wj_1_2 lu_wj_1_3 lt_wj_1_0
                      clear le_wj_2_0 le_wj_2_1 le_wj_2_2 le_wj_2_3 lu_wj_2_1 lu_wj_2_2 lu_wj_2_3 lt_wj_2_0
                      clear le_wj_3_0 le_wj_3_1 le_wj_3_2 le_wj_3_3 lu_wj_3_1 lu_wj_3_2 lu_wj_3_3 lt_wj_3_0
                      clear hm_w9
                      clear hb_
                      go_wp2_with fail
                      refine (E2.out _).mono ?_
                      rintro e w10 ⟨rfl, hb_⟩
                      have s_w10 := hb_.size
                      try simp only [World.size_alloc] at s_w10
                      have hm_w10 : Below w9.heap.size w9 w10 := Below.trans (b := (w9.alloc (.cells #[.int .i64 et, .int .i64 en] 29))) (by (repeat' (first | (with_reducible exact Below.refl _ _) | (with_reducible refine Below.alloc ?_ ?_ _) | (with_reducible refine Below.setCell ?_ ?_ _) | (with_reducible refine Below.drew ?_) | (with_reducible assumption) | omega | (simp; done) | (simp; omega)))) (hb_.mono (by first | (simp; done) | (simp; omega)))
                      have q_w10 := hm_w10.size
                      replace c_x_0 := below_cell hm_w10 c_x_0 lt_w9_0_3
                      replace c_x_1 := below_cell hm_w10 c_x_1 lt_w9_0_3
                      replace c_o_0 := below_cell hm_w10 c_o_0 lt_w9_1_0
                      replace c_o_1 := below_cell hm_w10 c_o_1 lt_w9_1_0
                      replace c_k_0 := below_cell hm_w10 c_k_0 lt_w9_2_0
                      replace c_k_1 := below_cell hm_w10 c_k_1 lt_w9_2_0
                      replace c_t_0 := below_cell hm_w10 c_t_0 lt_w9_3_0
                      replace c_t_1 := below_cell hm_w10 c_t_1 lt_w9_3_0
                      replace c_y_0 := below_cell hm_w10 c_y_0 lt_w9_4_0
                      replace c_y_1 := below_cell hm_w10 c_y_1 lt_w9_4_0
                      replace A0 := Lib.hid (A0.out.trans (hm_w10.mono A0.out.size))
                      replace L1 := Lib.hid (L1.out.trans (hm_w10.mono L1.out.size))
                      replace K1 := Lib.hid (K1.out.trans (hm_w10.mono K1.out.size))
                      replace K2 := Lib.hid (K2.out.trans (hm_w10.mono K2.out.size))
                      replace K3 := Lib.hid (K3.out.trans (hm_w10.mono K3.out.size))
                      have c_e1_0 : w10.cell? ⟨w9.heap.size, 0, none⟩ = some (.int .i64 et) := by rw [(bcell hb_).1 _ _ (by first | (simp; done) | (simp; omega))]; simp [go_sem]
                      have c_e1_1 : w10.cell? ⟨w9.heap.size, 1, none⟩ = some (.int .i64 en) := by rw [(bcell hb_).1 _ _ (by first | (simp; done) | (simp; omega))]; simp [go_sem]
                      have lt_w10_0_3 : w.heap.size + 1 + 1 + 1 < w10.heap.size := by omega
                      have lt_w10_0_2 : w.heap.size + 1 + 1 < w10.heap.size := Nat.lt_of_succ_lt lt_w10_0_3
                      have lt_w10_0_1 : w.heap.size + 1 < w10.heap.size := Nat.lt_of_succ_lt lt_w10_0_2
                      have lt_w10_0_0 : w.heap.size < w10.heap.size := Nat.lt_of_succ_lt lt_w10_0_1
                      obtain ⟨le_w10_0_0, le_w10_0_1, le_w10_0_2, le_w10_0_3, lu_w10_0_1, lu_w10_0_2, lu_w10_0_3⟩ := lts lt_w10_0_0
                      have lt_w10_1_0 : w1.heap.size < w10.heap.size := by omega
                      obtain ⟨le_w10_1_0, le_w10_1_1, le_w10_1_2, le_w10_1_3, lu_w10_1_1, lu_w10_1_2, lu_w10_1_3⟩ := lts lt_w10_1_0
                      have lt_w10_2_0 : wo.heap.size < w10.heap.size := by omega
                      obtain ⟨le_w10_2_0, le_w10_2_1, le_w10_2_2, le_w10_2_3, lu_w10_2_1, lu_w10_2_2, lu_w10_2_3⟩ := lts lt_w10_2_0
                      have lt_w10_3_0 : wq.heap.size < w10.heap.size := by omega
                      obtain ⟨le_w10_3_0, le_w10_3_1, le_w10_3_2, le_w10_3_3, lu_w10_3_1, lu_w10_3_2, lu_w10_3_3⟩ := lts lt_w10_3_0
                      have lt_w10_4_0 : wj.heap.size < w10.heap.size := by omega
                      obtain ⟨le_w10_4_0, le_w10_4_1, le_w10_4_2, le_w10_4_3, lu_w10_4_1, lu_w10_4_2, lu_w10_4_3⟩ := lts lt_w10_4_0
                      have lt_w10_5_0 : w9.heap.size < w10.heap.size := by omega
                      obtain ⟨le_w10_5_0, le_w10_5_1, le_w10_5_2, le_w10_5_3, lu_w10_5_1, lu_w10_5_2, lu_w10_5_3⟩ := lts lt_w10_5_0
                      clear le_w9_0_0 le_w9_0_1 le_w9_0_2 le_w9_0_3 lu_w9_0_1 lu_w9_0_2 lu_w9_0_3 lt_w9_0_0 lt_w9_0_1 lt_w9_0_2 lt_w9_0_3
                      clear le_w9_1_0 le_w9_1_1 le_w9_1_2 le_w9_1_3 lu_w9_1_1 lu_w9_1_2 lu_w9_1_3 lt_w9_1_0
                      clear le_w9_2_0 le_w9_2_1 le_w9_2_2 le_w9_2_3 lu_w9_2_1 lu_w9_2_2 lu_w9_2_3 lt_w9_2_0
                      clear le_w9_3_0 le_w9_3_1 le_w9_3_2 le_w9_3_3 lu_w9_3_1 lu_w9_3_2 lu_w9_3_3 lt_w9_3_0
                      clear le_w9_4_0 le_w9_4_1 le_w9_4_2 le_w9_4_3 lu_w9_4_1 lu_w9_4_2 lu_w9_4_3 lt_w9_4_0
                      clear hm_w10
                      clear hb_
                      clear hix E1 E2
                      go_wp2_with fail
                      go_roundw
                      case rel => exact ⟨j + 1, by omega, by go_num, K3.out.alloc K3.out.size _⟩
                      case measure => simp [intOf]; omega
                    · go_wp2_with fail
                      go_roundw
                      case rel => exact ⟨q_ + 1, by omega, by go_num, K2.out⟩
                      case measure => simp [intOf]; omega
            · go_wp2_with fail
              go_roundw
              case rel => exact ⟨k + 1, by omega, by go_num, K1.out⟩
              case measure => simp [intOf]; omega
      · skip
        go_wp2_with fail
        refine (works_any _).mono ?_
        rintro e w11 ⟨rfl, hb_⟩
        have hm_w11 : Below wo.heap.size wo w11 := hb_
        have q_w11 := hm_w11.size
        replace c_b_0 := below_cell hm_w11 c_b_0 lt_wo_0_0
        replace c_b_1 := below_cell hm_w11 c_b_1 lt_wo_0_0
        replace c_s_0 := below_cell hm_w11 c_s_0 lt_wo_0_2
        replace c_s_1 := below_cell hm_w11 c_s_1 lt_wo_0_2
        replace c_x_0 := below_cell hm_w11 c_x_0 lt_wo_0_3
        replace c_x_1 := below_cell hm_w11 c_x_1 lt_wo_0_3
        replace c_o_0 := below_cell hm_w11 c_o_0 lt_wo_1_0
        replace c_o_1 := below_cell hm_w11 c_o_1 lt_wo_1_0
        replace c_g_0 := below_cell hm_w11 c_g_0 lt_wo_2_0
        replace c_g_1 := below_cell hm_w11 c_g_1 lt_wo_2_0
        replace A0 := Lib.hid (A0.out.trans (hm_w11.mono A0.out.size))
        replace L1 := Lib.hid (L1.out.trans (hm_w11.mono L1.out.size))
        replace K1 := Lib.hid (K1.out.trans (hm_w11.mono K1.out.size))
        have lt_w11_0_3 : w.heap.size + 1 + 1 + 1 < w11.heap.size := by omega
        have lt_w11_0_2 : w.heap.size + 1 + 1 < w11.heap.size := Nat.lt_of_succ_lt lt_w11_0_3
        have lt_w11_0_1 : w.heap.size + 1 < w11.heap.size := Nat.lt_of_succ_lt lt_w11_0_2
        have lt_w11_0_0 : w.heap.size < w11.heap.size := Nat.lt_of_succ_lt lt_w11_0_1
        obtain ⟨le_w11_0_0, le_w11_0_1, le_w11_0_2, le_w11_0_3, lu_w11_0_1, lu_w11_0_2, lu_w11_0_3⟩ := lts lt_w11_0_0
        have lt_w11_1_0 : w1.heap.size < w11.heap.size := by omega
        obtain ⟨le_w11_1_0, le_w11_1_1, le_w11_1_2, le_w11_1_3, lu_w11_1_1, lu_w11_1_2, lu_w11_1_3⟩ := lts lt_w11_1_0
        have lt_w11_2_0 : W2.heap.size < w11.heap.size := by omega
        obtain ⟨le_w11_2_0, le_w11_2_1, le_w11_2_2, le_w11_2_3, lu_w11_2_1, lu_w11_2_2, lu_w11_2_3⟩ := lts lt_w11_2_0
        clear le_wo_0_0 le_wo_0_1 le_wo_0_2 le_wo_0_3 lu_wo_0_1 lu_wo_0_2 lu_wo_0_3 lt_wo_0_0 lt_wo_0_1 lt_wo_0_2 lt_wo_0_3
        clear le_wo_1_0 le_wo_1_1 le_wo_1_2 le_wo_1_3 lu_wo_1_1 lu_wo_1_2 lu_wo_1_3 lt_wo_1_0
        clear le_wo_2_0 le_wo_2_1 le_wo_2_2 le_wo_2_3 lu_wo_2_1 lu_wo_2_2 lu_wo_2_3 lt_wo_2_0
        clear hm_w11
        clear hb_
        go_wp2_with fail
        go_ret
        exact ⟨rfl, A0.out⟩
end SpW
end Go.Proofs.Ytpglhjgpjnapgaa
