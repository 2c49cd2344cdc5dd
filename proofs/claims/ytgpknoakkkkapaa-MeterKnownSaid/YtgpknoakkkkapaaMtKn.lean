/- MeterKnown: the walk of the law. -/
import Derived.Test.YtgpknoakkkkapaaMtZ
import Derived.Test.YtgpknoakkkkapaaMtY
namespace Go.Proofs.Ytgpknoakkkkapaa
set_option linter.unusedSimpArgs false
set_option linter.unusedVariables false
open Go.RowKit
namespace MtW
theorem one_ {α : Type} {P : Nat → α → Prop} {a : α} (h0 : P 0 a) : ∀ (i : Nat) (x : α), [a][i]? = some x → P i x := by
  intro i x hx
  match i with
  | 0 => simp at hx; subst hx; exact h0
  | n + 1 => simp at hx
theorem four {α : Type} {P : Nat → α → Prop} {a b c d : α} (h0 : P 0 a) (h1 : P 1 b) (h2 : P 2 c) (h3 : P 3 d) : ∀ (i : Nat) (x : α), [a, b, c, d][i]? = some x → P i x := by
  intro i x hx
  match i with
  | 0 => simp at hx; subst hx; exact h0
  | 1 => simp at hx; subst hx; exact h1
  | 2 => simp at hx; subst hx; exact h2
  | 3 => simp at hx; subst hx; exact h3
  | n + 4 => simp at hx
theorem Mark_late (w : World) : Calls Try.prog 15 #[.agg #[.int .i64 100, .int .i64 131072], .agg #[.int .i64 150, .int .i64 262144], .agg #[.int .i64 0, .int .i64 0, .int .i64 0], .int .i64 1099511627776, .int .i64 100] w fun e w' => e = .returned (.tuple #[.int .i64 0, .agg #[.int .i64 1099511627776, .int .i64 0, .int .i64 52428800], .int .i64 0]) ∧ Below w.heap.size w w' :=
  Mark_good 100 131072 150 262144 0 0 0 1099511627776 100 104857600 157286400 104857600 (by decide) (by decide) (by decide) (by decide) (by decide) (by decide) (by decide) (by decide) w
theorem runs_nil (w : World) : Calls Try.prog 23 #[.agg #[.int .i64 100, .int .i64 131072], .agg #[.int .i64 150, .int .i64 262144], .slice none 0 0, .slice none 0 0] w fun e w' => e = .returned (.bool true) ∧ Below w.heap.size w w' := by
  have R := runs_any 100 131072 150 262144 none [] 0 none [] 0 w (fun i x hx => by simp at hx) (fun i x hx => by simp at hx) (by simp) (by decide) (by decide) rfl
  rw [show Mt.run 100 131072 150 262144 [] = [] from rfl, decide_eq_true rfl] at R
  exact R
theorem runs_four (w : World) : Calls Try.prog 23 #[.agg #[.int .i64 100, .int .i64 131072], .agg #[.int .i64 100, .int .i64 131072], .slice (some ⟨w.heap.size, 0, none⟩) 4 4, .slice (some ⟨w.heap.size + 1, 0, none⟩) 4 4] ((w.alloc (.cells #[.int .i64 7, .int .i64 101, .int .i64 7, .int .i64 100, .int .i64 807, .int .i64 100, .int .i64 1606, .int .i64 100] 33)).alloc (.cells #[.int .i64 2, .int .i64 0, .int .i64 0, .int .i64 2] 3)) fun e w' => e = .returned (.bool true) ∧ Below w.heap.size w w' := by
  have hr : Mt.run 100 131072 100 131072 [(7, 101), (7, 100), (807, 100), (1606, 100)] = [2, 0, 0, 2] := by decide +kernel
  have A1 := arr_new w [(7, 101), (7, 100), (807, 100), (1606, 100)] #[.int .i64 7, .int .i64 101, .int .i64 7, .int .i64 100, .int .i64 807, .int .i64 100, .int .i64 1606, .int .i64 100] 33 (four (P := fun i x => _ ∧ _) ⟨rfl, rfl⟩ ⟨rfl, rfl⟩ ⟨rfl, rfl⟩ ⟨rfl, rfl⟩)
  have I1 := ints_new (w.alloc (.cells #[.int .i64 7, .int .i64 101, .int .i64 7, .int .i64 100, .int .i64 807, .int .i64 100, .int .i64 1606, .int .i64 100] 33)) [2, 0, 0, 2] #[.int .i64 2, .int .i64 0, .int .i64 0, .int .i64 2] 3 (four (P := fun i x => _ = _) rfl rfl rfl rfl)
  have A2 := (A1.below ((Below.refl _ _).alloc (by simp) (.cells #[.int .i64 2, .int .i64 0, .int .i64 0, .int .i64 2] 3)))
  have sz : ((w.alloc (.cells #[.int .i64 7, .int .i64 101, .int .i64 7, .int .i64 100, .int .i64 807, .int .i64 100, .int .i64 1606, .int .i64 100] 33)).alloc (.cells #[.int .i64 2, .int .i64 0, .int .i64 0, .int .i64 2] 3)).heap.size = w.heap.size + 2 := by simp
  have R := runs_any 100 131072 100 131072 _ [(7, 101), (7, 100), (807, 100), (1606, 100)] 4 _ [2, 0, 0, 2] 4 _ (A2.of_lt (by rw [sz]; omega)) (I1.of_lt (by rw [sz]; simp)) (by simp) (by decide) (by decide) (by rw [hr]; rfl)
  rw [hr, decide_eq_true rfl] at R
  simp only [World.size_alloc] at R
  exact R.mono fun e w' ⟨a, b⟩ => ⟨a, Below.trans (by (repeat' (first | (with_reducible exact Below.refl _ _) | (with_reducible refine Below.alloc ?_ ?_ _) | (with_reducible refine Below.setCell ?_ ?_ _) | (with_reducible refine Below.drew ?_) | (with_reducible assumption) | omega | (simp; done) | (simp; omega)))) (b.mono (by omega))⟩
set_option maxRecDepth 100000 in
set_option maxHeartbeats 4000000 in
theorem law_Known (w : World) : Calls Try.prog 6 #[] w fun e w' => e = .returned (.bool true) ∧ Below w.heap.size w w' := by
  go_enter Try.func6, Try.ntmps6
  go_wp2_with fail
  refine (chapter_any _).mono ?_
  rintro e w1 ⟨rfl, hb_⟩
  have s_w1 := hb_.size
  try simp only [World.size_alloc] at s_w1
  have hm_w1 : Below w.heap.size w w1 := hb_
  have q_w1 := hm_w1.size
  have H_w1 := Lib.hid hm_w1
  clear hb_ hm_w1
  go_wp2_with fail
  refine (New_ex _).mono ?_
  rintro e w2 ⟨rfl, hb_⟩
  have s_w2 := hb_.size
  try simp only [World.size_alloc] at s_w2
  have hm_w2 : Below w1.heap.size w1 w2 := Below.trans (b := ((w1.alloc (.cells #[.int .i64 100, .int .i64 131072] 23)).alloc (.cells #[.int .i64 150, .int .i64 262144] 23))) (by (repeat' (first | (with_reducible exact Below.refl _ _) | (with_reducible refine Below.alloc ?_ ?_ _) | (with_reducible refine Below.setCell ?_ ?_ _) | (with_reducible refine Below.drew ?_) | (with_reducible assumption) | omega | (simp; done) | (simp; omega)))) (hb_.mono (by first | (simp; done) | (simp; omega)))
  have q_w2 := hm_w2.size
  have c_c_0 : w2.cell? ⟨w1.heap.size, 0, none⟩ = some (.int .i64 100) := by rw [(bcell hb_).1 _ _ (by first | (simp; done) | (simp; omega))]; simp [go_sem]
  have c_c_1 : w2.cell? ⟨w1.heap.size, 1, none⟩ = some (.int .i64 131072) := by rw [(bcell hb_).1 _ _ (by first | (simp; done) | (simp; omega))]; simp [go_sem]
  have c_p_0 : w2.cell? ⟨w1.heap.size + 1, 0, none⟩ = some (.int .i64 150) := by rw [(bcell hb_).1 _ _ (by first | (simp; done) | (simp; omega))]; simp [go_sem]
  have c_p_1 : w2.cell? ⟨w1.heap.size + 1, 1, none⟩ = some (.int .i64 262144) := by rw [(bcell hb_).1 _ _ (by first | (simp; done) | (simp; omega))]; simp [go_sem]
  have H_w2 := Lib.hid (H_w1.out.trans (hm_w2.mono (by omega)))
  have le_w2_0_0 : w1.heap.size ≤ w2.heap.size := by omega
  have le_w2_0_1 : w1.heap.size ≤ w2.heap.size + 1 := by omega
  have le_w2_0_2 : w1.heap.size ≤ w2.heap.size + 1 + 1 := by omega
  have le_w2_0_3 : w1.heap.size ≤ w2.heap.size + 1 + 1 + 1 := by omega
  have lu_w2_0_1 : w1.heap.size < w2.heap.size + 1 := by omega
  have lu_w2_0_2 : w1.heap.size < w2.heap.size + 1 + 1 := by omega
  have lu_w2_0_3 : w1.heap.size < w2.heap.size + 1 + 1 + 1 := by omega
  have lt_w2_0_0 : w1.heap.size < w2.heap.size := by omega
  have lt_w2_0_1 : w1.heap.size + 1 < w2.heap.size := by omega
  clear hb_ hm_w2
  go_wp2_with fail
  obtain ⟨W3, hW3⟩ : ∃ W3, ((w2.alloc (.cells #[.int .i64 0, .int .i64 104857600, .int .i64 157286400] 31)).alloc (.cells #[.int .i64 1, .int .i64 0] 23)) = W3 := ⟨_, rfl⟩
  have hm_W3 : Below w2.heap.size w2 W3 := by rw [← hW3]; (repeat' (first | (with_reducible exact Below.refl _ _) | (with_reducible refine Below.alloc ?_ ?_ _) | (with_reducible refine Below.setCell ?_ ?_ _) | (with_reducible refine Below.drew ?_) | (with_reducible assumption) | omega | (simp; done) | (simp; omega)))
  have q_W3 : w2.heap.size + 2 ≤ W3.heap.size := by rw [← hW3]; simp
  replace c_c_0 := below_cell hm_W3 c_c_0 (by omega)
  replace c_c_1 := below_cell hm_W3 c_c_1 (by omega)
  replace c_p_0 := below_cell hm_W3 c_p_0 (by omega)
  replace c_p_1 := below_cell hm_W3 c_p_1 (by omega)
  have c_full_0 : W3.cell? ⟨w2.heap.size, 0, none⟩ = some (.int .i64 0) := by rw [← hW3]; simp [go_sem]
  have c_full_1 : W3.cell? ⟨w2.heap.size, 1, none⟩ = some (.int .i64 104857600) := by rw [← hW3]; simp [go_sem]
  have c_full_2 : W3.cell? ⟨w2.heap.size, 2, none⟩ = some (.int .i64 157286400) := by rw [← hW3]; simp [go_sem]
  have c_bad_0 : W3.cell? ⟨w2.heap.size + 1, 0, none⟩ = some (.int .i64 1) := by rw [← hW3]; simp [go_sem]
  have c_bad_1 : W3.cell? ⟨w2.heap.size + 1, 1, none⟩ = some (.int .i64 0) := by rw [← hW3]; simp [go_sem]
  have H_W3 := Lib.hid (H_w2.out.trans (hm_W3.mono (by have := H_w2.out.size; omega)))
  rw [hW3]
  clear hW3 hm_W3
  have le_W3_0_0 : w1.heap.size ≤ W3.heap.size := by omega
  have le_W3_0_1 : w1.heap.size ≤ W3.heap.size + 1 := by omega
  have le_W3_0_2 : w1.heap.size ≤ W3.heap.size + 1 + 1 := by omega
  have le_W3_0_3 : w1.heap.size ≤ W3.heap.size + 1 + 1 + 1 := by omega
  have lu_W3_0_1 : w1.heap.size < W3.heap.size + 1 := by omega
  have lu_W3_0_2 : w1.heap.size < W3.heap.size + 1 + 1 := by omega
  have lu_W3_0_3 : w1.heap.size < W3.heap.size + 1 + 1 + 1 := by omega
  have lt_W3_0_0 : w1.heap.size < W3.heap.size := by omega
  have lt_W3_0_1 : w1.heap.size + 1 < W3.heap.size := by omega
  have le_W3_1_0 : w2.heap.size ≤ W3.heap.size := by omega
  have le_W3_1_1 : w2.heap.size ≤ W3.heap.size + 1 := by omega
  have le_W3_1_2 : w2.heap.size ≤ W3.heap.size + 1 + 1 := by omega
  have le_W3_1_3 : w2.heap.size ≤ W3.heap.size + 1 + 1 + 1 := by omega
  have lu_W3_1_1 : w2.heap.size < W3.heap.size + 1 := by omega
  have lu_W3_1_2 : w2.heap.size < W3.heap.size + 1 + 1 := by omega
  have lu_W3_1_3 : w2.heap.size < W3.heap.size + 1 + 1 + 1 := by omega
  have lt_W3_1_0 : w2.heap.size < W3.heap.size := by omega
  have lt_W3_1_1 : w2.heap.size + 1 < W3.heap.size := by omega
  have base3 := H_W3.out.size
  have HC := Lib.hid (And.intro c_c_0 (And.intro c_c_1 (And.intro c_p_0 (And.intro c_p_1 (And.intro c_full_0 (And.intro c_full_1 (And.intro c_full_2 (And.intro c_bad_0 c_bad_1))))))))
  clear c_c_0 c_c_1 c_p_0 c_p_1 c_full_0 c_full_1 c_full_2 c_bad_0 c_bad_1
  go_loopw [43] (fun i wr => ∃ k : Nat, k ≤ 6 ∧ i = .int .i64 k ∧ Below W3.heap.size W3 wr) (fun i _ => 6 - (intOf i).toNat)
  case atStart => exact ⟨0, by omega, rfl, Below.refl _ _⟩
  case round =>
    obtain ⟨k, hk, rfl, hbr⟩ := hrel
    obtain ⟨wo, rfl⟩ : ∃ wo : World, wo = wr := ⟨_, rfl⟩
    have HR := Lib.hid hbr
    have lo := hbr.size
    clear hbr
    by_cases hlt : k < 6
    · obtain ⟨ml, mc, mp, hix, hm⟩ : ∃ ml mc mp : Int, (∀ W, (Instr.index 42 (.agg #[.int .i64 (-1), .int .i64 0, .int .i64 0, .int .i64 1099511627777, .int .i64 0, .int .i64 0, .int .i64 0, .int .i64 (-1), .int .i64 0, .int .i64 0, .int .i64 0, .int .i64 (-1), .int .i64 0, .int .i64 104857601, .int .i64 0, .int .i64 0, .int .i64 0, .int .i64 157286401]) (.int .i64 (k : Int))).run Try.prog W = .ok (.agg #[.int .i64 ml, .int .i64 mc, .int .i64 mp]) W) ∧ Mt.chkE 100 131072 150 262144 ml mc mp = 420 := by
        have h6 : k = 0 ∨ k = 1 ∨ k = 2 ∨ k = 3 ∨ k = 4 ∨ k = 5 := by omega
        rcases h6 with rfl | rfl | rfl | rfl | rfl | rfl
        · exact ⟨(-1), 0, 0, fun W => by kernel_rfl, by decide⟩
        · exact ⟨1099511627777, 0, 0, fun W => by kernel_rfl, by decide⟩
        · exact ⟨0, (-1), 0, fun W => by kernel_rfl, by decide⟩
        · exact ⟨0, 0, (-1), fun W => by kernel_rfl, by decide⟩
        · exact ⟨0, 104857601, 0, fun W => by kernel_rfl, by decide⟩
        · exact ⟨0, 0, 157286401, fun W => by kernel_rfl, by decide⟩
      have c_c_0 := below_cell HR.out (HC.out.1) (by omega)
      have c_c_1 := below_cell HR.out (HC.out.2.1) (by omega)
      have c_p_0 := below_cell HR.out (HC.out.2.2.1) (by omega)
      have c_p_1 := below_cell HR.out (HC.out.2.2.2.1) (by omega)
      have c_full_0 := below_cell HR.out (HC.out.2.2.2.2.1) (by omega)
      have c_full_1 := below_cell HR.out (HC.out.2.2.2.2.2.1) (by omega)
      have c_full_2 := below_cell HR.out (HC.out.2.2.2.2.2.2.1) (by omega)
      have c_bad_0 := below_cell HR.out (HC.out.2.2.2.2.2.2.2.1) (by omega)
      have c_bad_1 := below_cell HR.out (HC.out.2.2.2.2.2.2.2.2) (by omega)
      have le_wo_0_0 : w1.heap.size ≤ wo.heap.size := by omega
      have le_wo_0_1 : w1.heap.size ≤ wo.heap.size + 1 := by omega
      have le_wo_0_2 : w1.heap.size ≤ wo.heap.size + 1 + 1 := by omega
      have le_wo_0_3 : w1.heap.size ≤ wo.heap.size + 1 + 1 + 1 := by omega
      have lu_wo_0_1 : w1.heap.size < wo.heap.size + 1 := by omega
      have lu_wo_0_2 : w1.heap.size < wo.heap.size + 1 + 1 := by omega
      have lu_wo_0_3 : w1.heap.size < wo.heap.size + 1 + 1 + 1 := by omega
      have lt_wo_0_0 : w1.heap.size < wo.heap.size := by omega
      have lt_wo_0_1 : w1.heap.size + 1 < wo.heap.size := by omega
      have le_wo_1_0 : w2.heap.size ≤ wo.heap.size := by omega
      have le_wo_1_1 : w2.heap.size ≤ wo.heap.size + 1 := by omega
      have le_wo_1_2 : w2.heap.size ≤ wo.heap.size + 1 + 1 := by omega
      have le_wo_1_3 : w2.heap.size ≤ wo.heap.size + 1 + 1 + 1 := by omega
      have lu_wo_1_1 : w2.heap.size < wo.heap.size + 1 := by omega
      have lu_wo_1_2 : w2.heap.size < wo.heap.size + 1 + 1 := by omega
      have lu_wo_1_3 : w2.heap.size < wo.heap.size + 1 + 1 + 1 := by omega
      have lt_wo_1_0 : w2.heap.size < wo.heap.size := by omega
      have lt_wo_1_1 : w2.heap.size + 1 < wo.heap.size := by omega
      have MB := Mark_bad 100 131072 150 262144 ml mc mp (-9) 0 (by rw [hm]; decide)
      have K1 := Check_any 100 131072 150 262144 ml mc mp
      rw [hm] at MB K1
      have K2 := Check_any 1 0 150 262144 ml mc mp
      have K3 := Check_any 100 131072 1 0 ml mc mp
      have K4 := Check_any 150 262144 100 131072 ml mc mp
      rw [show Mt.chkE 1 0 150 262144 ml mc mp = 130 from if_neg (by decide)] at K2
      rw [show Mt.chkE 100 131072 1 0 ml mc mp = 130 from if_neg (by decide)] at K3
      rw [show Mt.chkE 150 262144 100 131072 ml mc mp = 2 from if_neg (by decide)] at K4
      have HMB := Lib.hid MB
      have HK1 := Lib.hid K1
      have HK2 := Lib.hid K2
      have HK3 := Lib.hid K3
      have HK4 := Lib.hid K4
      clear MB K1 K2 K3 K4 hm
      go_wp2_with fail
      refine (HMB.out _).mono ?_
      rintro e v1 ⟨rfl, hb_⟩
      clear hix
      have s_v1 := hb_.size
      try simp only [World.size_alloc] at s_v1
      have hm_v1 : Below wo.heap.size wo v1 := Below.trans (b := (wo.alloc (.cells #[.int .i64 ml, .int .i64 mc, .int .i64 mp] 31))) (by (repeat' (first | (with_reducible exact Below.refl _ _) | (with_reducible refine Below.alloc ?_ ?_ _) | (with_reducible refine Below.setCell ?_ ?_ _) | (with_reducible refine Below.drew ?_) | (with_reducible assumption) | omega | (simp; done) | (simp; omega)))) (hb_.mono (by first | (simp; done) | (simp; omega)))
      have q_v1 := hm_v1.size
      replace c_c_0 := below_cell hm_v1 c_c_0 (by omega)
      replace c_c_1 := below_cell hm_v1 c_c_1 (by omega)
      replace c_p_0 := below_cell hm_v1 c_p_0 (by omega)
      replace c_p_1 := below_cell hm_v1 c_p_1 (by omega)
      replace c_full_0 := below_cell hm_v1 c_full_0 (by omega)
      replace c_full_1 := below_cell hm_v1 c_full_1 (by omega)
      replace c_full_2 := below_cell hm_v1 c_full_2 (by omega)
      replace c_bad_0 := below_cell hm_v1 c_bad_0 (by omega)
      replace c_bad_1 := below_cell hm_v1 c_bad_1 (by omega)
      have c_m_0 : v1.cell? ⟨wo.heap.size, 0, none⟩ = some (.int .i64 ml) := by rw [(bcell hb_).1 _ _ (by first | (simp; done) | (simp; omega))]; simp [go_sem]
      have c_m_1 : v1.cell? ⟨wo.heap.size, 1, none⟩ = some (.int .i64 mc) := by rw [(bcell hb_).1 _ _ (by first | (simp; done) | (simp; omega))]; simp [go_sem]
      have c_m_2 : v1.cell? ⟨wo.heap.size, 2, none⟩ = some (.int .i64 mp) := by rw [(bcell hb_).1 _ _ (by first | (simp; done) | (simp; omega))]; simp [go_sem]
      have H_v1 := Lib.hid hm_v1
      have le_v1_0_0 : w1.heap.size ≤ v1.heap.size := by omega
      have le_v1_0_1 : w1.heap.size ≤ v1.heap.size + 1 := by omega
      have le_v1_0_2 : w1.heap.size ≤ v1.heap.size + 1 + 1 := by omega
      have le_v1_0_3 : w1.heap.size ≤ v1.heap.size + 1 + 1 + 1 := by omega
      have lu_v1_0_1 : w1.heap.size < v1.heap.size + 1 := by omega
      have lu_v1_0_2 : w1.heap.size < v1.heap.size + 1 + 1 := by omega
      have lu_v1_0_3 : w1.heap.size < v1.heap.size + 1 + 1 + 1 := by omega
      have lt_v1_0_0 : w1.heap.size < v1.heap.size := by omega
      have lt_v1_0_1 : w1.heap.size + 1 < v1.heap.size := by omega
      have le_v1_1_0 : w2.heap.size ≤ v1.heap.size := by omega
      have le_v1_1_1 : w2.heap.size ≤ v1.heap.size + 1 := by omega
      have le_v1_1_2 : w2.heap.size ≤ v1.heap.size + 1 + 1 := by omega
      have le_v1_1_3 : w2.heap.size ≤ v1.heap.size + 1 + 1 + 1 := by omega
      have lu_v1_1_1 : w2.heap.size < v1.heap.size + 1 := by omega
      have lu_v1_1_2 : w2.heap.size < v1.heap.size + 1 + 1 := by omega
      have lu_v1_1_3 : w2.heap.size < v1.heap.size + 1 + 1 + 1 := by omega
      have lt_v1_1_0 : w2.heap.size < v1.heap.size := by omega
      have lt_v1_1_1 : w2.heap.size + 1 < v1.heap.size := by omega
      have le_v1_2_0 : wo.heap.size ≤ v1.heap.size := by omega
      have le_v1_2_1 : wo.heap.size ≤ v1.heap.size + 1 := by omega
      have le_v1_2_2 : wo.heap.size ≤ v1.heap.size + 1 + 1 := by omega
      have le_v1_2_3 : wo.heap.size ≤ v1.heap.size + 1 + 1 + 1 := by omega
      have lu_v1_2_1 : wo.heap.size < v1.heap.size + 1 := by omega
      have lu_v1_2_2 : wo.heap.size < v1.heap.size + 1 + 1 := by omega
      have lu_v1_2_3 : wo.heap.size < v1.heap.size + 1 + 1 + 1 := by omega
      have lt_v1_2_0 : wo.heap.size < v1.heap.size := by omega
      clear hb_ hm_v1
      go_wp2_with fail
      refine (HK1.out _).mono ?_
      rintro e v2 ⟨rfl, hb_⟩
      have s_v2 := hb_.size
      try simp only [World.size_alloc] at s_v2
      have hm_v2 : Below v1.heap.size v1 v2 := Below.trans (b := (v1.alloc (.cells #[.int .i64 0, .int .i64 0, .int .i64 0] 31))) (by (repeat' (first | (with_reducible exact Below.refl _ _) | (with_reducible refine Below.alloc ?_ ?_ _) | (with_reducible refine Below.setCell ?_ ?_ _) | (with_reducible refine Below.drew ?_) | (with_reducible assumption) | omega | (simp; done) | (simp; omega)))) (hb_.mono (by first | (simp; done) | (simp; omega)))
      have q_v2 := hm_v2.size
      replace c_c_0 := below_cell hm_v2 c_c_0 (by omega)
      replace c_c_1 := below_cell hm_v2 c_c_1 (by omega)
      replace c_p_0 := below_cell hm_v2 c_p_0 (by omega)
      replace c_p_1 := below_cell hm_v2 c_p_1 (by omega)
      replace c_full_0 := below_cell hm_v2 c_full_0 (by omega)
      replace c_full_1 := below_cell hm_v2 c_full_1 (by omega)
      replace c_full_2 := below_cell hm_v2 c_full_2 (by omega)
      replace c_bad_0 := below_cell hm_v2 c_bad_0 (by omega)
      replace c_bad_1 := below_cell hm_v2 c_bad_1 (by omega)
      replace c_m_0 := below_cell hm_v2 c_m_0 (by omega)
      replace c_m_1 := below_cell hm_v2 c_m_1 (by omega)
      replace c_m_2 := below_cell hm_v2 c_m_2 (by omega)
      have H_v2 := Lib.hid (H_v1.out.trans (hm_v2.mono (by omega)))
      have le_v2_0_0 : w1.heap.size ≤ v2.heap.size := by omega
      have le_v2_0_1 : w1.heap.size ≤ v2.heap.size + 1 := by omega
      have le_v2_0_2 : w1.heap.size ≤ v2.heap.size + 1 + 1 := by omega
      have le_v2_0_3 : w1.heap.size ≤ v2.heap.size + 1 + 1 + 1 := by omega
      have lu_v2_0_1 : w1.heap.size < v2.heap.size + 1 := by omega
      have lu_v2_0_2 : w1.heap.size < v2.heap.size + 1 + 1 := by omega
      have lu_v2_0_3 : w1.heap.size < v2.heap.size + 1 + 1 + 1 := by omega
      have lt_v2_0_0 : w1.heap.size < v2.heap.size := by omega
      have lt_v2_0_1 : w1.heap.size + 1 < v2.heap.size := by omega
      have le_v2_1_0 : w2.heap.size ≤ v2.heap.size := by omega
      have le_v2_1_1 : w2.heap.size ≤ v2.heap.size + 1 := by omega
      have le_v2_1_2 : w2.heap.size ≤ v2.heap.size + 1 + 1 := by omega
      have le_v2_1_3 : w2.heap.size ≤ v2.heap.size + 1 + 1 + 1 := by omega
      have lu_v2_1_1 : w2.heap.size < v2.heap.size + 1 := by omega
      have lu_v2_1_2 : w2.heap.size < v2.heap.size + 1 + 1 := by omega
      have lu_v2_1_3 : w2.heap.size < v2.heap.size + 1 + 1 + 1 := by omega
      have lt_v2_1_0 : w2.heap.size < v2.heap.size := by omega
      have lt_v2_1_1 : w2.heap.size + 1 < v2.heap.size := by omega
      have le_v2_2_0 : wo.heap.size ≤ v2.heap.size := by omega
      have le_v2_2_1 : wo.heap.size ≤ v2.heap.size + 1 := by omega
      have le_v2_2_2 : wo.heap.size ≤ v2.heap.size + 1 + 1 := by omega
      have le_v2_2_3 : wo.heap.size ≤ v2.heap.size + 1 + 1 + 1 := by omega
      have lu_v2_2_1 : wo.heap.size < v2.heap.size + 1 := by omega
      have lu_v2_2_2 : wo.heap.size < v2.heap.size + 1 + 1 := by omega
      have lu_v2_2_3 : wo.heap.size < v2.heap.size + 1 + 1 + 1 := by omega
      have lt_v2_2_0 : wo.heap.size < v2.heap.size := by omega
      clear hb_ hm_v2
      go_wp2_with fail
      refine (HK2.out _).mono ?_
      rintro e v3 ⟨rfl, hb_⟩
      have s_v3 := hb_.size
      try simp only [World.size_alloc] at s_v3
      have hm_v3 : Below v2.heap.size v2 v3 := hb_
      have q_v3 := hm_v3.size
      replace c_c_0 := below_cell hm_v3 c_c_0 (by omega)
      replace c_c_1 := below_cell hm_v3 c_c_1 (by omega)
      replace c_p_0 := below_cell hm_v3 c_p_0 (by omega)
      replace c_p_1 := below_cell hm_v3 c_p_1 (by omega)
      replace c_full_0 := below_cell hm_v3 c_full_0 (by omega)
      replace c_full_1 := below_cell hm_v3 c_full_1 (by omega)
      replace c_full_2 := below_cell hm_v3 c_full_2 (by omega)
      replace c_bad_0 := below_cell hm_v3 c_bad_0 (by omega)
      replace c_bad_1 := below_cell hm_v3 c_bad_1 (by omega)
      replace c_m_0 := below_cell hm_v3 c_m_0 (by omega)
      replace c_m_1 := below_cell hm_v3 c_m_1 (by omega)
      replace c_m_2 := below_cell hm_v3 c_m_2 (by omega)
      have H_v3 := Lib.hid (H_v2.out.trans (hm_v3.mono (by omega)))
      have le_v3_0_0 : w1.heap.size ≤ v3.heap.size := by omega
      have le_v3_0_1 : w1.heap.size ≤ v3.heap.size + 1 := by omega
      have le_v3_0_2 : w1.heap.size ≤ v3.heap.size + 1 + 1 := by omega
      have le_v3_0_3 : w1.heap.size ≤ v3.heap.size + 1 + 1 + 1 := by omega
      have lu_v3_0_1 : w1.heap.size < v3.heap.size + 1 := by omega
      have lu_v3_0_2 : w1.heap.size < v3.heap.size + 1 + 1 := by omega
      have lu_v3_0_3 : w1.heap.size < v3.heap.size + 1 + 1 + 1 := by omega
      have lt_v3_0_0 : w1.heap.size < v3.heap.size := by omega
      have lt_v3_0_1 : w1.heap.size + 1 < v3.heap.size := by omega
      have le_v3_1_0 : w2.heap.size ≤ v3.heap.size := by omega
      have le_v3_1_1 : w2.heap.size ≤ v3.heap.size + 1 := by omega
      have le_v3_1_2 : w2.heap.size ≤ v3.heap.size + 1 + 1 := by omega
      have le_v3_1_3 : w2.heap.size ≤ v3.heap.size + 1 + 1 + 1 := by omega
      have lu_v3_1_1 : w2.heap.size < v3.heap.size + 1 := by omega
      have lu_v3_1_2 : w2.heap.size < v3.heap.size + 1 + 1 := by omega
      have lu_v3_1_3 : w2.heap.size < v3.heap.size + 1 + 1 + 1 := by omega
      have lt_v3_1_0 : w2.heap.size < v3.heap.size := by omega
      have lt_v3_1_1 : w2.heap.size + 1 < v3.heap.size := by omega
      have le_v3_2_0 : wo.heap.size ≤ v3.heap.size := by omega
      have le_v3_2_1 : wo.heap.size ≤ v3.heap.size + 1 := by omega
      have le_v3_2_2 : wo.heap.size ≤ v3.heap.size + 1 + 1 := by omega
      have le_v3_2_3 : wo.heap.size ≤ v3.heap.size + 1 + 1 + 1 := by omega
      have lu_v3_2_1 : wo.heap.size < v3.heap.size + 1 := by omega
      have lu_v3_2_2 : wo.heap.size < v3.heap.size + 1 + 1 := by omega
      have lu_v3_2_3 : wo.heap.size < v3.heap.size + 1 + 1 + 1 := by omega
      have lt_v3_2_0 : wo.heap.size < v3.heap.size := by omega
      clear hb_ hm_v3
      go_wp2_with fail
      refine (HK3.out _).mono ?_
      rintro e v4 ⟨rfl, hb_⟩
      have s_v4 := hb_.size
      try simp only [World.size_alloc] at s_v4
      have hm_v4 : Below v3.heap.size v3 v4 := hb_
      have q_v4 := hm_v4.size
      replace c_c_0 := below_cell hm_v4 c_c_0 (by omega)
      replace c_c_1 := below_cell hm_v4 c_c_1 (by omega)
      replace c_p_0 := below_cell hm_v4 c_p_0 (by omega)
      replace c_p_1 := below_cell hm_v4 c_p_1 (by omega)
      replace c_full_0 := below_cell hm_v4 c_full_0 (by omega)
      replace c_full_1 := below_cell hm_v4 c_full_1 (by omega)
      replace c_full_2 := below_cell hm_v4 c_full_2 (by omega)
      replace c_bad_0 := below_cell hm_v4 c_bad_0 (by omega)
      replace c_bad_1 := below_cell hm_v4 c_bad_1 (by omega)
      replace c_m_0 := below_cell hm_v4 c_m_0 (by omega)
      replace c_m_1 := below_cell hm_v4 c_m_1 (by omega)
      replace c_m_2 := below_cell hm_v4 c_m_2 (by omega)
      have H_v4 := Lib.hid (H_v3.out.trans (hm_v4.mono (by omega)))
      have le_v4_0_0 : w1.heap.size ≤ v4.heap.size := by omega
      have le_v4_0_1 : w1.heap.size ≤ v4.heap.size + 1 := by omega
      have le_v4_0_2 : w1.heap.size ≤ v4.heap.size + 1 + 1 := by omega
      have le_v4_0_3 : w1.heap.size ≤ v4.heap.size + 1 + 1 + 1 := by omega
      have lu_v4_0_1 : w1.heap.size < v4.heap.size + 1 := by omega
      have lu_v4_0_2 : w1.heap.size < v4.heap.size + 1 + 1 := by omega
      have lu_v4_0_3 : w1.heap.size < v4.heap.size + 1 + 1 + 1 := by omega
      have lt_v4_0_0 : w1.heap.size < v4.heap.size := by omega
      have lt_v4_0_1 : w1.heap.size + 1 < v4.heap.size := by omega
      have le_v4_1_0 : w2.heap.size ≤ v4.heap.size := by omega
      have le_v4_1_1 : w2.heap.size ≤ v4.heap.size + 1 := by omega
      have le_v4_1_2 : w2.heap.size ≤ v4.heap.size + 1 + 1 := by omega
      have le_v4_1_3 : w2.heap.size ≤ v4.heap.size + 1 + 1 + 1 := by omega
      have lu_v4_1_1 : w2.heap.size < v4.heap.size + 1 := by omega
      have lu_v4_1_2 : w2.heap.size < v4.heap.size + 1 + 1 := by omega
      have lu_v4_1_3 : w2.heap.size < v4.heap.size + 1 + 1 + 1 := by omega
      have lt_v4_1_0 : w2.heap.size < v4.heap.size := by omega
      have lt_v4_1_1 : w2.heap.size + 1 < v4.heap.size := by omega
      have le_v4_2_0 : wo.heap.size ≤ v4.heap.size := by omega
      have le_v4_2_1 : wo.heap.size ≤ v4.heap.size + 1 := by omega
      have le_v4_2_2 : wo.heap.size ≤ v4.heap.size + 1 + 1 := by omega
      have le_v4_2_3 : wo.heap.size ≤ v4.heap.size + 1 + 1 + 1 := by omega
      have lu_v4_2_1 : wo.heap.size < v4.heap.size + 1 := by omega
      have lu_v4_2_2 : wo.heap.size < v4.heap.size + 1 + 1 := by omega
      have lu_v4_2_3 : wo.heap.size < v4.heap.size + 1 + 1 + 1 := by omega
      have lt_v4_2_0 : wo.heap.size < v4.heap.size := by omega
      clear hb_ hm_v4
      go_wp2_with fail
      refine (HK4.out _).mono ?_
      rintro e v5 ⟨rfl, hb_⟩
      have s_v5 := hb_.size
      try simp only [World.size_alloc] at s_v5
      have hm_v5 : Below v4.heap.size v4 v5 := hb_
      have q_v5 := hm_v5.size
      replace c_c_0 := below_cell hm_v5 c_c_0 (by omega)
      replace c_c_1 := below_cell hm_v5 c_c_1 (by omega)
      replace c_p_0 := below_cell hm_v5 c_p_0 (by omega)
      replace c_p_1 := below_cell hm_v5 c_p_1 (by omega)
      replace c_full_0 := below_cell hm_v5 c_full_0 (by omega)
      replace c_full_1 := below_cell hm_v5 c_full_1 (by omega)
      replace c_full_2 := below_cell hm_v5 c_full_2 (by omega)
      replace c_bad_0 := below_cell hm_v5 c_bad_0 (by omega)
      replace c_bad_1 := below_cell hm_v5 c_bad_1 (by omega)
      replace c_m_0 := below_cell hm_v5 c_m_0 (by omega)
      replace c_m_1 := below_cell hm_v5 c_m_1 (by omega)
      replace c_m_2 := below_cell hm_v5 c_m_2 (by omega)
      have H_v5 := Lib.hid (H_v4.out.trans (hm_v5.mono (by omega)))
      have le_v5_0_0 : w1.heap.size ≤ v5.heap.size := by omega
      have le_v5_0_1 : w1.heap.size ≤ v5.heap.size + 1 := by omega
      have le_v5_0_2 : w1.heap.size ≤ v5.heap.size + 1 + 1 := by omega
      have le_v5_0_3 : w1.heap.size ≤ v5.heap.size + 1 + 1 + 1 := by omega
      have lu_v5_0_1 : w1.heap.size < v5.heap.size + 1 := by omega
      have lu_v5_0_2 : w1.heap.size < v5.heap.size + 1 + 1 := by omega
      have lu_v5_0_3 : w1.heap.size < v5.heap.size + 1 + 1 + 1 := by omega
      have lt_v5_0_0 : w1.heap.size < v5.heap.size := by omega
      have lt_v5_0_1 : w1.heap.size + 1 < v5.heap.size := by omega
      have le_v5_1_0 : w2.heap.size ≤ v5.heap.size := by omega
      have le_v5_1_1 : w2.heap.size ≤ v5.heap.size + 1 := by omega
      have le_v5_1_2 : w2.heap.size ≤ v5.heap.size + 1 + 1 := by omega
      have le_v5_1_3 : w2.heap.size ≤ v5.heap.size + 1 + 1 + 1 := by omega
      have lu_v5_1_1 : w2.heap.size < v5.heap.size + 1 := by omega
      have lu_v5_1_2 : w2.heap.size < v5.heap.size + 1 + 1 := by omega
      have lu_v5_1_3 : w2.heap.size < v5.heap.size + 1 + 1 + 1 := by omega
      have lt_v5_1_0 : w2.heap.size < v5.heap.size := by omega
      have lt_v5_1_1 : w2.heap.size + 1 < v5.heap.size := by omega
      have le_v5_2_0 : wo.heap.size ≤ v5.heap.size := by omega
      have le_v5_2_1 : wo.heap.size ≤ v5.heap.size + 1 := by omega
      have le_v5_2_2 : wo.heap.size ≤ v5.heap.size + 1 + 1 := by omega
      have le_v5_2_3 : wo.heap.size ≤ v5.heap.size + 1 + 1 + 1 := by omega
      have lu_v5_2_1 : wo.heap.size < v5.heap.size + 1 := by omega
      have lu_v5_2_2 : wo.heap.size < v5.heap.size + 1 + 1 := by omega
      have lu_v5_2_3 : wo.heap.size < v5.heap.size + 1 + 1 + 1 := by omega
      have lt_v5_2_0 : wo.heap.size < v5.heap.size := by omega
      clear hb_ hm_v5
      go_wp2_with fail
      go_roundw
      case rel => exact ⟨k + 1, by omega, by go_num, HR.out.trans (H_v5.out.mono lo)⟩
      case measure => simp [intOf]; omega
    · have c_c_0 := below_cell HR.out (HC.out.1) (by omega)
      have c_c_1 := below_cell HR.out (HC.out.2.1) (by omega)
      have c_p_0 := below_cell HR.out (HC.out.2.2.1) (by omega)
      have c_p_1 := below_cell HR.out (HC.out.2.2.2.1) (by omega)
      have c_full_0 := below_cell HR.out (HC.out.2.2.2.2.1) (by omega)
      have c_full_1 := below_cell HR.out (HC.out.2.2.2.2.2.1) (by omega)
      have c_full_2 := below_cell HR.out (HC.out.2.2.2.2.2.2.1) (by omega)
      have c_bad_0 := below_cell HR.out (HC.out.2.2.2.2.2.2.2.1) (by omega)
      have c_bad_1 := below_cell HR.out (HC.out.2.2.2.2.2.2.2.2) (by omega)
      have le_wo_0_0 : w1.heap.size ≤ wo.heap.size := by omega
      have le_wo_0_1 : w1.heap.size ≤ wo.heap.size + 1 := by omega
      have le_wo_0_2 : w1.heap.size ≤ wo.heap.size + 1 + 1 := by omega
      have le_wo_0_3 : w1.heap.size ≤ wo.heap.size + 1 + 1 + 1 := by omega
      have lu_wo_0_1 : w1.heap.size < wo.heap.size + 1 := by omega
      have lu_wo_0_2 : w1.heap.size < wo.heap.size + 1 + 1 := by omega
      have lu_wo_0_3 : w1.heap.size < wo.heap.size + 1 + 1 + 1 := by omega
      have lt_wo_0_0 : w1.heap.size < wo.heap.size := by omega
      have lt_wo_0_1 : w1.heap.size + 1 < wo.heap.size := by omega
      have le_wo_1_0 : w2.heap.size ≤ wo.heap.size := by omega
      have le_wo_1_1 : w2.heap.size ≤ wo.heap.size + 1 := by omega
      have le_wo_1_2 : w2.heap.size ≤ wo.heap.size + 1 + 1 := by omega
      have le_wo_1_3 : w2.heap.size ≤ wo.heap.size + 1 + 1 + 1 := by omega
      have lu_wo_1_1 : w2.heap.size < wo.heap.size + 1 := by omega
      have lu_wo_1_2 : w2.heap.size < wo.heap.size + 1 + 1 := by omega
      have lu_wo_1_3 : w2.heap.size < wo.heap.size + 1 + 1 + 1 := by omega
      have lt_wo_1_0 : w2.heap.size < wo.heap.size := by omega
      have lt_wo_1_1 : w2.heap.size + 1 < wo.heap.size := by omega
      go_wp2_with fail
      clear c_c_0 c_c_1 c_p_0 c_p_1 c_full_0 c_full_1 c_full_2 c_bad_0 c_bad_1
      go_loopw [90] (fun i wr => ∃ k : Nat, k ≤ 4 ∧ i = .int .i64 k ∧ Below wo.heap.size wo wr) (fun i _ => 4 - (intOf i).toNat)
      case atStart => exact ⟨0, by omega, rfl, Below.refl _ _⟩
      case round =>
        obtain ⟨j, hj, rfl, hbr⟩ := hrel
        obtain ⟨wp, rfl⟩ : ∃ wp : World, wp = wr := ⟨_, rfl⟩
        have HQ := Lib.hid (HR.out.trans (hbr.mono lo))
        have lp := hbr.size
        have HQ0 := Lib.hid hbr
        clear hbr
        by_cases hlt2 : j < 4
        · obtain ⟨xa, xs, hix, hm⟩ : ∃ xa xs : Int, (∀ W, (Instr.index 61 (.agg #[.int .i64 (-1), .int .i64 5, .int .i64 1099511627777, .int .i64 5, .int .i64 0, .int .i64 0, .int .i64 0, .int .i64 1048577]) (.int .i64 (j : Int))).run Try.prog W = .ok (.agg #[.int .i64 xa, .int .i64 xs]) W) ∧ (xa < 0 ∨ 1099511627776 < xa ∨ xs < 1 ∨ 1048576 < xs) := by
            have h4 : j = 0 ∨ j = 1 ∨ j = 2 ∨ j = 3 := by omega
            rcases h4 with rfl | rfl | rfl | rfl
            · exact ⟨(-1), 5, fun W => by kernel_rfl, by omega⟩
            · exact ⟨1099511627777, 5, fun W => by kernel_rfl, by omega⟩
            · exact ⟨0, 0, fun W => by kernel_rfl, by omega⟩
            · exact ⟨0, 1048577, fun W => by kernel_rfl, by omega⟩
          have c_c_0 := below_cell HQ.out (HC.out.1) (by omega)
          have c_c_1 := below_cell HQ.out (HC.out.2.1) (by omega)
          have c_p_0 := below_cell HQ.out (HC.out.2.2.1) (by omega)
          have c_p_1 := below_cell HQ.out (HC.out.2.2.2.1) (by omega)
          have c_full_0 := below_cell HQ.out (HC.out.2.2.2.2.1) (by omega)
          have c_full_1 := below_cell HQ.out (HC.out.2.2.2.2.2.1) (by omega)
          have c_full_2 := below_cell HQ.out (HC.out.2.2.2.2.2.2.1) (by omega)
          have c_bad_0 := below_cell HQ.out (HC.out.2.2.2.2.2.2.2.1) (by omega)
          have c_bad_1 := below_cell HQ.out (HC.out.2.2.2.2.2.2.2.2) (by omega)
          have le_wp_0_0 : w1.heap.size ≤ wp.heap.size := by omega
          have le_wp_0_1 : w1.heap.size ≤ wp.heap.size + 1 := by omega
          have le_wp_0_2 : w1.heap.size ≤ wp.heap.size + 1 + 1 := by omega
          have le_wp_0_3 : w1.heap.size ≤ wp.heap.size + 1 + 1 + 1 := by omega
          have lu_wp_0_1 : w1.heap.size < wp.heap.size + 1 := by omega
          have lu_wp_0_2 : w1.heap.size < wp.heap.size + 1 + 1 := by omega
          have lu_wp_0_3 : w1.heap.size < wp.heap.size + 1 + 1 + 1 := by omega
          have lt_wp_0_0 : w1.heap.size < wp.heap.size := by omega
          have lt_wp_0_1 : w1.heap.size + 1 < wp.heap.size := by omega
          have le_wp_1_0 : w2.heap.size ≤ wp.heap.size := by omega
          have le_wp_1_1 : w2.heap.size ≤ wp.heap.size + 1 := by omega
          have le_wp_1_2 : w2.heap.size ≤ wp.heap.size + 1 + 1 := by omega
          have le_wp_1_3 : w2.heap.size ≤ wp.heap.size + 1 + 1 + 1 := by omega
          have lu_wp_1_1 : w2.heap.size < wp.heap.size + 1 := by omega
          have lu_wp_1_2 : w2.heap.size < wp.heap.size + 1 + 1 := by omega
          have lu_wp_1_3 : w2.heap.size < wp.heap.size + 1 + 1 + 1 := by omega
          have lt_wp_1_0 : w2.heap.size < wp.heap.size := by omega
          have lt_wp_1_1 : w2.heap.size + 1 < wp.heap.size := by omega
          have HMA := Lib.hid (Mark_arg 100 131072 150 262144 0 104857600 157286400 xa xs (by decide) hm)
          clear hm
          go_wp2_with fail
          refine (HMA.out _).mono ?_
          rintro e v1 ⟨rfl, hb_⟩
          clear hix
          have s_v1 := hb_.size
          try simp only [World.size_alloc] at s_v1
          have hm_v1 : Below wp.heap.size wp v1 := Below.trans (b := (wp.alloc (.cells #[.int .i64 xa, .int .i64 xs] 60))) (by (repeat' (first | (with_reducible exact Below.refl _ _) | (with_reducible refine Below.alloc ?_ ?_ _) | (with_reducible refine Below.setCell ?_ ?_ _) | (with_reducible refine Below.drew ?_) | (with_reducible assumption) | omega | (simp; done) | (simp; omega)))) (hb_.mono (by first | (simp; done) | (simp; omega)))
          have q_v1 := hm_v1.size
          replace c_c_0 := below_cell hm_v1 c_c_0 (by omega)
          replace c_c_1 := below_cell hm_v1 c_c_1 (by omega)
          replace c_p_0 := below_cell hm_v1 c_p_0 (by omega)
          replace c_p_1 := below_cell hm_v1 c_p_1 (by omega)
          replace c_full_0 := below_cell hm_v1 c_full_0 (by omega)
          replace c_full_1 := below_cell hm_v1 c_full_1 (by omega)
          replace c_full_2 := below_cell hm_v1 c_full_2 (by omega)
          replace c_bad_0 := below_cell hm_v1 c_bad_0 (by omega)
          replace c_bad_1 := below_cell hm_v1 c_bad_1 (by omega)
          have c_x_0 : v1.cell? ⟨wp.heap.size, 0, none⟩ = some (.int .i64 xa) := by rw [(bcell hb_).1 _ _ (by first | (simp; done) | (simp; omega))]; simp [go_sem]
          have c_x_1 : v1.cell? ⟨wp.heap.size, 1, none⟩ = some (.int .i64 xs) := by rw [(bcell hb_).1 _ _ (by first | (simp; done) | (simp; omega))]; simp [go_sem]
          have H_v1 := Lib.hid hm_v1
          have le_v1_0_0 : w1.heap.size ≤ v1.heap.size := by omega
          have le_v1_0_1 : w1.heap.size ≤ v1.heap.size + 1 := by omega
          have le_v1_0_2 : w1.heap.size ≤ v1.heap.size + 1 + 1 := by omega
          have le_v1_0_3 : w1.heap.size ≤ v1.heap.size + 1 + 1 + 1 := by omega
          have lu_v1_0_1 : w1.heap.size < v1.heap.size + 1 := by omega
          have lu_v1_0_2 : w1.heap.size < v1.heap.size + 1 + 1 := by omega
          have lu_v1_0_3 : w1.heap.size < v1.heap.size + 1 + 1 + 1 := by omega
          have lt_v1_0_0 : w1.heap.size < v1.heap.size := by omega
          have lt_v1_0_1 : w1.heap.size + 1 < v1.heap.size := by omega
          have le_v1_1_0 : w2.heap.size ≤ v1.heap.size := by omega
          have le_v1_1_1 : w2.heap.size ≤ v1.heap.size + 1 := by omega
          have le_v1_1_2 : w2.heap.size ≤ v1.heap.size + 1 + 1 := by omega
          have le_v1_1_3 : w2.heap.size ≤ v1.heap.size + 1 + 1 + 1 := by omega
          have lu_v1_1_1 : w2.heap.size < v1.heap.size + 1 := by omega
          have lu_v1_1_2 : w2.heap.size < v1.heap.size + 1 + 1 := by omega
          have lu_v1_1_3 : w2.heap.size < v1.heap.size + 1 + 1 + 1 := by omega
          have lt_v1_1_0 : w2.heap.size < v1.heap.size := by omega
          have lt_v1_1_1 : w2.heap.size + 1 < v1.heap.size := by omega
          have le_v1_2_0 : wp.heap.size ≤ v1.heap.size := by omega
          have le_v1_2_1 : wp.heap.size ≤ v1.heap.size + 1 := by omega
          have le_v1_2_2 : wp.heap.size ≤ v1.heap.size + 1 + 1 := by omega
          have le_v1_2_3 : wp.heap.size ≤ v1.heap.size + 1 + 1 + 1 := by omega
          have lu_v1_2_1 : wp.heap.size < v1.heap.size + 1 := by omega
          have lu_v1_2_2 : wp.heap.size < v1.heap.size + 1 + 1 := by omega
          have lu_v1_2_3 : wp.heap.size < v1.heap.size + 1 + 1 + 1 := by omega
          have lt_v1_2_0 : wp.heap.size < v1.heap.size := by omega
          clear hb_ hm_v1
          go_wp2_with fail
          go_roundw
          case rel => exact ⟨j + 1, by omega, by go_num, (HQ0.out.trans (H_v1.out.mono lp)).alloc (by have := H_v1.out.size; omega) _⟩
          case measure => simp [intOf]; omega
        · have c_c_0 := below_cell HQ.out (HC.out.1) (by omega)
          have c_c_1 := below_cell HQ.out (HC.out.2.1) (by omega)
          have c_p_0 := below_cell HQ.out (HC.out.2.2.1) (by omega)
          have c_p_1 := below_cell HQ.out (HC.out.2.2.2.1) (by omega)
          have c_full_0 := below_cell HQ.out (HC.out.2.2.2.2.1) (by omega)
          have c_full_1 := below_cell HQ.out (HC.out.2.2.2.2.2.1) (by omega)
          have c_full_2 := below_cell HQ.out (HC.out.2.2.2.2.2.2.1) (by omega)
          have c_bad_0 := below_cell HQ.out (HC.out.2.2.2.2.2.2.2.1) (by omega)
          have c_bad_1 := below_cell HQ.out (HC.out.2.2.2.2.2.2.2.2) (by omega)
          have le_wp_0_0 : w1.heap.size ≤ wp.heap.size := by omega
          have le_wp_0_1 : w1.heap.size ≤ wp.heap.size + 1 := by omega
          have le_wp_0_2 : w1.heap.size ≤ wp.heap.size + 1 + 1 := by omega
          have le_wp_0_3 : w1.heap.size ≤ wp.heap.size + 1 + 1 + 1 := by omega
          have lu_wp_0_1 : w1.heap.size < wp.heap.size + 1 := by omega
          have lu_wp_0_2 : w1.heap.size < wp.heap.size + 1 + 1 := by omega
          have lu_wp_0_3 : w1.heap.size < wp.heap.size + 1 + 1 + 1 := by omega
          have lt_wp_0_0 : w1.heap.size < wp.heap.size := by omega
          have lt_wp_0_1 : w1.heap.size + 1 < wp.heap.size := by omega
          have le_wp_1_0 : w2.heap.size ≤ wp.heap.size := by omega
          have le_wp_1_1 : w2.heap.size ≤ wp.heap.size + 1 := by omega
          have le_wp_1_2 : w2.heap.size ≤ wp.heap.size + 1 + 1 := by omega
          have le_wp_1_3 : w2.heap.size ≤ wp.heap.size + 1 + 1 + 1 := by omega
          have lu_wp_1_1 : w2.heap.size < wp.heap.size + 1 := by omega
          have lu_wp_1_2 : w2.heap.size < wp.heap.size + 1 + 1 := by omega
          have lu_wp_1_3 : w2.heap.size < wp.heap.size + 1 + 1 + 1 := by omega
          have lt_wp_1_0 : w2.heap.size < wp.heap.size := by omega
          have lt_wp_1_1 : w2.heap.size + 1 < wp.heap.size := by omega
          go_wp2_with fail
          refine (Run_new 1 0 150 262144 none [] 0 (by decide) _).mono ?_
          rintro e v1 ⟨rfl, hb_⟩
          have s_v1 := hb_.size
          try simp only [World.size_alloc] at s_v1
          have hm_v1 : Below wp.heap.size wp v1 := hb_
          have q_v1 := hm_v1.size
          replace c_c_0 := below_cell hm_v1 c_c_0 (by omega)
          replace c_c_1 := below_cell hm_v1 c_c_1 (by omega)
          replace c_p_0 := below_cell hm_v1 c_p_0 (by omega)
          replace c_p_1 := below_cell hm_v1 c_p_1 (by omega)
          replace c_full_0 := below_cell hm_v1 c_full_0 (by omega)
          replace c_full_1 := below_cell hm_v1 c_full_1 (by omega)
          replace c_full_2 := below_cell hm_v1 c_full_2 (by omega)
          replace c_bad_0 := below_cell hm_v1 c_bad_0 (by omega)
          replace c_bad_1 := below_cell hm_v1 c_bad_1 (by omega)
          have H_v1 := Lib.hid hm_v1
          have le_v1_0_0 : w1.heap.size ≤ v1.heap.size := by omega
          have le_v1_0_1 : w1.heap.size ≤ v1.heap.size + 1 := by omega
          have le_v1_0_2 : w1.heap.size ≤ v1.heap.size + 1 + 1 := by omega
          have le_v1_0_3 : w1.heap.size ≤ v1.heap.size + 1 + 1 + 1 := by omega
          have lu_v1_0_1 : w1.heap.size < v1.heap.size + 1 := by omega
          have lu_v1_0_2 : w1.heap.size < v1.heap.size + 1 + 1 := by omega
          have lu_v1_0_3 : w1.heap.size < v1.heap.size + 1 + 1 + 1 := by omega
          have lt_v1_0_0 : w1.heap.size < v1.heap.size := by omega
          have lt_v1_0_1 : w1.heap.size + 1 < v1.heap.size := by omega
          have le_v1_1_0 : w2.heap.size ≤ v1.heap.size := by omega
          have le_v1_1_1 : w2.heap.size ≤ v1.heap.size + 1 := by omega
          have le_v1_1_2 : w2.heap.size ≤ v1.heap.size + 1 + 1 := by omega
          have le_v1_1_3 : w2.heap.size ≤ v1.heap.size + 1 + 1 + 1 := by omega
          have lu_v1_1_1 : w2.heap.size < v1.heap.size + 1 := by omega
          have lu_v1_1_2 : w2.heap.size < v1.heap.size + 1 + 1 := by omega
          have lu_v1_1_3 : w2.heap.size < v1.heap.size + 1 + 1 + 1 := by omega
          have lt_v1_1_0 : w2.heap.size < v1.heap.size := by omega
          have lt_v1_1_1 : w2.heap.size + 1 < v1.heap.size := by omega
          clear hb_ hm_v1
          have R2 := fun W => Run_new 150 262144 100 131072 (some ⟨v1.heap.size, 0, none⟩) [(0, 0)] 1 (by decide) W
          have HR2 := Lib.hid R2
          clear R2
          go_wp2_with fail
          refine (HR2.out _).mono ?_
          rintro e v2 ⟨rfl, hb_⟩
          have s_v2 := hb_.size
          try simp only [World.size_alloc] at s_v2
          have hm_v2 : Below v1.heap.size v1 v2 := Below.trans (b := (v1.alloc (.cells #[.int .i64 0, .int .i64 0] 33))) (by (repeat' (first | (with_reducible exact Below.refl _ _) | (with_reducible refine Below.alloc ?_ ?_ _) | (with_reducible refine Below.setCell ?_ ?_ _) | (with_reducible refine Below.drew ?_) | (with_reducible assumption) | omega | (simp; done) | (simp; omega)))) (hb_.mono (by first | (simp; done) | (simp; omega)))
          have q_v2 := hm_v2.size
          replace c_c_0 := below_cell hm_v2 c_c_0 (by omega)
          replace c_c_1 := below_cell hm_v2 c_c_1 (by omega)
          replace c_p_0 := below_cell hm_v2 c_p_0 (by omega)
          replace c_p_1 := below_cell hm_v2 c_p_1 (by omega)
          replace c_full_0 := below_cell hm_v2 c_full_0 (by omega)
          replace c_full_1 := below_cell hm_v2 c_full_1 (by omega)
          replace c_full_2 := below_cell hm_v2 c_full_2 (by omega)
          replace c_bad_0 := below_cell hm_v2 c_bad_0 (by omega)
          replace c_bad_1 := below_cell hm_v2 c_bad_1 (by omega)
          have H_v2 := Lib.hid (H_v1.out.trans (hm_v2.mono (by omega)))
          have le_v2_0_0 : w1.heap.size ≤ v2.heap.size := by omega
          have le_v2_0_1 : w1.heap.size ≤ v2.heap.size + 1 := by omega
          have le_v2_0_2 : w1.heap.size ≤ v2.heap.size + 1 + 1 := by omega
          have le_v2_0_3 : w1.heap.size ≤ v2.heap.size + 1 + 1 + 1 := by omega
          have lu_v2_0_1 : w1.heap.size < v2.heap.size + 1 := by omega
          have lu_v2_0_2 : w1.heap.size < v2.heap.size + 1 + 1 := by omega
          have lu_v2_0_3 : w1.heap.size < v2.heap.size + 1 + 1 + 1 := by omega
          have lt_v2_0_0 : w1.heap.size < v2.heap.size := by omega
          have lt_v2_0_1 : w1.heap.size + 1 < v2.heap.size := by omega
          have le_v2_1_0 : w2.heap.size ≤ v2.heap.size := by omega
          have le_v2_1_1 : w2.heap.size ≤ v2.heap.size + 1 := by omega
          have le_v2_1_2 : w2.heap.size ≤ v2.heap.size + 1 + 1 := by omega
          have le_v2_1_3 : w2.heap.size ≤ v2.heap.size + 1 + 1 + 1 := by omega
          have lu_v2_1_1 : w2.heap.size < v2.heap.size + 1 := by omega
          have lu_v2_1_2 : w2.heap.size < v2.heap.size + 1 + 1 := by omega
          have lu_v2_1_3 : w2.heap.size < v2.heap.size + 1 + 1 + 1 := by omega
          have lt_v2_1_0 : w2.heap.size < v2.heap.size := by omega
          have lt_v2_1_1 : w2.heap.size + 1 < v2.heap.size := by omega
          clear hb_ hm_v2
          have A3 := arr_new v2 [(0, 0)] #[.int .i64 0, .int .i64 0] 33 (one_ (P := fun i x => _ ∧ _) ⟨rfl, rfl⟩)
          have R3 := Run_trace 100 131072 150 262144 _ [(0, 0)] 1 _ (A3.of_lt (by simp)) (by simp) (by decide) (by decide)
          have HR3 := Lib.hid R3
          clear R3 A3
          go_wp2_with fail
          refine (HR3.out).mono ?_
          rintro e v3 ⟨rfl, hb_⟩
          have s_v3 := hb_.size
          try simp only [World.size_alloc] at s_v3
          have hm_v3 : Below v2.heap.size v2 v3 := Below.trans (b := (v2.alloc (.cells #[.int .i64 0, .int .i64 0] 33))) (by (repeat' (first | (with_reducible exact Below.refl _ _) | (with_reducible refine Below.alloc ?_ ?_ _) | (with_reducible refine Below.setCell ?_ ?_ _) | (with_reducible refine Below.drew ?_) | (with_reducible assumption) | omega | (simp; done) | (simp; omega)))) (hb_.mono (by first | (simp; done) | (simp; omega)))
          have q_v3 := hm_v3.size
          replace c_c_0 := below_cell hm_v3 c_c_0 (by omega)
          replace c_c_1 := below_cell hm_v3 c_c_1 (by omega)
          replace c_p_0 := below_cell hm_v3 c_p_0 (by omega)
          replace c_p_1 := below_cell hm_v3 c_p_1 (by omega)
          replace c_full_0 := below_cell hm_v3 c_full_0 (by omega)
          replace c_full_1 := below_cell hm_v3 c_full_1 (by omega)
          replace c_full_2 := below_cell hm_v3 c_full_2 (by omega)
          replace c_bad_0 := below_cell hm_v3 c_bad_0 (by omega)
          replace c_bad_1 := below_cell hm_v3 c_bad_1 (by omega)
          have H_v3 := Lib.hid (H_v2.out.trans (hm_v3.mono (by omega)))
          have le_v3_0_0 : w1.heap.size ≤ v3.heap.size := by omega
          have le_v3_0_1 : w1.heap.size ≤ v3.heap.size + 1 := by omega
          have le_v3_0_2 : w1.heap.size ≤ v3.heap.size + 1 + 1 := by omega
          have le_v3_0_3 : w1.heap.size ≤ v3.heap.size + 1 + 1 + 1 := by omega
          have lu_v3_0_1 : w1.heap.size < v3.heap.size + 1 := by omega
          have lu_v3_0_2 : w1.heap.size < v3.heap.size + 1 + 1 := by omega
          have lu_v3_0_3 : w1.heap.size < v3.heap.size + 1 + 1 + 1 := by omega
          have lt_v3_0_0 : w1.heap.size < v3.heap.size := by omega
          have lt_v3_0_1 : w1.heap.size + 1 < v3.heap.size := by omega
          have le_v3_1_0 : w2.heap.size ≤ v3.heap.size := by omega
          have le_v3_1_1 : w2.heap.size ≤ v3.heap.size + 1 := by omega
          have le_v3_1_2 : w2.heap.size ≤ v3.heap.size + 1 + 1 := by omega
          have le_v3_1_3 : w2.heap.size ≤ v3.heap.size + 1 + 1 + 1 := by omega
          have lu_v3_1_1 : w2.heap.size < v3.heap.size + 1 := by omega
          have lu_v3_1_2 : w2.heap.size < v3.heap.size + 1 + 1 := by omega
          have lu_v3_1_3 : w2.heap.size < v3.heap.size + 1 + 1 + 1 := by omega
          have lt_v3_1_0 : w2.heap.size < v3.heap.size := by omega
          have lt_v3_1_1 : w2.heap.size + 1 < v3.heap.size := by omega
          clear hb_ hm_v3
          go_wp2_with fail
          refine (Mark_late _).mono ?_
          rintro e v4 ⟨rfl, hb_⟩
          have s_v4 := hb_.size
          try simp only [World.size_alloc] at s_v4
          have hm_v4 : Below v3.heap.size v3 v4 := hb_
          have q_v4 := hm_v4.size
          replace c_c_0 := below_cell hm_v4 c_c_0 (by omega)
          replace c_c_1 := below_cell hm_v4 c_c_1 (by omega)
          replace c_p_0 := below_cell hm_v4 c_p_0 (by omega)
          replace c_p_1 := below_cell hm_v4 c_p_1 (by omega)
          replace c_full_0 := below_cell hm_v4 c_full_0 (by omega)
          replace c_full_1 := below_cell hm_v4 c_full_1 (by omega)
          replace c_full_2 := below_cell hm_v4 c_full_2 (by omega)
          replace c_bad_0 := below_cell hm_v4 c_bad_0 (by omega)
          replace c_bad_1 := below_cell hm_v4 c_bad_1 (by omega)
          have H_v4 := Lib.hid (H_v3.out.trans (hm_v4.mono (by omega)))
          have le_v4_0_0 : w1.heap.size ≤ v4.heap.size := by omega
          have le_v4_0_1 : w1.heap.size ≤ v4.heap.size + 1 := by omega
          have le_v4_0_2 : w1.heap.size ≤ v4.heap.size + 1 + 1 := by omega
          have le_v4_0_3 : w1.heap.size ≤ v4.heap.size + 1 + 1 + 1 := by omega
          have lu_v4_0_1 : w1.heap.size < v4.heap.size + 1 := by omega
          have lu_v4_0_2 : w1.heap.size < v4.heap.size + 1 + 1 := by omega
          have lu_v4_0_3 : w1.heap.size < v4.heap.size + 1 + 1 + 1 := by omega
          have lt_v4_0_0 : w1.heap.size < v4.heap.size := by omega
          have lt_v4_0_1 : w1.heap.size + 1 < v4.heap.size := by omega
          have le_v4_1_0 : w2.heap.size ≤ v4.heap.size := by omega
          have le_v4_1_1 : w2.heap.size ≤ v4.heap.size + 1 := by omega
          have le_v4_1_2 : w2.heap.size ≤ v4.heap.size + 1 + 1 := by omega
          have le_v4_1_3 : w2.heap.size ≤ v4.heap.size + 1 + 1 + 1 := by omega
          have lu_v4_1_1 : w2.heap.size < v4.heap.size + 1 := by omega
          have lu_v4_1_2 : w2.heap.size < v4.heap.size + 1 + 1 := by omega
          have lu_v4_1_3 : w2.heap.size < v4.heap.size + 1 + 1 + 1 := by omega
          have lt_v4_1_0 : w2.heap.size < v4.heap.size := by omega
          have lt_v4_1_1 : w2.heap.size + 1 < v4.heap.size := by omega
          clear hb_ hm_v4
          go_wp2_with fail
          refine (works_any _).mono ?_
          rintro e v5 ⟨rfl, hb_⟩
          have s_v5 := hb_.size
          try simp only [World.size_alloc] at s_v5
          have hm_v5 : Below v4.heap.size v4 v5 := Below.trans (b := (v4.alloc (.cells #[.int .i64 1099511627776, .int .i64 0, .int .i64 52428800] 31))) (by (repeat' (first | (with_reducible exact Below.refl _ _) | (with_reducible refine Below.alloc ?_ ?_ _) | (with_reducible refine Below.setCell ?_ ?_ _) | (with_reducible refine Below.drew ?_) | (with_reducible assumption) | omega | (simp; done) | (simp; omega)))) (hb_.mono (by first | (simp; done) | (simp; omega)))
          have q_v5 := hm_v5.size
          replace c_c_0 := below_cell hm_v5 c_c_0 (by omega)
          replace c_c_1 := below_cell hm_v5 c_c_1 (by omega)
          replace c_p_0 := below_cell hm_v5 c_p_0 (by omega)
          replace c_p_1 := below_cell hm_v5 c_p_1 (by omega)
          replace c_full_0 := below_cell hm_v5 c_full_0 (by omega)
          replace c_full_1 := below_cell hm_v5 c_full_1 (by omega)
          replace c_full_2 := below_cell hm_v5 c_full_2 (by omega)
          replace c_bad_0 := below_cell hm_v5 c_bad_0 (by omega)
          replace c_bad_1 := below_cell hm_v5 c_bad_1 (by omega)
          have c_late_0 : v5.cell? ⟨v4.heap.size, 0, none⟩ = some (.int .i64 1099511627776) := by rw [(bcell hb_).1 _ _ (by first | (simp; done) | (simp; omega))]; simp [go_sem]
          have c_late_1 : v5.cell? ⟨v4.heap.size, 1, none⟩ = some (.int .i64 0) := by rw [(bcell hb_).1 _ _ (by first | (simp; done) | (simp; omega))]; simp [go_sem]
          have c_late_2 : v5.cell? ⟨v4.heap.size, 2, none⟩ = some (.int .i64 52428800) := by rw [(bcell hb_).1 _ _ (by first | (simp; done) | (simp; omega))]; simp [go_sem]
          have H_v5 := Lib.hid (H_v4.out.trans (hm_v5.mono (by omega)))
          have le_v5_0_0 : w1.heap.size ≤ v5.heap.size := by omega
          have le_v5_0_1 : w1.heap.size ≤ v5.heap.size + 1 := by omega
          have le_v5_0_2 : w1.heap.size ≤ v5.heap.size + 1 + 1 := by omega
          have le_v5_0_3 : w1.heap.size ≤ v5.heap.size + 1 + 1 + 1 := by omega
          have lu_v5_0_1 : w1.heap.size < v5.heap.size + 1 := by omega
          have lu_v5_0_2 : w1.heap.size < v5.heap.size + 1 + 1 := by omega
          have lu_v5_0_3 : w1.heap.size < v5.heap.size + 1 + 1 + 1 := by omega
          have lt_v5_0_0 : w1.heap.size < v5.heap.size := by omega
          have lt_v5_0_1 : w1.heap.size + 1 < v5.heap.size := by omega
          have le_v5_1_0 : w2.heap.size ≤ v5.heap.size := by omega
          have le_v5_1_1 : w2.heap.size ≤ v5.heap.size + 1 := by omega
          have le_v5_1_2 : w2.heap.size ≤ v5.heap.size + 1 + 1 := by omega
          have le_v5_1_3 : w2.heap.size ≤ v5.heap.size + 1 + 1 + 1 := by omega
          have lu_v5_1_1 : w2.heap.size < v5.heap.size + 1 := by omega
          have lu_v5_1_2 : w2.heap.size < v5.heap.size + 1 + 1 := by omega
          have lu_v5_1_3 : w2.heap.size < v5.heap.size + 1 + 1 + 1 := by omega
          have lt_v5_1_0 : w2.heap.size < v5.heap.size := by omega
          have lt_v5_1_1 : w2.heap.size + 1 < v5.heap.size := by omega
          have le_v5_2_0 : v4.heap.size ≤ v5.heap.size := by omega
          have le_v5_2_1 : v4.heap.size ≤ v5.heap.size + 1 := by omega
          have le_v5_2_2 : v4.heap.size ≤ v5.heap.size + 1 + 1 := by omega
          have le_v5_2_3 : v4.heap.size ≤ v5.heap.size + 1 + 1 + 1 := by omega
          have lu_v5_2_1 : v4.heap.size < v5.heap.size + 1 := by omega
          have lu_v5_2_2 : v4.heap.size < v5.heap.size + 1 + 1 := by omega
          have lu_v5_2_3 : v4.heap.size < v5.heap.size + 1 + 1 + 1 := by omega
          have lt_v5_2_0 : v4.heap.size < v5.heap.size := by omega
          clear hb_ hm_v5
          go_wp2_with fail
          refine (runs_nil _).mono ?_
          rintro e v6 ⟨rfl, hb_⟩
          have s_v6 := hb_.size
          try simp only [World.size_alloc] at s_v6
          have hm_v6 : Below v5.heap.size v5 v6 := hb_
          have q_v6 := hm_v6.size
          replace c_c_0 := below_cell hm_v6 c_c_0 (by omega)
          replace c_c_1 := below_cell hm_v6 c_c_1 (by omega)
          replace c_p_0 := below_cell hm_v6 c_p_0 (by omega)
          replace c_p_1 := below_cell hm_v6 c_p_1 (by omega)
          replace c_full_0 := below_cell hm_v6 c_full_0 (by omega)
          replace c_full_1 := below_cell hm_v6 c_full_1 (by omega)
          replace c_full_2 := below_cell hm_v6 c_full_2 (by omega)
          replace c_bad_0 := below_cell hm_v6 c_bad_0 (by omega)
          replace c_bad_1 := below_cell hm_v6 c_bad_1 (by omega)
          replace c_late_0 := below_cell hm_v6 c_late_0 (by omega)
          replace c_late_1 := below_cell hm_v6 c_late_1 (by omega)
          replace c_late_2 := below_cell hm_v6 c_late_2 (by omega)
          have H_v6 := Lib.hid (H_v5.out.trans (hm_v6.mono (by omega)))
          have le_v6_0_0 : w1.heap.size ≤ v6.heap.size := by omega
          have le_v6_0_1 : w1.heap.size ≤ v6.heap.size + 1 := by omega
          have le_v6_0_2 : w1.heap.size ≤ v6.heap.size + 1 + 1 := by omega
          have le_v6_0_3 : w1.heap.size ≤ v6.heap.size + 1 + 1 + 1 := by omega
          have lu_v6_0_1 : w1.heap.size < v6.heap.size + 1 := by omega
          have lu_v6_0_2 : w1.heap.size < v6.heap.size + 1 + 1 := by omega
          have lu_v6_0_3 : w1.heap.size < v6.heap.size + 1 + 1 + 1 := by omega
          have lt_v6_0_0 : w1.heap.size < v6.heap.size := by omega
          have lt_v6_0_1 : w1.heap.size + 1 < v6.heap.size := by omega
          have le_v6_1_0 : w2.heap.size ≤ v6.heap.size := by omega
          have le_v6_1_1 : w2.heap.size ≤ v6.heap.size + 1 := by omega
          have le_v6_1_2 : w2.heap.size ≤ v6.heap.size + 1 + 1 := by omega
          have le_v6_1_3 : w2.heap.size ≤ v6.heap.size + 1 + 1 + 1 := by omega
          have lu_v6_1_1 : w2.heap.size < v6.heap.size + 1 := by omega
          have lu_v6_1_2 : w2.heap.size < v6.heap.size + 1 + 1 := by omega
          have lu_v6_1_3 : w2.heap.size < v6.heap.size + 1 + 1 + 1 := by omega
          have lt_v6_1_0 : w2.heap.size < v6.heap.size := by omega
          have lt_v6_1_1 : w2.heap.size + 1 < v6.heap.size := by omega
          have le_v6_2_0 : v4.heap.size ≤ v6.heap.size := by omega
          have le_v6_2_1 : v4.heap.size ≤ v6.heap.size + 1 := by omega
          have le_v6_2_2 : v4.heap.size ≤ v6.heap.size + 1 + 1 := by omega
          have le_v6_2_3 : v4.heap.size ≤ v6.heap.size + 1 + 1 + 1 := by omega
          have lu_v6_2_1 : v4.heap.size < v6.heap.size + 1 := by omega
          have lu_v6_2_2 : v4.heap.size < v6.heap.size + 1 + 1 := by omega
          have lu_v6_2_3 : v4.heap.size < v6.heap.size + 1 + 1 + 1 := by omega
          have lt_v6_2_0 : v4.heap.size < v6.heap.size := by omega
          clear hb_ hm_v6
          have R7 := runs_four v6
          have HR7 := Lib.hid R7
          clear R7
          go_wp2_with fail
          refine HR7.out.mono ?_
          rintro e v7 ⟨rfl, hb_⟩
          have HZ := Lib.hid hb_
          clear hb_
          go_wp2_with fail
          go_ret
          have l0 := H_W3.out.size
          have l1 := HQ.out.size
          have l2 := H_v6.out.size
          exact ⟨rfl, H_W3.out.trans ((HQ.out.mono l0).trans ((H_v6.out.mono (by omega)).trans (HZ.out.mono (by omega))))⟩
end MtW
end Go.Proofs.Ytgpknoakkkkapaa
