/- Shaping: the examples. -/
import Derived.Test.YtpglhjgpjnapgaaSpK
import Derived.Test.YtpglhjgpjnapgaaSame
namespace Go.Proofs.Ytpglhjgpjnapgaa
set_option linter.unusedSimpArgs false
set_option linter.unusedVariables false
open Go.RowKit
namespace SpW
/-- Run of a valid trace whose times are all in range. -/
theorem Run_good (b r : Int) (A : Option Addr) (k : List (Int × Int)) (cap : Nat) (ho : Bk.ok b r = true) (hok : Tr.ok k = true) (hz : ∀ x ∈ k, x.2 ≤ b) (ht : ∀ t ∈ Sp.run b r 0 (b * 1048576) k, t ≤ 1099511627776) (w : World) (hA : Tr.Arr w w.heap.size A k) :
    Calls Try.prog 17 #[.agg #[.int .i64 b, .int .i64 r], .slice A k.length cap] w fun e w' => (∃ A' cap', e = .returned (.tuple #[.slice A' k.length cap', .int .i64 0]) ∧ Tr.Ints w' w'.heap.size A' (Sp.run b r 0 (b * 1048576) k)) ∧ Below w.heap.size w w' :=
  (Run_range b r A k cap ho hok hz w hA).mono fun e w' ⟨⟨v, E, he, h⟩, hb⟩ => by
    rcases h with ⟨rfl, _, ho⟩ | ⟨_, ⟨t, h1, h2⟩, _⟩
    · obtain ⟨A', cap', rfl, hI⟩ := SmW.own_slice ho
      exact ⟨⟨A', cap', he, hI⟩, hb⟩
    · have := ht t h1; omega
theorem Run_big (b r : Int) (A : Option Addr) (k : List (Int × Int)) (cap : Nat) (ho : Bk.ok b r = true) (hok : Tr.ok k = true) (hz : ∀ x ∈ k, x.2 ≤ b) (ht : ∃ t ∈ Sp.run b r 0 (b * 1048576) k, 1099511627776 < t) (w : World) (hA : Tr.Arr w w.heap.size A k) :
    Calls Try.prog 17 #[.agg #[.int .i64 b, .int .i64 r], .slice A k.length cap] w fun e w' => e = .returned (.tuple #[.slice none 0 0, .int .i64 6]) ∧ Below w.heap.size w w' :=
  (Run_range b r A k cap ho hok hz w hA).mono fun e w' ⟨⟨v, E, he, h⟩, hb⟩ => by
    rcases h with ⟨_, h1, _⟩ | ⟨rfl, _, rfl⟩
    · obtain ⟨t, h2, h3⟩ := ht
      have := h1 t h2; omega
    · exact ⟨he, hb⟩
set_option maxHeartbeats 1000000 in
theorem runs_any (b r : Int) (A : Option Addr) (k : List (Int × Int)) (cap : Nat) (B : Option Addr) (want : List Int) (capw : Nat) (w : World) (ho : Bk.ok b r = true) (hok : Tr.ok k = true) (hz : ∀ x ∈ k, x.2 ≤ b) (ht : ∀ t ∈ Sp.run b r 0 (b * 1048576) k, t ≤ 1099511627776) (hA : Tr.Arr w w.heap.size A k) (hB : Tr.Ints w w.heap.size B want) :
    Calls Try.prog 20 #[.agg #[.int .i64 b, .int .i64 r], .slice A k.length cap, .slice B want.length capw] w fun e w' => e = .returned (.bool (decide (Sp.run b r 0 (b * 1048576) k = want))) ∧ Below w.heap.size w w' := by
  have R := Lib.hid (fun W hA => Run_good b r A k cap ho hok hz ht W hA)
  have hl := Sp.run_length b r k 0 (b * 1048576)
  have h200 : k.length ≤ 200 := by unfold Tr.ok at hok; rw [Bool.and_eq_true, decide_eq_true_iff] at hok; exact hok.1
  have HL := Lib.hid hl
  have HA := Lib.hid hA
  have HB := Lib.hid hB
  clear hA hB ho hok hz ht hl
  generalize Sp.run b r 0 (b * 1048576) k = rr at *
  go_enter Try.func20, Try.ntmps20
  go_wp2_with fail
  have hb : Below w.heap.size w (w.alloc (.cells #[.int .i64 b, .int .i64 r] 23)) := by (repeat' (first | (with_reducible exact Below.refl _ _) | (with_reducible refine Below.alloc ?_ ?_ _) | (with_reducible refine Below.setCell ?_ ?_ _) | (with_reducible refine Below.drew ?_) | (with_reducible assumption) | omega | (simp; done) | (simp; omega)))
  refine (R.out _ (Tr.Arr.of_lt (HA.out.below hb) hb.size)).mono ?_
  rintro e w1 ⟨⟨A', cap', rfl, hI⟩, hb1⟩
  have hb2 := hb.trans (hb1.mono hb.size)
  have S := SmW.Same_any A' rr cap' B want capw w1 hI (Tr.Ints.of_lt (HB.out.below hb2) hb2.size) (by rw [HL.out]; omega)
  rw [HL.out] at S
  obtain ⟨d, hd⟩ : ∃ d, decide (rr = want) = d := ⟨_, rfl⟩
  rw [hd] at S
  have HD := Lib.hid hd
  have SS := Lib.hid S
  have HB2 := Lib.hid hb2
  clear S hd hI hb1 hb2 hb
  go_wp2_with fail
  refine SS.out.mono ?_
  rintro e w2 ⟨rfl, hb⟩
  go_wp2_with fail
  go_ret
  exact ⟨ret_bool HD.out.symm, HB2.out.trans (hb.mono HB2.out.size)⟩
theorem chapter_any (w : World) : Calls Try.prog 19 #[] w fun e w' => e = .returned (.agg #[.int .i64 100, .int .i64 131072]) ∧ Below w.heap.size w w' := by
  go_enter Try.func19, Try.ntmps19
  go_wp2_with fail
  exact bodyPost_ret (v := .agg #[.int .i64 100, .int .i64 131072]) (by simp [results, Try.results19, go_sem]) rfl ⟨rfl, by (repeat' (first | (with_reducible exact Below.refl _ _) | (with_reducible refine Below.alloc ?_ ?_ _) | (with_reducible refine Below.setCell ?_ ?_ _) | (with_reducible refine Below.drew ?_) | (with_reducible assumption) | omega | (simp; done) | (simp; omega)))⟩
theorem New_ex (w : World) : Calls Try.prog 9 #[.agg #[.int .i64 100, .int .i64 131072]] w fun e w' => e = .returned (.tuple #[.agg #[.int .i64 0, .int .i64 104857600], .int .i64 0]) ∧ Below w.heap.size w w' := New_any 100 131072 w
theorem Elig_ex0 (w : World) : Calls Try.prog 13 #[.agg #[.int .i64 100, .int .i64 131072], .agg #[.int .i64 0, .int .i64 104857600], .int .i64 5, .int .i64 100] w fun e w' => e = .returned (.tuple #[.int .i64 5, .agg #[.int .i64 5, .int .i64 0], .int .i64 0]) ∧ Below w.heap.size w w' := Elig_any 100 131072 0 104857600 5 100 w
theorem Elig_ex1 (w : World) : Calls Try.prog 13 #[.agg #[.int .i64 100, .int .i64 131072], .agg #[.int .i64 5, .int .i64 0], .int .i64 5, .int .i64 1] w fun e w' => e = .returned (.tuple #[.int .i64 13, .agg #[.int .i64 13, .int .i64 0], .int .i64 0]) ∧ Below w.heap.size w w' := Elig_any 100 131072 5 0 5 1 w
theorem Elig_ex2 (w : World) : Calls Try.prog 13 #[.agg #[.int .i64 100, .int .i64 131072], .agg #[.int .i64 13, .int .i64 0], .int .i64 20, .int .i64 2] w fun e w' => e = .returned (.tuple #[.int .i64 29, .agg #[.int .i64 29, .int .i64 0], .int .i64 0]) ∧ Below w.heap.size w w' := Elig_any 100 131072 13 0 20 2 w
theorem Elig_ex3 (w : World) : Calls Try.prog 13 #[.agg #[.int .i64 100, .int .i64 131072], .agg #[.int .i64 29, .int .i64 0], .int .i64 1000, .int .i64 100] w fun e w' => e = .returned (.tuple #[.int .i64 1000, .agg #[.int .i64 1000, .int .i64 0], .int .i64 0]) ∧ Below w.heap.size w w' := Elig_any 100 131072 29 0 1000 100 w
theorem Elig_ex4 (w : World) : Calls Try.prog 13 #[.agg #[.int .i64 100, .int .i64 131072], .agg #[.int .i64 1000, .int .i64 0], .int .i64 1000, .int .i64 101] w fun e w' => e = .returned (.tuple #[.int .i64 0, .agg #[.int .i64 0, .int .i64 0], .int .i64 4]) ∧ Below w.heap.size w w' := Elig_any 100 131072 1000 0 1000 101 w
theorem Elig_ex5 (w : World) : Calls Try.prog 13 #[.agg #[.int .i64 100, .int .i64 131072], .agg #[.int .i64 1099511627776, .int .i64 0], .int .i64 1099511627776, .int .i64 100] w fun e w' => e = .returned (.tuple #[.int .i64 0, .agg #[.int .i64 0, .int .i64 0], .int .i64 6]) ∧ Below w.heap.size w w' := Elig_any 100 131072 1099511627776 0 1099511627776 100 w
theorem arr_lit (w : World) (l : List (Int × Int)) (cs : Array Value) (t : TypeId) (hcs : cs.toList = Mem.arrs l) : Tr.Arr (w.alloc (.cells cs t)) (w.heap.size + 1) (some ⟨w.heap.size, 0, none⟩) l := Mem.row_arr (hcs ▸ Mem.Row.new w cs t)
theorem ints_lit (w : World) (l : List Int) (cs : Array Value) (t : TypeId) (hcs : cs.toList = Mem.ints l) : Tr.Ints (w.alloc (.cells cs t)) (w.heap.size + 1) (some ⟨w.heap.size, 0, none⟩) l := fun i x hx => by
  obtain ⟨ad, e, h1, h2⟩ := (Mem.Row.new w cs t) i (.int .i64 x) (by rw [hcs]; simp [Mem.ints, hx])
  exact ⟨ad, e, h1, h2⟩
theorem runs_new (w : World) : Calls Try.prog 20 #[.agg #[.int .i64 100, .int .i64 131072], .slice (some ⟨w.heap.size, 0, none⟩) 3 3, .slice (some ⟨w.heap.size + 1, 0, none⟩) 3 3] ((w.alloc (.cells #[.int .i64 0, .int .i64 60, .int .i64 0, .int .i64 60, .int .i64 100, .int .i64 40] 31)).alloc (.cells #[.int .i64 0, .int .i64 160, .int .i64 480] 3)) fun e w' => e = .returned (.bool true) ∧ Below w.heap.size w w' := by
  have hr : Sp.run 100 131072 0 (100 * 1048576) [(0, 60), (0, 60), (100, 40)] = [0, 160, 480] := by decide
  have A1 := arr_lit w [(0, 60), (0, 60), (100, 40)] #[.int .i64 0, .int .i64 60, .int .i64 0, .int .i64 60, .int .i64 100, .int .i64 40] 31 rfl
  have I1 := ints_lit (w.alloc (.cells #[.int .i64 0, .int .i64 60, .int .i64 0, .int .i64 60, .int .i64 100, .int .i64 40] 31)) [0, 160, 480] #[.int .i64 0, .int .i64 160, .int .i64 480] 3 rfl
  have A2 := (A1.below ((Below.refl _ _).alloc (by simp) (.cells #[.int .i64 0, .int .i64 160, .int .i64 480] 3)))
  have sz : ((w.alloc (.cells #[.int .i64 0, .int .i64 60, .int .i64 0, .int .i64 60, .int .i64 100, .int .i64 40] 31)).alloc (.cells #[.int .i64 0, .int .i64 160, .int .i64 480] 3)).heap.size = w.heap.size + 2 := by simp
  have R := runs_any 100 131072 _ [(0, 60), (0, 60), (100, 40)] 3 _ [0, 160, 480] 3 _ (by decide) (by decide) (by decide) (by rw [hr]; decide) (A2.of_lt (by rw [sz]; omega)) (I1.of_lt (by rw [sz]; simp))
  rw [hr, decide_eq_true rfl] at R
  simp only [World.size_alloc] at R
  exact R.mono fun e w' ⟨a, b⟩ => ⟨a, Below.trans (by (repeat' (first | (with_reducible exact Below.refl _ _) | (with_reducible refine Below.alloc ?_ ?_ _) | (with_reducible refine Below.setCell ?_ ?_ _) | (with_reducible refine Below.drew ?_) | (with_reducible assumption) | omega | (simp; done) | (simp; omega)))) (b.mono (by omega))⟩
set_option maxRecDepth 100000 in
set_option maxHeartbeats 4000000 in
theorem works_any (w : World) : Calls Try.prog 15 #[] w fun e w' => e = .returned (.bool true) ∧ Below w.heap.size w w' := by
  go_enter Try.func15, Try.ntmps15
  go_wp2_with fail
  refine (chapter_any _).mono ?_
  rintro e w1 ⟨rfl, hb_⟩
  have s_w1 := hb_.size
  try simp only [World.size_alloc] at s_w1
  have hm_w1 : Below w.heap.size w w1 := hb_
  have q_w1 := hm_w1.size
  have H_w1 := Lib.hid hm_w1
  clear hb_ hm_w1
  go_wp2_with fail
  refine (New_ex _).mono ?_
  rintro e w2 ⟨rfl, hb_⟩
  have s_w2 := hb_.size
  try simp only [World.size_alloc] at s_w2
  have hm_w2 : Below w1.heap.size w1 w2 := Below.trans (b := (w1.alloc (.cells #[.int .i64 100, .int .i64 131072] 23))) (by (repeat' (first | (with_reducible exact Below.refl _ _) | (with_reducible refine Below.alloc ?_ ?_ _) | (with_reducible refine Below.setCell ?_ ?_ _) | (with_reducible refine Below.drew ?_) | (with_reducible assumption) | omega | (simp; done) | (simp; omega)))) (hb_.mono (by first | (simp; done) | (simp; omega)))
  have q_w2 := hm_w2.size
  have c_b_0 : w2.cell? ⟨w1.heap.size, 0, none⟩ = some (.int .i64 100) := by rw [(bcell hb_).1 _ _ (by first | (simp; done) | (simp; omega))]; simp [go_sem]
  have c_b_1 : w2.cell? ⟨w1.heap.size, 1, none⟩ = some (.int .i64 131072) := by rw [(bcell hb_).1 _ _ (by first | (simp; done) | (simp; omega))]; simp [go_sem]
  have H_w2 := Lib.hid (H_w1.out.trans (hm_w2.mono (by omega)))
  have lt_w2_0_0 : w1.heap.size < w2.heap.size := by omega
  obtain ⟨le_w2_0_0, le_w2_0_1, le_w2_0_2, le_w2_0_3, lu_w2_0_1, lu_w2_0_2, lu_w2_0_3⟩ := lts lt_w2_0_0
  clear hb_ hm_w2
  go_wp2_with fail
  refine (Elig_ex0 _).mono ?_
  rintro e v0 ⟨rfl, hb_⟩
  have s_v0 := hb_.size
  try simp only [World.size_alloc] at s_v0
  have hm_v0 : Below w2.heap.size w2 v0 := Below.trans (b := (w2.alloc (.cells #[.int .i64 0, .int .i64 104857600] 29))) (by (repeat' (first | (with_reducible exact Below.refl _ _) | (with_reducible refine Below.alloc ?_ ?_ _) | (with_reducible refine Below.setCell ?_ ?_ _) | (with_reducible refine Below.drew ?_) | (with_reducible assumption) | omega | (simp; done) | (simp; omega)))) (hb_.mono (by first | (simp; done) | (simp; omega)))
  have q_v0 := hm_v0.size
  replace c_b_0 := below_cell hm_v0 c_b_0 (by omega)
  replace c_b_1 := below_cell hm_v0 c_b_1 (by omega)
  have c_s0_0 : v0.cell? ⟨w2.heap.size, 0, none⟩ = some (.int .i64 0) := by rw [(bcell hb_).1 _ _ (by first | (simp; done) | (simp; omega))]; simp [go_sem]
  have c_s0_1 : v0.cell? ⟨w2.heap.size, 1, none⟩ = some (.int .i64 104857600) := by rw [(bcell hb_).1 _ _ (by first | (simp; done) | (simp; omega))]; simp [go_sem]
  have H_v0 := Lib.hid (H_w2.out.trans (hm_v0.mono (by omega)))
  have lt_v0_0_0 : w1.heap.size < v0.heap.size := by omega
  obtain ⟨le_v0_0_0, le_v0_0_1, le_v0_0_2, le_v0_0_3, lu_v0_0_1, lu_v0_0_2, lu_v0_0_3⟩ := lts lt_v0_0_0
  have lt_v0_1_0 : w2.heap.size < v0.heap.size := by omega
  obtain ⟨le_v0_1_0, le_v0_1_1, le_v0_1_2, le_v0_1_3, lu_v0_1_1, lu_v0_1_2, lu_v0_1_3⟩ := lts lt_v0_1_0
  clear le_w2_0_0 le_w2_0_1 le_w2_0_2 le_w2_0_3 lu_w2_0_1 lu_w2_0_2 lu_w2_0_3 lt_w2_0_0
  clear hb_ hm_v0
  go_wp2_with fail
  refine (Elig_ex1 _).mono ?_
  rintro e v1 ⟨rfl, hb_⟩
  have s_v1 := hb_.size
  try simp only [World.size_alloc] at s_v1
  have hm_v1 : Below v0.heap.size v0 v1 := Below.trans (b := (v0.alloc (.cells #[.int .i64 5, .int .i64 0] 29))) (by (repeat' (first | (with_reducible exact Below.refl _ _) | (with_reducible refine Below.alloc ?_ ?_ _) | (with_reducible refine Below.setCell ?_ ?_ _) | (with_reducible refine Below.drew ?_) | (with_reducible assumption) | omega | (simp; done) | (simp; omega)))) (hb_.mono (by first | (simp; done) | (simp; omega)))
  have q_v1 := hm_v1.size
  replace c_b_0 := below_cell hm_v1 c_b_0 (by omega)
  replace c_b_1 := below_cell hm_v1 c_b_1 (by omega)
  replace c_s0_0 := below_cell hm_v1 c_s0_0 (by omega)
  replace c_s0_1 := below_cell hm_v1 c_s0_1 (by omega)
  have c_s1_0 : v1.cell? ⟨v0.heap.size, 0, none⟩ = some (.int .i64 5) := by rw [(bcell hb_).1 _ _ (by first | (simp; done) | (simp; omega))]; simp [go_sem]
  have c_s1_1 : v1.cell? ⟨v0.heap.size, 1, none⟩ = some (.int .i64 0) := by rw [(bcell hb_).1 _ _ (by first | (simp; done) | (simp; omega))]; simp [go_sem]
  have H_v1 := Lib.hid (H_v0.out.trans (hm_v1.mono (by omega)))
  have lt_v1_0_0 : w1.heap.size < v1.heap.size := by omega
  obtain ⟨le_v1_0_0, le_v1_0_1, le_v1_0_2, le_v1_0_3, lu_v1_0_1, lu_v1_0_2, lu_v1_0_3⟩ := lts lt_v1_0_0
  have lt_v1_1_0 : w2.heap.size < v1.heap.size := by omega
  obtain ⟨le_v1_1_0, le_v1_1_1, le_v1_1_2, le_v1_1_3, lu_v1_1_1, lu_v1_1_2, lu_v1_1_3⟩ := lts lt_v1_1_0
  have lt_v1_2_0 : v0.heap.size < v1.heap.size := by omega
  obtain ⟨le_v1_2_0, le_v1_2_1, le_v1_2_2, le_v1_2_3, lu_v1_2_1, lu_v1_2_2, lu_v1_2_3⟩ := lts lt_v1_2_0
  clear le_v0_0_0 le_v0_0_1 le_v0_0_2 le_v0_0_3 lu_v0_0_1 lu_v0_0_2 lu_v0_0_3 lt_v0_0_0
  clear le_v0_1_0 le_v0_1_1 le_v0_1_2 le_v0_1_3 lu_v0_1_1 lu_v0_1_2 lu_v0_1_3 lt_v0_1_0
  clear hb_ hm_v1
  go_wp2_with fail
  refine (Elig_ex2 _).mono ?_
  rintro e v2 ⟨rfl, hb_⟩
  have s_v2 := hb_.size
  try simp only [World.size_alloc] at s_v2
  have hm_v2 : Below v1.heap.size v1 v2 := Below.trans (b := (v1.alloc (.cells #[.int .i64 13, .int .i64 0] 29))) (by (repeat' (first | (with_reducible exact Below.refl _ _) | (with_reducible refine Below.alloc ?_ ?_ _) | (with_reducible refine Below.setCell ?_ ?_ _) | (with_reducible refine Below.drew ?_) | (with_reducible assumption) | omega | (simp; done) | (simp; omega)))) (hb_.mono (by first | (simp; done) | (simp; omega)))
  have q_v2 := hm_v2.size
  replace c_b_0 := below_cell hm_v2 c_b_0 (by omega)
  replace c_b_1 := below_cell hm_v2 c_b_1 (by omega)
  replace c_s0_0 := below_cell hm_v2 c_s0_0 (by omega)
  replace c_s0_1 := below_cell hm_v2 c_s0_1 (by omega)
  replace c_s1_0 := below_cell hm_v2 c_s1_0 (by omega)
  replace c_s1_1 := below_cell hm_v2 c_s1_1 (by omega)
  have c_s2_0 : v2.cell? ⟨v1.heap.size, 0, none⟩ = some (.int .i64 13) := by rw [(bcell hb_).1 _ _ (by first | (simp; done) | (simp; omega))]; simp [go_sem]
  have c_s2_1 : v2.cell? ⟨v1.heap.size, 1, none⟩ = some (.int .i64 0) := by rw [(bcell hb_).1 _ _ (by first | (simp; done) | (simp; omega))]; simp [go_sem]
  have H_v2 := Lib.hid (H_v1.out.trans (hm_v2.mono (by omega)))
  have lt_v2_0_0 : w1.heap.size < v2.heap.size := by omega
  obtain ⟨le_v2_0_0, le_v2_0_1, le_v2_0_2, le_v2_0_3, lu_v2_0_1, lu_v2_0_2, lu_v2_0_3⟩ := lts lt_v2_0_0
  have lt_v2_1_0 : w2.heap.size < v2.heap.size := by omega
  obtain ⟨le_v2_1_0, le_v2_1_1, le_v2_1_2, le_v2_1_3, lu_v2_1_1, lu_v2_1_2, lu_v2_1_3⟩ := lts lt_v2_1_0
  have lt_v2_2_0 : v0.heap.size < v2.heap.size := by omega
  obtain ⟨le_v2_2_0, le_v2_2_1, le_v2_2_2, le_v2_2_3, lu_v2_2_1, lu_v2_2_2, lu_v2_2_3⟩ := lts lt_v2_2_0
  have lt_v2_3_0 : v1.heap.size < v2.heap.size := by omega
  obtain ⟨le_v2_3_0, le_v2_3_1, le_v2_3_2, le_v2_3_3, lu_v2_3_1, lu_v2_3_2, lu_v2_3_3⟩ := lts lt_v2_3_0
  clear le_v1_0_0 le_v1_0_1 le_v1_0_2 le_v1_0_3 lu_v1_0_1 lu_v1_0_2 lu_v1_0_3 lt_v1_0_0
  clear le_v1_1_0 le_v1_1_1 le_v1_1_2 le_v1_1_3 lu_v1_1_1 lu_v1_1_2 lu_v1_1_3 lt_v1_1_0
  clear le_v1_2_0 le_v1_2_1 le_v1_2_2 le_v1_2_3 lu_v1_2_1 lu_v1_2_2 lu_v1_2_3 lt_v1_2_0
  clear hb_ hm_v2
  go_wp2_with fail
  refine (Elig_ex3 _).mono ?_
  rintro e v3 ⟨rfl, hb_⟩
  have s_v3 := hb_.size
  try simp only [World.size_alloc] at s_v3
  have hm_v3 : Below v2.heap.size v2 v3 := Below.trans (b := (v2.alloc (.cells #[.int .i64 29, .int .i64 0] 29))) (by (repeat' (first | (with_reducible exact Below.refl _ _) | (with_reducible refine Below.alloc ?_ ?_ _) | (with_reducible refine Below.setCell ?_ ?_ _) | (with_reducible refine Below.drew ?_) | (with_reducible assumption) | omega | (simp; done) | (simp; omega)))) (hb_.mono (by first | (simp; done) | (simp; omega)))
  have q_v3 := hm_v3.size
  replace c_b_0 := below_cell hm_v3 c_b_0 (by omega)
  replace c_b_1 := below_cell hm_v3 c_b_1 (by omega)
  replace c_s0_0 := below_cell hm_v3 c_s0_0 (by omega)
  replace c_s0_1 := below_cell hm_v3 c_s0_1 (by omega)
  replace c_s1_0 := below_cell hm_v3 c_s1_0 (by omega)
  replace c_s1_1 := below_cell hm_v3 c_s1_1 (by omega)
  replace c_s2_0 := below_cell hm_v3 c_s2_0 (by omega)
  replace c_s2_1 := below_cell hm_v3 c_s2_1 (by omega)
  have c_s3_0 : v3.cell? ⟨v2.heap.size, 0, none⟩ = some (.int .i64 29) := by rw [(bcell hb_).1 _ _ (by first | (simp; done) | (simp; omega))]; simp [go_sem]
  have c_s3_1 : v3.cell? ⟨v2.heap.size, 1, none⟩ = some (.int .i64 0) := by rw [(bcell hb_).1 _ _ (by first | (simp; done) | (simp; omega))]; simp [go_sem]
  have H_v3 := Lib.hid (H_v2.out.trans (hm_v3.mono (by omega)))
  have lt_v3_0_0 : w1.heap.size < v3.heap.size := by omega
  obtain ⟨le_v3_0_0, le_v3_0_1, le_v3_0_2, le_v3_0_3, lu_v3_0_1, lu_v3_0_2, lu_v3_0_3⟩ := lts lt_v3_0_0
  have lt_v3_1_0 : w2.heap.size < v3.heap.size := by omega
  obtain ⟨le_v3_1_0, le_v3_1_1, le_v3_1_2, le_v3_1_3, lu_v3_1_1, lu_v3_1_2, lu_v3_1_3⟩ := lts lt_v3_1_0
  have lt_v3_2_0 : v0.heap.size < v3.heap.size := by omega
  obtain ⟨le_v3_2_0, le_v3_2_1, le_v3_2_2, le_v3_2_3, lu_v3_2_1, lu_v3_2_2, lu_v3_2_3⟩ := lts lt_v3_2_0
  have lt_v3_3_0 : v1.heap.size < v3.heap.size := by omega
  obtain ⟨le_v3_3_0, le_v3_3_1, le_v3_3_2, le_v3_3_3, lu_v3_3_1, lu_v3_3_2, lu_v3_3_3⟩ := lts lt_v3_3_0
  have lt_v3_4_0 : v2.heap.size < v3.heap.size := by omega
  obtain ⟨le_v3_4_0, le_v3_4_1, le_v3_4_2, le_v3_4_3, lu_v3_4_1, lu_v3_4_2, lu_v3_4_3⟩ := lts lt_v3_4_0
  clear le_v2_0_0 le_v2_0_1 le_v2_0_2 le_v2_0_3 lu_v2_0_1 lu_v2_0_2 lu_v2_0_3 lt_v2_0_0
  clear le_v2_1_0 le_v2_1_1 le_v2_1_2 le_v2_1_3 lu_v2_1_1 lu_v2_1_2 lu_v2_1_3 lt_v2_1_0
  clear le_v2_2_0 le_v2_2_1 le_v2_2_2 le_v2_2_3 lu_v2_2_1 lu_v2_2_2 lu_v2_2_3 lt_v2_2_0
  clear le_v2_3_0 le_v2_3_1 le_v2_3_2 le_v2_3_3 lu_v2_3_1 lu_v2_3_2 lu_v2_3_3 lt_v2_3_0
  clear hb_ hm_v3
  go_wp2_with fail
  refine (Elig_ex4 _).mono ?_
  rintro e v4 ⟨rfl, hb_⟩
  have s_v4 := hb_.size
  try simp only [World.size_alloc] at s_v4
  have hm_v4 : Below v3.heap.size v3 v4 := Below.trans (b := (v3.alloc (.cells #[.int .i64 1000, .int .i64 0] 29))) (by (repeat' (first | (with_reducible exact Below.refl _ _) | (with_reducible refine Below.alloc ?_ ?_ _) | (with_reducible refine Below.setCell ?_ ?_ _) | (with_reducible refine Below.drew ?_) | (with_reducible assumption) | omega | (simp; done) | (simp; omega)))) (hb_.mono (by first | (simp; done) | (simp; omega)))
  have q_v4 := hm_v4.size
  replace c_b_0 := below_cell hm_v4 c_b_0 (by omega)
  replace c_b_1 := below_cell hm_v4 c_b_1 (by omega)
  replace c_s0_0 := below_cell hm_v4 c_s0_0 (by omega)
  replace c_s0_1 := below_cell hm_v4 c_s0_1 (by omega)
  replace c_s1_0 := below_cell hm_v4 c_s1_0 (by omega)
  replace c_s1_1 := below_cell hm_v4 c_s1_1 (by omega)
  replace c_s2_0 := below_cell hm_v4 c_s2_0 (by omega)
  replace c_s2_1 := below_cell hm_v4 c_s2_1 (by omega)
  replace c_s3_0 := below_cell hm_v4 c_s3_0 (by omega)
  replace c_s3_1 := below_cell hm_v4 c_s3_1 (by omega)
  have c_s4_0 : v4.cell? ⟨v3.heap.size, 0, none⟩ = some (.int .i64 1000) := by rw [(bcell hb_).1 _ _ (by first | (simp; done) | (simp; omega))]; simp [go_sem]
  have c_s4_1 : v4.cell? ⟨v3.heap.size, 1, none⟩ = some (.int .i64 0) := by rw [(bcell hb_).1 _ _ (by first | (simp; done) | (simp; omega))]; simp [go_sem]
  have H_v4 := Lib.hid (H_v3.out.trans (hm_v4.mono (by omega)))
  have lt_v4_0_0 : w1.heap.size < v4.heap.size := by omega
  obtain ⟨le_v4_0_0, le_v4_0_1, le_v4_0_2, le_v4_0_3, lu_v4_0_1, lu_v4_0_2, lu_v4_0_3⟩ := lts lt_v4_0_0
  have lt_v4_1_0 : w2.heap.size < v4.heap.size := by omega
  obtain ⟨le_v4_1_0, le_v4_1_1, le_v4_1_2, le_v4_1_3, lu_v4_1_1, lu_v4_1_2, lu_v4_1_3⟩ := lts lt_v4_1_0
  have lt_v4_2_0 : v0.heap.size < v4.heap.size := by omega
  obtain ⟨le_v4_2_0, le_v4_2_1, le_v4_2_2, le_v4_2_3, lu_v4_2_1, lu_v4_2_2, lu_v4_2_3⟩ := lts lt_v4_2_0
  have lt_v4_3_0 : v1.heap.size < v4.heap.size := by omega
  obtain ⟨le_v4_3_0, le_v4_3_1, le_v4_3_2, le_v4_3_3, lu_v4_3_1, lu_v4_3_2, lu_v4_3_3⟩ := lts lt_v4_3_0
  have lt_v4_4_0 : v2.heap.size < v4.heap.size := by omega
  obtain ⟨le_v4_4_0, le_v4_4_1, le_v4_4_2, le_v4_4_3, lu_v4_4_1, lu_v4_4_2, lu_v4_4_3⟩ := lts lt_v4_4_0
  have lt_v4_5_0 : v3.heap.size < v4.heap.size := by omega
  obtain ⟨le_v4_5_0, le_v4_5_1, le_v4_5_2, le_v4_5_3, lu_v4_5_1, lu_v4_5_2, lu_v4_5_3⟩ := lts lt_v4_5_0
  clear le_v3_0_0 le_v3_0_1 le_v3_0_2 le_v3_0_3 lu_v3_0_1 lu_v3_0_2 lu_v3_0_3 lt_v3_0_0
  clear le_v3_1_0 le_v3_1_1 le_v3_1_2 le_v3_1_3 lu_v3_1_1 lu_v3_1_2 lu_v3_1_3 lt_v3_1_0
  clear le_v3_2_0 le_v3_2_1 le_v3_2_2 le_v3_2_3 lu_v3_2_1 lu_v3_2_2 lu_v3_2_3 lt_v3_2_0
  clear le_v3_3_0 le_v3_3_1 le_v3_3_2 le_v3_3_3 lu_v3_3_1 lu_v3_3_2 lu_v3_3_3 lt_v3_3_0
  clear le_v3_4_0 le_v3_4_1 le_v3_4_2 le_v3_4_3 lu_v3_4_1 lu_v3_4_2 lu_v3_4_3 lt_v3_4_0
  clear hb_ hm_v4
  go_wp2_with fail
  refine (Elig_ex5 _).mono ?_
  rintro e v5 ⟨rfl, hb_⟩
  have s_v5 := hb_.size
  try simp only [World.size_alloc] at s_v5
  have hm_v5 : Below v4.heap.size v4 v5 := Below.trans (b := (v4.alloc (.cells #[.int .i64 0, .int .i64 0] 29))) (by (repeat' (first | (with_reducible exact Below.refl _ _) | (with_reducible refine Below.alloc ?_ ?_ _) | (with_reducible refine Below.setCell ?_ ?_ _) | (with_reducible refine Below.drew ?_) | (with_reducible assumption) | omega | (simp; done) | (simp; omega)))) (hb_.mono (by first | (simp; done) | (simp; omega)))
  have q_v5 := hm_v5.size
  replace c_b_0 := below_cell hm_v5 c_b_0 (by omega)
  replace c_b_1 := below_cell hm_v5 c_b_1 (by omega)
  replace c_s0_0 := below_cell hm_v5 c_s0_0 (by omega)
  replace c_s0_1 := below_cell hm_v5 c_s0_1 (by omega)
  replace c_s1_0 := below_cell hm_v5 c_s1_0 (by omega)
  replace c_s1_1 := below_cell hm_v5 c_s1_1 (by omega)
  replace c_s2_0 := below_cell hm_v5 c_s2_0 (by omega)
  replace c_s2_1 := below_cell hm_v5 c_s2_1 (by omega)
  replace c_s3_0 := below_cell hm_v5 c_s3_0 (by omega)
  replace c_s3_1 := below_cell hm_v5 c_s3_1 (by omega)
  replace c_s4_0 := below_cell hm_v5 c_s4_0 (by omega)
  replace c_s4_1 := below_cell hm_v5 c_s4_1 (by omega)
  have c_s5_0 : v5.cell? ⟨v4.heap.size, 0, none⟩ = some (.int .i64 0) := by rw [(bcell hb_).1 _ _ (by first | (simp; done) | (simp; omega))]; simp [go_sem]
  have c_s5_1 : v5.cell? ⟨v4.heap.size, 1, none⟩ = some (.int .i64 0) := by rw [(bcell hb_).1 _ _ (by first | (simp; done) | (simp; omega))]; simp [go_sem]
  have H_v5 := Lib.hid (H_v4.out.trans (hm_v5.mono (by omega)))
  have lt_v5_0_0 : w1.heap.size < v5.heap.size := by omega
  obtain ⟨le_v5_0_0, le_v5_0_1, le_v5_0_2, le_v5_0_3, lu_v5_0_1, lu_v5_0_2, lu_v5_0_3⟩ := lts lt_v5_0_0
  have lt_v5_1_0 : w2.heap.size < v5.heap.size := by omega
  obtain ⟨le_v5_1_0, le_v5_1_1, le_v5_1_2, le_v5_1_3, lu_v5_1_1, lu_v5_1_2, lu_v5_1_3⟩ := lts lt_v5_1_0
  have lt_v5_2_0 : v0.heap.size < v5.heap.size := by omega
  obtain ⟨le_v5_2_0, le_v5_2_1, le_v5_2_2, le_v5_2_3, lu_v5_2_1, lu_v5_2_2, lu_v5_2_3⟩ := lts lt_v5_2_0
  have lt_v5_3_0 : v1.heap.size < v5.heap.size := by omega
  obtain ⟨le_v5_3_0, le_v5_3_1, le_v5_3_2, le_v5_3_3, lu_v5_3_1, lu_v5_3_2, lu_v5_3_3⟩ := lts lt_v5_3_0
  have lt_v5_4_0 : v2.heap.size < v5.heap.size := by omega
  obtain ⟨le_v5_4_0, le_v5_4_1, le_v5_4_2, le_v5_4_3, lu_v5_4_1, lu_v5_4_2, lu_v5_4_3⟩ := lts lt_v5_4_0
  have lt_v5_5_0 : v3.heap.size < v5.heap.size := by omega
  obtain ⟨le_v5_5_0, le_v5_5_1, le_v5_5_2, le_v5_5_3, lu_v5_5_1, lu_v5_5_2, lu_v5_5_3⟩ := lts lt_v5_5_0
  have lt_v5_6_0 : v4.heap.size < v5.heap.size := by omega
  obtain ⟨le_v5_6_0, le_v5_6_1, le_v5_6_2, le_v5_6_3, lu_v5_6_1, lu_v5_6_2, lu_v5_6_3⟩ := lts lt_v5_6_0
  clear le_v4_0_0 le_v4_0_1 le_v4_0_2 le_v4_0_3 lu_v4_0_1 lu_v4_0_2 lu_v4_0_3 lt_v4_0_0
  clear le_v4_1_0 le_v4_1_1 le_v4_1_2 le_v4_1_3 lu_v4_1_1 lu_v4_1_2 lu_v4_1_3 lt_v4_1_0
  clear le_v4_2_0 le_v4_2_1 le_v4_2_2 le_v4_2_3 lu_v4_2_1 lu_v4_2_2 lu_v4_2_3 lt_v4_2_0
  clear le_v4_3_0 le_v4_3_1 le_v4_3_2 le_v4_3_3 lu_v4_3_1 lu_v4_3_2 lu_v4_3_3 lt_v4_3_0
  clear le_v4_4_0 le_v4_4_1 le_v4_4_2 le_v4_4_3 lu_v4_4_1 lu_v4_4_2 lu_v4_4_3 lt_v4_4_0
  clear le_v4_5_0 le_v4_5_1 le_v4_5_2 le_v4_5_3 lu_v4_5_1 lu_v4_5_2 lu_v4_5_3 lt_v4_5_0
  clear hb_ hm_v5
  go_wp2_with fail
  have R := runs_new (v5.alloc (.cells #[.int .i64 0, .int .i64 0] 29))
  simp only [World.size_alloc] at R
  refine R.mono ?_
  rintro e w8 ⟨rfl, hb_⟩
  have HB8 := Lib.hid ((H_v5.out.alloc H_v5.out.size _).trans (hb_.mono (by have := H_v5.out.size; omega)))
  clear hb_ R
  go_wp2_with fail
  go_ret
  exact ⟨rfl, HB8.out⟩
end SpW
end Go.Proofs.Ytpglhjgpjnapgaa
