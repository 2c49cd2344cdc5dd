/- Shaping: the walk of the program's Eligible. -/
import Derived.Test.YtpglhjgpjnapgaaSpX
namespace Go.Proofs.Ytpglhjgpjnapgaa
set_option linter.unusedSimpArgs false
set_option linter.unusedVariables false
open Go.RowKit
namespace SpW
set_option maxHeartbeats 2000000
theorem Elig_chk (b r l v a z : Int) (h : Sp.chkE b r l v ≠ 0) (w : World) :
    Calls Try.prog 13 #[.agg #[.int .i64 b, .int .i64 r], .agg #[.int .i64 l, .int .i64 v], .int .i64 a, .int .i64 z] w fun e w' => e = .returned (.tuple #[.int .i64 0, .agg #[.int .i64 0, .int .i64 0], .int .i64 (Sp.chkE b r l v)]) ∧ Below w.heap.size w w' := by
  have c1 := Check_any b r l v
  generalize Sp.chkE b r l v = x at *
  have C1 := Lib.hid c1
  have h1 : (x == 0) = false := beq_eq_false_iff_ne.2 h
  have h2 : (x != 0) = true := by rw [bne_iff_ne]; exact h
  clear c1 h
  go_enter Try.func13, Try.ntmps13
  go_wp2_with fail
  refine (C1.out _).mono ?_
  rintro e w1 ⟨rfl, hb⟩
  obtain ⟨hc, hz⟩ := bcell hb
  have hsz := hb.size
  simp at hsz
  have n0 : w.heap.size < w1.heap.size := by omega
  have n1 : w.heap.size + 1 < w1.heap.size := by omega
  have n2 : w.heap.size + 1 + 1 < w1.heap.size := by omega
  have HB : Hid (Below w.heap.size w w1) := Lib.hid (Below.trans (by (repeat' (first | (with_reducible exact Below.refl _ _) | (with_reducible refine Below.alloc ?_ ?_ _) | (with_reducible refine Below.setCell ?_ ?_ _) | (with_reducible refine Below.drew ?_) | (with_reducible assumption) | omega | (simp; done) | (simp; omega)))) (hb.mono (by simp; omega)))
  clear hsz hb
  go_wp2_with fail
  go_region
  go_wp2_with fail
  exact bodyPost_ret (v := .tuple #[.int .i64 0, .agg #[.int .i64 0, .int .i64 0], .int .i64 x]) (by simp [results, Try.results13, go_sem, hc, hz]) rfl ⟨rfl, by have hb := HB.out; have := hb.size; (repeat' (first | (with_reducible exact Below.refl _ _) | (with_reducible refine Below.alloc ?_ ?_ _) | (with_reducible refine Below.setCell ?_ ?_ _) | (with_reducible refine Below.drew ?_) | (with_reducible assumption) | omega | (simp; done) | (simp; omega)))⟩
theorem Elig_arg (b r l v a z : Int) (h : Sp.chkE b r l v = 0) (h2 : a < 0 ∨ 1099511627776 < a ∨ z < 1 ∨ 1048576 < z) (w : World) :
    Calls Try.prog 13 #[.agg #[.int .i64 b, .int .i64 r], .agg #[.int .i64 l, .int .i64 v], .int .i64 a, .int .i64 z] w fun e w' => e = .returned (.tuple #[.int .i64 0, .agg #[.int .i64 0, .int .i64 0], .int .i64 2]) ∧ Below w.heap.size w w' := by
  have c1 := Check_any b r l v
  rw [h] at c1
  have C1 := Lib.hid c1
  have hd : (decide (a < 0) = true) ∨ (decide (a < 0) = false ∧ decide (1099511627776 < a) = true) ∨ (decide (a < 0) = false ∧ decide (1099511627776 < a) = false ∧ decide (z < 1) = true) ∨ (decide (a < 0) = false ∧ decide (1099511627776 < a) = false ∧ decide (z < 1) = false ∧ decide (1048576 < z) = true) := by
    simp only [decide_eq_true_iff, decide_eq_false_iff_not]; omega
  clear c1 h h2
  rcases hd with d1 | ⟨d1, d2⟩ | ⟨d1, d2, d3⟩ | ⟨d1, d2, d3, d4⟩
  all_goals
    go_enter Try.func13, Try.ntmps13
    go_wp2_with fail
    refine (C1.out _).mono ?_
    rintro e w1 ⟨rfl, hb⟩
    obtain ⟨hc, hz⟩ := bcell hb
    have hsz := hb.size
    simp at hsz
    have n0 : w.heap.size < w1.heap.size := by omega
    have n1 : w.heap.size + 1 < w1.heap.size := by omega
    have n2 : w.heap.size + 1 + 1 < w1.heap.size := by omega
    have HB : Hid (Below w.heap.size w w1) := Lib.hid (Below.trans (by (repeat' (first | (with_reducible exact Below.refl _ _) | (with_reducible refine Below.alloc ?_ ?_ _) | (with_reducible refine Below.setCell ?_ ?_ _) | (with_reducible refine Below.drew ?_) | (with_reducible assumption) | omega | (simp; done) | (simp; omega)))) (hb.mono (by simp; omega)))
    clear hsz hb
    go_wp2_with fail
    go_region
    go_wp2_with fail
    exact bodyPost_ret (v := .tuple #[.int .i64 0, .agg #[.int .i64 0, .int .i64 0], .int .i64 2]) (by simp [results, Try.results13, go_sem, hc, hz]) rfl ⟨rfl, by have hb := HB.out; have := hb.size; (repeat' (first | (with_reducible exact Below.refl _ _) | (with_reducible refine Below.alloc ?_ ?_ _) | (with_reducible refine Below.setCell ?_ ?_ _) | (with_reducible refine Below.drew ?_) | (with_reducible assumption) | omega | (simp; done) | (simp; omega)))⟩
theorem Elig_none (b r l v a z : Int) (h : Sp.chkE b r l v = 0) (a0 : 0 ≤ a) (a1 : a ≤ 1099511627776) (z0 : 1 ≤ z) (z1 : z ≤ 1048576) (h2 : b < z) (w : World) :
    Calls Try.prog 13 #[.agg #[.int .i64 b, .int .i64 r], .agg #[.int .i64 l, .int .i64 v], .int .i64 a, .int .i64 z] w fun e w' => e = .returned (.tuple #[.int .i64 0, .agg #[.int .i64 0, .int .i64 0], .int .i64 4]) ∧ Below w.heap.size w w' := by
  have c1 := Check_any b r l v
  rw [h] at c1
  have C1 := Lib.hid c1
  clear c1 h
  go_enter Try.func13, Try.ntmps13
  go_wp2_with fail
  refine (C1.out _).mono ?_
  rintro e w1 ⟨rfl, hb⟩
  obtain ⟨hc, hz⟩ := bcell hb
  have hsz := hb.size
  simp at hsz
  have n0 : w.heap.size < w1.heap.size := by omega
  have n1 : w.heap.size + 1 < w1.heap.size := by omega
  have n2 : w.heap.size + 1 + 1 < w1.heap.size := by omega
  have HB : Hid (Below w.heap.size w w1) := Lib.hid (Below.trans (by (repeat' (first | (with_reducible exact Below.refl _ _) | (with_reducible refine Below.alloc ?_ ?_ _) | (with_reducible refine Below.setCell ?_ ?_ _) | (with_reducible refine Below.drew ?_) | (with_reducible assumption) | omega | (simp; done) | (simp; omega)))) (hb.mono (by simp; omega)))
  clear hsz hb
  go_wp2_with fail
  go_region
  go_wp2_with fail
  exact bodyPost_ret (v := .tuple #[.int .i64 0, .agg #[.int .i64 0, .int .i64 0], .int .i64 4]) (by simp [results, Try.results13, go_sem, hc, hz]) rfl ⟨rfl, by have hb := HB.out; have := hb.size; (repeat' (first | (with_reducible exact Below.refl _ _) | (with_reducible refine Below.alloc ?_ ?_ _) | (with_reducible refine Below.setCell ?_ ?_ _) | (with_reducible refine Below.drew ?_) | (with_reducible assumption) | omega | (simp; done) | (simp; omega)))⟩
theorem Elig_big (b r l v a z : Int) (h : Sp.chkE b r l v = 0) (a0 : 0 ≤ a) (a1 : a ≤ 1099511627776) (z0 : 1 ≤ z) (z1 : z ≤ b) (h2 : 1099511627776 < Sp.time b r l v a z) (w : World) :
    Calls Try.prog 13 #[.agg #[.int .i64 b, .int .i64 r], .agg #[.int .i64 l, .int .i64 v], .int .i64 a, .int .i64 z] w fun e w' => e = .returned (.tuple #[.int .i64 0, .agg #[.int .i64 0, .int .i64 0], .int .i64 6]) ∧ Below w.heap.size w w' := by
  have c1 := Check_any b r l v
  rw [h] at c1
  have C1 := Lib.hid c1
  have hst := Sp.chk_zero h
  have zb : z ≤ 1048576 := by have := hst.b1; omega
  have C2 := Lib.hid (step_any b r l v a z hst a0 a1 z0 zb)
  generalize Sp.time b r l v a z = T at *
  generalize Sp.left b r l v a z = Y at *
  clear c1 h hst
  go_enter Try.func13, Try.ntmps13
  go_wp2_with fail
  refine (C1.out _).mono ?_
  rintro e w1 ⟨rfl, hb⟩
  obtain ⟨hc, hz⟩ := bcell hb
  have hsz := hb.size
  simp at hsz
  have n0 : w.heap.size < w1.heap.size := by omega
  have n1 : w.heap.size + 1 < w1.heap.size := by omega
  have n2 : w.heap.size + 1 + 1 < w1.heap.size := by omega
  have HB : Hid (Below w.heap.size w w1) := Lib.hid (Below.trans (by (repeat' (first | (with_reducible exact Below.refl _ _) | (with_reducible refine Below.alloc ?_ ?_ _) | (with_reducible refine Below.setCell ?_ ?_ _) | (with_reducible refine Below.drew ?_) | (with_reducible assumption) | omega | (simp; done) | (simp; omega)))) (hb.mono (by simp; omega)))
  clear hsz hb
  go_wp2_with fail
  refine (C2.out _).mono ?_
  rintro e w2 ⟨rfl, hb⟩
  obtain ⟨hc2, hz2⟩ := bcell hb
  have hsz2 := hb.size
  try simp at hsz2
  have m0 : w.heap.size < w2.heap.size := by omega
  have m1 : w.heap.size + 1 < w2.heap.size := by omega
  have m2 : w.heap.size + 1 + 1 < w2.heap.size := by omega
  have HB2 : Hid (Below w.heap.size w w2) := Lib.hid (HB.out.trans (hb.mono (by have := HB.out.size; simp; omega)))
  clear hb hsz2
  have k0 : w2.cell? ⟨w.heap.size + 1 + 1, 0, none⟩ = some (.int .i64 0) := by rw [hc2 _ _ (by first | omega | (simp; omega))]; simp [go_sem, hc, n0, n1, n2]
  have k1 : w2.cell? ⟨w.heap.size + 1 + 1, 1, none⟩ = some (.int .i64 0) := by rw [hc2 _ _ (by first | omega | (simp; omega))]; simp [go_sem, hc, n0, n1, n2]
  go_wp2_with fail
  obtain ⟨k0, k1⟩ := cell2 (.int .i64 T) (.int .i64 Y) k0 k1
  obtain ⟨k0, k1⟩ := cell2 (.int .i64 0) (.int .i64 0) k0 k1
  exact bodyPost_ret (v := .tuple #[.int .i64 0, .agg #[.int .i64 0, .int .i64 0], .int .i64 6]) (by simp [results, Try.results13, go_sem, hc, hz, hc2, hz2, k0, k1]) rfl ⟨rfl, by have hb := HB2.out; have := hb.size; (repeat' (first | (with_reducible exact Below.refl _ _) | (with_reducible refine Below.alloc ?_ ?_ _) | (with_reducible refine Below.setCell ?_ ?_ _) | (with_reducible refine Below.drew ?_) | (with_reducible assumption) | omega | (simp; done) | (simp; omega)))⟩
theorem Elig_good (b r l v a z : Int) (h : Sp.chkE b r l v = 0) (a0 : 0 ≤ a) (a1 : a ≤ 1099511627776) (z0 : 1 ≤ z) (z1 : z ≤ b) (h2 : Sp.time b r l v a z ≤ 1099511627776) (w : World) :
    Calls Try.prog 13 #[.agg #[.int .i64 b, .int .i64 r], .agg #[.int .i64 l, .int .i64 v], .int .i64 a, .int .i64 z] w fun e w' => e = .returned (.tuple #[.int .i64 (Sp.time b r l v a z), .agg #[.int .i64 (Sp.time b r l v a z), .int .i64 (Sp.left b r l v a z)], .int .i64 0]) ∧ Below w.heap.size w w' := by
  have c1 := Check_any b r l v
  rw [h] at c1
  have C1 := Lib.hid c1
  have hst := Sp.chk_zero h
  have zb : z ≤ 1048576 := by have := hst.b1; omega
  have C2 := Lib.hid (step_any b r l v a z hst a0 a1 z0 zb)
  generalize Sp.time b r l v a z = T at *
  generalize Sp.left b r l v a z = Y at *
  clear c1 h hst
  go_enter Try.func13, Try.ntmps13
  go_wp2_with fail
  refine (C1.out _).mono ?_
  rintro e w1 ⟨rfl, hb⟩
  obtain ⟨hc, hz⟩ := bcell hb
  have hsz := hb.size
  simp at hsz
  have n0 : w.heap.size < w1.heap.size := by omega
  have n1 : w.heap.size + 1 < w1.heap.size := by omega
  have n2 : w.heap.size + 1 + 1 < w1.heap.size := by omega
  have HB : Hid (Below w.heap.size w w1) := Lib.hid (Below.trans (by (repeat' (first | (with_reducible exact Below.refl _ _) | (with_reducible refine Below.alloc ?_ ?_ _) | (with_reducible refine Below.setCell ?_ ?_ _) | (with_reducible refine Below.drew ?_) | (with_reducible assumption) | omega | (simp; done) | (simp; omega)))) (hb.mono (by simp; omega)))
  clear hsz hb
  go_wp2_with fail
  refine (C2.out _).mono ?_
  rintro e w2 ⟨rfl, hb⟩
  obtain ⟨hc2, hz2⟩ := bcell hb
  have hsz2 := hb.size
  try simp at hsz2
  have m0 : w.heap.size < w2.heap.size := by omega
  have m1 : w.heap.size + 1 < w2.heap.size := by omega
  have m2 : w.heap.size + 1 + 1 < w2.heap.size := by omega
  have HB2 : Hid (Below w.heap.size w w2) := Lib.hid (HB.out.trans (hb.mono (by have := HB.out.size; simp; omega)))
  clear hb hsz2
  have k0 : w2.cell? ⟨w.heap.size + 1 + 1, 0, none⟩ = some (.int .i64 0) := by rw [hc2 _ _ (by first | omega | (simp; omega))]; simp [go_sem, hc, n0, n1, n2]
  have k1 : w2.cell? ⟨w.heap.size + 1 + 1, 1, none⟩ = some (.int .i64 0) := by rw [hc2 _ _ (by first | omega | (simp; omega))]; simp [go_sem, hc, n0, n1, n2]
  go_wp2_with fail
  go_region
  go_wp2_with fail
  obtain ⟨k0, k1⟩ := cell2 (.int .i64 T) (.int .i64 Y) k0 k1
  obtain ⟨k0, k1⟩ := cell2 (.int .i64 T) (.int .i64 Y) k0 k1
  exact bodyPost_ret (v := .tuple #[.int .i64 T, .agg #[.int .i64 T, .int .i64 Y], .int .i64 0]) (by simp [results, Try.results13, go_sem, hc, hz, hc2, hz2, k0, k1]) rfl ⟨rfl, by have hb := HB2.out; have := hb.size; (repeat' (first | (with_reducible exact Below.refl _ _) | (with_reducible refine Below.alloc ?_ ?_ _) | (with_reducible refine Below.setCell ?_ ?_ _) | (with_reducible refine Below.drew ?_) | (with_reducible assumption) | omega | (simp; done) | (simp; omega)))⟩
/-- In every case. -/
theorem Elig_any (b r l v a z : Int) (w : World) :
    Calls Try.prog 13 #[.agg #[.int .i64 b, .int .i64 r], .agg #[.int .i64 l, .int .i64 v], .int .i64 a, .int .i64 z] w fun e w' => e = .returned (.tuple #[.int .i64 (Sp.eliT b r l v a z), .agg #[.int .i64 (Sp.eliT b r l v a z), .int .i64 (Sp.eliL b r l v a z)], .int .i64 (Sp.eliE b r l v a z)]) ∧ Below w.heap.size w w' := by
  unfold Sp.eliT Sp.eliL
  by_cases h : Sp.chkE b r l v = 0
  · by_cases h2 : a < 0 ∨ 1099511627776 < a ∨ z < 1 ∨ 1048576 < z
    · have e : Sp.eliE b r l v a z = 2 := by unfold Sp.eliE; rw [if_pos h, if_pos h2]
      rw [e]; exact Elig_arg b r l v a z h h2 w
    · by_cases h3 : b < z
      · have e : Sp.eliE b r l v a z = 4 := by unfold Sp.eliE; rw [if_pos h, if_neg h2, if_pos h3]
        rw [e]; exact Elig_none b r l v a z h (by omega) (by omega) (by omega) (by omega) h3 w
      · by_cases h4 : 1099511627776 < Sp.time b r l v a z
        · have e : Sp.eliE b r l v a z = 6 := by unfold Sp.eliE; rw [if_pos h, if_neg h2, if_neg h3, if_pos h4]
          rw [e]; exact Elig_big b r l v a z h (by omega) (by omega) (by omega) (by omega) h4 w
        · have e : Sp.eliE b r l v a z = 0 := by unfold Sp.eliE; rw [if_pos h, if_neg h2, if_neg h3, if_neg h4]
          rw [e]; exact Elig_good b r l v a z h (by omega) (by omega) (by omega) (by omega) (by omega) w
  · have e : Sp.eliE b r l v a z = Sp.chkE b r l v := by unfold Sp.eliE; rw [if_neg h]
    rw [e, if_neg h, if_neg h]; exact Elig_chk b r l v a z h w
end SpW
end Go.Proofs.Ytpglhjgpjnapgaa
