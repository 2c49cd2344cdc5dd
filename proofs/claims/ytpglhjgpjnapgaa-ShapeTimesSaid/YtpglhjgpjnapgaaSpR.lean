/- Shaping: the walk of the reference's Eligible. -/
import Derived.Test.YtpglhjgpjnapgaaSpX
namespace Go.Proofs.Ytpglhjgpjnapgaa
set_option linter.unusedSimpArgs false
set_option linter.unusedVariables false
open Go.RowKit
namespace SpW
set_option maxHeartbeats 2000000
theorem ref_New (b r : Int) (w : World) :
    Calls Try.prog 10 #[.agg #[.int .i64 b, .int .i64 r]] w fun e w' => e = .returned (.tuple #[.agg #[.int .i64 0, .int .i64 (Sp.newT b r)], .int .i64 (Bk.chk b r)]) ∧ Below w.heap.size w w' := by
  have c1 := BkW.Right_any b r
  cases ho : Bk.ok b r
  · have e1 : Bk.chk b r = 130 := by unfold Bk.chk; rw [ho]; rfl
    have e2 : Sp.newT b r = 0 := by unfold Sp.newT; rw [ho]; rfl
    rw [e1, e2]
    rw [ho] at c1
    have C1 := Lib.hid c1
    clear c1 e1 e2
    go_enter Try.func10, Try.ntmps10
    go_wp2_with fail
    refine (C1.out _).mono ?_
    rintro e w1 ⟨rfl, rfl⟩
    go_wp2_with fail
    exact bodyPost_ret (v := .tuple #[.agg #[.int .i64 0, .int .i64 0], .int .i64 130]) (by simp [results, Try.results10, go_sem]) rfl ⟨rfl, by (repeat' (first | (with_reducible exact Below.refl _ _) | (with_reducible refine Below.alloc ?_ ?_ _) | (with_reducible refine Below.setCell ?_ ?_ _) | (with_reducible refine Below.drew ?_) | (with_reducible assumption) | omega | (simp; done) | (simp; omega)))⟩
  · have e1 : Bk.chk b r = 0 := by unfold Bk.chk; rw [ho]; rfl
    have e2 : Sp.newT b r = b * 1048576 := by unfold Sp.newT; rw [ho]; rfl
    have o := Bk.ok_iff.1 ho
    rw [e1, e2]
    rw [ho] at c1
    have C1 := Lib.hid c1
    clear c1 e1 e2 ho
    go_enter Try.func10, Try.ntmps10
    go_wp2_with fail
    refine (C1.out _).mono ?_
    rintro e w1 ⟨rfl, rfl⟩
    go_wp2_with fail
    exact bodyPost_ret (v := .tuple #[.agg #[.int .i64 0, .int .i64 (b * 1048576)], .int .i64 0]) (by simp [results, Try.results10, go_sem]) rfl ⟨rfl, by (repeat' (first | (with_reducible exact Below.refl _ _) | (with_reducible refine Below.alloc ?_ ?_ _) | (with_reducible refine Below.setCell ?_ ?_ _) | (with_reducible refine Below.drew ?_) | (with_reducible assumption) | omega | (simp; done) | (simp; omega)))⟩
theorem ref_Check (b r l v : Int) (w : World) :
    Calls Try.prog 12 #[.agg #[.int .i64 b, .int .i64 r], .agg #[.int .i64 l, .int .i64 v]] w fun e w' => e = .returned (.int .i64 (Sp.chkE b r l v)) ∧ Below w.heap.size w w' := by
  have c1 := BkW.Right_any b r
  cases ho : Bk.ok b r
  · have e2 : Sp.chkE b r l v = 130 := by unfold Sp.chkE; rw [ho]; rfl
    rw [e2]
    rw [ho] at c1
    have C1 := Lib.hid c1
    clear c1 e2 ho
    go_enter Try.func12, Try.ntmps12
    go_wp2_with fail
    refine (C1.out _).mono ?_
    rintro e w1 ⟨rfl, rfl⟩
    go_wp2_with fail
    go_ret
    refine ⟨rfl, by (repeat' (first | (with_reducible exact Below.refl _ _) | (with_reducible refine Below.alloc ?_ ?_ _) | (with_reducible refine Below.setCell ?_ ?_ _) | (with_reducible refine Below.drew ?_) | (with_reducible assumption) | omega | (simp; done) | (simp; omega)))⟩
  · have e2 : Sp.chkE b r l v = (if l < 0 ∨ 1099511627776 < l ∨ v < 0 ∨ b * 1048576 < v then 440 else 0) := by unfold Sp.chkE; rw [if_pos ho]
    have o := Bk.ok_iff.1 ho
    rw [ho] at c1
    have C1 := Lib.hid c1
    have E0 := Lib.hid e2
    clear c1 e2 ho
    have hd : (decide (l < 0) = true) ∨ (decide (l < 0) = false ∧ decide (1099511627776 < l) = true) ∨ (decide (l < 0) = false ∧ decide (1099511627776 < l) = false ∧ decide (v < 0) = true) ∨ (decide (l < 0) = false ∧ decide (1099511627776 < l) = false ∧ decide (v < 0) = false ∧ decide (b * 1048576 < v) = true) ∨ (decide (l < 0) = false ∧ decide (1099511627776 < l) = false ∧ decide (v < 0) = false ∧ decide (b * 1048576 < v) = false) := by
      simp only [decide_eq_true_iff, decide_eq_false_iff_not]; omega
    rcases hd with d1 | ⟨d1, d2⟩ | ⟨d1, d2, d3⟩ | ⟨d1, d2, d3, d4⟩ | ⟨d1, d2, d3, d4⟩
    all_goals
      go_enter Try.func12, Try.ntmps12
      go_wp2_with fail
      refine (C1.out _).mono ?_
      rintro e w1 ⟨rfl, rfl⟩
      go_wp2_with fail
      go_ret
      simp only [decide_eq_true_iff, decide_eq_false_iff_not] at *
      refine ⟨ret_int ?_, by (repeat' (first | (with_reducible exact Below.refl _ _) | (with_reducible refine Below.alloc ?_ ?_ _) | (with_reducible refine Below.setCell ?_ ?_ _) | (with_reducible refine Below.drew ?_) | (with_reducible assumption) | omega | (simp; done) | (simp; omega)))⟩
      rw [E0.out]
      first | rw [if_pos (by omega)] | rw [if_neg (by omega)]
theorem ref_level (b r l v t : Int) (w : World) (b0 : 1 ≤ b) (b1 : b ≤ 1048576) (r0 : 1 ≤ r) (r1 : r ≤ 2097152) (v0 : 0 ≤ v) (v1 : v ≤ 1099511627776) (t0 : 0 ≤ t - l) (t1 : t - l ≤ 2199023255552) :
    Calls Try.prog 26 #[.agg #[.int .i64 b, .int .i64 r], .agg #[.int .i64 l, .int .i64 v], .int .i64 t] w fun e w' => e = .returned (.int .i64 (Sp.lev b r l v t)) ∧ Below w.heap.size w w' := by
  have hr := Int.mul_le_mul r1 t1 t0 (by omega)
  have hr0 := Int.mul_nonneg (show 0 ≤ r by omega) t0
  have q1 : IntKind.i64.wrap (t - l) = t - l := IntWalk.i64_in _ (by omega)
  have q2 : IntKind.i64.wrap (r * (t - l)) = r * (t - l) := IntWalk.i64_in _ (by omega)
  have q3 : IntKind.i64.wrap (v + r * (t - l)) = v + r * (t - l) := IntWalk.i64_in _ (by omega)
  go_enter Try.func26, Try.ntmps26
  go_wp2_with fail
  go_ret
  exact ⟨rfl, by (repeat' (first | (with_reducible exact Below.refl _ _) | (with_reducible refine Below.alloc ?_ ?_ _) | (with_reducible refine Below.setCell ?_ ?_ _) | (with_reducible refine Below.drew ?_) | (with_reducible assumption) | omega | (simp; done) | (simp; omega)))⟩
theorem Ceil_any (n d : Int) (hn : 0 ≤ n) (hn1 : n ≤ 4611686018427387904) (hd : 1 ≤ d) (hd1 : d ≤ 4611686018427387904) (w : World) :
    Calls Try.prog 27 #[.int .i64 n, .int .i64 d] w fun e w' => e = .returned (.int .i64 ((n + d - 1) / d)) ∧ w = w' := by
  have e := Int.mul_ediv_add_emod n d
  have m0 := Int.emod_nonneg n (show d ≠ 0 by omega)
  have m1 := Int.emod_lt_of_pos n (show 0 < d by omega)
  have q0 : 0 ≤ n / d := Int.ediv_nonneg hn (by omega)
  have q1 : n / d ≤ n := Int.ediv_le_self _ hn
  have q2 : n.tdiv d = n / d := Int.tdiv_eq_ediv_of_nonneg hn
  have e2 : d * (n / d) = n / d * d := Int.mul_comm _ _
  have qq : 0 ≤ n / d * d := by rw [← e2]; exact Int.mul_nonneg (by omega) q0
  have hd0 : d ≠ 0 := by omega
  have hA : n / d * d < n → (n + d - 1) / d = n / d + 1 := fun h => by
    have : n + d - 1 = (n % d - 1) + d * (n / d + 1) := by rw [Int.mul_add, Int.mul_one]; omega
    rw [this, Int.add_mul_ediv_left _ _ hd0, Int.ediv_eq_zero_of_lt (by omega) (by omega)]; omega
  have hB : ¬ n / d * d < n → (n + d - 1) / d = n / d := fun h => by
    have : n + d - 1 = (d - 1) + d * (n / d) := by omega
    rw [this, Int.add_mul_ediv_left _ _ hd0, Int.ediv_eq_zero_of_lt (by omega) (by omega)]; omega
  have HA := Lib.hid hA
  have HB := Lib.hid hB
  have h2 : n / d * d ≤ n := by omega
  clear hA hB e e2 m0 m1
  have w1 : IntKind.i64.wrap (n / d * d) = n / d * d := IntWalk.i64_in _ (by omega)
  by_cases hlt : n / d * d < n
  all_goals
    go_enter Try.func27, Try.ntmps27
    go_wp2_with fail
    go_ret
    first | exact ⟨ret_int (HA.out hlt).symm, rfl⟩ | exact ⟨ret_int (HB.out hlt).symm, rfl⟩
theorem ref_Elig_chk (b r l v a z : Int) (h : Sp.chkE b r l v ≠ 0) (w : World) :
    Calls Try.prog 14 #[.agg #[.int .i64 b, .int .i64 r], .agg #[.int .i64 l, .int .i64 v], .int .i64 a, .int .i64 z] w fun e w' => e = .returned (.tuple #[.int .i64 0, .agg #[.int .i64 0, .int .i64 0], .int .i64 (Sp.chkE b r l v)]) ∧ Below w.heap.size w w' := by
  have c1 := ref_Check b r l v
  generalize Sp.chkE b r l v = x at *
  have C1 := Lib.hid c1
  have h1 : (x == 0) = false := beq_eq_false_iff_ne.2 h
  have h2 : (x != 0) = true := by rw [bne_iff_ne]; exact h
  clear c1 h
  go_enter Try.func14, Try.ntmps14
  go_wp2_with fail
  refine (C1.out _).mono ?_
  rintro e w1 ⟨rfl, hb⟩
  obtain ⟨hc, hz⟩ := bcell hb
  have hsz := hb.size
  simp at hsz
  have n0 : w.heap.size < w1.heap.size := by omega
  have n1 : w.heap.size + 1 < w1.heap.size := by omega
  have n2 : w.heap.size + 1 + 1 < w1.heap.size := by omega
  have HB : Hid (Below w.heap.size w w1) := Lib.hid (Below.trans (by (repeat' (first | (with_reducible exact Below.refl _ _) | (with_reducible refine Below.alloc ?_ ?_ _) | (with_reducible refine Below.setCell ?_ ?_ _) | (with_reducible refine Below.drew ?_) | (with_reducible assumption) | omega | (simp; done) | (simp; omega)))) (hb.mono (by simp; omega)))
  clear hsz hb
  go_wp2_with fail
  exact bodyPost_ret (v := .tuple #[.int .i64 0, .agg #[.int .i64 0, .int .i64 0], .int .i64 x]) (by simp [results, Try.results14, go_sem, hc, hz]) rfl ⟨rfl, by have hb := HB.out; have := hb.size; (repeat' (first | (with_reducible exact Below.refl _ _) | (with_reducible refine Below.alloc ?_ ?_ _) | (with_reducible refine Below.setCell ?_ ?_ _) | (with_reducible refine Below.drew ?_) | (with_reducible assumption) | omega | (simp; done) | (simp; omega)))⟩
theorem ref_Elig_arg (b r l v a z : Int) (h : Sp.chkE b r l v = 0) (h2 : a < 0 ∨ 1099511627776 < a ∨ z < 1 ∨ 1048576 < z) (w : World) :
    Calls Try.prog 14 #[.agg #[.int .i64 b, .int .i64 r], .agg #[.int .i64 l, .int .i64 v], .int .i64 a, .int .i64 z] w fun e w' => e = .returned (.tuple #[.int .i64 0, .agg #[.int .i64 0, .int .i64 0], .int .i64 2]) ∧ Below w.heap.size w w' := by
  have c1 := ref_Check b r l v
  rw [h] at c1
  have C1 := Lib.hid c1
  have hd : (decide (a < 0) = true) ∨ (decide (a < 0) = false ∧ decide (1099511627776 < a) = true) ∨ (decide (a < 0) = false ∧ decide (1099511627776 < a) = false ∧ decide (z < 1) = true) ∨ (decide (a < 0) = false ∧ decide (1099511627776 < a) = false ∧ decide (z < 1) = false ∧ decide (1048576 < z) = true) := by
    simp only [decide_eq_true_iff, decide_eq_false_iff_not]; omega
  clear c1 h h2
  rcases hd with d1 | ⟨d1, d2⟩ | ⟨d1, d2, d3⟩ | ⟨d1, d2, d3, d4⟩
  all_goals
    go_enter Try.func14, Try.ntmps14
    go_wp2_with fail
    refine (C1.out _).mono ?_
    rintro e w1 ⟨rfl, hb⟩
    obtain ⟨hc, hz⟩ := bcell hb
    have hsz := hb.size
    simp at hsz
    have n0 : w.heap.size < w1.heap.size := by omega
    have n1 : w.heap.size + 1 < w1.heap.size := by omega
    have n2 : w.heap.size + 1 + 1 < w1.heap.size := by omega
    have HB : Hid (Below w.heap.size w w1) := Lib.hid (Below.trans (by (repeat' (first | (with_reducible exact Below.refl _ _) | (with_reducible refine Below.alloc ?_ ?_ _) | (with_reducible refine Below.setCell ?_ ?_ _) | (with_reducible refine Below.drew ?_) | (with_reducible assumption) | omega | (simp; done) | (simp; omega)))) (hb.mono (by simp; omega)))
    clear hsz hb
    go_wp2_with fail
    exact bodyPost_ret (v := .tuple #[.int .i64 0, .agg #[.int .i64 0, .int .i64 0], .int .i64 2]) (by simp [results, Try.results14, go_sem, hc, hz]) rfl ⟨rfl, by have hb := HB.out; have := hb.size; (repeat' (first | (with_reducible exact Below.refl _ _) | (with_reducible refine Below.alloc ?_ ?_ _) | (with_reducible refine Below.setCell ?_ ?_ _) | (with_reducible refine Below.drew ?_) | (with_reducible assumption) | omega | (simp; done) | (simp; omega)))⟩
theorem ref_Elig_none (b r l v a z : Int) (h : Sp.chkE b r l v = 0) (a0 : 0 ≤ a) (a1 : a ≤ 1099511627776) (z0 : 1 ≤ z) (z1 : z ≤ 1048576) (h2 : b < z) (w : World) :
    Calls Try.prog 14 #[.agg #[.int .i64 b, .int .i64 r], .agg #[.int .i64 l, .int .i64 v], .int .i64 a, .int .i64 z] w fun e w' => e = .returned (.tuple #[.int .i64 0, .agg #[.int .i64 0, .int .i64 0], .int .i64 4]) ∧ Below w.heap.size w w' := by
  have c1 := ref_Check b r l v
  rw [h] at c1
  have C1 := Lib.hid c1
  clear c1 h
  go_enter Try.func14, Try.ntmps14
  go_wp2_with fail
  refine (C1.out _).mono ?_
  rintro e w1 ⟨rfl, hb⟩
  obtain ⟨hc, hz⟩ := bcell hb
  have hsz := hb.size
  simp at hsz
  have n0 : w.heap.size < w1.heap.size := by omega
  have n1 : w.heap.size + 1 < w1.heap.size := by omega
  have n2 : w.heap.size + 1 + 1 < w1.heap.size := by omega
  have HB : Hid (Below w.heap.size w w1) := Lib.hid (Below.trans (by (repeat' (first | (with_reducible exact Below.refl _ _) | (with_reducible refine Below.alloc ?_ ?_ _) | (with_reducible refine Below.setCell ?_ ?_ _) | (with_reducible refine Below.drew ?_) | (with_reducible assumption) | omega | (simp; done) | (simp; omega)))) (hb.mono (by simp; omega)))
  clear hsz hb
  go_wp2_with fail
  exact bodyPost_ret (v := .tuple #[.int .i64 0, .agg #[.int .i64 0, .int .i64 0], .int .i64 4]) (by simp [results, Try.results14, go_sem, hc, hz]) rfl ⟨rfl, by have hb := HB.out; have := hb.size; (repeat' (first | (with_reducible exact Below.refl _ _) | (with_reducible refine Below.alloc ?_ ?_ _) | (with_reducible refine Below.setCell ?_ ?_ _) | (with_reducible refine Below.drew ?_) | (with_reducible assumption) | omega | (simp; done) | (simp; omega)))⟩
theorem ref_Elig_big (b r l v a z : Int) (h : Sp.chkE b r l v = 0) (a0 : 0 ≤ a) (a1 : a ≤ 1099511627776) (z0 : 1 ≤ z) (z1 : z ≤ b) (h2 : 1099511627776 < Sp.time b r l v a z) (w : World) :
    Calls Try.prog 14 #[.agg #[.int .i64 b, .int .i64 r], .agg #[.int .i64 l, .int .i64 v], .int .i64 a, .int .i64 z] w fun e w' => e = .returned (.tuple #[.int .i64 0, .agg #[.int .i64 0, .int .i64 0], .int .i64 6]) ∧ Below w.heap.size w w' := by
  have c1 := ref_Check b r l v
  rw [h] at c1
  have C1 := Lib.hid c1
  have hst := Sp.chk_zero h
  have zb : z ≤ 1048576 := by have := hst.b1; omega
  have hL : Sp.left b r l v a z = Sp.lev b r l v (Sp.time b r l v a z) - z * 1048576 := rfl
  try rw [hL]
  obtain ⟨b0, b1, r0, r1, l0, l1, v0, v1⟩ := hst
  have hst : Sp.St b r l v := ⟨b0, b1, r0, r1, l0, l1, v0, v1⟩
  have hv : v ≤ 1099511627776 := by omega
  have L1 := fun W => ref_level b r l v (max a l) W b0 b1 r0 r1 v0 hv (by omega) (by omega)
  have tg := Sp.time_ge (b := b) (r := r) (l := l) (v := v) (a := a) (z := z) r0
  have tl := Sp.time_le (a := a) hst z0
  have L2 := fun W => ref_level b r l v (Sp.time b r l v a z) W b0 b1 r0 r1 v0 hv (by omega) (by omega)
  have n1' := Sp.lev_nonneg (t := max a l) hst (by omega)
  have n2' := Sp.lev_le (b := b) (r := r) (l := l) (v := v) (t := max a l)
  have n3' := Sp.lev_nonneg (t := Sp.time b r l v a z) hst (by omega)
  have n4' := Sp.lev_le (b := b) (r := r) (l := l) (v := v) (t := Sp.time b r l v a z)
  have hT : Sp.time b r l v a z = if 0 < Sp.miss b r l v a z then max a l + (Sp.miss b r l v a z + r - 1) / r else max a l := rfl
  have hm : Sp.miss b r l v a z = z * 1048576 - Sp.lev b r l v (max a l) := rfl
  have hcc := fun hn => Sp.ceil_bd (n := Sp.miss b r l v a z) r0 hn
  clear hL
  generalize Sp.time b r l v a z = T at *
  generalize Sp.miss b r l v a z = m at *
  generalize Sp.lev b r l v (max a l) = X at *
  generalize Sp.lev b r l v T = Y at *
  have HL1 := Lib.hid L1
  have HL2 := Lib.hid L2
  have HT := Lib.hid hT
  have HM := Lib.hid hm
  have HC := Lib.hid hcc
  clear L1 L2 hT hm hcc hst c1 h
  go_enter Try.func14, Try.ntmps14
  go_wp2_with fail
  refine (C1.out _).mono ?_
  rintro e w1 ⟨rfl, hb⟩
  obtain ⟨hc, hz⟩ := bcell hb
  have hsz := hb.size
  simp at hsz
  have n0 : w.heap.size < w1.heap.size := by omega
  have n1 : w.heap.size + 1 < w1.heap.size := by omega
  have n2 : w.heap.size + 1 + 1 < w1.heap.size := by omega
  have HB : Hid (Below w.heap.size w w1) := Lib.hid (Below.trans (by (repeat' (first | (with_reducible exact Below.refl _ _) | (with_reducible refine Below.alloc ?_ ?_ _) | (with_reducible refine Below.setCell ?_ ?_ _) | (with_reducible refine Below.drew ?_) | (with_reducible assumption) | omega | (simp; done) | (simp; omega)))) (hb.mono (by simp; omega)))
  clear hsz hb
  go_wp2_with fail
  refine (HL1.out _).mono ?_
  rintro e w2 ⟨rfl, hb⟩
  obtain ⟨hc2, hz2⟩ := bcell hb
  have hsz2 := hb.size
  try simp at hsz2
  have m0 : w.heap.size < w2.heap.size := by omega
  have m1 : w.heap.size + 1 < w2.heap.size := by omega
  have m2 : w.heap.size + 1 + 1 < w2.heap.size := by omega
  have HB2 : Hid (Below w.heap.size w w2) := Lib.hid (HB.out.trans (hb.mono (by have := HB.out.size; try simp; omega)))
  clear hb hsz2
  have k0 : w2.cell? ⟨w.heap.size + 1 + 1, 0, none⟩ = some (.int .i64 0) := by rw [hc2 _ _ (by first | omega | (simp; omega))]; simp [go_sem, hc, n0, n1, n2]
  have k1 : w2.cell? ⟨w.heap.size + 1 + 1, 1, none⟩ = some (.int .i64 0) := by rw [hc2 _ _ (by first | omega | (simp; omega))]; simp [go_sem, hc, n0, n1, n2]
  by_cases hp : 0 < z * 1048576 - X
  · have hm := HM.out
    have hc9 := HC.out (by omega)
    have hT := HT.out
    rw [if_pos (by omega)] at hT
    rw [hm] at hc9 hT
    have HTT := Lib.hid hT
    have c1 := hc9.2.2.1
    have c2 := hc9.2.2.2
    have CE := Lib.hid (Ceil_any (z * 1048576 - X) r (by omega) (by omega) r0 (by omega))
    have h2' := h2
    rw [HTT.out] at h2'
    clear hm hc9 hT
    go_wp2_with fail
    refine (CE.out _).mono ?_
    rintro e w3 ⟨rfl, rfl⟩
    go_wp2_with fail
    exact bodyPost_ret (v := .tuple #[.int .i64 0, .agg #[.int .i64 0, .int .i64 0], .int .i64 6]) (by simp [results, Try.results14, go_sem, hc, hz, hc2, hz2, k0, k1]) rfl ⟨rfl, by have hb := HB2.out; have := hb.size; (repeat' (first | (with_reducible exact Below.refl _ _) | (with_reducible refine Below.alloc ?_ ?_ _) | (with_reducible refine Below.setCell ?_ ?_ _) | (with_reducible refine Below.drew ?_) | (with_reducible assumption) | omega | (simp; done) | (simp; omega)))⟩
  · have hm := HM.out
    have hT := HT.out
    rw [if_neg (by omega)] at hT
    subst hT
    exfalso; omega
theorem ref_Elig_good (b r l v a z : Int) (h : Sp.chkE b r l v = 0) (a0 : 0 ≤ a) (a1 : a ≤ 1099511627776) (z0 : 1 ≤ z) (z1 : z ≤ b) (h2 : Sp.time b r l v a z ≤ 1099511627776) (w : World) :
    Calls Try.prog 14 #[.agg #[.int .i64 b, .int .i64 r], .agg #[.int .i64 l, .int .i64 v], .int .i64 a, .int .i64 z] w fun e w' => e = .returned (.tuple #[.int .i64 (Sp.time b r l v a z), .agg #[.int .i64 (Sp.time b r l v a z), .int .i64 (Sp.left b r l v a z)], .int .i64 0]) ∧ Below w.heap.size w w' := by
  have c1 := ref_Check b r l v
  rw [h] at c1
  have C1 := Lib.hid c1
  have hst := Sp.chk_zero h
  have zb : z ≤ 1048576 := by have := hst.b1; omega
  have hL : Sp.left b r l v a z = Sp.lev b r l v (Sp.time b r l v a z) - z * 1048576 := rfl
  try rw [hL]
  obtain ⟨b0, b1, r0, r1, l0, l1, v0, v1⟩ := hst
  have hst : Sp.St b r l v := ⟨b0, b1, r0, r1, l0, l1, v0, v1⟩
  have hv : v ≤ 1099511627776 := by omega
  have L1 := fun W => ref_level b r l v (max a l) W b0 b1 r0 r1 v0 hv (by omega) (by omega)
  have tg := Sp.time_ge (b := b) (r := r) (l := l) (v := v) (a := a) (z := z) r0
  have tl := Sp.time_le (a := a) hst z0
  have L2 := fun W => ref_level b r l v (Sp.time b r l v a z) W b0 b1 r0 r1 v0 hv (by omega) (by omega)
  have n1' := Sp.lev_nonneg (t := max a l) hst (by omega)
  have n2' := Sp.lev_le (b := b) (r := r) (l := l) (v := v) (t := max a l)
  have n3' := Sp.lev_nonneg (t := Sp.time b r l v a z) hst (by omega)
  have n4' := Sp.lev_le (b := b) (r := r) (l := l) (v := v) (t := Sp.time b r l v a z)
  have hT : Sp.time b r l v a z = if 0 < Sp.miss b r l v a z then max a l + (Sp.miss b r l v a z + r - 1) / r else max a l := rfl
  have hm : Sp.miss b r l v a z = z * 1048576 - Sp.lev b r l v (max a l) := rfl
  have hcc := fun hn => Sp.ceil_bd (n := Sp.miss b r l v a z) r0 hn
  clear hL
  generalize Sp.time b r l v a z = T at *
  generalize Sp.miss b r l v a z = m at *
  generalize Sp.lev b r l v (max a l) = X at *
  generalize Sp.lev b r l v T = Y at *
  have HL1 := Lib.hid L1
  have HL2 := Lib.hid L2
  have HT := Lib.hid hT
  have HM := Lib.hid hm
  have HC := Lib.hid hcc
  clear L1 L2 hT hm hcc hst c1 h
  go_enter Try.func14, Try.ntmps14
  go_wp2_with fail
  refine (C1.out _).mono ?_
  rintro e w1 ⟨rfl, hb⟩
  obtain ⟨hc, hz⟩ := bcell hb
  have hsz := hb.size
  simp at hsz
  have n0 : w.heap.size < w1.heap.size := by omega
  have n1 : w.heap.size + 1 < w1.heap.size := by omega
  have n2 : w.heap.size + 1 + 1 < w1.heap.size := by omega
  have HB : Hid (Below w.heap.size w w1) := Lib.hid (Below.trans (by (repeat' (first | (with_reducible exact Below.refl _ _) | (with_reducible refine Below.alloc ?_ ?_ _) | (with_reducible refine Below.setCell ?_ ?_ _) | (with_reducible refine Below.drew ?_) | (with_reducible assumption) | omega | (simp; done) | (simp; omega)))) (hb.mono (by simp; omega)))
  clear hsz hb
  go_wp2_with fail
  refine (HL1.out _).mono ?_
  rintro e w2 ⟨rfl, hb⟩
  obtain ⟨hc2, hz2⟩ := bcell hb
  have hsz2 := hb.size
  try simp at hsz2
  have m0 : w.heap.size < w2.heap.size := by omega
  have m1 : w.heap.size + 1 < w2.heap.size := by omega
  have m2 : w.heap.size + 1 + 1 < w2.heap.size := by omega
  have HB2 : Hid (Below w.heap.size w w2) := Lib.hid (HB.out.trans (hb.mono (by have := HB.out.size; try simp; omega)))
  clear hb hsz2
  have k0 : w2.cell? ⟨w.heap.size + 1 + 1, 0, none⟩ = some (.int .i64 0) := by rw [hc2 _ _ (by first | omega | (simp; omega))]; simp [go_sem, hc, n0, n1, n2]
  have k1 : w2.cell? ⟨w.heap.size + 1 + 1, 1, none⟩ = some (.int .i64 0) := by rw [hc2 _ _ (by first | omega | (simp; omega))]; simp [go_sem, hc, n0, n1, n2]
  by_cases hp : 0 < z * 1048576 - X
  · have hm := HM.out
    have hc9 := HC.out (by omega)
    have hT := HT.out
    rw [if_pos (by omega)] at hT
    rw [hm] at hc9 hT
    have HTT := Lib.hid hT
    have c1 := hc9.2.2.1
    have c2 := hc9.2.2.2
    have CE := Lib.hid (Ceil_any (z * 1048576 - X) r (by omega) (by omega) r0 (by omega))
    have h2' := h2
    rw [HTT.out] at h2'
    clear hm hc9 hT
    go_wp2_with fail
    refine (CE.out _).mono ?_
    rintro e w3 ⟨rfl, rfl⟩
    go_wp2_with fail
    rw [← HTT.out]
    refine (HL2.out _).mono ?_
    rintro e w4 ⟨rfl, hb⟩
    obtain ⟨hc4, hz4⟩ := bcell hb
    have hsz4 := hb.size
    have kz0 : w.heap.size < w4.heap.size := by omega
    have kz1 : w.heap.size + 1 < w4.heap.size := by omega
    have kz2 : w.heap.size + 1 + 1 < w4.heap.size := by omega
    have k40 := hc4 _ 0 m2
    have k41 := hc4 _ 1 m2
    rw [k0] at k40
    rw [k1] at k41
    have HB4 : Hid (Below w.heap.size w w4) := Lib.hid (HB2.out.trans (hb.mono HB2.out.size))
    clear hb hsz4
    go_wp2_with fail
    exact bodyPost_ret (v := .tuple #[.int .i64 T, .agg #[.int .i64 T, .int .i64 (Y - z * 1048576)], .int .i64 0]) (by simp [results, Try.results14, go_sem, k0, k1, k40, k41]) rfl ⟨rfl, by have hb := HB4.out; have := hb.size; (repeat' (first | (with_reducible exact Below.refl _ _) | (with_reducible refine Below.alloc ?_ ?_ _) | (with_reducible refine Below.setCell ?_ ?_ _) | (with_reducible refine Below.drew ?_) | (with_reducible assumption) | omega | (simp; done) | (simp; omega)))⟩
  · have hm := HM.out
    have hT := HT.out
    rw [if_neg (by omega)] at hT
    subst hT
    go_wp2_with fail
    refine (HL2.out _).mono ?_
    rintro e w4 ⟨rfl, hb⟩
    obtain ⟨hc4, hz4⟩ := bcell hb
    have hsz4 := hb.size
    have kz0 : w.heap.size < w4.heap.size := by omega
    have kz1 : w.heap.size + 1 < w4.heap.size := by omega
    have kz2 : w.heap.size + 1 + 1 < w4.heap.size := by omega
    have k40 := hc4 _ 0 m2
    have k41 := hc4 _ 1 m2
    rw [k0] at k40
    rw [k1] at k41
    have HB4 : Hid (Below w.heap.size w w4) := Lib.hid (HB2.out.trans (hb.mono HB2.out.size))
    clear hb hsz4
    go_wp2_with fail
    exact bodyPost_ret (v := .tuple #[.int .i64 (max a l), .agg #[.int .i64 (max a l), .int .i64 (Y - z * 1048576)], .int .i64 0]) (by simp [results, Try.results14, go_sem, k0, k1, k40, k41]) rfl ⟨rfl, by have hb := HB4.out; have := hb.size; (repeat' (first | (with_reducible exact Below.refl _ _) | (with_reducible refine Below.alloc ?_ ?_ _) | (with_reducible refine Below.setCell ?_ ?_ _) | (with_reducible refine Below.drew ?_) | (with_reducible assumption) | omega | (simp; done) | (simp; omega)))⟩
/-- In every case. -/
theorem ref_Elig_any (b r l v a z : Int) (w : World) :
    Calls Try.prog 14 #[.agg #[.int .i64 b, .int .i64 r], .agg #[.int .i64 l, .int .i64 v], .int .i64 a, .int .i64 z] w fun e w' => e = .returned (.tuple #[.int .i64 (Sp.eliT b r l v a z), .agg #[.int .i64 (Sp.eliT b r l v a z), .int .i64 (Sp.eliL b r l v a z)], .int .i64 (Sp.eliE b r l v a z)]) ∧ Below w.heap.size w w' := by
  unfold Sp.eliT Sp.eliL
  by_cases h : Sp.chkE b r l v = 0
  · by_cases h2 : a < 0 ∨ 1099511627776 < a ∨ z < 1 ∨ 1048576 < z
    · have e : Sp.eliE b r l v a z = 2 := by unfold Sp.eliE; rw [if_pos h, if_pos h2]
      rw [e]; exact ref_Elig_arg b r l v a z h h2 w
    · by_cases h3 : b < z
      · have e : Sp.eliE b r l v a z = 4 := by unfold Sp.eliE; rw [if_pos h, if_neg h2, if_pos h3]
        rw [e]; exact ref_Elig_none b r l v a z h (by omega) (by omega) (by omega) (by omega) h3 w
      · by_cases h4 : 1099511627776 < Sp.time b r l v a z
        · have e : Sp.eliE b r l v a z = 6 := by unfold Sp.eliE; rw [if_pos h, if_neg h2, if_neg h3, if_pos h4]
          rw [e]; exact ref_Elig_big b r l v a z h (by omega) (by omega) (by omega) (by omega) h4 w
        · have e : Sp.eliE b r l v a z = 0 := by unfold Sp.eliE; rw [if_pos h, if_neg h2, if_neg h3, if_neg h4]
          rw [e]; exact ref_Elig_good b r l v a z h (by omega) (by omega) (by omega) (by omega) (by omega) w
  · have e : Sp.eliE b r l v a z = Sp.chkE b r l v := by unfold Sp.eliE; rw [if_neg h]
    rw [e, if_neg h, if_neg h]; exact ref_Elig_chk b r l v a z h w
end SpW
end Go.Proofs.Ytpglhjgpjnapgaa
