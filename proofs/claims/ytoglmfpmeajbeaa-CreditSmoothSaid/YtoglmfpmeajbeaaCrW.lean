/- Credit-based shapers: the small functions. -/
import Derived.Test.YtoglmfpmeajbeaaCrA
import Derived.Test.YtoglmfpmeajbeaaBkKit
namespace Go.Proofs.Ytoglmfpmeajbeaa
set_option linter.unusedSimpArgs false
set_option linter.unusedVariables false
open Go.RowKit
namespace CrW
theorem instant_any (t : Int) (w : World) : Calls Try.prog 23 #[.int .i64 t] w fun e w' => e = .returned (.bool (decide (0 ≤ t ∧ t ≤ 1073741824))) ∧ w = w' := by
  go_enter Try.func23, Try.ntmps23
  by_cases h1 : 0 ≤ t <;> by_cases h2 : t ≤ 1073741824
  all_goals
    go_wp2_with fail
    go_ret
    exact ⟨ret_bool (by simp [h1, h2]), rfl⟩
theorem in_any (x lo hi : Int) (w : World) : Calls Try.prog 26 #[.int .i64 x, .int .i64 lo, .int .i64 hi] w fun e w' => e = .returned (.bool (decide (lo ≤ x ∧ x ≤ hi))) ∧ w = w' := by
  go_enter Try.func26, Try.ntmps26
  by_cases h1 : lo ≤ x <;> by_cases h2 : x ≤ hi
  all_goals
    go_wp2_with fail
    go_ret
    exact ⟨ret_bool (by simp [h1, h2]), rfl⟩
set_option maxHeartbeats 1000000 in
theorem Check_any (r p : Int) (w : World) : Calls Try.prog 9 #[.agg #[.int .i64 r, .int .i64 p]] w fun e w' => e = .returned (.int .i64 (Cr.chk r p)) ∧ w' = w.alloc (.cells #[.int .i64 r, .int .i64 p] 23) := by
  by_cases h : 1 ≤ p ∧ p ≤ 1000 ∧ 1 ≤ r ∧ r < 1048576
  · have hb := Cr.prod_bound h.1 h.2.1 h.2.2.1 h.2.2.2
    have q : IntKind.i64.wrap (r * p) = r * p := IntWalk.i64_in _ (by omega)
    obtain ⟨h1, h2, h3, h4⟩ := h
    cases ho : Cr.ok r p
    · have hc : Cr.chk r p = 450 := by unfold Cr.chk; rw [ho]; rfl
      have hk : 1048576 ≤ r * p := by have := Cr.ok_no.1 ho; omega
      rw [hc]
      clear ho hc
      go_enter Try.func9, Try.ntmps9
      go_wp2_with fail
      go_ret
      exact ⟨rfl, rfl⟩
    · have hc : Cr.chk r p = 0 := by unfold Cr.chk; rw [ho]; rfl
      have hk : r * p < 1048576 := (Cr.ok_iff.1 ho).2.2.2.2
      rw [hc]
      clear ho hc
      go_enter Try.func9, Try.ntmps9
      go_wp2_with fail
      go_ret
      exact ⟨rfl, rfl⟩
  · have ho : Cr.ok r p = false := by rw [Cr.ok_no]; omega
    have hc : Cr.chk r p = 450 := by unfold Cr.chk; rw [ho]; rfl
    rw [hc]
    clear ho hc
    by_cases h1 : 1 ≤ p <;> by_cases h2 : p ≤ 1000 <;> by_cases h3 : 1 ≤ r <;> by_cases h4 : r < 1048576
    all_goals first
      | (exfalso; omega)
      | (clear h
         go_enter Try.func9, Try.ntmps9
         go_wp2_with fail
         go_ret
         exact ⟨rfl, rfl⟩)
theorem CheckState_any (a l : Int) (w : World) : Calls Try.prog 11 #[.agg #[.int .i64 a, .int .i64 l]] w fun e w' => e = .returned (.int .i64 (Cr.stChk a l)) ∧ w' = w.alloc (.cells #[.int .i64 a, .int .i64 l] 25) := by
  cases hd : decide (0 ≤ a ∧ a ≤ 1073741824)
  · have h := of_decide_eq_false hd
    have hc : Cr.stChk a l = 450 := by unfold Cr.stChk Cr.stOk; rw [decide_eq_false (by omega)]; rfl
    rw [hc]
    have I := instant_any a
    rw [hd] at I
    have HI := Lib.hid I
    clear I h hd hc
    go_enter Try.func11, Try.ntmps11
    go_wp2_with fail
    refine (HI.out _).mono ?_
    rintro e w1 ⟨rfl, rfl⟩
    go_wp2_with fail
    go_ret
    exact ⟨rfl, rfl⟩
  · have h := of_decide_eq_true hd
    have I := instant_any a
    rw [hd] at I
    have HI := Lib.hid I
    clear I hd
    by_cases h1 : -1616904192 ≤ l <;> by_cases h2 : l ≤ 1125899906842624
    all_goals try (exfalso; omega)
    all_goals
      have hc : Cr.stChk a l = if -1616904192 ≤ l ∧ l ≤ 1125899906842624 then 0 else 450 := by
        unfold Cr.stChk Cr.stOk
        by_cases h3 : -1616904192 ≤ l ∧ l ≤ 1125899906842624
        · rw [if_pos h3, decide_eq_true (by omega)]; rfl
        · rw [if_neg h3, decide_eq_false (by omega)]; rfl
      first | rw [if_pos (by omega)] at hc | rw [if_neg (by omega)] at hc
      rw [hc]
      clear hc h
      go_enter Try.func11, Try.ntmps11
      go_wp2_with fail
      refine (HI.out _).mono ?_
      rintro e w1 ⟨rfl, rfl⟩
      go_wp2_with fail
      go_ret
      exact ⟨rfl, rfl⟩
theorem up_any (r p lv t : Int) (h1 : -4611686018427387904 ≤ r * t) (h2 : r * t ≤ 4611686018427387904) (h3 : -1152921504606846976 ≤ lv) (h4 : lv ≤ 1152921504606846976) (w : World) : Calls Try.prog 27 #[.agg #[.int .i64 r, .int .i64 p], .int .i64 lv, .int .i64 t] w fun e w' => e = .returned (.int .i64 (lv + r * t)) ∧ w' = w.alloc (.cells #[.int .i64 r, .int .i64 p] 23) := by
  have q1 : IntKind.i64.wrap (r * t) = r * t := IntWalk.i64_in _ (by omega)
  have q2 : IntKind.i64.wrap (lv + r * t) = lv + r * t := IntWalk.i64_in _ (by omega)
  go_enter Try.func27, Try.ntmps27
  go_wp2_with fail
  go_ret
  exact ⟨rfl, rfl⟩
set_option maxHeartbeats 1000000 in
theorem Right_any (r p : Int) (w : World) : Calls Try.prog 22 #[.agg #[.int .i64 r, .int .i64 p]] w fun e w' => e = .returned (.bool (Cr.ok r p)) ∧ w' = w.alloc (.cells #[.int .i64 r, .int .i64 p] 23) := by
  cases hd1 : decide (1 ≤ p ∧ p ≤ 1000)
  · have h := of_decide_eq_false hd1
    have I1 := in_any p 1 1000
    rw [hd1] at I1
    have H1 := Lib.hid I1
    have ho : Cr.ok r p = false := by rw [Cr.ok_no]; omega
    rw [ho]
    clear I1 h hd1 ho
    go_enter Try.func22, Try.ntmps22
    go_wp2_with fail
    refine (H1.out _).mono ?_
    rintro e w1 ⟨rfl, rfl⟩
    go_wp2_with fail
    go_ret
    exact ⟨rfl, rfl⟩
  · have h := of_decide_eq_true hd1
    have I1 := in_any p 1 1000
    rw [hd1] at I1
    have H1 := Lib.hid I1
    clear I1 hd1
    cases hd2 : decide (1 ≤ r ∧ r ≤ 1048576)
    · have h' := of_decide_eq_false hd2
      have I2 := in_any r 1 1048576
      rw [hd2] at I2
      have H2 := Lib.hid I2
      have ho : Cr.ok r p = false := by rw [Cr.ok_no]; omega
      rw [ho]
      clear I2 h h' hd2 ho
      go_enter Try.func22, Try.ntmps22
      go_wp2_with fail
      refine (H1.out _).mono ?_
      rintro e w1 ⟨rfl, rfl⟩
      go_wp2_with fail
      refine (H2.out _).mono ?_
      rintro e w1 ⟨rfl, rfl⟩
      go_wp2_with fail
      go_ret
      exact ⟨rfl, rfl⟩
    · have h' := of_decide_eq_true hd2
      have I2 := in_any r 1 1048576
      rw [hd2] at I2
      have H2 := Lib.hid I2
      have hm := Int.mul_le_mul h'.2 h.2 (by omega) (show (0 : Int) ≤ 1048576 by omega)
      have hm2 := Int.mul_le_mul_of_nonneg_left h.1 (show 0 ≤ r by omega)
      have q : IntKind.i64.wrap (r * p) = r * p := IntWalk.i64_in _ (by omega)
      have ho : Cr.ok r p = decide (r * p < 1048576) := by
        unfold Cr.ok
        exact decide_eq_decide.2 (by omega)
      rw [ho]
      clear I2 hd2 ho
      by_cases hk : r * p < 1048576
      · rw [decide_eq_true hk]
        go_enter Try.func22, Try.ntmps22
        go_wp2_with fail
        refine (H1.out _).mono ?_
        rintro e w1 ⟨rfl, rfl⟩
        go_wp2_with fail
        refine (H2.out _).mono ?_
        rintro e w1 ⟨rfl, rfl⟩
        go_wp2_with fail
        go_ret
        exact ⟨ret_bool (by simp [hk]), rfl⟩
      · rw [decide_eq_false hk]
        go_enter Try.func22, Try.ntmps22
        go_wp2_with fail
        refine (H1.out _).mono ?_
        rintro e w1 ⟨rfl, rfl⟩
        go_wp2_with fail
        refine (H2.out _).mono ?_
        rintro e w1 ⟨rfl, rfl⟩
        go_wp2_with fail
        go_ret
        exact ⟨ret_bool (by simp [hk]), rfl⟩
theorem RightState_any (a l : Int) (w : World) : Calls Try.prog 24 #[.agg #[.int .i64 a, .int .i64 l]] w fun e w' => e = .returned (.bool (Cr.stOk a l)) ∧ w' = w.alloc (.cells #[.int .i64 a, .int .i64 l] 25) := by
  have I1 := in_any a 0 1073741824
  have I2 := in_any l (-1616904192) 1125899906842624
  have hs : Cr.stOk a l = (decide (0 ≤ a ∧ a ≤ 1073741824) && decide (-1616904192 ≤ l ∧ l ≤ 1125899906842624)) := by
    unfold Cr.stOk
    rw [← Bool.decide_and]
    exact decide_eq_decide.2 (by omega)
  rw [hs]
  cases hd1 : decide (0 ≤ a ∧ a ≤ 1073741824) <;> cases hd2 : decide (-1616904192 ≤ l ∧ l ≤ 1125899906842624)
  all_goals
    rw [hd1] at I1
    rw [hd2] at I2
    have H1 := Lib.hid I1
    have H2 := Lib.hid I2
    clear I1 I2 hd1 hd2 hs
    go_enter Try.func24, Try.ntmps24
    go_wp2_with fail
    refine (H1.out _).mono ?_
    rintro e w1 ⟨rfl, rfl⟩
    go_wp2_with fail
    try (refine (H2.out _).mono ?_
         rintro e w1 ⟨rfl, rfl⟩
         go_wp2_with fail)
    go_ret
    exact ⟨rfl, rfl⟩
theorem ref_Check_any (r p : Int) (w : World) : Calls Try.prog 10 #[.agg #[.int .i64 r, .int .i64 p]] w fun e w' => e = .returned (.int .i64 (Cr.chk r p)) ∧ Below w.heap.size w w' := by
  have R := Right_any r p
  unfold Cr.chk
  cases ho : Cr.ok r p
  all_goals
    rw [ho] at R
    have HR := Lib.hid R
    clear R ho
    go_enter Try.func10, Try.ntmps10
    go_wp2_with fail
    refine (HR.out _).mono ?_
    rintro e w1 ⟨rfl, rfl⟩
    go_wp2_with fail
    go_ret
    exact ⟨rfl, by (repeat' (first | (with_reducible exact Below.refl _ _) | (with_reducible refine Below.alloc ?_ ?_ _) | (with_reducible refine Below.setCell ?_ ?_ _) | (with_reducible refine Below.drew ?_) | (with_reducible assumption) | omega | (simp; done) | (simp; omega)))⟩
theorem ref_CheckState_any (a l : Int) (w : World) : Calls Try.prog 12 #[.agg #[.int .i64 a, .int .i64 l]] w fun e w' => e = .returned (.int .i64 (Cr.stChk a l)) ∧ Below w.heap.size w w' := by
  have R := RightState_any a l
  unfold Cr.stChk
  cases ho : Cr.stOk a l
  all_goals
    rw [ho] at R
    have HR := Lib.hid R
    clear R ho
    go_enter Try.func12, Try.ntmps12
    go_wp2_with fail
    refine (HR.out _).mono ?_
    rintro e w1 ⟨rfl, rfl⟩
    go_wp2_with fail
    go_ret
    exact ⟨rfl, by (repeat' (first | (with_reducible exact Below.refl _ _) | (with_reducible refine Below.alloc ?_ ?_ _) | (with_reducible refine Below.setCell ?_ ?_ _) | (with_reducible refine Below.drew ?_) | (with_reducible assumption) | omega | (simp; done) | (simp; omega)))⟩
end CrW
end Go.Proofs.Ytoglmfpmeajbeaa
