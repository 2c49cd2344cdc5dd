/- Shaping: the walks of New, Check and step. -/
import Derived.Test.YtpglhjgpjnapgaaBkW
import Derived.Test.YtpglhjgpjnapgaaSpA
namespace Go.Proofs.Ytpglhjgpjnapgaa
set_option linter.unusedSimpArgs false
set_option linter.unusedVariables false
open Go.RowKit
namespace SpW
theorem New_any (b r : Int) (w : World) :
    Calls Try.prog 9 #[.agg #[.int .i64 b, .int .i64 r]] w fun e w' => e = .returned (.tuple #[.agg #[.int .i64 0, .int .i64 (Sp.newT b r)], .int .i64 (Bk.chk b r)]) ∧ Below w.heap.size w w' := by
  have C1 := Lib.hid (BkW.Check_any b r)
  cases ho : Bk.ok b r
  · have e1 : Bk.chk b r = 130 := by unfold Bk.chk; rw [ho]; rfl
    have e2 : Sp.newT b r = 0 := by unfold Sp.newT; rw [ho]; rfl
    rw [e1, e2]
    go_enter Try.func9, Try.ntmps9
    go_wp2_with fail
    refine (C1.out _).mono ?_
    rintro e w1 ⟨rfl, rfl⟩
    rw [e1]
    go_wp2_with fail
    exact bodyPost_ret (v := .tuple #[.agg #[.int .i64 0, .int .i64 0], .int .i64 130]) (by simp [results, Try.results9, go_sem]) rfl ⟨rfl, by (repeat' (first | (with_reducible exact Below.refl _ _) | (with_reducible refine Below.alloc ?_ ?_ _) | (with_reducible refine Below.setCell ?_ ?_ _) | (with_reducible refine Below.drew ?_) | (with_reducible assumption) | omega | (simp; done) | (simp; omega)))⟩
  · have e1 : Bk.chk b r = 0 := by unfold Bk.chk; rw [ho]; rfl
    have e2 : Sp.newT b r = b * 1048576 := by unfold Sp.newT; rw [ho]; rfl
    have o := Bk.ok_iff.1 ho
    rw [e1, e2]
    clear e2 ho
    go_enter Try.func9, Try.ntmps9
    go_wp2_with fail
    refine (C1.out _).mono ?_
    rintro e w1 ⟨rfl, rfl⟩
    rw [e1]
    go_wp2_with fail
    exact bodyPost_ret (v := .tuple #[.agg #[.int .i64 0, .int .i64 (b * 1048576)], .int .i64 0]) (by simp [results, Try.results9, go_sem]) rfl ⟨rfl, by (repeat' (first | (with_reducible exact Below.refl _ _) | (with_reducible refine Below.alloc ?_ ?_ _) | (with_reducible refine Below.setCell ?_ ?_ _) | (with_reducible refine Below.drew ?_) | (with_reducible assumption) | omega | (simp; done) | (simp; omega)))⟩
theorem Check_any (b r l v : Int) (w : World) :
    Calls Try.prog 11 #[.agg #[.int .i64 b, .int .i64 r], .agg #[.int .i64 l, .int .i64 v]] w fun e w' => e = .returned (.int .i64 (Sp.chkE b r l v)) ∧ Below w.heap.size w w' := by
  have c1 := New_any b r
  cases ho : Bk.ok b r
  · have e1 : Bk.chk b r = 130 := by unfold Bk.chk; rw [ho]; rfl
    have e2 : Sp.chkE b r l v = 130 := by unfold Sp.chkE; rw [ho]; rfl
    rw [e1] at c1
    rw [e2]
    generalize Sp.newT b r = nt at c1
    have C1 := Lib.hid c1
    clear e1 e2 ho c1
    go_enter Try.func11, Try.ntmps11
    go_wp2_with fail
    refine (C1.out _).mono ?_
    rintro e w1 ⟨rfl, hb⟩
    go_wp2_with fail
    go_ret
    refine ⟨rfl, Below.alloc (Below.trans (by (repeat' (first | (with_reducible exact Below.refl _ _) | (with_reducible refine Below.alloc ?_ ?_ _) | (with_reducible refine Below.setCell ?_ ?_ _) | (with_reducible refine Below.drew ?_) | (with_reducible assumption) | omega | (simp; done) | (simp; omega)))) (hb.mono (by simp; omega))) (by have := hb.size; simp at this; omega) _⟩
  · have e1 : Bk.chk b r = 0 := by unfold Bk.chk; rw [ho]; rfl
    have e2 : Sp.chkE b r l v = (if l < 0 ∨ 1099511627776 < l ∨ v < 0 ∨ b * 1048576 < v then 440 else 0) := by unfold Sp.chkE; rw [if_pos ho]
    have e3 : Sp.newT b r = b * 1048576 := by unfold Sp.newT; rw [if_pos ho]
    rw [e1, e3] at c1
    have C1 := Lib.hid c1
    have E0 := Lib.hid e2
    have o := Bk.ok_iff.1 ho
    clear e1 e2 e3 ho c1
    by_cases hf : l = 0 ∧ v = b * 1048576
    · obtain ⟨rfl, rfl⟩ := hf
      have E : Hid (Sp.chkE b r 0 (b * 1048576) = 0) := Lib.hid (by rw [E0.out, if_neg (by omega)])
      rw [E.out]
      go_enter Try.func11, Try.ntmps11
      go_wp2_with fail
      refine (C1.out _).mono ?_
      rintro e w1 ⟨rfl, hb⟩
      obtain ⟨hc, hz⟩ := bcell hb
      have hsz := hb.size
      simp at hsz
      have n0 : w.heap.size < w1.heap.size := by omega
      have n1 : w.heap.size + 1 < w1.heap.size := by omega
      clear hsz
      go_wp2_with fail
      go_ret
      exact ⟨rfl, Below.alloc (Below.trans (by (repeat' (first | (with_reducible exact Below.refl _ _) | (with_reducible refine Below.alloc ?_ ?_ _) | (with_reducible refine Below.setCell ?_ ?_ _) | (with_reducible refine Below.drew ?_) | (with_reducible assumption) | omega | (simp; done) | (simp; omega)))) (hb.mono (by simp; omega))) (by omega) _⟩
    · have hf' : decide (l = 0 ∧ v = b * 1048576) = false := decide_eq_false hf
      go_enter Try.func11, Try.ntmps11
      go_wp2_with fail
      refine (C1.out _).mono ?_
      rintro e w1 ⟨rfl, hb⟩
      obtain ⟨hc, hz⟩ := bcell hb
      have hsz := hb.size
      simp at hsz
      have n0 : w.heap.size < w1.heap.size := by omega
      have n1 : w.heap.size + 1 < w1.heap.size := by omega
      clear hsz
      go_wp2_with fail
      all_goals
        go_ret
        refine ⟨ret_int ?_, Below.alloc (Below.trans (by (repeat' (first | (with_reducible exact Below.refl _ _) | (with_reducible refine Below.alloc ?_ ?_ _) | (with_reducible refine Below.setCell ?_ ?_ _) | (with_reducible refine Below.drew ?_) | (with_reducible assumption) | omega | (simp; done) | (simp; omega)))) (hb.mono (by simp; omega))) (by omega) _⟩
        rw [E0.out]
        first | rw [if_pos (by omega)] | rw [if_neg (by omega)]
theorem level_any (b r l v t : Int) (gb gs : Nat) (w : World) (b0 : 1 ≤ b) (b1 : b ≤ 1048576) (r0 : 1 ≤ r) (r1 : r ≤ 2097152) (v0 : 0 ≤ v) (v1 : v ≤ 1099511627776) (t0 : 0 ≤ t - l) (t1 : t - l ≤ 2199023255552)
    (c0 : w.cell? ⟨gb, 0, none⟩ = some (.int .i64 b)) (c1 : w.cell? ⟨gb, 1, none⟩ = some (.int .i64 r)) (c2 : w.cell? ⟨gs, 0, none⟩ = some (.int .i64 l)) (c3 : w.cell? ⟨gs, 1, none⟩ = some (.int .i64 v)) :
    Calls Try.prog 34 #[.int .i64 t, .pointer (some ⟨gb, 0, none⟩), .pointer (some ⟨gs, 0, none⟩)] w fun e w' => e = .returned (.int .i64 (Sp.lev b r l v t)) ∧ w = w' := by
  have hr := Int.mul_le_mul r1 t1 t0 (by omega)
  have hr0 := Int.mul_nonneg (show 0 ≤ r by omega) t0
  have q1 : IntKind.i64.wrap (t - l) = t - l := IntWalk.i64_in _ (by omega)
  have q2 : IntKind.i64.wrap (r * (t - l)) = r * (t - l) := IntWalk.i64_in _ (by omega)
  have q3 : IntKind.i64.wrap (v + r * (t - l)) = v + r * (t - l) := IntWalk.i64_in _ (by omega)
  go_enter Try.func34, Try.ntmps34
  go_wp2_with fail
  go_ret
  exact ⟨rfl, rfl⟩
end SpW
end Go.Proofs.Ytpglhjgpjnapgaa
