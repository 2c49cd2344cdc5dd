/- Meters: the walks of New and Check. -/
import Derived.Test.YtgpknoakkkkapaaBkW
import Derived.LoopN
namespace Go.Proofs.Ytgpknoakkkkapaa
set_option linter.unusedSimpArgs false
set_option linter.unusedVariables false
open Go.RowKit
namespace MtW
set_option maxHeartbeats 1000000 in
theorem New_any (b r b2 r2 : Int) (w : World) :
    Calls Try.prog 11 #[.agg #[.int .i64 b, .int .i64 r], .agg #[.int .i64 b2, .int .i64 r2]] w fun e w' => e = .returned (.tuple #[.agg #[.int .i64 0, .int .i64 (Mt.newT (Mt.newE b r b2 r2) b), .int .i64 (Mt.newT (Mt.newE b r b2 r2) b2)], .int .i64 (Mt.newE b r b2 r2)]) ∧ Below w.heap.size w w' := by
  have C1 := Lib.hid (BkW.Check_any b r)
  have C2 := Lib.hid (BkW.Check_any b2 r2)
  have i0 : ∀ W, (Instr.index 24 (.agg #[.int .i64 b, .int .i64 r, .int .i64 b2, .int .i64 r2]) (.int .i64 0)).run Try.prog W = .ok (.agg #[.int .i64 b, .int .i64 r]) W := fun W => by kernel_rfl
  have i1 : ∀ W, (Instr.index 24 (.agg #[.int .i64 b, .int .i64 r, .int .i64 b2, .int .i64 r2]) (.int .i64 1)).run Try.prog W = .ok (.agg #[.int .i64 b2, .int .i64 r2]) W := fun W => by kernel_rfl
  go_enter Try.func11, Try.ntmps11
  go_wp2_with fail
  refine wp_loop_rounds 3 ?_
  rw [rounds_succ]
  go_wp2_with fail
  refine (C1.out _).mono ?_
  rintro e w1 ⟨rfl, rfl⟩
  refine stop ?_
  cases ho : Bk.ok b r
  · have e1 : Bk.chk b r = 130 := by unfold Bk.chk; rw [ho]; rfl
    rw [e1]
    refine Stopped.mk ?_
    go_wp2_with fail
    have en : Mt.newE b r b2 r2 = 130 := by unfold Mt.newE; rw [ho]; rfl
    exact bodyPost_ret (v := .tuple #[.agg #[.int .i64 0, .int .i64 (0), .int .i64 (0)], .int .i64 130]) (by simp [results, Try.results11, go_sem]) rfl ⟨by rw [en]; simp [Mt.newT], by (repeat' (first | (with_reducible exact Below.refl _ _) | (with_reducible refine Below.alloc ?_ ?_ _) | (with_reducible refine Below.setCell ?_ ?_ _) | (with_reducible refine Below.drew ?_) | (with_reducible assumption) | omega | (simp; done) | (simp; omega)))⟩
  · have e1 : Bk.chk b r = 0 := by unfold Bk.chk; rw [ho]; rfl
    rw [e1]
    refine Stopped.mk ?_
    go_wp2_with fail
    rw [rounds_succ]
    go_wp2_with fail
    refine (C2.out _).mono ?_
    rintro e w1 ⟨rfl, rfl⟩
    refine stop ?_
    cases ho2 : Bk.ok b2 r2
    · have e1 : Bk.chk b2 r2 = 130 := by unfold Bk.chk; rw [ho2]; rfl
      rw [e1]
      refine Stopped.mk ?_
      go_wp2_with fail
      have en : Mt.newE b r b2 r2 = 130 := by unfold Mt.newE; rw [ho, ho2]; rfl
      exact bodyPost_ret (v := .tuple #[.agg #[.int .i64 0, .int .i64 (0), .int .i64 (0)], .int .i64 130]) (by simp [results, Try.results11, go_sem]) rfl ⟨by rw [en]; simp [Mt.newT], by (repeat' (first | (with_reducible exact Below.refl _ _) | (with_reducible refine Below.alloc ?_ ?_ _) | (with_reducible refine Below.setCell ?_ ?_ _) | (with_reducible refine Below.drew ?_) | (with_reducible assumption) | omega | (simp; done) | (simp; omega)))⟩
    · have e1 : Bk.chk b2 r2 = 0 := by unfold Bk.chk; rw [ho2]; rfl
      rw [e1]
      have o1 := Bk.ok_iff.1 ho
      have o2 := Bk.ok_iff.1 ho2
      by_cases hr : r2 < r
      · have en : Mt.newE b r b2 r2 = 2 := by unfold Mt.newE; rw [ho, ho2, if_neg (by simp), if_pos hr]
        refine Stopped.mk ?_
        go_wp2_with fail
        rw [rounds_succ]
        go_wp2_with fail
        exact bodyPost_ret (v := .tuple #[.agg #[.int .i64 0, .int .i64 (0), .int .i64 (0)], .int .i64 2]) (by simp [results, Try.results11, go_sem]) rfl ⟨by rw [en]; simp [Mt.newT], by (repeat' (first | (with_reducible exact Below.refl _ _) | (with_reducible refine Below.alloc ?_ ?_ _) | (with_reducible refine Below.setCell ?_ ?_ _) | (with_reducible refine Below.drew ?_) | (with_reducible assumption) | omega | (simp; done) | (simp; omega)))⟩
      · have en : Mt.newE b r b2 r2 = 0 := by unfold Mt.newE; rw [ho, ho2, if_neg (by simp), if_neg hr]
        refine Stopped.mk ?_
        go_wp2_with fail
        rw [rounds_succ]
        go_wp2_with fail
        exact bodyPost_ret (v := .tuple #[.agg #[.int .i64 0, .int .i64 (b * 1048576), .int .i64 (b2 * 1048576)], .int .i64 0]) (by simp [results, Try.results11, go_sem]) rfl ⟨by rw [en]; simp [Mt.newT], by (repeat' (first | (with_reducible exact Below.refl _ _) | (with_reducible refine Below.alloc ?_ ?_ _) | (with_reducible refine Below.setCell ?_ ?_ _) | (with_reducible refine Below.drew ?_) | (with_reducible assumption) | omega | (simp; done) | (simp; omega)))⟩
end MtW
end Go.Proofs.Ytgpknoakkkkapaa
