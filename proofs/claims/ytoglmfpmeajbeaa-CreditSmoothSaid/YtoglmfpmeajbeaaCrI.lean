/- Credit-based shapers: what the shaper's methods do to it. -/
import Derived.Test.YtoglmfpmeajbeaaCrB
import Derived.Test.YtoglmfpmeajbeaaCrW
import Derived.Test.YtoglmfpmeajbeaaUpA
import Derived.Test.YtoglmfpmeajbeaaStq
import Derived.Deep.DeepCutAuto
namespace Go.Proofs.Ytoglmfpmeajbeaa
set_option linter.unusedSimpArgs false
set_option linter.unusedVariables false
open Go.RowKit
namespace CrW
set_option maxRecDepth 100000
set_option maxHeartbeats 2000000
theorem idle_stay (a l r p x : Int) (g : Nat) (w : World) (hb : It.Box4 w g a l r p) (h : x ≤ a) :
    Calls Try.prog 33 #[.pointer (some ⟨g, 0, none⟩), .int .i64 x] w fun e w' => e = .returned (.tuple #[]) ∧ It.Box4 w' g a l r p ∧ It.Upd g w w' := by
  obtain ⟨c0, c1, c2, c3, z0, z1⟩ := hb
  go_enter Try.func33, Try.ntmps33
  go_wp2_with fail
  refine bodyPost_ret (results_none rfl _ _ _) rfl ?_
  exact ⟨rfl, ⟨c0, c1, c2, c3, z0, z1⟩, It.Upd.refl _ _⟩
theorem idle_go (a l r p x : Int) (g : Nat) (w : World) (hb : It.Box4 w g a l r p) (h : a < x) (b1 : 0 ≤ x - a) (b2 : x - a ≤ 9223372036854775807) (b3 : 0 ≤ r * (x - a)) (b4 : r * (x - a) ≤ 2305843009213693952) (b5 : -4611686018427387904 ≤ l) :
    Calls Try.prog 33 #[.pointer (some ⟨g, 0, none⟩), .int .i64 x] w fun e w' => e = .returned (.tuple #[]) ∧ It.Box4 w' g x (min 0 (min 0 l + r * (x - a))) r p ∧ It.Upd g w w' := by
  obtain ⟨c0, c1, c2, c3, z0, z1⟩ := hb
  have q1 : IntKind.i64.wrap (x - a) = x - a := IntWalk.i64_in _ (by omega)
  have q2 : IntKind.i64.wrap (r * (x - a)) = r * (x - a) := IntWalk.i64_in _ (by omega)
  have q3 : IntKind.i64.wrap (min 0 l + r * (x - a)) = min 0 l + r * (x - a) := IntWalk.i64_in _ (by omega)
  go_enter Try.func33, Try.ntmps33
  go_upto_region 1 with fail
  refine wp_region_still_tail 22 (by kernel_rfl) (by kernel_rfl) ?_
  simp only [List.take_succ_cons, List.take_zero, List.drop_succ_cons, List.drop_zero]
  change wpStill _ _ (World.drew w) (fun a' => wpList _ _ _ _ a' (World.drew w)) _ _
  refine It.still_of_quiet _ _ ?_
  repeat (go_big_quiet_step (fail))
  refine wpQuiet_nil ?_
  go_wp2_with fail
  go_end0
  exact ⟨rfl, ((It.Box4.drew ⟨c0, c1, c2, c3, z0, z1⟩).set1 _).set0 _, (((It.Upd.refl g w).drew).trans (It.Upd.set _ 1 _)).trans (It.Upd.set _ 0 _)⟩
theorem wait_any (a l r p x : Int) (g : Nat) (w : World) (hb : It.Box4 w g a l r p) (b1 : 0 ≤ x - a) (b2 : x - a ≤ 9223372036854775807) (b3 : 0 ≤ r * (x - a)) (b4 : r * (x - a) ≤ 2305843009213693952) (b5 : -2305843009213693952 ≤ l) (b6 : l ≤ 2305843009213693952) :
    Calls Try.prog 34 #[.pointer (some ⟨g, 0, none⟩), .int .i64 x] w fun e w' => e = .returned (.tuple #[]) ∧ It.Box4 w' g x (l + r * (x - a)) r p ∧ It.Upd g w w' := by
  obtain ⟨c0, c1, c2, c3, z0, z1⟩ := hb
  have q1 : IntKind.i64.wrap (x - a) = x - a := IntWalk.i64_in _ (by omega)
  have q2 : IntKind.i64.wrap (r * (x - a)) = r * (x - a) := IntWalk.i64_in _ (by omega)
  have q3 : IntKind.i64.wrap (l + r * (x - a)) = l + r * (x - a) := IntWalk.i64_in _ (by omega)
  go_enter Try.func34, Try.ntmps34
  go_upto_region 0 with fail
  refine wp_region_still_tail 19 (by kernel_rfl) (by kernel_rfl) ?_
  simp only [List.take_succ_cons, List.take_zero, List.drop_succ_cons, List.drop_zero]
  change wpStill _ _ (World.drew w) (fun a' => wpList _ _ _ _ a' (World.drew w)) _ _
  refine It.still_of_quiet _ _ ?_
  repeat (go_big_quiet_step (fail))
  refine wpQuiet_nil ?_
  go_wp2_with fail
  go_end0
  exact ⟨rfl, ((It.Box4.drew ⟨c0, c1, c2, c3, z0, z1⟩).set1 _).set0 _, (((It.Upd.refl g w).drew).trans (It.Upd.set _ 1 _)).trans (It.Upd.set _ 0 _)⟩
theorem send_any (a l r p x : Int) (g : Nat) (w : World) (hb : It.Box4 w g a l r p) (b1 : 1 ≤ r * p) (b2 : r * p < 1048576) (b3 : 1 ≤ x) (b4 : x ≤ 1542) (b5 : -2305843009213693952 ≤ l) (b6 : l ≤ 2305843009213693952) (b7 : 0 ≤ a) (b8 : a ≤ 8589934592) (b9 : 1 ≤ p) (b10 : p ≤ 1000) :
    Calls Try.prog 35 #[.pointer (some ⟨g, 0, none⟩), .int .i64 x] w fun e w' => e = .returned (.tuple #[]) ∧ It.Box4 w' g (a + x * p) (l + (r * p - 1048576) * x) r p ∧ It.Upd g w w' := by
  obtain ⟨c0, c1, c2, c3, z0, z1⟩ := hb
  have m1 := Int.mul_le_mul (show 1048576 - r * p ≤ 1048576 by omega) b4 (by omega) (by omega)
  have m2 := Int.mul_nonneg (show 0 ≤ 1048576 - r * p by omega) (show 0 ≤ x by omega)
  have m3 : (r * p - 1048576) * x = -((1048576 - r * p) * x) := by rw [← Int.neg_mul]; congr 1; omega
  have m4 := Int.mul_le_mul b4 b10 (by omega) (by omega)
  have m5 := Int.mul_nonneg (show 0 ≤ x by omega) (show 0 ≤ p by omega)
  have q1 : IntKind.i64.wrap (r * p) = r * p := IntWalk.i64_in _ (by omega)
  have q2 : IntKind.i64.wrap (r * p - 1048576) = r * p - 1048576 := IntWalk.i64_in _ (by omega)
  have q3 : IntKind.i64.wrap ((r * p - 1048576) * x) = (r * p - 1048576) * x := IntWalk.i64_in _ (by omega)
  have q4 : IntKind.i64.wrap (l + (r * p - 1048576) * x) = l + (r * p - 1048576) * x := IntWalk.i64_in _ (by omega)
  have q5 : IntKind.i64.wrap (x * p) = x * p := IntWalk.i64_in _ (by omega)
  have q6 : IntKind.i64.wrap (a + x * p) = a + x * p := IntWalk.i64_in _ (by omega)
  clear m1 m2 m3 m4 m5
  go_enter Try.func35, Try.ntmps35
  go_upto_region 0 with fail
  refine wp_region_still_tail 20 (by kernel_rfl) (by kernel_rfl) ?_
  simp only [List.take_succ_cons, List.take_zero, List.drop_succ_cons, List.drop_zero]
  change wpStill _ _ (World.drew w) (fun a' => wpList _ _ _ _ a' (World.drew w)) _ _
  refine It.still_of_quiet _ _ ?_
  repeat (go_big_quiet_step (fail))
  refine wpQuiet_nil ?_
  go_wp2_with fail
  obtain ⟨W1, hW1⟩ : ∃ W1, (w.setCell ⟨g, 1, none⟩ (.int .i64 (l + (r * p - 1048576) * x))).drew = W1 := ⟨_, rfl⟩
  have B1 : It.Box4 W1 g a (l + (r * p - 1048576) * x) r p := by rw [← hW1]; exact (It.Box4.set1 ⟨c0, c1, c2, c3, z0, z1⟩ _).drew
  have U1 : It.Upd g w W1 := by rw [← hW1]; exact (It.Upd.set w 1 _).drew
  rw [hW1]
  clear hW1 c0 c1 c2 c3 z0 z1
  obtain ⟨c0, c1, c2, c3, z0, z1⟩ := B1
  refine wp_region_still_tail 13 (by kernel_rfl) (by kernel_rfl) ?_
  simp only [List.take_succ_cons, List.take_zero, List.drop_succ_cons, List.drop_zero]
  change wpStill _ _ (World.drew W1) (fun a' => wpList _ _ _ _ a' (World.drew W1)) _ _
  refine It.still_of_quiet _ _ ?_
  repeat (go_big_quiet_step (fail))
  refine wpQuiet_nil ?_
  go_wp2_with fail
  go_end0
  exact ⟨rfl, (It.Box4.drew ⟨c0, c1, c2, c3, z0, z1⟩).set0 _, (U1.drew).trans (It.Upd.set _ 0 _)⟩
end CrW
end Go.Proofs.Ytoglmfpmeajbeaa
