/- Credit-based shapers: the walk of frame. -/
import Derived.Test.YtoglmfpmeajbeaaCrI
import Derived.BigCall
import Derived.BigGuard
import Derived.BigQuiet
import Derived.BigRegion
namespace Go.Proofs.Ytoglmfpmeajbeaa
set_option linter.unusedSimpArgs false
set_option linter.unusedVariables false
open Go.RowKit
namespace CrW
set_option maxRecDepth 100000
set_option maxHeartbeats 4000000
theorem idle_any (a l r p x : Int) (g : Nat) (w : World) (hb : It.Box4 w g a l r p) (r0 : 1 ≤ r) (r1 : r < 1048576) (a0 : 0 ≤ a) (x1 : x ≤ 1073741824) (b5 : -1616904192 ≤ l) :
    Calls Try.prog 33 #[.pointer (some ⟨g, 0, none⟩), .int .i64 x] w fun e w' => e = .returned (.tuple #[]) ∧ It.Box4 w' g (Cr.beg a x) (Cr.lvl r a l x) r p ∧ It.Upd g w w' := by
  unfold Cr.beg Cr.lvl
  by_cases h : a < x
  · rw [if_pos h, if_pos h]
    have := Cr.gain r0 r1 (show 0 ≤ x - a by omega) (by omega)
    exact idle_go a l r p x g w hb h (by omega) (by omega) (by omega) (by omega) (by omega)
  · rw [if_neg h, if_neg h]
    exact idle_stay a l r p x g w hb (by omega)
theorem frame_any (r p a l t free size : Int) (h : Cr.In r p a l t free size) (g : Nat) (w : World) (hb : It.Box4 w g a l r p) :
    Calls Try.prog 25 #[.pointer (some ⟨g, 0, none⟩), .int .i64 t, .int .i64 free, .int .i64 size] w fun e w' => e = .returned (.int .i64 (Cr.start r a l t free)) ∧ It.Box4 w' g (Cr.outA r p a l t free size) (Cr.outL r p a l t free size) r p ∧ It.Upd g w w' := by
  have hmf : ∀ (fn : Fn) (first cap : Array Value) (w : World), (Instr.makeFunc fn first cap).run Try.prog w = .ok (.func fn first cap) w := fun _ _ _ _ => rfl
  obtain ⟨p0, p1, r0, r1, rp, a0, a1, l0, l1, t0, t1, f0, f1, s0, s1⟩ := h
  have rp1 := (Cr.prod_bound p0 p1 r0 r1).1
  have C1 := Lib.hid (idle_any a l r p t g w hb r0 r1 a0 t1 l0)
  obtain ⟨b1, b2, b3⟩ := Cr.beg_le (a := a) (t := t)
  have hl := Cr.lvl_in (a := a) (t := t) r0 l0 l1
  have hm := Cr.mid_in (t := t) (free := free) r0 r1 l0 l1 a0 f1 t1 a1
  have hs := Cr.start_mid (a := a) (l := l) (t := t) (free := free) r0
  have hv := Cr.lev_mid r a l t free
  have hc := fun hn => Cr.ceil_spec (n := -Cr.mid r a l t free) r0 hn
  have hsp := Cr.start_spec (a := a) (l := l) (t := t) (free := free) r0
  have hM : Cr.mid r a l t free = Cr.lvl r a l t + r * (max (Cr.beg a t) free - Cr.beg a t) := rfl
  rw [show Cr.outL r p a l t free size = Cr.lev r a l t free + (r * p - 1048576) * size from rfl, show Cr.outA r p a l t free size = Cr.start r a l t free + size * p from rfl]
  generalize Cr.lev r a l t free = V at *
  generalize Cr.start r a l t free = T at *
  generalize Cr.mid r a l t free = M at *
  generalize Cr.beg a t = B at *
  generalize Cr.lvl r a l t = L at *
  by_cases hf : B < free
  · rw [show max B free = free by omega] at hs hv hM hsp
    have g1 := Cr.gain r0 r1 (show 0 ≤ free - B by omega) (by omega)
    have W1 := fun W hB => wait_any B L r p free g W hB (by omega) (by omega) g1.1 (by omega) (by omega) (by omega)
    rw [← hM] at W1
    have HW1 := Lib.hid W1
    clear W1
    by_cases hM0 : M < 0
    · rw [if_pos hM0] at hs
      obtain ⟨e1, e2, e3, e4⟩ := hc (by omega)
      have g2 := Cr.gain r0 r1 (show 0 ≤ T - free by omega) (by omega)
      have HW2 := Lib.hid (fun W hB => wait_any free M r p T g W hB (by omega) (by omega) g2.1 (by omega) (by omega) (by omega))
      have g3 : V ≤ 2305843009213693952 := by omega
      have g4 : T ≤ 8589934592 := by omega
      have q1 : IntKind.i64.wrap (-M) = -M := IntWalk.i64_in _ (by omega)
      have q2 : IntKind.i64.wrap (-M + r) = -M + r := IntWalk.i64_in _ (by omega)
      have q3 : IntKind.i64.wrap (-M + r - 1) = -M + r - 1 := IntWalk.i64_in _ (by omega)
      have q4 : (-M + r - 1).tdiv r = (-M + r - 1) / r := Int.tdiv_eq_ediv_of_nonneg (by omega)
      have q5 : IntKind.i64.wrap ((-M + r - 1) / r) = (-M + r - 1) / r := IntWalk.i64_in _ (by omega)
      have q6 : IntKind.i64.wrap (free + (-M + r - 1) / r) = T := by rw [hs]; exact IntWalk.i64_in _ (by omega)
      have hrn : r ≠ 0 := by omega
      rw [← hv] at HW2
      have S1 := Lib.hid (fun W hB => send_any T V r p size g W hB rp1 rp s0 s1 (by omega) g3 (by omega) g4 p0 p1)
      clear e1 e2 e3 e4 g2 g3 g4 hs hv hM hsp hc hb hm
      go_enter Try.func25, Try.ntmps25
      go_wp2_with fail
      refine C1.out.mono ?_
      rintro e w1 ⟨rfl, hB1, hU1⟩
      obtain ⟨c0, c1, c2, c3, z0, z1⟩ := hB1
      go_wp2_with fail
      refine (HW1.out w1 ⟨c0, c1, c2, c3, z0, z1⟩).mono ?_
      clear c0 c1 c2 c3 z0 z1
      rintro e w2 ⟨rfl, hB2, hU2⟩
      obtain ⟨c0, c1, c2, c3, z0, z1⟩ := hB2
      have HU2 := Lib.hid (hU1.trans hU2)
      clear hU1 hU2
      go_upto_region 6 with fail
      refine wp_region_still_tail 26 (by kernel_rfl) (by kernel_rfl) ?_
      simp only [List.take_succ_cons, List.take_zero, List.drop_succ_cons, List.drop_zero]
      change wpStill _ _ (World.drew w2) (fun a' => wpList _ _ _ _ a' (World.drew w2)) _ _
      refine It.still_of_quiet _ _ ?_
      repeat (go_big_quiet_step (fail))
      refine wpQuiet_nil ?_
      go_wp2_with fail
      refine (HW2.out _ (It.Box4.drew ⟨c0, c1, c2, c3, z0, z1⟩)).mono ?_
      clear c0 c1 c2 c3 z0 z1
      rintro e w3 ⟨rfl, hB3, hU3⟩
      obtain ⟨c0, c1, c2, c3, z0, z1⟩ := hB3
      have HU3 := Lib.hid (HU2.out.drew.trans hU3)
      clear hU3
      go_wp2_with fail
      refine (S1.out w3 ⟨c0, c1, c2, c3, z0, z1⟩).mono ?_
      rintro e w4 ⟨rfl, hB4, hU4⟩
      go_wp2_with fail
      go_ret
      exact ⟨rfl, hB4, HU3.out.trans hU4⟩
    · rw [if_neg hM0] at hs
      subst hs
      rw [Int.sub_self, Int.mul_zero, Int.add_zero] at hv
      subst hv
      have S1 := Lib.hid (fun W hB => send_any T V r p size g W hB rp1 rp s0 s1 (by omega) (by omega) (by omega) (by omega) p0 p1)
      clear hM hsp hc hb hm
      go_enter Try.func25, Try.ntmps25
      go_wp2_with fail
      refine C1.out.mono ?_
      rintro e w1 ⟨rfl, hB1, hU1⟩
      obtain ⟨c0, c1, c2, c3, z0, z1⟩ := hB1
      go_wp2_with fail
      refine (HW1.out w1 ⟨c0, c1, c2, c3, z0, z1⟩).mono ?_
      clear c0 c1 c2 c3 z0 z1
      rintro e w3 ⟨rfl, hB3, hU3⟩
      obtain ⟨c0, c1, c2, c3, z0, z1⟩ := hB3
      have HU3 := Lib.hid (hU1.trans hU3)
      clear hU1 hU3
      go_wp2_with fail
      refine (S1.out w3 ⟨c0, c1, c2, c3, z0, z1⟩).mono ?_
      rintro e w4 ⟨rfl, hB4, hU4⟩
      go_wp2_with fail
      go_ret
      exact ⟨rfl, hB4, HU3.out.trans hU4⟩
  · rw [show max B free = B by omega] at hs hv hM hsp
    rw [Int.sub_self, Int.mul_zero, Int.add_zero] at hM
    subst hM
    by_cases hM0 : M < 0
    · rw [if_pos hM0] at hs
      obtain ⟨e1, e2, e3, e4⟩ := hc (by omega)
      have g2 := Cr.gain r0 r1 (show 0 ≤ T - B by omega) (by omega)
      have HW2 := Lib.hid (fun W hB => wait_any B M r p T g W hB (by omega) (by omega) g2.1 (by omega) (by omega) (by omega))
      have g3 : V ≤ 2305843009213693952 := by omega
      have g4 : T ≤ 8589934592 := by omega
      have q1 : IntKind.i64.wrap (-M) = -M := IntWalk.i64_in _ (by omega)
      have q2 : IntKind.i64.wrap (-M + r) = -M + r := IntWalk.i64_in _ (by omega)
      have q3 : IntKind.i64.wrap (-M + r - 1) = -M + r - 1 := IntWalk.i64_in _ (by omega)
      have q4 : (-M + r - 1).tdiv r = (-M + r - 1) / r := Int.tdiv_eq_ediv_of_nonneg (by omega)
      have q5 : IntKind.i64.wrap ((-M + r - 1) / r) = (-M + r - 1) / r := IntWalk.i64_in _ (by omega)
      have q6 : IntKind.i64.wrap (B + (-M + r - 1) / r) = T := by rw [hs]; exact IntWalk.i64_in _ (by omega)
      have hrn : r ≠ 0 := by omega
      rw [← hv] at HW2
      have S1 := Lib.hid (fun W hB => send_any T V r p size g W hB rp1 rp s0 s1 (by omega) g3 (by omega) g4 p0 p1)
      clear e1 e2 e3 e4 g2 g3 g4 hs hv hsp hc hb hm
      go_enter Try.func25, Try.ntmps25
      go_wp2_with fail
      refine C1.out.mono ?_
      rintro e w2 ⟨rfl, hB1, hU1⟩
      obtain ⟨c0, c1, c2, c3, z0, z1⟩ := hB1
      have HU2 := Lib.hid hU1
      clear hU1
      go_upto_region 6 with fail
      refine wp_region_still_tail 26 (by kernel_rfl) (by kernel_rfl) ?_
      simp only [List.take_succ_cons, List.take_zero, List.drop_succ_cons, List.drop_zero]
      change wpStill _ _ (World.drew w2) (fun a' => wpList _ _ _ _ a' (World.drew w2)) _ _
      refine It.still_of_quiet _ _ ?_
      repeat (go_big_quiet_step (fail))
      refine wpQuiet_nil ?_
      go_wp2_with fail
      refine (HW2.out _ (It.Box4.drew ⟨c0, c1, c2, c3, z0, z1⟩)).mono ?_
      clear c0 c1 c2 c3 z0 z1
      rintro e w3 ⟨rfl, hB3, hU3⟩
      obtain ⟨c0, c1, c2, c3, z0, z1⟩ := hB3
      have HU3 := Lib.hid (HU2.out.drew.trans hU3)
      clear hU3
      go_wp2_with fail
      refine (S1.out w3 ⟨c0, c1, c2, c3, z0, z1⟩).mono ?_
      rintro e w4 ⟨rfl, hB4, hU4⟩
      go_wp2_with fail
      go_ret
      exact ⟨rfl, hB4, HU3.out.trans hU4⟩
    · rw [if_neg hM0] at hs
      subst hs
      rw [Int.sub_self, Int.mul_zero, Int.add_zero] at hv
      subst hv
      have S1 := Lib.hid (fun W hB => send_any T V r p size g W hB rp1 rp s0 s1 (by omega) (by omega) (by omega) (by omega) p0 p1)
      clear hsp hc hb hm
      go_enter Try.func25, Try.ntmps25
      go_wp2_with fail
      refine C1.out.mono ?_
      rintro e w3 ⟨rfl, hB1, hU1⟩
      obtain ⟨c0, c1, c2, c3, z0, z1⟩ := hB1
      have HU3 := Lib.hid hU1
      clear hU1
      go_wp2_with fail
      refine (S1.out w3 ⟨c0, c1, c2, c3, z0, z1⟩).mono ?_
      rintro e w4 ⟨rfl, hB4, hU4⟩
      go_wp2_with fail
      go_ret
      exact ⟨rfl, hB4, HU3.out.trans hU4⟩
end CrW
end Go.Proofs.Ytoglmfpmeajbeaa
