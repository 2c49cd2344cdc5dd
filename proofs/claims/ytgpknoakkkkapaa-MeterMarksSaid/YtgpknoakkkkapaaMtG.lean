/- MeterMarks: the walk of the law. -/
import Derived.Test.YtgpknoakkkkapaaMtQ
import Derived.Test.YtgpknoakkkkapaaMtY
import Derived.Test.YtgpknoakkkkapaaMtU
import Derived.Deep.DeepCutAuto
namespace Go.Proofs.Ytgpknoakkkkapaa
set_option linter.unusedSimpArgs false
set_option linter.unusedVariables false
open Go.RowKit
namespace MtW
theorem New_both (b r b2 r2 : Int) : ∃ x y e : Int,
    (∀ w, Calls Try.prog 11 #[.agg #[.int .i64 b, .int .i64 r], .agg #[.int .i64 b2, .int .i64 r2]] w fun e' w' => e' = .returned (.tuple #[.agg #[.int .i64 0, .int .i64 x, .int .i64 y], .int .i64 e]) ∧ Below w.heap.size w w') ∧
    (∀ w, Calls Try.prog 12 #[.agg #[.int .i64 b, .int .i64 r], .agg #[.int .i64 b2, .int .i64 r2]] w fun e' w' => e' = .returned (.tuple #[.agg #[.int .i64 0, .int .i64 x, .int .i64 y], .int .i64 e]) ∧ Below w.heap.size w w') :=
  ⟨_, _, _, New_any b r b2 r2, ref_New b r b2 r2⟩
theorem Check_both (b r b2 r2 l c p : Int) : ∃ e : Int,
    (∀ w, Calls Try.prog 13 #[.agg #[.int .i64 b, .int .i64 r], .agg #[.int .i64 b2, .int .i64 r2], .agg #[.int .i64 l, .int .i64 c, .int .i64 p]] w fun e' w' => e' = .returned (.int .i64 e) ∧ Below w.heap.size w w') ∧
    (∀ w, Calls Try.prog 14 #[.agg #[.int .i64 b, .int .i64 r], .agg #[.int .i64 b2, .int .i64 r2], .agg #[.int .i64 l, .int .i64 c, .int .i64 p]] w fun e' w' => e' = .returned (.int .i64 e) ∧ Below w.heap.size w w') :=
  ⟨_, Check_any b r b2 r2 l c p, ref_Check_any b r b2 r2 l c p⟩
/-- Pair returns two valid buckets. -/
theorem Pair_some (x y : Nat) (hx : x < 4294967296) (hy : y < 4294967296) (g s : Value) (n m : Int) (n0 : 0 ≤ n) (hn : n < 65536) (m0 : 0 ≤ m) (hm : m < 4294967296) : ∃ b r b2 r2 : Int, 1 ≤ b ∧ b ≤ 1048576 ∧ 1 ≤ r ∧ r ≤ 2097152 ∧ 1 ≤ b2 ∧ b2 ≤ 65536 ∧ r ≤ r2 ∧ r2 ≤ 2097152 ∧ 1 + (x : Int) % 1048576 = b ∧ 1 + (y : Int) % 2097152 = r ∧
    ∀ w, Calls Try.prog 9 #[.agg #[.int .u32 x, .int .u32 y, g, s], .int .u16 n, .int .u32 m] w fun e w' => e = .returned (.tuple #[.agg #[.int .i64 b, .int .i64 r], .agg #[.int .i64 b2, .int .i64 r2]]) ∧ Below w.heap.size w w' := by
  obtain ⟨n, rfl⟩ := Int.eq_ofNat_of_zero_le n0
  obtain ⟨m, rfl⟩ := Int.eq_ofNat_of_zero_le m0
  refine ⟨_, _, 1 + (n : Int), min 2097152 (1 + (y : Int) % 2097152 + (m : Int) % 524288), ?_, ?_, ?_, ?_, ?_, ?_, ?_, ?_, rfl, rfl, fun w => Pair_eq x y hx hy g s n m (by omega) (by omega) _ _ rfl rfl w⟩ <;> omega
set_option maxRecDepth 100000 in
set_option maxHeartbeats 4000000 in
theorem law_Marks (b0 r0 b1 r1 : Int) (x y : Nat) (hx : x < 4294967296) (hy : y < 4294967296) (g s : Value) (n m : Nat) (hn : n < 4294967296) (hm : m < 4294967296) (l c p at_ size : Int) (w : World) :
    Calls Try.prog 3 #[.agg #[.int .i64 b0, .int .i64 r0, .int .i64 b1, .int .i64 r1], .agg #[.int .u32 x, .int .u32 y, g, s], .agg #[.int .u32 n, .int .u32 m], .agg #[.int .i64 l, .int .i64 c, .int .i64 p], .agg #[.int .i64 at_, .int .i64 size]] w fun e w' => e = .returned (.bool true) ∧ Below w.heap.size w w' := by
  obtain ⟨b, r, b2, r2, p1, p2, p3, p4, p5, p6, p7, p8, _, _, PR⟩ := Pair_some x y hx hy g s (IntKind.u16.wrap (n : Int)) m (by show 0 ≤ (n : Int) % 65536; omega) (by show (n : Int) % 65536 < 65536; omega) (by omega) (by omega)
  have HP := Lib.hid PR
  clear PR
  go_enter Try.func3, Try.ntmps3
  go_wp2_with fail
  obtain ⟨W0, hW0⟩ : ∃ W0, (((((w.alloc (.cells #[.int .i64 b0, .int .i64 r0, .int .i64 b1, .int .i64 r1] 24)).alloc (.cells #[.int .u32 x, .int .u32 y, g, s] 28)).alloc (.cells #[.int .u32 n, .int .u32 m] 29)).alloc (.cells #[.int .i64 l, .int .i64 c, .int .i64 p] 31)).alloc (.cells #[.int .i64 at_, .int .i64 size] 33)) = W0 := ⟨_, rfl⟩
  have k0 : W0.cell? ⟨w.heap.size, 0, none⟩ = some (.int .i64 b0) := by rw [← hW0]; simp [go_sem]
  have k1 : W0.cell? ⟨w.heap.size, 1, none⟩ = some (.int .i64 r0) := by rw [← hW0]; simp [go_sem]
  have k2 : W0.cell? ⟨w.heap.size, 2, none⟩ = some (.int .i64 b1) := by rw [← hW0]; simp [go_sem]
  have k3 : W0.cell? ⟨w.heap.size, 3, none⟩ = some (.int .i64 r1) := by rw [← hW0]; simp [go_sem]
  have m0 : W0.cell? ⟨w.heap.size + 1 + 1 + 1, 0, none⟩ = some (.int .i64 l) := by rw [← hW0]; simp [go_sem]
  have m1 : W0.cell? ⟨w.heap.size + 1 + 1 + 1, 1, none⟩ = some (.int .i64 c) := by rw [← hW0]; simp [go_sem]
  have m2 : W0.cell? ⟨w.heap.size + 1 + 1 + 1, 2, none⟩ = some (.int .i64 p) := by rw [← hW0]; simp [go_sem]
  have x0 : W0.cell? ⟨w.heap.size + 1 + 1 + 1 + 1, 0, none⟩ = some (.int .i64 at_) := by rw [← hW0]; simp [go_sem]
  have x1 : W0.cell? ⟨w.heap.size + 1 + 1 + 1 + 1, 1, none⟩ = some (.int .i64 size) := by rw [← hW0]; simp [go_sem]
  have z0 : w.heap.size + 1 + 1 + 1 + 1 < W0.heap.size := by rw [← hW0]; simp
  have HW : Hid (Below w.heap.size w W0) := by rw [← hW0]; apply Lib.hid; (repeat' (first | (with_reducible exact Below.refl _ _) | (with_reducible refine Below.alloc ?_ ?_ _) | (with_reducible refine Below.setCell ?_ ?_ _) | (with_reducible refine Below.drew ?_) | (with_reducible assumption) | omega | (simp; done) | (simp; omega)))
  have HK := Lib.hid (And.intro k0 (And.intro k1 (And.intro k2 (And.intro k3 (And.intro m0 (And.intro m1 (And.intro m2 (And.intro x0 x1))))))))
  rw [hW0]
  clear hW0 k0 k1 k2 k3 m0 m1 m2 x0 x1
  refine (HP.out _).mono ?_
  rintro e w1 ⟨rfl, hb⟩
  have zz := hb.size
  have HB1 := Lib.hid hb
  have m0 := below_cell hb HK.out.2.2.2.2.1 (by omega)
  have m1 := below_cell hb HK.out.2.2.2.2.2.1 (by omega)
  have m2 := below_cell hb HK.out.2.2.2.2.2.2.1 (by omega)
  have le_w1_0_0 : w.heap.size ≤ w1.heap.size := by omega
  have le_w1_0_1 : w.heap.size ≤ w1.heap.size + 1 := by omega
  have le_w1_0_2 : w.heap.size ≤ w1.heap.size + 1 + 1 := by omega
  have le_w1_0_3 : w.heap.size ≤ w1.heap.size + 1 + 1 + 1 := by omega
  have lu_w1_0_1 : w.heap.size < w1.heap.size + 1 := by omega
  have lu_w1_0_2 : w.heap.size < w1.heap.size + 1 + 1 := by omega
  have lu_w1_0_3 : w.heap.size < w1.heap.size + 1 + 1 + 1 := by omega
  have lt_w1_0_0 : w.heap.size < w1.heap.size := by omega
  have lt_w1_0_1 : w.heap.size + 1 < w1.heap.size := by omega
  have lt_w1_0_2 : w.heap.size + 1 + 1 < w1.heap.size := by omega
  have lt_w1_0_3 : w.heap.size + 1 + 1 + 1 < w1.heap.size := by omega
  have lt_w1_0_4 : w.heap.size + 1 + 1 + 1 + 1 < w1.heap.size := by omega
  clear hb
  go_wp2_with fail
  refine (near_any b r b2 r2 l c p p1 p2 p5 (by omega) _).mono ?_
  rintro e w2 ⟨⟨gl, gc, gp, rfl⟩, hb⟩
  obtain ⟨hc, hz⟩ := bcell hb
  have zz2 := hb.size
  simp only [World.size_alloc] at zz2
  have HB2 : Hid (Below W0.heap.size W0 w2) := Lib.hid ((HB1.out.trans (Below.trans (b := (w1.alloc (.cells #[.int .i64 b, .int .i64 r] 23)).alloc (.cells #[.int .i64 b2, .int .i64 r2] 23)) (by have := HB1.out.size; (repeat' (first | (with_reducible exact Below.refl _ _) | (with_reducible refine Below.alloc ?_ ?_ _) | (with_reducible refine Below.setCell ?_ ?_ _) | (with_reducible refine Below.drew ?_) | (with_reducible assumption) | omega | (simp; done) | (simp; omega)))) (hb.mono (by simp; omega)))))
  have u0 : w2.cell? ⟨w1.heap.size, 0, none⟩ = some (.int .i64 b) := by rw [hc _ _ (by simp; omega)]; simp [go_sem]
  have u1 : w2.cell? ⟨w1.heap.size, 1, none⟩ = some (.int .i64 r) := by rw [hc _ _ (by simp; omega)]; simp [go_sem]
  have u2 : w2.cell? ⟨w1.heap.size + 1, 0, none⟩ = some (.int .i64 b2) := by rw [hc _ _ (by simp)]; simp [go_sem]
  have u3 : w2.cell? ⟨w1.heap.size + 1, 1, none⟩ = some (.int .i64 r2) := by rw [hc _ _ (by simp)]; simp [go_sem]
  clear hb m0 m1 m2
  have m0 := below_cell HB2.out HK.out.2.2.2.2.1 (by omega)
  have m1 := below_cell HB2.out HK.out.2.2.2.2.2.1 (by omega)
  have m2 := below_cell HB2.out HK.out.2.2.2.2.2.2.1 (by omega)
  have k0 := below_cell HB2.out HK.out.1 (by omega)
  have k1 := below_cell HB2.out HK.out.2.1 (by omega)
  have k2 := below_cell HB2.out HK.out.2.2.1 (by omega)
  have k3 := below_cell HB2.out HK.out.2.2.2.1 (by omega)
  have le_w2_0_0 : w.heap.size ≤ w2.heap.size := by omega
  have le_w2_0_1 : w.heap.size ≤ w2.heap.size + 1 := by omega
  have le_w2_0_2 : w.heap.size ≤ w2.heap.size + 1 + 1 := by omega
  have le_w2_0_3 : w.heap.size ≤ w2.heap.size + 1 + 1 + 1 := by omega
  have lu_w2_0_1 : w.heap.size < w2.heap.size + 1 := by omega
  have lu_w2_0_2 : w.heap.size < w2.heap.size + 1 + 1 := by omega
  have lu_w2_0_3 : w.heap.size < w2.heap.size + 1 + 1 + 1 := by omega
  have lt_w2_0_0 : w.heap.size < w2.heap.size := by omega
  have lt_w2_0_1 : w.heap.size + 1 < w2.heap.size := by omega
  have lt_w2_0_2 : w.heap.size + 1 + 1 < w2.heap.size := by omega
  have lt_w2_0_3 : w.heap.size + 1 + 1 + 1 < w2.heap.size := by omega
  have lt_w2_0_4 : w.heap.size + 1 + 1 + 1 + 1 < w2.heap.size := by omega
  have le_w2_1_0 : w1.heap.size ≤ w2.heap.size := by omega
  have le_w2_1_1 : w1.heap.size ≤ w2.heap.size + 1 := by omega
  have le_w2_1_2 : w1.heap.size ≤ w2.heap.size + 1 + 1 := by omega
  have le_w2_1_3 : w1.heap.size ≤ w2.heap.size + 1 + 1 + 1 := by omega
  have lu_w2_1_1 : w1.heap.size < w2.heap.size + 1 := by omega
  have lu_w2_1_2 : w1.heap.size < w2.heap.size + 1 + 1 := by omega
  have lu_w2_1_3 : w1.heap.size < w2.heap.size + 1 + 1 + 1 := by omega
  have lt_w2_1_0 : w1.heap.size < w2.heap.size := by omega
  have lt_w2_1_1 : w1.heap.size + 1 < w2.heap.size := by omega
  go_upto_region 3 with fail
  have B13 := Lib.hid (Mem.Box3.new w2 31 gl gc gp)
  obtain ⟨W2, hW2⟩ : ∃ W2, w2.alloc (.cells #[.int .i64 gl, .int .i64 gc, .int .i64 gp] 31) = W2 := ⟨_, rfl⟩
  have HB2' : Hid (Below W0.heap.size W0 W2) := by rw [← hW2]; exact Lib.hid (HB2.out.alloc HB2.out.size _)
  have hww : Below w2.heap.size w2 W2 := by rw [← hW2]; exact (Below.refl _ _).alloc (Nat.le_refl _) _
  have HU := Lib.hid (And.intro (below_cell hww u0 (by omega)) (And.intro (below_cell hww u1 (by omega)) (And.intro (below_cell hww u2 (by omega)) (below_cell hww u3 (by omega)))))
  clear u0 u1 u2 u3 hww
  have q0 : W2.cell? ⟨w2.heap.size, 0, none⟩ = some (.int .i64 gl) := by rw [← hW2]; exact B13.out.c0
  have q1 : W2.cell? ⟨w2.heap.size, 1, none⟩ = some (.int .i64 gc) := by rw [← hW2]; exact B13.out.c1
  have q2 : W2.cell? ⟨w2.heap.size, 2, none⟩ = some (.int .i64 gp) := by rw [← hW2]; exact B13.out.c2
  have qz : w2.heap.size < W2.heap.size := by rw [← hW2]; simp
  have le_W2_0_0 : w2.heap.size ≤ W2.heap.size := by omega
  have le_W2_0_1 : w2.heap.size ≤ W2.heap.size + 1 := by omega
  have le_W2_0_2 : w2.heap.size ≤ W2.heap.size + 1 + 1 := by omega
  have le_W2_0_3 : w2.heap.size ≤ W2.heap.size + 1 + 1 + 1 := by omega
  have lu_W2_0_1 : w2.heap.size < W2.heap.size + 1 := by omega
  have lu_W2_0_2 : w2.heap.size < W2.heap.size + 1 + 1 := by omega
  have lu_W2_0_3 : w2.heap.size < W2.heap.size + 1 + 1 + 1 := by omega
  have lt_W2_0_0 : w2.heap.size < W2.heap.size := by omega
  rw [hW2] at B13 ⊢
  clear hW2 m0 m1 m2 k0 k1 k2 k3 hc hz
  go_cut [14, 15, 16] (fun s14 s15 s16 wx => ∃ g14 g15 g16 : Nat, s14 = .pointer (some ⟨g14, 0, none⟩) ∧ s15 = .pointer (some ⟨g15, 0, none⟩) ∧ s16 = .pointer (some ⟨g16, 0, none⟩) ∧ g14 ≠ g15 ∧ g14 ≠ g16 ∧ g15 ≠ g16 ∧ W2.heap.size ≤ g14 ∧ W2.heap.size ≤ g15 ∧ W2.heap.size ≤ g16 ∧ Mem.Box3 wx g14 gl gc gp ∧ Mem.Box3 wx g15 gl gc gp ∧ Mem.Box3 wx g16 gl gc gp ∧ Below W2.heap.size W2 wx)
  case first =>
    go_wp2_with fail
    go_region
    all_goals
      go_wp2_with fail
      go_meet
      refine ⟨_, _, _, rfl, rfl, rfl, by omega, by omega, by omega, by omega, by omega, by omega, ?_, ?_, ?_, by (repeat' (first | (with_reducible exact Below.refl _ _) | (with_reducible refine Below.alloc ?_ ?_ _) | (with_reducible refine Below.setCell ?_ ?_ _) | (with_reducible refine Below.drew ?_) | (with_reducible assumption) | omega | (simp; done) | (simp; omega)))⟩
      all_goals first
        | exact Mem.Box3.drew (Mem.Box3.alloc (Mem.Box3.alloc (Mem.Box3.new _ _ _ _ _) _) _)
        | (refine Mem.Box3.drew (Mem.Box3.alloc (Mem.Box3.new_at _ _ _ _ _ _ ?_) _); simp; done)
        | (refine Mem.Box3.drew (Mem.Box3.new_at _ _ _ _ _ _ ?_); simp; done)
  case rest =>
    obtain ⟨g14, g15, g16, rfl, rfl, rfl, d1, d2, d3, d4, d5, d6, b14, b15, b16, hb⟩ := hcut
    have hbz := hb.size
    have HB3 : Hid (Below W0.heap.size W0 wc) := Lib.hid (HB2'.out.trans (hb.mono HB2'.out.size))
    have B13' := Lib.hid (B13.out.below hb qz)
    have HBC := Lib.hid hb
    have B14 := Lib.hid b14
    have B15 := Lib.hid b15
    have B16 := Lib.hid b16
    have m0 := below_cell HB3.out HK.out.2.2.2.2.1 (by omega)
    have m1 := below_cell HB3.out HK.out.2.2.2.2.2.1 (by omega)
    have m2 := below_cell HB3.out HK.out.2.2.2.2.2.2.1 (by omega)
    have hw2 := HB2'.out.size
    have e1 : ¬ w.heap.size + 1 + 1 + 1 = g14 := by omega
    have e2 : ¬ w.heap.size + 1 + 1 + 1 = g15 := by omega
    have e3 : ¬ w.heap.size + 1 + 1 + 1 = g16 := by omega
    have c14 := b14.c1
    have z14 := b14.z 1
    have c15 := b15.c2
    have z15 := b15.z 2
    have c16 := b16.c0
    have z16 := b16.z 0
    clear q0 q1 q2 b14 b15 b16 hb
    go_wp2_with fail
    go_region
    go_upto_region 5 with fail
    obtain ⟨W4, hW4⟩ : ∃ W4, (((wc.setCell ⟨g14, 1, none⟩ (.int .i64 c)).setCell ⟨g15, 2, none⟩ (.int .i64 p)).setCell ⟨g16, 0, none⟩ (.int .i64 l)).drew = W4 := ⟨_, rfl⟩
    have HB4 : Hid (Below W2.heap.size W2 W4) := by
      apply Lib.hid; rw [← hW4]
      exact (((HBC.out.setCell (p := ⟨g14, 1, none⟩) d4 _).setCell (p := ⟨g15, 2, none⟩) d5 _).setCell (p := ⟨g16, 0, none⟩) d6 _).drew
    have C14 : Hid (Mem.Box3 W4 g14 gl c gp) := by rw [← hW4]; exact Lib.hid (((B14.out.set1 c).far (p := ⟨g15, 2, none⟩) d1 _).far (p := ⟨g16, 0, none⟩) d2 _).drew
    have C15 : Hid (Mem.Box3 W4 g15 gl gc p) := by rw [← hW4]; exact Lib.hid (((B15.out.far (p := ⟨g14, 1, none⟩) (Ne.symm d1) _).set2 p).far (p := ⟨g16, 0, none⟩) d3 _).drew
    have C16 : Hid (Mem.Box3 W4 g16 l gc gp) := by rw [← hW4]; exact Lib.hid (((B16.out.far (p := ⟨g14, 1, none⟩) (Ne.symm d2) _).far (p := ⟨g15, 2, none⟩) (Ne.symm d3) _).set0 l).drew
    rw [hW4]
    clear hW4 B14 B15 B16 m0 m1 m2 e1 e2 e3 c14 z14 c15 z15 c16 z16 B13'
    have C13 := Lib.hid (B13.out.below HB4.out qz)
    have HB5 : Hid (Below W0.heap.size W0 W4) := Lib.hid (HB2'.out.trans (HB4.out.mono HB2'.out.size))
    have k0 := below_cell HB5.out HK.out.1 (by omega)
    have k1 := below_cell HB5.out HK.out.2.1 (by omega)
    have k2 := below_cell HB5.out HK.out.2.2.1 (by omega)
    have k3 := below_cell HB5.out HK.out.2.2.2.1 (by omega)
    have u0 := below_cell HB4.out HU.out.1 (by omega)
    have u1 := below_cell HB4.out HU.out.2.1 (by omega)
    have u2 := below_cell HB4.out HU.out.2.2.1 (by omega)
    have u3 := below_cell HB4.out HU.out.2.2.2 (by omega)
    -- LOOPS
    go_wp2_with fail
    have HB4k := Lib.hid (And.intro k0 (And.intro k1 (And.intro k2 k3)))
    have le1 := HB4.out.size
    have le2 := HB2'.out.size
    have lg14 := C14.out.lt
    have lg15 := C15.out.lt
    have lg16 := C16.out.lt
    clear k0 k1 k2 k3 u0 u1 u2 u3 hbz zz zz2
    have v0 := below_cell HB5.out HK.out.2.2.2.2.1 (by omega)
    have v1 := below_cell HB5.out HK.out.2.2.2.2.2.1 (by omega)
    have v2 := below_cell HB5.out HK.out.2.2.2.2.2.2.1 (by omega)
    have y0 := below_cell HB5.out HK.out.2.2.2.2.2.2.2.1 (by omega)
    have y1 := below_cell HB5.out HK.out.2.2.2.2.2.2.2.2 (by omega)
    have VV := Lib.hid (And.intro v0 (And.intro v1 (And.intro v2 (And.intro y0 y1))))
    clear v0 v1 v2 y0 y1
    go_loopw [71] (fun i wr => ∃ k : Nat, k ≤ 4 ∧ i = .int .i64 k ∧ Below W4.heap.size W4 wr) (fun i _ => 4 - (intOf i).toNat)
    case atStart => exact ⟨0, by omega, rfl, Below.refl _ _⟩
    case round =>
      obtain ⟨k, hk, rfl, hbr⟩ := hrel
      obtain ⟨wo, rfl⟩ : ∃ wo : World, wo = wr := ⟨_, rfl⟩
      have HR := Lib.hid hbr
      have lr := hbr.size
      clear hbr
      by_cases hlt : k < 4
      · obtain ⟨kb, kr, kb2, kr2, hix⟩ : ∃ kb kr kb2 kr2 : Int, ∀ W, (Instr.index 38 (.agg #[.int .i64 b0, .int .i64 r0, .int .i64 b1, .int .i64 r1, .int .i64 b, .int .i64 r, .int .i64 b2, .int .i64 r2, .int .i64 b2, .int .i64 r2, .int .i64 b, .int .i64 r, .int .i64 b, .int .i64 r, .int .i64 b1, .int .i64 r1]) (.int .i64 (k : Int))).run Try.prog W = .ok (.agg #[.int .i64 kb, .int .i64 kr, .int .i64 kb2, .int .i64 kr2]) W := by
          have h4 : k = 0 ∨ k = 1 ∨ k = 2 ∨ k = 3 := by omega
          rcases h4 with rfl | rfl | rfl | rfl
          · exact ⟨b0, r0, b1, r1, fun W => by kernel_rfl⟩
          · exact ⟨b, r, b2, r2, fun W => by kernel_rfl⟩
          · exact ⟨b2, r2, b, r, fun W => by kernel_rfl⟩
          · exact ⟨b, r, b1, r1, fun W => by kernel_rfl⟩
        obtain ⟨fx, fy, fe, N1, N2⟩ := New_both kb kr kb2 kr2
        have H1 := Lib.hid N1
        have H2 := Lib.hid N2
        clear N1 N2
        go_wp2_with fail
        refine (H1.out _).mono ?_
        rintro e w5 ⟨rfl, hb⟩
        have K0 : w5.cell? ⟨wo.heap.size, 0, none⟩ = some (.int .i64 kb) := by rw [(bcell hb).1 _ _ (by simp)]; simp [go_sem]
        have K1 : w5.cell? ⟨wo.heap.size, 1, none⟩ = some (.int .i64 kr) := by rw [(bcell hb).1 _ _ (by simp)]; simp [go_sem]
        have K2 : w5.cell? ⟨wo.heap.size, 2, none⟩ = some (.int .i64 kb2) := by rw [(bcell hb).1 _ _ (by simp)]; simp [go_sem]
        have K3 : w5.cell? ⟨wo.heap.size, 3, none⟩ = some (.int .i64 kr2) := by rw [(bcell hb).1 _ _ (by simp)]; simp [go_sem]
        have l5 := hb.size
        simp only [World.size_alloc] at l5
        have HW5 : Hid (Below W4.heap.size W4 w5) := Lib.hid ((HR.out.alloc HR.out.size _).trans (hb.mono (by simp; omega)))
        clear hb
        have le_w5_0_0 : wo.heap.size ≤ w5.heap.size := by omega
        have le_w5_0_1 : wo.heap.size ≤ w5.heap.size + 1 := by omega
        have le_w5_0_2 : wo.heap.size ≤ w5.heap.size + 1 + 1 := by omega
        have le_w5_0_3 : wo.heap.size ≤ w5.heap.size + 1 + 1 + 1 := by omega
        have lu_w5_0_1 : wo.heap.size < w5.heap.size + 1 := by omega
        have lu_w5_0_2 : wo.heap.size < w5.heap.size + 1 + 1 := by omega
        have lu_w5_0_3 : wo.heap.size < w5.heap.size + 1 + 1 + 1 := by omega
        have lt_w5_0_0 : wo.heap.size < w5.heap.size := by omega
        go_wp2_with fail
        refine (H2.out _).mono ?_
        rintro e w6 ⟨rfl, hb⟩
        have l6 := hb.size
        simp only [World.size_alloc] at l6
        obtain ⟨hc, hz⟩ := bcell hb
        have HW6 : Hid (Below W4.heap.size W4 w6) := Lib.hid ((HW5.out.alloc HW5.out.size _).trans (hb.mono (by have := HW5.out.size; simp; omega)))
        have HW56 : Hid (Below w5.heap.size w5 w6) := Lib.hid (((Below.refl _ _).alloc (Nat.le_refl _) _).trans (hb.mono (by simp)))
        clear hb
        have le_w6_0_0 : wo.heap.size ≤ w6.heap.size := by omega
        have le_w6_0_1 : wo.heap.size ≤ w6.heap.size + 1 := by omega
        have le_w6_0_2 : wo.heap.size ≤ w6.heap.size + 1 + 1 := by omega
        have le_w6_0_3 : wo.heap.size ≤ w6.heap.size + 1 + 1 + 1 := by omega
        have lu_w6_0_1 : wo.heap.size < w6.heap.size + 1 := by omega
        have lu_w6_0_2 : wo.heap.size < w6.heap.size + 1 + 1 := by omega
        have lu_w6_0_3 : wo.heap.size < w6.heap.size + 1 + 1 + 1 := by omega
        have lt_w6_0_0 : wo.heap.size < w6.heap.size := by omega
        have le_w6_1_0 : w5.heap.size ≤ w6.heap.size := by omega
        have le_w6_1_1 : w5.heap.size ≤ w6.heap.size + 1 := by omega
        have le_w6_1_2 : w5.heap.size ≤ w6.heap.size + 1 + 1 := by omega
        have le_w6_1_3 : w5.heap.size ≤ w6.heap.size + 1 + 1 + 1 := by omega
        have lu_w6_1_1 : w5.heap.size < w6.heap.size + 1 := by omega
        have lu_w6_1_2 : w5.heap.size < w6.heap.size + 1 + 1 := by omega
        have lu_w6_1_3 : w5.heap.size < w6.heap.size + 1 + 1 + 1 := by omega
        have lt_w6_1_0 : w5.heap.size < w6.heap.size := by omega
        have l4 := HR.out.size
        have le_w6_0_0 : w.heap.size ≤ w6.heap.size := by omega
        have le_w6_0_1 : w.heap.size ≤ w6.heap.size + 1 := by omega
        have le_w6_0_2 : w.heap.size ≤ w6.heap.size + 1 + 1 := by omega
        have le_w6_0_3 : w.heap.size ≤ w6.heap.size + 1 + 1 + 1 := by omega
        have lu_w6_0_1 : w.heap.size < w6.heap.size + 1 := by omega
        have lu_w6_0_2 : w.heap.size < w6.heap.size + 1 + 1 := by omega
        have lu_w6_0_3 : w.heap.size < w6.heap.size + 1 + 1 + 1 := by omega
        have lt_w6_0_0 : w.heap.size < w6.heap.size := by omega
        have lt_w6_0_1 : w.heap.size + 1 < w6.heap.size := by omega
        have lt_w6_0_2 : w.heap.size + 1 + 1 < w6.heap.size := by omega
        have lt_w6_0_3 : w.heap.size + 1 + 1 + 1 < w6.heap.size := by omega
        have lt_w6_0_4 : w.heap.size + 1 + 1 + 1 + 1 < w6.heap.size := by omega
        have le_w6_1_0 : w2.heap.size ≤ w6.heap.size := by omega
        have le_w6_1_1 : w2.heap.size ≤ w6.heap.size + 1 := by omega
        have le_w6_1_2 : w2.heap.size ≤ w6.heap.size + 1 + 1 := by omega
        have le_w6_1_3 : w2.heap.size ≤ w6.heap.size + 1 + 1 + 1 := by omega
        have lu_w6_1_1 : w2.heap.size < w6.heap.size + 1 := by omega
        have lu_w6_1_2 : w2.heap.size < w6.heap.size + 1 + 1 := by omega
        have lu_w6_1_3 : w2.heap.size < w6.heap.size + 1 + 1 + 1 := by omega
        have lt_w6_1_0 : w2.heap.size < w6.heap.size := by omega
        have le_w6_2_0 : g14 ≤ w6.heap.size := by omega
        have le_w6_2_1 : g14 ≤ w6.heap.size + 1 := by omega
        have le_w6_2_2 : g14 ≤ w6.heap.size + 1 + 1 := by omega
        have le_w6_2_3 : g14 ≤ w6.heap.size + 1 + 1 + 1 := by omega
        have lu_w6_2_1 : g14 < w6.heap.size + 1 := by omega
        have lu_w6_2_2 : g14 < w6.heap.size + 1 + 1 := by omega
        have lu_w6_2_3 : g14 < w6.heap.size + 1 + 1 + 1 := by omega
        have lt_w6_2_0 : g14 < w6.heap.size := by omega
        have le_w6_3_0 : g15 ≤ w6.heap.size := by omega
        have le_w6_3_1 : g15 ≤ w6.heap.size + 1 := by omega
        have le_w6_3_2 : g15 ≤ w6.heap.size + 1 + 1 := by omega
        have le_w6_3_3 : g15 ≤ w6.heap.size + 1 + 1 + 1 := by omega
        have lu_w6_3_1 : g15 < w6.heap.size + 1 := by omega
        have lu_w6_3_2 : g15 < w6.heap.size + 1 + 1 := by omega
        have lu_w6_3_3 : g15 < w6.heap.size + 1 + 1 + 1 := by omega
        have lt_w6_3_0 : g15 < w6.heap.size := by omega
        have le_w6_4_0 : g16 ≤ w6.heap.size := by omega
        have le_w6_4_1 : g16 ≤ w6.heap.size + 1 := by omega
        have le_w6_4_2 : g16 ≤ w6.heap.size + 1 + 1 := by omega
        have le_w6_4_3 : g16 ≤ w6.heap.size + 1 + 1 + 1 := by omega
        have lu_w6_4_1 : g16 < w6.heap.size + 1 := by omega
        have lu_w6_4_2 : g16 < w6.heap.size + 1 + 1 := by omega
        have lu_w6_4_3 : g16 < w6.heap.size + 1 + 1 + 1 := by omega
        have lt_w6_4_0 : g16 < w6.heap.size := by omega
        have v0 := below_cell HW6.out (VV.out.1) (by omega)
        have v1 := below_cell HW6.out (VV.out.2.1) (by omega)
        have v2 := below_cell HW6.out (VV.out.2.2.1) (by omega)
        have n0 := below_cell HW6.out (C13.out.c0) (by omega)
        have n1 := below_cell HW6.out (C13.out.c1) (by omega)
        have n2 := below_cell HW6.out (C13.out.c2) (by omega)
        have a0 := below_cell HW6.out (C14.out.c0) C14.out.lt
        have a1 := below_cell HW6.out (C14.out.c1) C14.out.lt
        have a2 := below_cell HW6.out (C14.out.c2) C14.out.lt
        have c0 := below_cell HW6.out (C15.out.c0) C15.out.lt
        have c1 := below_cell HW6.out (C15.out.c1) C15.out.lt
        have c2 := below_cell HW6.out (C15.out.c2) C15.out.lt
        have d0 := below_cell HW6.out (C16.out.c0) C16.out.lt
        have d1' := below_cell HW6.out (C16.out.c1) C16.out.lt
        have d2' := below_cell HW6.out (C16.out.c2) C16.out.lt
        go_wp2_with fail
        have KK := Lib.hid (And.intro (below_cell HW56.out K0 (by omega)) (And.intro (below_cell HW56.out K1 (by omega)) (And.intro (below_cell HW56.out K2 (by omega)) (below_cell HW56.out K3 (by omega)))))
        obtain ⟨W6, hW6⟩ : ∃ W6, w6.alloc (.cells #[.int .i64 0, .int .i64 fx, .int .i64 fy] 31) = W6 := ⟨_, rfl⟩
        have hal : Below w6.heap.size w6 W6 := by rw [← hW6]; exact (Below.refl _ _).alloc (Nat.le_refl _) _
        have HV6 : Hid (Below W4.heap.size W4 W6) := Lib.hid (HW6.out.trans (hal.mono HW6.out.size))
        have T0 := below_cell hal (KK.out.1) (by omega)
        have T1 := below_cell hal (KK.out.2.1) (by omega)
        have T2 := below_cell hal (KK.out.2.2.1) (by omega)
        have T3 := below_cell hal (KK.out.2.2.2) (by omega)
        have TT := Lib.hid (And.intro T0 (And.intro T1 (And.intro T2 T3)))
        have lal := hal.size
        rw [hW6]
        clear hW6 hal T0 T1 T2 T3 hix H1 H2 K0 K1 K2 K3 hc hz v0 v1 v2 n0 n1 n2 a0 a1 a2 c0 c1 c2 d0 d1' d2'
        go_loopw [105] (fun i wr2 => ∃ q : Nat, q ≤ 6 ∧ i = .int .i64 q ∧ Below W6.heap.size W6 wr2) (fun i _ => 6 - (intOf i).toNat)
        case atStart => exact ⟨0, by omega, rfl, Below.refl _ _⟩
        case round =>
          obtain ⟨q, hq, rfl, hbr⟩ := hrel
          obtain ⟨wq, rfl⟩ : ∃ wq : World, wq = wr := ⟨_, rfl⟩
          have HQ := Lib.hid hbr
          have lq := hbr.size
          clear hbr
          by_cases hlt2 : q < 6
          · obtain ⟨sl, sc, sp, hix⟩ : ∃ sl sc sp : Int, ∀ W, (Instr.index 42 (.agg #[.int .i64 l, .int .i64 c, .int .i64 p, .int .i64 gl, .int .i64 gc, .int .i64 gp, .int .i64 gl, .int .i64 c, .int .i64 gp, .int .i64 gl, .int .i64 gc, .int .i64 p, .int .i64 l, .int .i64 gc, .int .i64 gp, .int .i64 0, .int .i64 fx, .int .i64 fy]) (.int .i64 (q : Int))).run Try.prog W = .ok (.agg #[.int .i64 sl, .int .i64 sc, .int .i64 sp]) W := by
              have h4 : q = 0 ∨ q = 1 ∨ q = 2 ∨ q = 3 ∨ q = 4 ∨ q = 5 := by omega
              rcases h4 with rfl | rfl | rfl | rfl | rfl | rfl
              · exact ⟨l, c, p, fun W => by kernel_rfl⟩
              · exact ⟨gl, gc, gp, fun W => by kernel_rfl⟩
              · exact ⟨gl, c, gp, fun W => by kernel_rfl⟩
              · exact ⟨gl, gc, p, fun W => by kernel_rfl⟩
              · exact ⟨l, gc, gp, fun W => by kernel_rfl⟩
              · exact ⟨0, fx, fy, fun W => by kernel_rfl⟩
            obtain ⟨ce, N1, N2⟩ := Check_both kb kr kb2 kr2 sl sc sp
            have E1 := Lib.hid N1
            have E2 := Lib.hid N2
            clear N1 N2
            go_upto_region 15 with fail
            clear hix
            obtain ⟨X, hX⟩ : ∃ X, wq.alloc (.cells #[.int .i64 sl, .int .i64 sc, .int .i64 sp] 31) = X := ⟨_, rfl⟩
            have BX : Mem.Box3 X wq.heap.size sl sc sp := by rw [← hX]; exact Mem.Box3.new _ _ _ _ _
            have hqx : Below W6.heap.size W6 X := by rw [← hX]; exact HQ.out.alloc HQ.out.size _
            rw [hX]
            have lx := hqx.size
            have T0 := below_cell hqx (TT.out.1) (by omega)
            have T1 := below_cell hqx (TT.out.2.1) (by omega)
            have T2 := below_cell hqx (TT.out.2.2.1) (by omega)
            have T3 := below_cell hqx (TT.out.2.2.2) (by omega)
            have X0 := BX.c0
            have X1 := BX.c1
            have X2 := BX.c2
            have lX := BX.lt
            have HQX := Lib.hid hqx
            clear hX hqx BX
            go_cut [120] (fun s120 wx => s120 = .bool false ∧ Below X.heap.size X wx)
            case first =>
              go_region_held3 (fun w' => Below X.heap.size X w' ∧ w'.cell? ⟨wo.heap.size, 0, none⟩ = some (.int .i64 kb) ∧ w'.cell? ⟨wo.heap.size, 1, none⟩ = some (.int .i64 kr) ∧ w'.cell? ⟨wo.heap.size, 2, none⟩ = some (.int .i64 kb2) ∧ w'.cell? ⟨wo.heap.size, 3, none⟩ = some (.int .i64 kr2) ∧ w'.cell? ⟨wq.heap.size, 0, none⟩ = some (.int .i64 sl) ∧ w'.cell? ⟨wq.heap.size, 1, none⟩ = some (.int .i64 sc) ∧ w'.cell? ⟨wq.heap.size, 2, none⟩ = some (.int .i64 sp))
                ((refine ⟨?_, ?_, ?_, ?_, ?_, ?_, ?_, ?_⟩; (first | assumption | exact Below.drew (Below.refl _ _)); (first | assumption | exact below_cell (W0 := X) (Below.drew (Below.refl _ _)) T0 (by omega) | exact below_cell (W0 := X) hbA T0 (by omega) | exact below_cell (W0 := X) hbB T0 (by omega)); (first | assumption | exact below_cell (W0 := X) (Below.drew (Below.refl _ _)) T1 (by omega) | exact below_cell (W0 := X) hbA T1 (by omega) | exact below_cell (W0 := X) hbB T1 (by omega)); (first | assumption | exact below_cell (W0 := X) (Below.drew (Below.refl _ _)) T2 (by omega) | exact below_cell (W0 := X) hbA T2 (by omega) | exact below_cell (W0 := X) hbB T2 (by omega)); (first | assumption | exact below_cell (W0 := X) (Below.drew (Below.refl _ _)) T3 (by omega) | exact below_cell (W0 := X) hbA T3 (by omega) | exact below_cell (W0 := X) hbB T3 (by omega)); (first | assumption | exact below_cell (W0 := X) (Below.drew (Below.refl _ _)) X0 (by omega) | exact below_cell (W0 := X) hbA X0 (by omega) | exact below_cell (W0 := X) hbB X0 (by omega)); (first | assumption | exact below_cell (W0 := X) (Below.drew (Below.refl _ _)) X1 (by omega) | exact below_cell (W0 := X) hbA X1 (by omega) | exact below_cell (W0 := X) hbB X1 (by omega)); (first | assumption | exact below_cell (W0 := X) (Below.drew (Below.refl _ _)) X2 (by omega) | exact below_cell (W0 := X) hbA X2 (by omega) | exact below_cell (W0 := X) hbB X2 (by omega))))
                (first | (go_at_call_of 13 (Value.agg #[.int .i64 kb, .int .i64 kr]); go_split_ands; refine (carry (by assumption) (E1.out _)).mono ?_; rintro e w7 ⟨rfl, hbA⟩) | (go_at_call_of 14 (Value.agg #[.int .i64 kb, .int .i64 kr]); go_split_ands; refine (carry (by assumption) (E2.out _)).mono ?_; rintro e w8 ⟨rfl, hbB⟩))
              all_goals
                go_wp2_with fail
                go_meet
                exact ⟨rfl, by first | exact hbB | exact hbA⟩
            case rest =>
              obtain ⟨rfl, hbx⟩ := hcut
              have HV8 : Hid (Below W4.heap.size W4 wc) := Lib.hid (HV6.out.trans ((HQX.out.trans (hbx.mono HQX.out.size)).mono HV6.out.size))
              have hw8 : Below W0.heap.size W0 wc := HB5.out.trans (HV8.out.mono HB5.out.size)
              have y0 := below_cell hw8 HK.out.2.2.2.2.2.2.2.1 (by omega)
              have y1 := below_cell hw8 HK.out.2.2.2.2.2.2.2.2 (by omega)
              have X0' := below_cell hbx X0 (by omega)
              have X1' := below_cell hbx X1 (by omega)
              have X2' := below_cell hbx X2 (by omega)
              have XX := Lib.hid (And.intro T0 (And.intro T1 (And.intro T2 (And.intro T3 (And.intro X0 (And.intro X1 X2))))))
              have HBX := Lib.hid hbx
              clear hw8 hbx T0 T1 T2 T3 X0 X1 X2 E1 E2
              go_upto_region 17 with fail
              obtain ⟨wd, rfl⟩ : ∃ wd : World, wd = wc := ⟨_, rfl⟩
              go_cut [142, 143] (fun s i wx => wd = wx ∧ i = .int .i64 0 ∧ ∃ z1 z2 z3 z4 z5 z6 z7 z8 : Int, s = .agg #[.int .i64 z1, .int .i64 z2, .int .i64 z3, .int .i64 z4, .int .i64 z5, .int .i64 z6, .int .i64 z7, .int .i64 z8])
              case first =>
                go_wp2_with fail
                go_meet
                exact ⟨rfl, rfl, _, _, _, _, _, _, _, _, rfl⟩
              case rest =>
                obtain ⟨rfl, rfl, z1, z2, z3, z4, z5, z6, z7, z8, rfl⟩ := hcut
                clear y0 y1 X0' X1' X2'
                go_wp2_with fail
                go_loopw [143] (fun i wr => ∃ j : Nat, j ≤ 4 ∧ i = .int .i64 j ∧ Below X.heap.size X wr) (fun i _ => 4 - (intOf i).toNat)
                case atStart => exact ⟨0, by omega, rfl, HBX.out⟩
                case round =>
                  obtain ⟨j, hj, rfl, hbr⟩ := hrel
                  have HJ := Lib.hid hbr
                  have lj := hbr.size
                  clear hbr
                  by_cases hlt3 : j < 4
                  · obtain ⟨ya, ys, hix⟩ : ∃ ya ys : Int, ∀ W, (Instr.index 45 (.agg #[.int .i64 z1, .int .i64 z2, .int .i64 z3, .int .i64 z4, .int .i64 z5, .int .i64 z6, .int .i64 z7, .int .i64 z8]) (.int .i64 (j : Int))).run Try.prog W = .ok (.agg #[.int .i64 ya, .int .i64 ys]) W := by
                      have h4 : j = 0 ∨ j = 1 ∨ j = 2 ∨ j = 3 := by omega
                      rcases h4 with rfl | rfl | rfl | rfl
                      · exact ⟨z1, z2, fun W => by kernel_rfl⟩
                      · exact ⟨z3, z4, fun W => by kernel_rfl⟩
                      · exact ⟨z5, z6, fun W => by kernel_rfl⟩
                      · exact ⟨z7, z8, fun W => by kernel_rfl⟩
                    obtain ⟨mk, nx, ny, nz, ne, N1, N2⟩ := Mark_both kb kr kb2 kr2 sl sc sp ya ys
                    have M1 := Lib.hid N1
                    have M2 := Lib.hid N2
                    clear N1 N2
                    have T0 := below_cell HJ.out XX.out.1 (by omega)
                    have T1 := below_cell HJ.out XX.out.2.1 (by omega)
                    have T2 := below_cell HJ.out XX.out.2.2.1 (by omega)
                    have T3 := below_cell HJ.out XX.out.2.2.2.1 (by omega)
                    have X0 := below_cell HJ.out XX.out.2.2.2.2.1 (by omega)
                    have X1 := below_cell HJ.out XX.out.2.2.2.2.2.1 (by omega)
                    have X2 := below_cell HJ.out XX.out.2.2.2.2.2.2 (by omega)
                    have le_wr_0_0 : wo.heap.size ≤ wr.heap.size := by omega
                    have le_wr_0_1 : wo.heap.size ≤ wr.heap.size + 1 := by omega
                    have le_wr_0_2 : wo.heap.size ≤ wr.heap.size + 1 + 1 := by omega
                    have le_wr_0_3 : wo.heap.size ≤ wr.heap.size + 1 + 1 + 1 := by omega
                    have lu_wr_0_1 : wo.heap.size < wr.heap.size + 1 := by omega
                    have lu_wr_0_2 : wo.heap.size < wr.heap.size + 1 + 1 := by omega
                    have lu_wr_0_3 : wo.heap.size < wr.heap.size + 1 + 1 + 1 := by omega
                    have lt_wr_0_0 : wo.heap.size < wr.heap.size := by omega
                    have le_wr_1_0 : wq.heap.size ≤ wr.heap.size := by omega
                    have le_wr_1_1 : wq.heap.size ≤ wr.heap.size + 1 := by omega
                    have le_wr_1_2 : wq.heap.size ≤ wr.heap.size + 1 + 1 := by omega
                    have le_wr_1_3 : wq.heap.size ≤ wr.heap.size + 1 + 1 + 1 := by omega
                    have lu_wr_1_1 : wq.heap.size < wr.heap.size + 1 := by omega
                    have lu_wr_1_2 : wq.heap.size < wr.heap.size + 1 + 1 := by omega
                    have lu_wr_1_3 : wq.heap.size < wr.heap.size + 1 + 1 + 1 := by omega
                    have lt_wr_1_0 : wq.heap.size < wr.heap.size := by omega
                    go_wp2_with fail
                    refine (M1.out _).mono ?_
                    rintro e w9 ⟨rfl, hb⟩
                    have l9 := hb.size
                    simp only [World.size_alloc] at l9
                    have Y0 : w9.cell? ⟨wr.heap.size, 0, none⟩ = some (.int .i64 ya) := by rw [(bcell hb).1 _ _ (by simp)]; simp [go_sem]
                    have Y1 : w9.cell? ⟨wr.heap.size, 1, none⟩ = some (.int .i64 ys) := by rw [(bcell hb).1 _ _ (by simp)]; simp [go_sem]
                    have H9 : Hid (Below X.heap.size X w9) := Lib.hid ((HJ.out.alloc HJ.out.size _).trans (hb.mono (by simp; omega)))
                    clear hb T0 T1 T2 T3 X0 X1 X2
                    have T0 := below_cell H9.out XX.out.1 (by omega)
                    have T1 := below_cell H9.out XX.out.2.1 (by omega)
                    have T2 := below_cell H9.out XX.out.2.2.1 (by omega)
                    have T3 := below_cell H9.out XX.out.2.2.2.1 (by omega)
                    have X0 := below_cell H9.out XX.out.2.2.2.2.1 (by omega)
                    have X1 := below_cell H9.out XX.out.2.2.2.2.2.1 (by omega)
                    have X2 := below_cell H9.out XX.out.2.2.2.2.2.2 (by omega)
                    have le_w9_0_0 : wo.heap.size ≤ w9.heap.size := by omega
                    have le_w9_0_1 : wo.heap.size ≤ w9.heap.size + 1 := by omega
                    have le_w9_0_2 : wo.heap.size ≤ w9.heap.size + 1 + 1 := by omega
                    have le_w9_0_3 : wo.heap.size ≤ w9.heap.size + 1 + 1 + 1 := by omega
                    have lu_w9_0_1 : wo.heap.size < w9.heap.size + 1 := by omega
                    have lu_w9_0_2 : wo.heap.size < w9.heap.size + 1 + 1 := by omega
                    have lu_w9_0_3 : wo.heap.size < w9.heap.size + 1 + 1 + 1 := by omega
                    have lt_w9_0_0 : wo.heap.size < w9.heap.size := by omega
                    have le_w9_1_0 : wq.heap.size ≤ w9.heap.size := by omega
                    have le_w9_1_1 : wq.heap.size ≤ w9.heap.size + 1 := by omega
                    have le_w9_1_2 : wq.heap.size ≤ w9.heap.size + 1 + 1 := by omega
                    have le_w9_1_3 : wq.heap.size ≤ w9.heap.size + 1 + 1 + 1 := by omega
                    have lu_w9_1_1 : wq.heap.size < w9.heap.size + 1 := by omega
                    have lu_w9_1_2 : wq.heap.size < w9.heap.size + 1 + 1 := by omega
                    have lu_w9_1_3 : wq.heap.size < w9.heap.size + 1 + 1 + 1 := by omega
                    have lt_w9_1_0 : wq.heap.size < w9.heap.size := by omega
                    have le_w9_2_0 : wr.heap.size ≤ w9.heap.size := by omega
                    have le_w9_2_1 : wr.heap.size ≤ w9.heap.size + 1 := by omega
                    have le_w9_2_2 : wr.heap.size ≤ w9.heap.size + 1 + 1 := by omega
                    have le_w9_2_3 : wr.heap.size ≤ w9.heap.size + 1 + 1 + 1 := by omega
                    have lu_w9_2_1 : wr.heap.size < w9.heap.size + 1 := by omega
                    have lu_w9_2_2 : wr.heap.size < w9.heap.size + 1 + 1 := by omega
                    have lu_w9_2_3 : wr.heap.size < w9.heap.size + 1 + 1 + 1 := by omega
                    have lt_w9_2_0 : wr.heap.size < w9.heap.size := by omega
                    go_wp2_with fail
                    refine (M2.out _).mono ?_
                    rintro e w10 ⟨rfl, hb⟩
                    have l10 := hb.size
                    simp only [World.size_alloc] at l10
                    have Z0 : w10.cell? ⟨w9.heap.size, 0, none⟩ = some (.int .i64 nx) := by rw [(bcell hb).1 _ _ (by simp)]; simp [go_sem]
                    have Z1 : w10.cell? ⟨w9.heap.size, 1, none⟩ = some (.int .i64 ny) := by rw [(bcell hb).1 _ _ (by simp)]; simp [go_sem]
                    have Z2 : w10.cell? ⟨w9.heap.size, 2, none⟩ = some (.int .i64 nz) := by rw [(bcell hb).1 _ _ (by simp)]; simp [go_sem]
                    have H10 : Hid (Below X.heap.size X w10) := Lib.hid ((H9.out.alloc H9.out.size _).trans (hb.mono (by have := H9.out.size; simp; omega)))
                    clear hb T0 T1 T2 T3 X0 X1 X2 hix Y0 Y1
                    have le_w10_0_0 : w9.heap.size ≤ w10.heap.size := by omega
                    have le_w10_0_1 : w9.heap.size ≤ w10.heap.size + 1 := by omega
                    have le_w10_0_2 : w9.heap.size ≤ w10.heap.size + 1 + 1 := by omega
                    have le_w10_0_3 : w9.heap.size ≤ w10.heap.size + 1 + 1 + 1 := by omega
                    have lu_w10_0_1 : w9.heap.size < w10.heap.size + 1 := by omega
                    have lu_w10_0_2 : w9.heap.size < w10.heap.size + 1 + 1 := by omega
                    have lu_w10_0_3 : w9.heap.size < w10.heap.size + 1 + 1 + 1 := by omega
                    have lt_w10_0_0 : w9.heap.size < w10.heap.size := by omega
                    go_wp2_with fail
                    go_roundw
                    case rel => exact ⟨j + 1, by omega, by go_num, H10.out.alloc H10.out.size _⟩
                    case measure => simp [intOf]; omega
                  · go_wp2_with fail
                    go_roundw
                    case rel => exact ⟨q + 1, by omega, by go_num, HQX.out.trans (HJ.out.mono HQX.out.size)⟩
                    case measure => simp [intOf]; omega
          · go_wp2_with fail
            go_roundw
            case rel => exact ⟨k + 1, by omega, by go_num, HV6.out.trans (HQ.out.mono HV6.out.size)⟩
            case measure => simp [intOf]; omega
      · go_wp2_with fail
        refine (works_any _).mono ?_
        rintro e w11 ⟨rfl, hb⟩
        go_wp2_with fail
        go_ret
        exact ⟨rfl, (HW.out.trans ((HB5.out.trans (HR.out.mono HB5.out.size)).mono HW.out.size)).trans (hb.mono (by have := HW.out.size; omega))⟩
end MtW
end Go.Proofs.Ytgpknoakkkkapaa
