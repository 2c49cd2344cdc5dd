/- CreditSteps: for every input the law returns true, and its arguments read as they did. -/
import Derived.Test.YtoglmfpmeajbeaaCrL1
import Derived.Test.YtoglmfpmeajbeaaRead
import Derived.ProofKit
import Derived.OpenShut
import Derived.ShutString
namespace Go.Proofs.Ytoglmfpmeajbeaa.rowCreditSteps
set_option linter.unusedSimpArgs false
open Go.ChangeShapes Go.WideShapes Go.ChangeAt Go.RowKit
open Go.ChangeMaps (open_string shut_string)
set_option linter.unusedVariables false

theorem own : ownKnob Try.prog.godebug = none := by kernel_rfl
theorem laidOut : laidOutB Try.prog = true := by kernel_rfl

set_option maxRecDepth 100000 in
set_option maxHeartbeats 1000000 in
theorem lifted (os : Os) (started : os.Started) (H : Type) (enc : TypeId × Value → H) :
    ReturnsInHanded {} Try.checked os 3 .any (Rows.creditStepsSpec.pre6 enc Try.prog Try.f3 Rows.creditStepsRow.domain false) (Rows.creditStepsSpec.post enc Try.prog Try.f3 false true false false) := by
  refine returnsInHanded_of_change (C := Try.checked) own started (by kernel_rfl) Try.func3
    (ChangeSpec.witness6 (enc := enc) (C := Try.checked) false ⟨#[], #[.agg #[.int .i64 0, .int .i64 0], .agg #[.int .i64 0, .int .i64 0], .agg #[.int .u32 0, .int .u32 0], .agg #[.int .i64 0, .int .i64 0, .int .i64 0]], []⟩ 20 (by kernel_rfl) (by kernel_rfl) (by kernel_rfl) (by kernel_rfl)) ?_
  intro W base args ds gs before hval0 hW hcnd _
  have hval : ∀ (j : Nat) t v, Try.f3.params[j]? = some t → args[j]? = some v → Value.okWide Try.prog W .any base t v := hval0
  have hW' := hW
  obtain ⟨p, q, hA0, hV, rfl, hfz, hnd⟩ := hW
  have hA : DataW.TrodAll enc Try.prog W 0 (fun _ => true) true Try.f3.params.toList args.toList ds p := hA0
  rw [Try.params3] at hA hval
  obtain ⟨v0, vs0, d0, ds0, p0, q0, hargs, rfl, rfl, h0, r0⟩ := trodAll_cons hA
  obtain ⟨v1, vs1, d1, ds1, p1, q1, rfl, rfl, rfl, h1, r1⟩ := trodAll_cons r0
  obtain ⟨v2, vs2, d2, ds2, p2, q2, rfl, rfl, rfl, h2, r2⟩ := trodAll_cons r1
  obtain ⟨v3, vs3, d3, ds3, p3, q3, rfl, rfl, rfl, h3, r3⟩ := trodAll_cons r2
  obtain ⟨rfl, rfl, rfl⟩ := trodAll_nil r3
  obtain rfl : args = #[v0, v1, v2, v3] := by cases args; simp_all
  obtain ⟨rfl, rfl⟩ := trodVars_none hV
  have k0 := h0
  have lt0 : ∀ x ∈ p0, x.block < W.heap.size := by obtain ⟨m, hm⟩ := k0; exact DataW.trod_lt m _ _ _ hm
  obtain ⟨cs0, rfl, hs0, hc0⟩ := Read.agg_cells 2 [3, 3] (by kernel_rfl) (by kernel_rfl) (by kernel_rfl) rfl (hval 0 23 v0 rfl rfl)
  obtain ⟨x0_0, e0_0, o0_0⟩ := hc0 0 _ rfl
  obtain ⟨a0_0, rfl, w0_0⟩ := Read.int_cell Try.underlying3 o0_0
  obtain ⟨x0_1, e0_1, o0_1⟩ := hc0 1 _ rfl
  obtain ⟨a0_1, rfl, w0_1⟩ := Read.int_cell Try.underlying3 o0_1
  obtain rfl : cs0 = #[.int .i64 a0_0, .int .i64 a0_1] := Read.array_ext2 (by rw [hs0]; rfl) (fun j hj => by
    have hj' : j = 0 ∨ j = 1 := by simp at hj; omega
    rcases hj' with rfl | rfl
    · exact e0_0
    · exact e0_1)
  have k1 := h1
  have lt1 : ∀ x ∈ p1, x.block < W.heap.size := by obtain ⟨m, hm⟩ := k1; exact DataW.trod_lt m _ _ _ hm
  obtain ⟨cs1, rfl, hs1, hc1⟩ := Read.agg_cells 2 [3, 3] (by kernel_rfl) (by kernel_rfl) (by kernel_rfl) rfl (hval 1 25 v1 rfl rfl)
  obtain ⟨x1_0, e1_0, o1_0⟩ := hc1 0 _ rfl
  obtain ⟨a1_0, rfl, w1_0⟩ := Read.int_cell Try.underlying3 o1_0
  obtain ⟨x1_1, e1_1, o1_1⟩ := hc1 1 _ rfl
  obtain ⟨a1_1, rfl, w1_1⟩ := Read.int_cell Try.underlying3 o1_1
  obtain rfl : cs1 = #[.int .i64 a1_0, .int .i64 a1_1] := Read.array_ext2 (by rw [hs1]; rfl) (fun j hj => by
    have hj' : j = 0 ∨ j = 1 := by simp at hj; omega
    rcases hj' with rfl | rfl
    · exact e1_0
    · exact e1_1)
  have k2 := h2
  have lt2 : ∀ x ∈ p2, x.block < W.heap.size := by obtain ⟨m, hm⟩ := k2; exact DataW.trod_lt m _ _ _ hm
  obtain ⟨cs2, rfl, hs2, hc2⟩ := Read.agg_cells 2 [26, 26] (by kernel_rfl) (by kernel_rfl) (by kernel_rfl) rfl (hval 2 27 v2 rfl rfl)
  obtain ⟨x2_0, e2_0, o2_0⟩ := hc2 0 _ rfl
  obtain ⟨a2_0, rfl, w2_0⟩ := Read.int_cell Try.underlying26 o2_0
  obtain ⟨x2_1, e2_1, o2_1⟩ := hc2 1 _ rfl
  obtain ⟨a2_1, rfl, w2_1⟩ := Read.int_cell Try.underlying26 o2_1
  obtain rfl : cs2 = #[.int .u32 a2_0, .int .u32 a2_1] := Read.array_ext2 (by rw [hs2]; rfl) (fun j hj => by
    have hj' : j = 0 ∨ j = 1 := by simp at hj; omega
    rcases hj' with rfl | rfl
    · exact e2_0
    · exact e2_1)
  have k3 := h3
  have lt3 : ∀ x ∈ p3, x.block < W.heap.size := by obtain ⟨m, hm⟩ := k3; exact DataW.trod_lt m _ _ _ hm
  obtain ⟨cs3, rfl, hs3, hc3⟩ := Read.agg_cells 3 [3, 3, 3] (by kernel_rfl) (by kernel_rfl) (by kernel_rfl) rfl (hval 3 28 v3 rfl rfl)
  obtain ⟨x3_0, e3_0, o3_0⟩ := hc3 0 _ rfl
  obtain ⟨a3_0, rfl, w3_0⟩ := Read.int_cell Try.underlying3 o3_0
  obtain ⟨x3_1, e3_1, o3_1⟩ := hc3 1 _ rfl
  obtain ⟨a3_1, rfl, w3_1⟩ := Read.int_cell Try.underlying3 o3_1
  obtain ⟨x3_2, e3_2, o3_2⟩ := hc3 2 _ rfl
  obtain ⟨a3_2, rfl, w3_2⟩ := Read.int_cell Try.underlying3 o3_2
  obtain rfl : cs3 = #[.int .i64 a3_0, .int .i64 a3_1, .int .i64 a3_2] := Read.array_ext2 (by rw [hs3]; rfl) (fun j hj => by
    have hj' : j = 0 ∨ j = 1 ∨ j = 2 := by simp at hj; omega
    rcases hj' with rfl | rfl | rfl
    · exact e3_0
    · exact e3_1
    · exact e3_2)
  clear hA0 hval0
  have walked : Calls Try.prog 3 #[.agg #[.int .i64 a0_0, .int .i64 a0_1], .agg #[.int .i64 a1_0, .int .i64 a1_1], .agg #[.int .u32 a2_0, .int .u32 a2_1], .agg #[.int .i64 a3_0, .int .i64 a3_1, .int .i64 a3_2]] W fun e w' => e = .returned (.bool true) ∧ Below W.heap.size W w' := by
    have b20 : 0 ≤ a2_0 ∧ a2_0 ≤ 4294967295 := w2_0
    have b21 : 0 ≤ a2_1 ∧ a2_1 ≤ 4294967295 := w2_1
    obtain ⟨x, rfl⟩ := Int.eq_ofNat_of_zero_le b20.1
    obtain ⟨y, rfl⟩ := Int.eq_ofNat_of_zero_le b21.1
    exact CrW.law_Steps _ _ _ _ x y (by omega) (by omega) _ _ _ W
  refine walked.mono fun e W' ⟨he, bel⟩ => ?_
  subst he
  exact ⟨_, rfl, _, _, _, [], _, [], hW', trodAll_mk1 (shut_bool Try.underlying4 _), (trodAll_cons_mk (Below.trod laidOut (by kernel_rfl) (of_decide_eq_true (by kernel_rfl)) k0 bel lt0) (trodAll_cons_mk (Below.trod laidOut (by kernel_rfl) (of_decide_eq_true (by kernel_rfl)) k1 bel lt1) (trodAll_cons_mk (Below.trod laidOut (by kernel_rfl) (of_decide_eq_true (by kernel_rfl)) k2 bel lt2) (trodAll_cons_mk (Below.trod laidOut (by kernel_rfl) (of_decide_eq_true (by kernel_rfl)) k3 bel lt3) trodAll_mk0)))), rfl, bel.frame _, fun h => by cases h⟩

theorem over : Rows.creditStepsRow.holds Try.pinned (OpenSpec.ofChange Rows.creditStepsSpec) :=
  OpenClaim.holds_of_wide 3 Try.f3 rfl rfl rfl rfl rfl rfl rfl ⟨rfl, rfl, rfl, rfl, rfl⟩ rfl rfl rfl rfl rfl (by kernel_rfl) Try.func3 (by kernel_rfl)
    (of_decide_eq_true (by kernel_rfl)) (by unfold Func.isWrapper; first | (rw [if_pos (by decide +kernel)]; kernel_rfl) | (rw [if_neg (by decide +kernel)]; exact ⟨rfl, rfl⟩))
    (fun os started H enc _ => lifted os started H enc)

/-- The given statement. -/
theorem proved : Rows.CreditStepsSaid := over
#print axioms proved
end Go.Proofs.Ytoglmfpmeajbeaa.rowCreditSteps
