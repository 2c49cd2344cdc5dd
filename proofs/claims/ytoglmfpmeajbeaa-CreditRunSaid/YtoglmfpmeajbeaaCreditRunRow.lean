/- CreditRun: for every input the law returns true, and its arguments read as they did. -/
import Derived.Test.YtoglmfpmeajbeaaCrL3
import Derived.Test.YtoglmfpmeajbeaaRead
import Derived.Test.YtoglmfpmeajbeaaArg
import Derived.ProofKit
import Derived.OpenShut
import Derived.ShutString
namespace Go.Proofs.Ytoglmfpmeajbeaa.rowCreditRun
set_option linter.unusedSimpArgs false
open Go.ChangeShapes Go.WideShapes Go.ChangeAt Go.RowKit
open Go.ChangeMaps (open_string shut_string)
set_option linter.unusedVariables false

theorem own : ownKnob Try.prog.godebug = none := by kernel_rfl
theorem laidOut : laidOutB Try.prog = true := by kernel_rfl

set_option maxRecDepth 100000 in
set_option maxHeartbeats 1000000 in
theorem lifted (os : Os) (started : os.Started) (H : Type) (enc : TypeId × Value → H) :
    ReturnsInHanded {} Try.checked os 5 .any (Rows.creditRunSpec.pre6 enc Try.prog Try.f5 Rows.creditRunRow.domain false) (Rows.creditRunSpec.post enc Try.prog Try.f5 false true false false) := by
  refine returnsInHanded_of_change (C := Try.checked) own started (by kernel_rfl) Try.func5
    (ChangeSpec.witness6 (enc := enc) (C := Try.checked) false ⟨#[], #[.agg #[.int .u32 0, .int .u32 0], .agg #[.int .u32 0, .int .u32 0, .slice none 0 0, .slice none 0 0], .slice none 0 0, .int .u16 0], []⟩ 20 (by kernel_rfl) (by kernel_rfl) (by kernel_rfl) (by kernel_rfl)) ?_
  intro W base args ds gs before hval0 hW hcnd _
  have hval : ∀ (j : Nat) t v, Try.f5.params[j]? = some t → args[j]? = some v → Value.okWide Try.prog W .any base t v := hval0
  have hW' := hW
  obtain ⟨p, q, hA0, hV, rfl, hfz, hnd⟩ := hW
  have hA : DataW.TrodAll enc Try.prog W 0 (fun _ => true) true Try.f5.params.toList args.toList ds p := hA0
  rw [Try.params5] at hA hval
  obtain ⟨v0, vs0, d0, ds0, p0, q0, hargs, rfl, rfl, h0, r0⟩ := trodAll_cons hA
  obtain ⟨v1, vs1, d1, ds1, p1, q1, rfl, rfl, rfl, h1, r1⟩ := trodAll_cons r0
  obtain ⟨v2, vs2, d2, ds2, p2, q2, rfl, rfl, rfl, h2, r2⟩ := trodAll_cons r1
  obtain ⟨v3, vs3, d3, ds3, p3, q3, rfl, rfl, rfl, h3, r3⟩ := trodAll_cons r2
  obtain ⟨rfl, rfl, rfl⟩ := trodAll_nil r3
  obtain rfl : args = #[v0, v1, v2, v3] := by cases args; simp_all
  obtain ⟨rfl, rfl⟩ := trodVars_none hV
  have k0 := h0
  have lt0 : ∀ x ∈ p0, x.block < W.heap.size := by obtain ⟨m, hm⟩ := k0; exact DataW.trod_lt m _ _ _ hm
  obtain ⟨cs0, rfl, hs0, hc0⟩ := Read.agg_cells 2 [26, 26] (by kernel_rfl) (by kernel_rfl) (by kernel_rfl) rfl (hval 0 27 v0 rfl rfl)
  obtain ⟨x0_0, e0_0, o0_0⟩ := hc0 0 _ rfl
  obtain ⟨a0_0, rfl, w0_0⟩ := Read.int_cell Try.underlying26 o0_0
  obtain ⟨x0_1, e0_1, o0_1⟩ := hc0 1 _ rfl
  obtain ⟨a0_1, rfl, w0_1⟩ := Read.int_cell Try.underlying26 o0_1
  obtain rfl : cs0 = #[.int .u32 a0_0, .int .u32 a0_1] := Read.array_ext2 (by rw [hs0]; rfl) (fun j hj => by
    have hj' : j = 0 ∨ j = 1 := by simp at hj; omega
    rcases hj' with rfl | rfl
    · exact e0_0
    · exact e0_1)
  have k1 := h1
  have lt1 : ∀ x ∈ p1, x.block < W.heap.size := by obtain ⟨m, hm⟩ := k1; exact DataW.trod_lt m _ _ _ hm
  obtain ⟨a1_0, a1_1, G1, gs1, cg1, S1, ss1, cs1, rfl, w1_0, w1_1, hG1, hS1, bG1, bS1, lG1, lS1⟩ := Arg.draft Try.underlying44 (by kernel_rfl) (by kernel_rfl) rfl rfl rfl rfl Try.underlying26 Try.underlying42 Try.underlying30 (by kernel_rfl) (hval 1 44 v1 rfl rfl) h1
  have k2 := h2
  have lt2 : ∀ x ∈ p2, x.block < W.heap.size := by obtain ⟨m, hm⟩ := k2; exact DataW.trod_lt m _ _ _ hm
  obtain ⟨fuel2, ht2⟩ := h2
  obtain ⟨a02, len2, cap02, rfl⟩ := okWide_slice Try.underlying42 (hval 2 42 v2 rfl rfl)
  obtain ⟨A2, l2, cap2, e2, lc2, cm2, hA2, bA2⟩ := Arg.ints Try.underlying42 Try.underlying30 (by kernel_rfl) ht2
  simp only [Value.cells, List.cons.injEq, Value.slice.injEq, and_true] at e2
  obtain ⟨rfl, rfl, rfl⟩ := e2
  have k3 := h3
  have lt3 : ∀ x ∈ p3, x.block < W.heap.size := by obtain ⟨m, hm⟩ := k3; exact DataW.trod_lt m _ _ _ hm
  obtain ⟨a3, rfl, _, _, w3⟩ := open_int Try.underlying30 (hval 3 30 v3 rfl rfl) h3
  clear hA0 hval0
  have walked : Calls Try.prog 5 #[.agg #[.int .u32 a0_0, .int .u32 a0_1], .agg #[.int .u32 a1_0, .int .u32 a1_1, .slice G1 gs1.length cg1, .slice S1 ss1.length cs1], .slice a02 l2.length cap02, .int .u16 a3] W fun e w' => e = .returned (.bool true) ∧ Below W.heap.size W w' := by
    have b00 : 0 ≤ a0_0 ∧ a0_0 ≤ 4294967295 := w0_0
    have b01 : 0 ≤ a0_1 ∧ a0_1 ≤ 4294967295 := w0_1
    obtain ⟨x, rfl⟩ := Int.eq_ofNat_of_zero_le b00.1
    obtain ⟨y, rfl⟩ := Int.eq_ofNat_of_zero_le b01.1
    have b3 := bounds_u16 w3
    exact CrW.law_Run x y (by omega) (by omega) _ _ G1 gs1 cg1 S1 ss1 cs1 a02 l2 cap02 a3 b3.1 b3.2 W hG1 hS1 bG1 bS1 lG1 lS1 hA2 bA2 lc2 cm2
  refine walked.mono fun e W' ⟨he, bel⟩ => ?_
  subst he
  exact ⟨_, rfl, _, _, _, [], _, [], hW', trodAll_mk1 (shut_bool Try.underlying4 _), (trodAll_cons_mk (Below.trod laidOut (by kernel_rfl) (of_decide_eq_true (by kernel_rfl)) k0 bel lt0) (trodAll_cons_mk (Below.trod laidOut (by kernel_rfl) (of_decide_eq_true (by kernel_rfl)) k1 bel lt1) (trodAll_cons_mk (Below.trod laidOut (by kernel_rfl) (of_decide_eq_true (by kernel_rfl)) k2 bel lt2) (trodAll_cons_mk (Below.trod laidOut (by kernel_rfl) (of_decide_eq_true (by kernel_rfl)) k3 bel lt3) trodAll_mk0)))), rfl, bel.frame _, fun h => by cases h⟩

theorem over : Rows.creditRunRow.holds Try.pinned (OpenSpec.ofChange Rows.creditRunSpec) :=
  OpenClaim.holds_of_wide 5 Try.f5 rfl rfl rfl rfl rfl rfl rfl ⟨rfl, rfl, rfl, rfl, rfl⟩ rfl rfl rfl rfl rfl (by kernel_rfl) Try.func5 (by kernel_rfl)
    (of_decide_eq_true (by kernel_rfl)) (by unfold Func.isWrapper; first | (rw [if_pos (by decide +kernel)]; kernel_rfl) | (rw [if_neg (by decide +kernel)]; exact ⟨rfl, rfl⟩))
    (fun os started H enc _ => lifted os started H enc)

/-- The given statement. -/
theorem proved : Rows.CreditRunSaid := over
#print axioms proved
end Go.Proofs.Ytoglmfpmeajbeaa.rowCreditRun
