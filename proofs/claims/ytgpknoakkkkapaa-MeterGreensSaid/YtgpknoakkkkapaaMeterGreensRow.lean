/- MeterGreens: for every input the law returns true, and its arguments read as they did. -/
import Derived.Test.YtgpknoakkkkapaaMtGr
import Derived.Test.YtgpknoakkkkapaaRead
import Derived.Test.YtgpknoakkkkapaaArg
import Derived.ProofKit
import Derived.OpenShut
import Derived.ShutString
namespace Go.Proofs.Ytgpknoakkkkapaa.rowMeterGreens
set_option linter.unusedSimpArgs false
open Go.ChangeShapes Go.WideShapes Go.ChangeAt Go.RowKit
open Go.ChangeMaps (open_string shut_string)
set_option linter.unusedVariables false

theorem own : ownKnob Try.prog.godebug = none := by kernel_rfl
theorem laidOut : laidOutB Try.prog = true := by kernel_rfl

set_option maxRecDepth 100000 in
set_option maxHeartbeats 1000000 in
theorem lifted (os : Os) (started : os.Started) (H : Type) (enc : TypeId × Value → H) :
    ReturnsInHanded {} Try.checked os 7 .any (Rows.meterGreensSpec.pre6 enc Try.prog Try.f7 Rows.meterGreensRow.domain false) (Rows.meterGreensSpec.post enc Try.prog Try.f7 false true false false) := by
  refine returnsInHanded_of_change (C := Try.checked) own started (by kernel_rfl) Try.func7
    (ChangeSpec.witness6 (enc := enc) (C := Try.checked) false ⟨#[], #[.agg #[.int .u32 0, .int .u32 0, .slice none 0 0, .slice none 0 0], .agg #[.int .u32 0, .int .u32 0]], []⟩ 20 (by kernel_rfl) (by kernel_rfl) (by kernel_rfl) (by kernel_rfl)) ?_
  intro W base args ds gs before hval0 hW hcnd _
  have hval : ∀ (j : Nat) t v, Try.f7.params[j]? = some t → args[j]? = some v → Value.okWide Try.prog W .any base t v := hval0
  have hW' := hW
  obtain ⟨p, q, hA0, hV, rfl, hfz, hnd⟩ := hW
  have hA : DataW.TrodAll enc Try.prog W 0 (fun _ => true) true Try.f7.params.toList args.toList ds p := hA0
  rw [Try.params7] at hA hval
  obtain ⟨v0, vs0, d0, ds0, p0, q0, hargs, rfl, rfl, h0, r0⟩ := trodAll_cons hA
  obtain ⟨v1, vs1, d1, ds1, p1, q1, rfl, rfl, rfl, h1, r1⟩ := trodAll_cons r0
  obtain ⟨rfl, rfl, rfl⟩ := trodAll_nil r1
  obtain rfl : args = #[v0, v1] := by cases args; simp_all
  obtain ⟨rfl, rfl⟩ := trodVars_none hV
  have k0 := h0
  have lt0 : ∀ x ∈ p0, x.block < W.heap.size := by obtain ⟨m, hm⟩ := k0; exact DataW.trod_lt m _ _ _ hm
  obtain ⟨a0_0, a0_1, G0, gs0, cg0, S0, ss0, cs0, rfl, w0_0, w0_1, hG0, hS0, bG0, bS0, lG0, lS0⟩ := Arg.draft Try.underlying28 (by kernel_rfl) (by kernel_rfl) rfl rfl rfl rfl Try.underlying25 Try.underlying26 Try.underlying36 (by kernel_rfl) (hval 0 28 v0 rfl rfl) h0
  have k1 := h1
  have lt1 : ∀ x ∈ p1, x.block < W.heap.size := by obtain ⟨m, hm⟩ := k1; exact DataW.trod_lt m _ _ _ hm
  obtain ⟨cs1, rfl, hs1, hc1⟩ := Read.agg_cells 2 [25, 25] (by kernel_rfl) (by kernel_rfl) (by kernel_rfl) rfl (hval 1 29 v1 rfl rfl)
  obtain ⟨x1_0, e1_0, o1_0⟩ := hc1 0 _ rfl
  obtain ⟨a1_0, rfl, w1_0⟩ := Read.int_cell Try.underlying25 o1_0
  obtain ⟨x1_1, e1_1, o1_1⟩ := hc1 1 _ rfl
  obtain ⟨a1_1, rfl, w1_1⟩ := Read.int_cell Try.underlying25 o1_1
  obtain rfl : cs1 = #[.int .u32 a1_0, .int .u32 a1_1] := Read.array_ext2 (by rw [hs1]; rfl) (fun j hj => by
    have hj' : j = 0 ∨ j = 1 := by simp at hj; omega
    rcases hj' with rfl | rfl
    · exact e1_0
    · exact e1_1)
  clear hA0 hval0
  have walked : Calls Try.prog 7 #[.agg #[.int .u32 a0_0, .int .u32 a0_1, .slice G0 gs0.length cg0, .slice S0 ss0.length cs0], .agg #[.int .u32 a1_0, .int .u32 a1_1]] W fun e w' => e = .returned (.bool true) ∧ Below W.heap.size W w' := by
    have b00 : 0 ≤ a0_0 ∧ a0_0 ≤ 4294967295 := w0_0
    have b01 : 0 ≤ a0_1 ∧ a0_1 ≤ 4294967295 := w0_1
    have b10 : 0 ≤ a1_0 ∧ a1_0 ≤ 4294967295 := w1_0
    have b11 : 0 ≤ a1_1 ∧ a1_1 ≤ 4294967295 := w1_1
    obtain ⟨x, rfl⟩ := Int.eq_ofNat_of_zero_le b00.1
    obtain ⟨y, rfl⟩ := Int.eq_ofNat_of_zero_le b01.1
    obtain ⟨n, rfl⟩ := Int.eq_ofNat_of_zero_le b10.1
    obtain ⟨m, rfl⟩ := Int.eq_ofNat_of_zero_le b11.1
    exact MtW.law_Greens x y (by omega) (by omega) G0 gs0 cg0 S0 ss0 cs0 n m (by omega) (by omega) W hG0 hS0 bG0 bS0 lG0 lS0
  refine walked.mono fun e W' ⟨he, bel⟩ => ?_
  subst he
  exact ⟨_, rfl, _, _, _, [], _, [], hW', trodAll_mk1 (shut_bool Try.underlying4 _), (trodAll_cons_mk (Below.trod laidOut (by kernel_rfl) (of_decide_eq_true (by kernel_rfl)) k0 bel lt0) (trodAll_cons_mk (Below.trod laidOut (by kernel_rfl) (of_decide_eq_true (by kernel_rfl)) k1 bel lt1) trodAll_mk0)), rfl, bel.frame _, fun h => by cases h⟩

theorem over : Rows.meterGreensRow.holds Try.pinned (OpenSpec.ofChange Rows.meterGreensSpec) :=
  OpenClaim.holds_of_wide 7 Try.f7 rfl rfl rfl rfl rfl rfl rfl ⟨rfl, rfl, rfl, rfl, rfl⟩ rfl rfl rfl rfl rfl (by kernel_rfl) Try.func7 (by kernel_rfl)
    (of_decide_eq_true (by kernel_rfl)) (by unfold Func.isWrapper; first | (rw [if_pos (by decide +kernel)]; kernel_rfl) | (rw [if_neg (by decide +kernel)]; exact ⟨rfl, rfl⟩))
    (fun os started H enc _ => lifted os started H enc)

/-- The given statement. -/
theorem proved : Rows.MeterGreensSaid := over
#print axioms proved
end Go.Proofs.Ytgpknoakkkkapaa.rowMeterGreens
