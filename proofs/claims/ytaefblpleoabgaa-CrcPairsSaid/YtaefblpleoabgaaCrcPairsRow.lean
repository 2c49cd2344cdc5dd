/- CrcPairs: for every input the law returns true, and its arguments read as they did. -/
import Derived.Test.YtaefblpleoabgaaCrcL4
import Derived.Test.YtaefblpleoabgaaRead
import Derived.ProofKit
import Derived.OpenShut
import Derived.ShutString
namespace Go.Proofs.Ytaefblpleoabgaa.rowCrcPairs
open Go.ChangeShapes Go.WideShapes Go.ChangeAt Go.RowKit
open Go.ChangeMaps (open_string shut_string)
set_option linter.unusedVariables false

theorem own : ownKnob Try.prog.godebug = none := by kernel_rfl
theorem laidOut : laidOutB Try.prog = true := by kernel_rfl

set_option maxRecDepth 100000 in
theorem lifted (os : Os) (started : os.Started) (H : Type) (enc : TypeId × Value → H) :
    ReturnsInHanded {} Try.checked os 6 .any (Rows.crcPairsSpec.pre6 enc Try.prog Try.f6 Rows.crcPairsRow.domain false) (Rows.crcPairsSpec.post enc Try.prog Try.f6 false true false false) := by
  refine returnsInHanded_of_change (C := Try.checked) own started (by kernel_rfl) Try.func6
    (ChangeSpec.witness6 (enc := enc) (C := Try.checked) false ⟨#[], #[.string ByteArray.empty, .agg #[.int .u16 0, .int .u16 0]], []⟩ 20 (by kernel_rfl) (by kernel_rfl) (by kernel_rfl) (by kernel_rfl)) ?_
  intro W base args ds gs before hval0 hW hcnd _
  have hval : ∀ (j : Nat) t v, Try.f6.params[j]? = some t → args[j]? = some v → Value.okWide Try.prog W .any base t v := hval0
  have hW' := hW
  obtain ⟨p, q, hA0, hV, rfl, hfz, hnd⟩ := hW
  have hA : DataW.TrodAll enc Try.prog W 0 (fun _ => true) true Try.f6.params.toList args.toList ds p := hA0
  rw [Try.params6] at hA hval
  obtain ⟨v0, vs0, d0, ds0, p0, q0, hargs, rfl, rfl, h0, r0⟩ := trodAll_cons hA
  obtain ⟨v1, vs1, d1, ds1, p1, q1, rfl, rfl, rfl, h1, r1⟩ := trodAll_cons r0
  obtain ⟨rfl, rfl, rfl⟩ := trodAll_nil r1
  obtain rfl : args = #[v0, v1] := by cases args; simp_all
  obtain ⟨rfl, rfl⟩ := trodVars_none hV
  have k0 := h0
  have lt0 : ∀ x ∈ p0, x.block < W.heap.size := by obtain ⟨m, hm⟩ := k0; exact DataW.trod_lt m _ _ _ hm
  obtain ⟨a0, rfl, _, _, w0⟩ := open_string Try.underlying9 (hval 0 9 v0 rfl rfl) h0
  have k1 := h1
  have lt1 : ∀ x ∈ p1, x.block < W.heap.size := by obtain ⟨m, hm⟩ := k1; exact DataW.trod_lt m _ _ _ hm
  obtain ⟨cs1, rfl, hs1, hc1⟩ := Read.agg_cells 2 [29, 29] (by kernel_rfl) (by kernel_rfl) (by kernel_rfl) rfl (hval 1 35 v1 rfl rfl)
  obtain ⟨x1_0, e1_0, o1_0⟩ := hc1 0 _ rfl
  obtain ⟨a1_0, rfl, w1_0⟩ := Read.int_cell Try.underlying29 o1_0
  obtain ⟨x1_1, e1_1, o1_1⟩ := hc1 1 _ rfl
  obtain ⟨a1_1, rfl, w1_1⟩ := Read.int_cell Try.underlying29 o1_1
  obtain rfl : cs1 = #[.int .u16 a1_0, .int .u16 a1_1] := Read.array_ext2 (by rw [hs1]; rfl) (fun j hj => by
    have hj' : j = 0 ∨ j = 1 := by simp at hj; omega
    rcases hj' with rfl | rfl
    · exact e1_0
    · exact e1_1)
  clear hA0 hval0
  have walked : Calls Try.prog 6 #[.string a0, .agg #[.int .u16 a1_0, .int .u16 a1_1]] W fun e w' => e = .returned (.bool true) ∧ Below W.heap.size W w' := by
    have b0 : 0 ≤ a1_0 ∧ a1_0 ≤ 65535 := w1_0
    have b1 : 0 ≤ a1_1 ∧ a1_1 ≤ 65535 := w1_1
    obtain ⟨n, rfl⟩ := Int.eq_ofNat_of_zero_le b0.1
    obtain ⟨m, rfl⟩ := Int.eq_ofNat_of_zero_le b1.1
    exact CrcW.law_Pairs a0 w0 n m (by omega) (by omega) W
  refine walked.mono fun e W' ⟨he, bel⟩ => ?_
  subst he
  exact ⟨_, rfl, _, _, _, [], _, [], hW', trodAll_mk1 (shut_bool Try.underlying4 _), (trodAll_cons_mk (Below.trod laidOut (by kernel_rfl) (of_decide_eq_true (by kernel_rfl)) k0 bel lt0) (trodAll_cons_mk (Below.trod laidOut (by kernel_rfl) (of_decide_eq_true (by kernel_rfl)) k1 bel lt1) trodAll_mk0)), rfl, bel.frame _, fun h => by cases h⟩

theorem over : Rows.crcPairsRow.holds Try.pinned (OpenSpec.ofChange Rows.crcPairsSpec) :=
  OpenClaim.holds_of_wide 6 Try.f6 rfl rfl rfl rfl rfl rfl rfl ⟨rfl, rfl, rfl, rfl, rfl⟩ rfl rfl rfl rfl rfl (by kernel_rfl) Try.func6 (by kernel_rfl)
    (of_decide_eq_true (by kernel_rfl)) (by unfold Func.isWrapper; first | (rw [if_pos (by decide +kernel)]; kernel_rfl) | (rw [if_neg (by decide +kernel)]; exact ⟨rfl, rfl⟩))
    (fun os started H enc _ => lifted os started H enc)

/-- The given statement. -/
theorem proved : Rows.CrcPairsSaid := over
#print axioms proved
end Go.Proofs.Ytaefblpleoabgaa.rowCrcPairs
