/- A still walk by the quiet one's cheap steps. -/
import Derived.StillTailTactics
import Derived.BigQuiet
import Derived.BigGuard
import Derived.BigCall
namespace Go.Proofs.Ytoglmfpmeajbeaa
set_option linter.unusedSimpArgs false
set_option linter.unusedVariables false
namespace It
theorem still_of_quiet {P : Program} {ops : Array Oper} {w : World} {Q : Act → Prop} : ∀ (l : List Oper) (a : Act), wpQuiet P ops (fun w' => w' = w) Q l a → wpStill P ops w Q l a
  | [], _, h => h
  | o :: rest, a, h => by
    unfold wpQuiet at h
    unfold wpStill
    split at h
    · rename_i hw
      rw [if_pos hw]
      obtain ⟨v, h1, h2⟩ := h
      have h1 := h1 w rfl
      unfold Oper.quietAt at h1
      unfold Oper.still
      generalize (execOp a.eval o).run P w = r at *
      cases r with
      | ok n w' =>
        cases n <;> simp only [Oper.quietUpon] at h1 <;> simp only [Oper.stillUpon]
        case value u => obtain ⟨e1, rfl⟩ := h1; exact ⟨e1, still_of_quiet rest _ h2⟩
        case skip => obtain ⟨e1, rfl⟩ := h1; exact ⟨e1, still_of_quiet rest _ h2⟩
        case enter f args => obtain ⟨e1, hc⟩ := h1; exact ⟨e1, v, hc, still_of_quiet rest _ h2⟩
      | halt x w' => simp only [Oper.quietUpon] at h1
    · rename_i hw
      rw [if_neg hw]
      exact still_of_quiet rest _ h
end It
end Go.Proofs.Ytoglmfpmeajbeaa
