/- Shaping: bounds of the times; what the laws need. No walk. -/
import Derived.Test.YtpglhjgpjnapgaaSpFit
namespace Go.Proofs.Ytpglhjgpjnapgaa
set_option linter.unusedSimpArgs false
set_option linter.unusedVariables false
namespace Sp
open Bk
theorem time_small {b r l v a z : Int} (hb : 1 ≤ b) (hr : 1024 ≤ r) (hv : 0 ≤ v) (z0 : 1 ≤ z) (z1 : z ≤ 65536) : time b r l v a z ≤ max a l + 67108864 := by
  unfold time
  split
  · rename_i hm
    have hc := ceil_bd (show 1 ≤ r by omega) hm
    have hl : 0 ≤ lev b r l v (max a l) := by
      have := rt_le (show 1 ≤ r by omega) (show 0 ≤ max a l - l by omega)
      unfold lev; omega
    have hmm : miss b r l v a z ≤ z * 1048576 := by unfold miss; omega
    generalize miss b r l v a z = m at *
    generalize (m + r - 1) / r = q at *
    have h1 : (q - 1) * 1024 ≤ (q - 1) * r := Int.mul_le_mul_of_nonneg_left hr (by omega)
    have h2 : (q - 1) * r = r * q - r := by rw [Int.sub_mul, Int.one_mul, Int.mul_comm]
    omega
  · omega
theorem left_nonneg {b r l v a z : Int} (hr : 1 ≤ r) (z1 : z ≤ b) : 0 ≤ left b r l v a z := by
  have := time_has (l := l) (v := v) (a := a) hr z1
  unfold left; omega
theorem run_bound {b r : Int} (hb : 1 ≤ b) (hr : 1024 ≤ r) (k : List (Int × Int)) : ∀ (l v M : Int), 0 ≤ v → l ≤ M → (∀ x ∈ k, x.1 ≤ M ∧ 1 ≤ x.2 ∧ x.2 ≤ 65536 ∧ x.2 ≤ b) → ∀ t ∈ run b r l v k, t ≤ M + k.length * 67108864 := by
  induction k with
  | nil => intro l v M _ _ _ t ht; simp [run] at ht
  | cons c k ih =>
    intro l v M hv hl hk t ht
    have hc := hk c (by simp)
    have h1 := time_small (a := c.1) (l := l) hb hr hv hc.2.1 hc.2.2.1
    unfold run at ht
    simp only [List.length_cons]
    rcases List.mem_cons.1 ht with rfl | ht
    · push_cast; omega
    · have := ih _ _ (M + 67108864) (left_nonneg (l := l) (v := v) (a := c.1) (show 1 ≤ r by omega) hc.2.2.2) (by omega) (fun x hx => by have := hk x (by simp [hx]); omega) t ht
      push_cast; omega
theorem fit_law {b r : Int} {l : List (Int × Int)} (hb : 1 ≤ b ∧ b ≤ 1048576) (hr : 1 ≤ r ∧ r ≤ 2097152) (hm : ∀ x ∈ l, 0 ≤ x.1 ∧ x.1 ≤ 1966050 ∧ 1 ≤ x.2 ∧ x.2 ≤ 65536) (h30 : l.length ≤ 30) :
    ok (fitB b l) (max r 1024) = true ∧ (∀ x ∈ l, x.2 ≤ fitB b l) ∧ ∀ t ∈ run (fitB b l) (max r 1024) 0 (fitB b l * 1048576) l, t ≤ 1099511627776 := by
  have h1 := fitB_ge l b
  have h2 := fitB_le l 1048576 b hb.2 (fun x hx => by have := hm x hx; omega)
  refine ⟨ok_iff.2 ⟨by omega, h2, by omega, by omega⟩, h1.2, fun t ht => ?_⟩
  have := run_bound (b := fitB b l) (r := max r 1024) (by omega) (by omega) l 0 (fitB b l * 1048576) 1966050 (by omega) (by omega) (fun x hx => by have := hm x hx; have := h1.2 x hx; omega) t ht
  omega
theorem steps_law {b r : Int} {l : List (Int × Int)} {ds : List Int} (hb : 1 ≤ b ∧ b ≤ 1048576) (hr : 1 ≤ r ∧ r ≤ 2097152) (hok : Tr.ok l = true) (hm : ∀ x ∈ l, 0 ≤ x.1 ∧ x.1 ≤ 1966050 ∧ 1 ≤ x.2 ∧ x.2 ≤ 65536) (h30 : l.length ≤ 30) (hds : ∀ d ∈ ds, 0 ≤ d ∧ d ≤ 65535) :
    Tr.ok (late id 0 ds l) = true ∧ (∀ x ∈ late id 0 ds l, x.2 ≤ fitB b l) ∧ (∀ t ∈ run (fitB b l) (max r 1024) 0 (fitB b l * 1048576) (late id 0 ds l), t ≤ 1099511627776) ∧ (late id 0 ds l).length = l.length ∧
    ∀ (i : Nat) (o p : Int), (run (fitB b l) (max r 1024) 0 (fitB b l * 1048576) l)[i]? = some o → (run (fitB b l) (max r 1024) 0 (fitB b l * 1048576) (late id 0 ds l))[i]? = some p → o ≤ p := by
  obtain ⟨h1, h2, h3⟩ := fit_law hb hr hm h30
  have hof : Tr.okFrom 0 l = true ∧ l.length ≤ 200 := by unfold Tr.ok at hok; rw [Bool.and_eq_true, decide_eq_true_iff] at hok; exact ⟨hok.2, hok.1⟩
  have hlen := late_length id l 0 ds
  have hrel := late_rel (f := id) (D := 65535) l 0 0 ds hof.1 (by omega) (fun d hd => hds d hd) (by simp)
  have hlok := late_ok (f := id) (D := 65535) l 0 0 ds hof.1 (by omega) (fun x hx => by have := hm x hx; omega) (fun d hd => hds d hd) (by simp)
  have o := ok_iff.1 h1
  have hmono := later (b := fitB b l) (r := max r 1024) l (late id 0 ds l) 0 (fitB b l * 1048576) 0 (fitB b l * 1048576) (by omega) (by omega) (by unfold lev; rw [Int.sub_self, Int.mul_zero]; omega) (fun x hx => ⟨(hm x hx).2.2.1, h2 x hx⟩) hlen (fun i x y hx hy => by have := hrel i x y hx hy; omega)
  have hsz : ∀ y ∈ late id 0 ds l, 0 ≤ y.1 ∧ y.1 ≤ 2031585 ∧ 1 ≤ y.2 ∧ y.2 ≤ 65536 ∧ y.2 ≤ fitB b l := fun y hy => by
    obtain ⟨i, hi, rfl⟩ := List.mem_iff_getElem.1 hy
    obtain ⟨x, hx⟩ : ∃ x, l[i]? = some x := ⟨l[i]'(by omega), List.getElem?_eq_getElem _⟩
    have := hrel i x _ hx (List.getElem?_eq_getElem hi)
    have := hm x (List.mem_of_getElem? hx)
    have := h2 x (List.mem_of_getElem? hx)
    omega
  generalize late id 0 ds l = m at *
  refine ⟨by unfold Tr.ok; rw [Bool.and_eq_true, decide_eq_true_iff]; exact ⟨by omega, hlok⟩, fun y hy => (hsz y hy).2.2.2.2, fun t ht => ?_, hlen, hmono⟩
  have := run_bound (b := fitB b l) (r := max r 1024) (by omega) (by omega) m 0 (fitB b l * 1048576) 2031585 (by omega) (by omega) (fun x hx => by have := hsz x hx; omega) t ht
  omega
end Sp
end Go.Proofs.Ytpglhjgpjnapgaa
