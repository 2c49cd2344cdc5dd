/- Meters: plain lemmas on states. -/
import Derived.Test.YtgpknoakkkkapaaMtZ
import Derived.Test.YtgpknoakkkkapaaMtH
namespace Go.Proofs.Ytgpknoakkkkapaa
set_option linter.unusedSimpArgs false
set_option linter.unusedVariables false
open Go.RowKit
namespace Mt
open Bk
theorem newE_ok {b r b2 r2 : Int} (h1 : 1 ≤ b) (h2 : b ≤ 1048576) (h3 : 1 ≤ r) (h5 : 1 ≤ b2) (h6 : b2 ≤ 1048576) (h7 : r ≤ r2) (h8 : r2 ≤ 2097152) : newE b r b2 r2 = 0 := by
  unfold newE
  rw [if_neg, if_neg (by omega)]
  rw [ok_no, ok_no]; omega
theorem chkE_ok {b r b2 r2 l c p : Int} (hn : newE b r b2 r2 = 0) (h1 : 0 ≤ l) (h2 : l ≤ 1099511627776) (h3 : 0 ≤ c) (h4 : c ≤ b * 1048576) (h5 : 0 ≤ p) (h6 : p ≤ b2 * 1048576) : chkE b r b2 r2 l c p = 0 := by
  unfold chkE
  rw [if_pos hn, if_neg (by omega)]
theorem fill_fill {b r l c a1 a2 : Int} (hr : 0 ≤ r) (h1 : l ≤ a1) (h2 : a1 ≤ a2) : fill b r a1 (fill b r l c a1) a2 = fill b r l c a2 := by
  unfold fill
  have e : r * (a2 - l) = r * (a1 - l) + r * (a2 - a1) := by rw [← Int.mul_add]; congr 1; omega
  have p := Int.mul_nonneg hr (show 0 ≤ a2 - a1 by omega)
  rw [e]; omega
theorem fill_range {b r l c at_ : Int} (hb : 1 ≤ b) (hr : 0 ≤ r) (h1 : l ≤ at_) (hc : 0 ≤ c) : 0 ≤ fill b r l c at_ ∧ fill b r l c at_ ≤ b * 1048576 := by
  unfold fill
  have p := Int.mul_nonneg hr (show 0 ≤ at_ - l by omega)
  omega
theorem takeC_range {C P need m : Int} (hn : 0 ≤ need) (h1 : 0 ≤ C) (h2 : C ≤ m) : 0 ≤ takeC C P need ∧ takeC C P need ≤ m := by unfold takeC; split <;> (try split) <;> omega
theorem takeP_range {P need m : Int} (hn : 0 ≤ need) (h1 : 0 ≤ P) (h2 : P ≤ m) : 0 ≤ takeP P need ∧ takeP P need ≤ m := by unfold takeP; split <;> omega
theorem color_red {C P need : Int} (h : P < need) : color C P need = 2 ∧ takeC C P need = C ∧ takeP P need = P := by unfold color takeC takeP; rw [if_pos h, if_pos h, if_pos h]; exact ⟨rfl, rfl, rfl⟩
theorem color_not {C P need : Int} (h : ¬ P < need) : (color C P need == 2) = false := by unfold color; rw [if_neg h]; split <;> decide
theorem runFrom_step {b r b2 r2 lt c p : Int} {l : List (Int × Int)} {k : Nat} {x : Int × Int} (hx : l[k]? = some x) : runFrom b r b2 r2 lt c p (l.drop k) = color (fill b r lt c x.1) (fill b2 r2 lt p x.1) (x.2 * 1048576) :: runFrom b r b2 r2 x.1 (takeC (fill b r lt c x.1) (fill b2 r2 lt p x.1) (x.2 * 1048576)) (takeP (fill b2 r2 lt p x.1) (x.2 * 1048576)) (l.drop (k + 1)) := by
  obtain ⟨hk, rfl⟩ := List.getElem?_eq_some_iff.1 hx
  rw [List.drop_eq_getElem_cons hk]; rfl
end Mt
namespace MtW
/-- Mark of a valid frame in a valid state. -/
theorem Mark_fit {b r b2 r2 l c p at_ size : Int} (hn : Mt.newE b r b2 r2 = 0) (l0 : 0 ≤ l) (c0 : 0 ≤ c) (c1 : c ≤ b * 1048576) (p0 : 0 ≤ p) (p1 : p ≤ b2 * 1048576) (a0 : l ≤ at_) (a1 : at_ ≤ 1099511627776) (s0 : 1 ≤ size) (s1 : size ≤ 1048576) (w : World) :
    Calls Try.prog 15 #[.agg #[.int .i64 b, .int .i64 r], .agg #[.int .i64 b2, .int .i64 r2], .agg #[.int .i64 l, .int .i64 c, .int .i64 p], .int .i64 at_, .int .i64 size] w fun e w' => e = .returned (.tuple #[.int .i64 (Mt.color (Mt.fill b r l c at_) (Mt.fill b2 r2 l p at_) (size * 1048576)), .agg #[.int .i64 at_, .int .i64 (Mt.takeC (Mt.fill b r l c at_) (Mt.fill b2 r2 l p at_) (size * 1048576)), .int .i64 (Mt.takeP (Mt.fill b2 r2 l p at_) (size * 1048576))], .int .i64 0]) ∧ Below w.heap.size w w' :=
  Mark_good b r b2 r2 l c p at_ size _ _ _ (Mt.chkE_ok hn l0 (by omega) c0 c1 p0 p1) a0 a1 s0 s1 rfl rfl rfl w
end MtW
end Go.Proofs.Ytgpknoakkkkapaa
