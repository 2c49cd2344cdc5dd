/- Meters: runs, chapter, works. -/
import Derived.Test.YtgpknoakkkkapaaSameW
namespace Go.Proofs.Ytgpknoakkkkapaa
set_option linter.unusedSimpArgs false
set_option linter.unusedVariables false
open Go.RowKit
namespace MtW
theorem own_slice {w : World} {base n : Nat} {e : TypeId} {v : Value} {l : List Int} (h : w.ownsRow base e 1 v n (ints l)) : ∃ A cap, v = .slice A n cap ∧ Tr.Ints w w.heap.size A l := by
  have hlen : l.length = n := by have := h.1; simp [ints] at this; exact this
  rcases h.2 with ⟨rfl, rfl⟩ | ⟨q, cap, cur, rfl, hq, hh, hnc, hcm, hsz, htk⟩
  · refine ⟨none, 0, rfl, ?_⟩
    intro i x hx
    have := List.length_eq_zero_iff.1 hlen
    subst this; simp at hx
  · refine ⟨_, cap, rfl, fun i x hx => ⟨_, rfl, ?_, ?_⟩⟩
    · rcases Nat.lt_or_ge q w.heap.size with hlt | hge
      · exact hlt
      · rw [Array.getElem?_eq_none hge] at hh; cases hh
    · have e1 : (⟨q, 0, none⟩ : Addr).add i = ⟨q, i, none⟩ := by
        unfold Addr.add; by_cases hi : i = 0
        · subst hi; rfl
        · simp [hi]
      rw [e1, cell_of_row w q i cur e (0, 0) hh]
      have e2 : (ints l)[i]? = some (.int .i64 x) := by simp [ints, hx]
      rw [← htk] at e2
      rw [List.getElem?_take] at e2
      split at e2
      · simpa using e2
      · cases e2
theorem runs_any (b r b2 r2 : Int) (A : Option Addr) (l : List (Int × Int)) (cap : Nat) (B : Option Addr) (want : List Int) (capw : Nat) (w : World) (hA : Tr.Arr w w.heap.size A l) (hB : Tr.Ints w w.heap.size B want) (hl : l.length ≤ 100000) (hn : Mt.newE b r b2 r2 = 0) (ht : Tr.chk l = 0) (hlen : (Mt.run b r b2 r2 l).length = l.length) :
    Calls Try.prog 23 #[.agg #[.int .i64 b, .int .i64 r], .agg #[.int .i64 b2, .int .i64 r2], .slice A l.length cap, .slice B want.length capw] w fun e w' => e = .returned (.bool (decide (Mt.run b r b2 r2 l = want))) ∧ Below w.heap.size w w' := by
  have R := Lib.hid (fun W hA => Run_good b r b2 r2 A l cap W hA hl hn ht)
  have HA := Lib.hid hA
  have HB := Lib.hid hB
  have HL := Lib.hid hlen
  clear hA hB hn ht hlen
  go_enter Try.func23, Try.ntmps23
  go_wp2_with fail
  have hb : Below w.heap.size w ((w.alloc (.cells #[.int .i64 b, .int .i64 r] 23)).alloc (.cells #[.int .i64 b2, .int .i64 r2] 23)) := by (repeat' (first | (with_reducible exact Below.refl _ _) | (with_reducible refine Below.alloc ?_ ?_ _) | (with_reducible refine Below.setCell ?_ ?_ _) | (with_reducible refine Below.drew ?_) | (with_reducible assumption) | omega | (simp; done) | (simp; omega)))
  refine (R.out _ (Tr.Arr.of_lt (HA.out.below hb) hb.size)).mono ?_
  rintro e w1 ⟨⟨v, rfl, hown⟩, hb1⟩
  obtain ⟨A', cap', rfl, hI⟩ := own_slice hown
  have hb2 := hb.trans (hb1.mono hb.size)
  have S := Same_any A' (Mt.run b r b2 r2 l) cap' B want capw w1 hI (Tr.Ints.of_lt (HB.out.below hb2) hb2.size) (by rw [HL.out]; exact hl)
  rw [HL.out] at S
  obtain ⟨d, hd⟩ : ∃ d, decide (Mt.run b r b2 r2 l = want) = d := ⟨_, rfl⟩
  rw [hd] at S
  have HD := Lib.hid hd
  clear hd
  have SS := Lib.hid S
  have HB2 := Lib.hid hb2
  clear S hI hown hb1 hb2 hb
  go_wp2_with fail
  refine SS.out.mono ?_
  rintro e w2 ⟨rfl, hb⟩
  go_wp2_with fail
  go_ret
  exact ⟨ret_bool HD.out.symm, HB2.out.trans (hb.mono HB2.out.size)⟩
theorem chapter_any (w : World) : Calls Try.prog 22 #[] w fun e w' => e = .returned (.tuple #[.agg #[.int .i64 100, .int .i64 131072], .agg #[.int .i64 150, .int .i64 262144]]) ∧ Below w.heap.size w w' := by
  go_enter Try.func22, Try.ntmps22
  go_wp2_with fail
  exact bodyPost_ret (v := .tuple #[.agg #[.int .i64 100, .int .i64 131072], .agg #[.int .i64 150, .int .i64 262144]]) (by simp [results, Try.results22, go_sem]) rfl ⟨rfl, by (repeat' (first | (with_reducible exact Below.refl _ _) | (with_reducible refine Below.alloc ?_ ?_ _) | (with_reducible refine Below.setCell ?_ ?_ _) | (with_reducible refine Below.drew ?_) | (with_reducible assumption) | omega | (simp; done) | (simp; omega)))⟩
end MtW
end Go.Proofs.Ytgpknoakkkkapaa
