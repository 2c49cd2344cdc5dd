/- Meters: the examples. -/
import Derived.Test.YtgpknoakkkkapaaMtE
namespace Go.Proofs.Ytgpknoakkkkapaa
set_option linter.unusedSimpArgs false
set_option linter.unusedVariables false
open Go.RowKit
namespace MtW
theorem New_ex (w : World) : Calls Try.prog 11 #[.agg #[.int .i64 100, .int .i64 131072], .agg #[.int .i64 150, .int .i64 262144]] w fun e w' => e = .returned (.tuple #[.agg #[.int .i64 0, .int .i64 104857600, .int .i64 157286400], .int .i64 0]) ∧ Below w.heap.size w w' := New_any 100 131072 150 262144 w
theorem New_ex2 (w : World) : Calls Try.prog 11 #[.agg #[.int .i64 150, .int .i64 262144], .agg #[.int .i64 100, .int .i64 131072]] w fun e w' => e = .returned (.tuple #[.agg #[.int .i64 0, .int .i64 0, .int .i64 0], .int .i64 2]) ∧ Below w.heap.size w w' := New_any 150 262144 100 131072 w
theorem Mark_ex (w : World) : Calls Try.prog 15 #[.agg #[.int .i64 100, .int .i64 131072], .agg #[.int .i64 150, .int .i64 262144], .agg #[.int .i64 0, .int .i64 104857600, .int .i64 157286400], .int .i64 0, .int .i64 60] w fun e w' => e = .returned (.tuple #[.int .i64 0, .agg #[.int .i64 0, .int .i64 41943040, .int .i64 94371840], .int .i64 0]) ∧ Below w.heap.size w w' :=
  Mark_good 100 131072 150 262144 0 104857600 157286400 0 60 104857600 157286400 62914560 (by decide) (by decide) (by decide) (by decide) (by decide) (by decide) (by decide) (by decide) w
theorem Mark_ex2 (w : World) : Calls Try.prog 15 #[.agg #[.int .i64 100, .int .i64 131072], .agg #[.int .i64 150, .int .i64 262144], .agg #[.int .i64 5, .int .i64 0, .int .i64 0], .int .i64 4, .int .i64 1] w fun e w' => e = .returned (.tuple #[.int .i64 0, .agg #[.int .i64 0, .int .i64 0, .int .i64 0], .int .i64 2]) ∧ Below w.heap.size w w' :=
  Mark_arg 100 131072 150 262144 5 0 0 4 1 (by decide) (by decide) w
set_option maxHeartbeats 4000000 in
theorem works_any (w : World) : Calls Try.prog 17 #[] w fun e w' => e = .returned (.bool true) ∧ Below w.heap.size w w' := by
  go_enter Try.func17, Try.ntmps17
  go_wp2_with fail
  refine (chapter_any _).mono ?_
  rintro e w1 ⟨rfl, hb⟩
  have H1 := Lib.hid hb
  clear hb
  go_wp2_with fail
  refine (New_ex _).mono ?_
  rintro e w2 ⟨rfl, hb⟩
  obtain ⟨hc2, hz2⟩ := bcell hb
  have s2 := hb.size
  simp at s2
  have a1 : w1.heap.size < w2.heap.size := by omega
  have a2 : w1.heap.size + 1 < w2.heap.size := by omega
  have H2 : Hid (Below w.heap.size w w2) := Below.trans (b := (w1.alloc (.cells #[.int .i64 100, .int .i64 131072] 23)).alloc (.cells #[.int .i64 150, .int .i64 262144] 23)) (by have hb := H1.out; have := hb.size; (repeat' (first | (with_reducible exact Below.refl _ _) | (with_reducible refine Below.alloc ?_ ?_ _) | (with_reducible refine Below.setCell ?_ ?_ _) | (with_reducible refine Below.drew ?_) | (with_reducible assumption) | omega | (simp; done) | (simp; omega)))) (hb.mono (by have := H1.out.size; simp; omega))
  clear hb
  go_wp2_with fail
  refine (New_ex2 _).mono ?_
  rintro e w3 ⟨rfl, hb⟩
  obtain ⟨hc3, hz3⟩ := bcell hb
  have s3 := hb.size
  simp at s3
  have b1 : w1.heap.size < w3.heap.size := by omega
  have b2 : w1.heap.size + 1 < w3.heap.size := by omega
  have b3 : w2.heap.size < w3.heap.size := by omega
  have H3 := Lib.hid hb
  clear hb
  go_wp2_with fail
  refine (Mark_ex _).mono ?_
  rintro e w4 ⟨rfl, hb⟩
  obtain ⟨hc4, hz4⟩ := bcell hb
  have s4 := hb.size
  simp at s4
  have c1 : w1.heap.size < w4.heap.size := by omega
  have c2 : w1.heap.size + 1 < w4.heap.size := by omega
  have c3 : w2.heap.size < w4.heap.size := by omega
  have c4 : w3.heap.size < w4.heap.size := by omega
  have H4 := Lib.hid hb
  clear hb
  go_wp2_with fail
  refine (Mark_ex2 _).mono ?_
  rintro e w5 ⟨rfl, hb⟩
  obtain ⟨hc5, hz5⟩ := bcell hb
  have s5 := hb.size
  simp at s5
  have d1 : w1.heap.size < w5.heap.size := by omega
  have d2 : w1.heap.size + 1 < w5.heap.size := by omega
  have d3 : w2.heap.size < w5.heap.size := by omega
  have d4 : w3.heap.size < w5.heap.size := by omega
  have d5 : w4.heap.size < w5.heap.size := by omega
  have H5 := Lib.hid hb
  clear hb
  go_wp2_with fail
  have X1 := ex1 (w5.alloc (.cells #[.int .i64 0, .int .i64 0, .int .i64 0] 31))
  simp only [World.size_alloc] at X1
  refine X1.mono ?_
  rintro e w6 ⟨rfl, hb⟩
  replace hb : Below (w5.alloc (.cells #[.int .i64 0, .int .i64 0, .int .i64 0] 31)).heap.size (w5.alloc (.cells #[.int .i64 0, .int .i64 0, .int .i64 0] 31)) w6 := hb.mono (by simp)
  obtain ⟨hc6, hz6⟩ := bcell hb
  have s6 := hb.size
  simp at s6
  have e1 : w1.heap.size < w6.heap.size := by omega
  have e2 : w1.heap.size + 1 < w6.heap.size := by omega
  have H6 := Lib.hid hb
  clear hb
  go_wp2_with fail
  refine (ex2 w6).mono ?_
  rintro e w7 ⟨rfl, hb⟩
  have H7 := Lib.hid hb
  clear hb
  go_wp2_with fail
  go_ret
  have t1 : Below w.heap.size w w6 := by
    have z1 := H1.out.size; have z2 := H2.out.size; have z3 := H3.out.size; have z4 := H4.out.size; have z5 := H5.out.size
    simp at z1 z2 z3 z4 z5
    refine (H2.out.alloc H2.out.size _).trans ((H3.out.mono (by simp; omega)).trans ?_)
    refine ((Below.refl _ _).alloc (by omega) _).trans ((H4.out.mono (by simp; omega)).trans ?_)
    refine ((Below.refl _ _).alloc (by omega) _).trans ((H5.out.mono (by simp; omega)).trans ?_)
    exact ((Below.refl _ _).alloc (by omega) _).trans (H6.out.mono (by simp; omega))
  exact ⟨rfl, t1.trans (H7.out.mono t1.size)⟩
end MtW
end Go.Proofs.Ytgpknoakkkkapaa
