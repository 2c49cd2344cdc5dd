/- Meters: closed traces. -/
import Derived.Test.YtgpknoakkkkapaaMtX
namespace Go.Proofs.Ytgpknoakkkkapaa
set_option linter.unusedSimpArgs false
set_option linter.unusedVariables false
open Go.RowKit
namespace MtW
theorem add0 (g i : Nat) : (⟨g, 0, none⟩ : Addr).add i = ⟨g, i, none⟩ := by
  unfold Addr.add; by_cases hi : i = 0
  · subst hi; rfl
  · simp [hi]
theorem arr_new (w : World) (l : List (Int × Int)) (cs : Array Value) (t : TypeId) (h : ∀ (i : Nat) (x : Int × Int), l[i]? = some x → cs[i * 2]? = some (.int .i64 x.1) ∧ cs[i * 2 + 1]? = some (.int .i64 x.2)) : Tr.Arr (w.alloc (.cells cs t)) (w.heap.size + 1) (some ⟨w.heap.size, 0, none⟩) l := by
  intro i x hx
  refine ⟨_, rfl, by simp, ?_, ?_⟩
  · rw [add0, World.cell?_alloc_mark]; exact (h i x hx).1
  · rw [add0]; show (w.alloc (.cells cs t)).cell? ⟨w.heap.size, i * 2 + 1, none⟩ = _; rw [World.cell?_alloc_mark]; exact (h i x hx).2
theorem ints_new (w : World) (l : List Int) (cs : Array Value) (t : TypeId) (h : ∀ (i : Nat) (x : Int), l[i]? = some x → cs[i]? = some (.int .i64 x)) : Tr.Ints (w.alloc (.cells cs t)) (w.heap.size + 1) (some ⟨w.heap.size, 0, none⟩) l := by
  intro i x hx
  refine ⟨_, rfl, by simp, ?_⟩
  rw [add0, World.cell?_alloc_mark]; exact h i x hx
theorem three {α : Type} {P : Nat → α → Prop} {a b c : α} (h0 : P 0 a) (h1 : P 1 b) (h2 : P 2 c) : ∀ (i : Nat) (x : α), [a, b, c][i]? = some x → P i x := by
  intro i x hx
  match i with
  | 0 => simp at hx; subst hx; exact h0
  | 1 => simp at hx; subst hx; exact h1
  | 2 => simp at hx; subst hx; exact h2
  | n + 3 => simp at hx
theorem runs_ex (x0 y0 x1 y1 x2 y2 k0 k1 k2 : Int) (hn : Tr.chk [(x0, y0), (x1, y1), (x2, y2)] = 0) (hr : Mt.run 100 131072 150 262144 [(x0, y0), (x1, y1), (x2, y2)] = [k0, k1, k2]) (w : World) :
    Calls Try.prog 23 #[.agg #[.int .i64 100, .int .i64 131072], .agg #[.int .i64 150, .int .i64 262144], .slice (some ⟨w.heap.size, 0, none⟩) 3 3, .slice (some ⟨w.heap.size + 1, 0, none⟩) 3 3] ((w.alloc (.cells #[.int .i64 x0, .int .i64 y0, .int .i64 x1, .int .i64 y1, .int .i64 x2, .int .i64 y2] 33)).alloc (.cells #[.int .i64 k0, .int .i64 k1, .int .i64 k2] 3)) fun e w' => e = .returned (.bool true) ∧ Below w.heap.size w w' := by
  have A1 := arr_new w [(x0, y0), (x1, y1), (x2, y2)] #[.int .i64 x0, .int .i64 y0, .int .i64 x1, .int .i64 y1, .int .i64 x2, .int .i64 y2] 33 (three (P := fun i x => _ ∧ _) ⟨rfl, rfl⟩ ⟨rfl, rfl⟩ ⟨rfl, rfl⟩)
  have I1 := ints_new (w.alloc (.cells #[.int .i64 x0, .int .i64 y0, .int .i64 x1, .int .i64 y1, .int .i64 x2, .int .i64 y2] 33)) [k0, k1, k2] #[.int .i64 k0, .int .i64 k1, .int .i64 k2] 3 (three (P := fun i x => _ = _) rfl rfl rfl)
  have A2 := (A1.below ((Below.refl _ _).alloc (by simp) (.cells #[.int .i64 k0, .int .i64 k1, .int .i64 k2] 3)))
  have sz : ((w.alloc (.cells #[.int .i64 x0, .int .i64 y0, .int .i64 x1, .int .i64 y1, .int .i64 x2, .int .i64 y2] 33)).alloc (.cells #[.int .i64 k0, .int .i64 k1, .int .i64 k2] 3)).heap.size = w.heap.size + 2 := by simp
  have R := runs_any 100 131072 150 262144 _ [(x0, y0), (x1, y1), (x2, y2)] 3 _ [k0, k1, k2] 3 _ (A2.of_lt (by rw [sz]; omega)) (I1.of_lt (by rw [sz]; simp)) (by simp) (by decide) hn (by rw [hr]; rfl)
  rw [hr, decide_eq_true rfl] at R
  simp only [World.size_alloc] at R
  exact R.mono fun e w' ⟨a, b⟩ => ⟨a, Below.trans (by (repeat' (first | (with_reducible exact Below.refl _ _) | (with_reducible refine Below.alloc ?_ ?_ _) | (with_reducible refine Below.setCell ?_ ?_ _) | (with_reducible refine Below.drew ?_) | (with_reducible assumption) | omega | (simp; done) | (simp; omega)))) (b.mono (by omega))⟩
theorem ex1 (w : World) : Calls Try.prog 23 #[.agg #[.int .i64 100, .int .i64 131072], .agg #[.int .i64 150, .int .i64 262144], .slice (some ⟨w.heap.size, 0, none⟩) 3 3, .slice (some ⟨w.heap.size + 1, 0, none⟩) 3 3] ((w.alloc (.cells #[.int .i64 0, .int .i64 100, .int .i64 0, .int .i64 50, .int .i64 0, .int .i64 1] 33)).alloc (.cells #[.int .i64 0, .int .i64 1, .int .i64 2] 3)) fun e w' => e = .returned (.bool true) ∧ Below w.heap.size w w' := runs_ex 0 100 0 50 0 1 0 1 2 (by decide +kernel) (by decide +kernel) w
theorem ex2 (w : World) : Calls Try.prog 23 #[.agg #[.int .i64 100, .int .i64 131072], .agg #[.int .i64 150, .int .i64 262144], .slice (some ⟨w.heap.size, 0, none⟩) 3 3, .slice (some ⟨w.heap.size + 1, 0, none⟩) 3 3] ((w.alloc (.cells #[.int .i64 0, .int .i64 100, .int .i64 400, .int .i64 50, .int .i64 400, .int .i64 50] 33)).alloc (.cells #[.int .i64 0, .int .i64 0, .int .i64 1] 3)) fun e w' => e = .returned (.bool true) ∧ Below w.heap.size w w' := runs_ex 0 100 400 50 400 50 0 0 1 (by decide +kernel) (by decide +kernel) w
end MtW
end Go.Proofs.Ytgpknoakkkkapaa
