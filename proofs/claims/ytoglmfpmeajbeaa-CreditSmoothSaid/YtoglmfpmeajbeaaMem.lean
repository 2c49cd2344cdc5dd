/- Slices in memory as lists of cells; append of a row; slices of arrivals and of integers. -/
import Derived.Test.YtoglmfpmeajbeaaTrA
import Derived.Laws.AppendOwn
import Derived.Laws.OwnMore
import Derived.OwnWalk
import Derived.Maps.AppendAt
import Derived.RegionTactic
import Derived.Deep.Draws
import Derived.Deep.QuietTactic
import Derived.Deep.RegionHeld3
import Derived.Deep.RegionLaw
import Derived.BigQuiet
import Derived.Deep.Onto
namespace Go.Proofs.Ytoglmfpmeajbeaa
set_option linter.unusedSimpArgs false
set_option linter.unusedVariables false
open Go.RowKit
theorem belowN {B : Nat} {a w : World} (h : Below B a w) (n : Nat) : Below B a (w.drewN n) := ⟨h.os, h.tape, h.output, h.size, h.block⟩
theorem below_cell {g i : Nat} {W0 w : World} {v : Value} (h : Below W0.heap.size W0 w) (hc : W0.cell? ⟨g, i, none⟩ = some v) (hg : g < W0.heap.size) : w.cell? ⟨g, i, none⟩ = some v := (h.cell (p := ⟨g, i, none⟩) hg).trans hc
theorem carry2 {w w1 w' : World} (hb : Below w.heap.size w w1) (h : Below w1.heap.size w1 w') : Below w.heap.size w w' := hb.trans (h.mono hb.size)
namespace Mem
/-- The slice's cells, in blocks below B. -/
def Row (w : World) (B : Nat) (A : Option Addr) (xs : List Value) : Prop :=
  ∀ (j : Nat) (u : Value), xs[j]? = some u → ∃ ad, A = some ad ∧ ad.block < B ∧ w.cell? (ad.add j) = some u
theorem Row.keep {w w' : World} {B : Nat} {A : Option Addr} {xs : List Value} (h : Row w B A xs) (hk : ∀ p : Addr, p.block < B → w'.cell? p = w.cell? p) : Row w' B A xs := fun j u hu => by
  obtain ⟨ad, e, hb, h1⟩ := h j u hu
  exact ⟨ad, e, hb, (hk _ (by rw [Tr.block_add]; exact hb)).trans h1⟩
theorem Row.below {w w' : World} {B : Nat} {A : Option Addr} {xs : List Value} (h : Row w B A xs) (hb : Below B w w') : Row w' B A xs := h.keep fun _ hp => hb.cell hp
theorem Row.of_lt {w : World} {B B' : Nat} {A : Option Addr} {xs : List Value} (h : Row w B A xs) (hB : B ≤ B') : Row w B' A xs := fun j u hu => by
  obtain ⟨ad, e, hb, h1⟩ := h j u hu
  exact ⟨ad, e, by omega, h1⟩
theorem Row.nil (w : World) (B : Nat) (A : Option Addr) : Row w B A [] := fun j u hu => by simp at hu
theorem Row.take {w : World} {B : Nat} {A : Option Addr} {xs : List Value} (h : Row w B A xs) (n : Nat) : Row w B A (xs.take n) := fun j u hu => by
  rw [List.getElem?_take] at hu
  split at hu
  · exact h j u hu
  · cases hu
theorem Row.grown {w w' : World} {B : Nat} {A : Option Addr} {xs : List Value} {row : Option Nat} (h : Row w B A xs) (hg : w.grownBy w' row) (hB : B ≤ w.heap.size) (hne : ∀ ad, A = some ad → some ad.block ≠ row) : Row w' B A xs := fun j u hu => by
  obtain ⟨ad, e, hb, h1⟩ := h j u hu
  refine ⟨ad, e, hb, (World.cell?_of_block (w := w) (hg.block _ ?_ ?_)).trans h1⟩
  · rw [Tr.block_add]; omega
  · rw [Tr.block_add]; exact hne ad e
/-- A row just made. -/
theorem Row.new (w : World) (cs : Array Value) (t : TypeId) : Row (w.alloc (.cells cs t)) (w.heap.size + 1) (some ⟨w.heap.size, 0, none⟩) cs.toList := fun j u hu => by
  refine ⟨_, rfl, by simp, ?_⟩
  have e1 : (⟨w.heap.size, 0, none⟩ : Addr).add j = ⟨w.heap.size, j, none⟩ := by unfold Addr.add; by_cases hi : j = 0 <;> simp [hi]
  rw [e1, World.cell?_alloc_mark]; simpa using hu
theorem Row.new_at (w : World) (cs : Array Value) (t : TypeId) (g : Nat) (hg : w.heap.size = g) : Row (w.alloc (.cells cs t)) (g + 1) (some ⟨g, 0, none⟩) cs.toList := hg ▸ Row.new w cs t
theorem Row.one {w : World} {B g : Nat} {v : Value} (h : w.cell? ⟨g, 0, none⟩ = some v) (hg : g < B) : Row w B (some ⟨g, 0, none⟩) [v] := fun j u hu => by
  cases j with
  | zero => simp at hu; subst hu; exact ⟨⟨g, 0, none⟩, rfl, hg, by rw [show (⟨g, 0, none⟩ : Addr).add 0 = ⟨g, 0, none⟩ by simp [Addr.add]]; exact h⟩
  | succ j => simp at hu
theorem own_lit_at (w : World) (base : Nat) (e : TypeId) (size g : Nat) (hg : w.heap.size = g) (hb : base ≤ g) : (w.alloc (.cells #[] e)).ownsRow base e size (.slice (some ⟨g, 0, none⟩) 0 0) 0 [] := by
  subst hg
  exact World.ownsRow_lit w #[] 0 hb (by unfold maxLen; omega) (by simp)
theorem own_row {w : World} {base n size : Nat} {e : TypeId} {v : Value} {xs : List Value} (h : w.ownsRow base e size v n xs) : ∃ A cap, v = .slice A n cap ∧ n ≤ cap ∧ Row w w.heap.size A xs ∧ (∀ ad, A = some ad → base ≤ ad.block ∧ ad.off = 0 ∧ v.ownBlock = some ad.block) := by
  have hl := h.lt
  have hc := fun g (hg : v.ownBlock = some g) => h.cells hg
  rcases h.2 with ⟨rfl, rfl⟩ | ⟨q, cap, cur, rfl, hq, hh, hnc, hcm, hsz, htk⟩
  · refine ⟨none, 0, rfl, Nat.le_refl _, ?_, fun ad h => by cases h⟩
    have := h.1
    simp at this
    subst this
    exact Row.nil _ _ _
  · refine ⟨_, cap, rfl, hnc, fun j u hu => ⟨_, rfl, (hl q rfl).2, hc q rfl j u hu⟩, fun ad h => ?_⟩
    injection h with h
    subst h
    exact ⟨hq, rfl, rfl⟩
section
variable {P : Program} (w : World)
theorem run_append (base : Nat) (t ty e : TypeId) (i : TypeInfo) (z : Value) (size bytes : Nat) (ht : P.underlying t = some (.slice e)) (hi : P.info? e = some i) (hz : i.zero = some z)
    (hsize : i.size = size) (hby : i.bytes = bytes) (hzs : z.cells.size = size) (hsz : 0 < size)
    (v : Value) (n : Nat) (xs : List Value) (hown : w.ownsRow base e size v n xs)
    (B : Nat) (A : Option Addr) (m c : Nat) (news : List Value) (hl : news.length = m * size) (hr : Row w B A news) (h1 : ∀ u ∈ news, u.oneCell' = true)
    (h63 : n + m ≤ maxLen) (hbytes : (n + m) * bytes ≤ 140737488355328) (hbase : base ≤ w.heap.size) :
    ∃ v' w', (Builtin.append_ #[t, t] ty #[v, .slice A m c]).run P w = .ok v' w' ∧ w'.ownsRow base e size v' (n + m) (xs ++ news) ∧ w.grownBy w' v.ownBlock ∧
      (v'.ownBlock = v.ownBlock ∨ v'.ownBlock = some w.heap.size) := by
  rcases A with _ | ad
  · have hn : news = [] := by
      cases news with
      | nil => rfl
      | cons u l => obtain ⟨_, h, _⟩ := hr 0 u rfl; cases h
    subst hn
    have hm : m = 0 := by
      rcases Nat.eq_zero_or_pos m with h0 | h0
      · exact h0
      · have := Nat.mul_pos h0 hsz; simp at hl; omega
    subst hm
    refine ⟨v, w, ?_, by simpa using hown, World.grownBy.refl w _, .inl rfl⟩
    rcases hown.2 with ⟨rfl, rfl⟩ | ⟨g, cap, cur, rfl, _, _, hnc, _⟩
    · simp [Builtin.append_, run_underlying ht, sizeOf, typeInfo, hi, Builtin.lenOf, Builtin.firstCells]
    · simp [Builtin.append_, run_underlying ht, sizeOf, typeInfo, hi, Builtin.lenOf, Builtin.firstCells, hnc, storeCells]
  · have hcells : ∀ j u, news[j]? = some u → w.cell? (ad.add j) = some u := fun j u hu => by
      obtain ⟨ad', h, _, hc⟩ := hr j u hu
      injection h with h
      subst h
      exact hc
    obtain ⟨v', w', hrun, h2, h3, _, h5⟩ := run_append_own_at (P := P) w base t ty e i z size bytes ht hi hz hsize hby hzs hsz v n xs hown ad m c news hl hcells h1 h63 hbytes hbase
    exact ⟨v', w', hrun, h2, h3, h5⟩
theorem wp_append {o : Oper} {a : Act} {K : Act → World → Prop} {Q : Exit → Act → World → Prop} (s x : Operand) (t : TypeId)
    (ho : o.op = .call { callee := .builtin .append, args := #[s, x], argTypes := #[t, t] })
    (base : Nat) (e : TypeId) (i : TypeInfo) (z : Value) (size bytes : Nat) (ht : P.underlying t = some (.slice e)) (hi : P.info? e = some i) (hz : i.zero = some z)
    (hsize : i.size = size) (hby : i.bytes = bytes) (hzs : z.cells.size = size) (hsz : 0 < size)
    (v : Value) (n : Nat) (xs : List Value) (hs : a.eval s = v) (hown : w.ownsRow base e size v n xs)
    (B : Nat) (A : Option Addr) (m c : Nat) (news : List Value) (hx : a.eval x = .slice A m c) (hl : news.length = m * size) (hr : Row w B A news) (h1 : ∀ u ∈ news, u.oneCell' = true)
    (h63 : n + m ≤ maxLen) (hbytes : (n + m) * bytes ≤ 140737488355328) (hbase : base ≤ w.heap.size)
    (h : ∀ v' w', w'.ownsRow base e size v' (n + m) (xs ++ news) → w.grownBy w' v.ownBlock → (v'.ownBlock = v.ownBlock ∨ v'.ownBlock = some w.heap.size) → (∀ k, v.ownBlock = some k → base ≤ k ∧ k < w.heap.size) → K (a.put o.dst v') w') : o.wp P a w K Q := by
  obtain ⟨v', w', hrun, h2, h3, h4⟩ := run_append (P := P) w base t o.type e i z size bytes ht hi hz hsize hby hzs hsz v n xs hown B A m c news hl hr h1 h63 hbytes hbase
  unfold Oper.wp execOp
  simp only [ho, resolve, invoke, builtin, Sem.run_bind, Sem.run_pure, Result.andThen_ok, List.map_toArray, List.map_cons, List.map_nil, hs, hx, hrun]
  exact h v' w' h2 h3 h4 hown.lt
theorem wpList_append {ops : Array Oper} {rest : List Oper} {o : Oper} {a : Act} {Q : Exit → Act → World → Prop} (hgd : o.guard = none) (s x : Operand) (t : TypeId)
    (ho : o.op = .call { callee := .builtin .append, args := #[s, x], argTypes := #[t, t] })
    (base : Nat) (e : TypeId) (i : TypeInfo) (z : Value) (size bytes : Nat) (ht : P.underlying t = some (.slice e)) (hi : P.info? e = some i) (hz : i.zero = some z)
    (hsize : i.size = size) (hby : i.bytes = bytes) (hzs : z.cells.size = size) (hsz : 0 < size)
    (v : Value) (n : Nat) (xs : List Value) (hs : a.eval s = v) (hown : w.ownsRow base e size v n xs)
    (B : Nat) (A : Option Addr) (m c : Nat) (news : List Value) (hx : a.eval x = .slice A m c) (hl : news.length = m * size) (hr : Row w B A news) (h1 : ∀ u ∈ news, u.oneCell' = true)
    (h63 : n + m ≤ maxLen) (hbytes : (n + m) * bytes ≤ 140737488355328) (hbase : base ≤ w.heap.size)
    (h : ∀ v' w', w'.ownsRow base e size v' (n + m) (xs ++ news) → w.grownBy w' v.ownBlock → (v'.ownBlock = v.ownBlock ∨ v'.ownBlock = some w.heap.size) → (∀ k, v.ownBlock = some k → base ≤ k ∧ k < w.heap.size) → wpList P ops Q rest (a.put o.dst v') w') : wpList P ops Q (o :: rest) a w :=
  wpList_plain hgd fun _ hK => wp_append w s x t ho base e i z size bytes ht hi hz hsize hby hzs hsz v n xs hs hown B A m c news hx hl hr h1 h63 hbytes hbase fun v' w' h2 h3 h4 h5 => hK _ _ (h v' w' h2 h3 h4 h5)
theorem step_append {ops : Array Oper} {o : Oper} {a : Act} {K : Act → World → Prop} {Q : Exit → Act → World → Prop} {E : Prop} (hgd : o.guard = none) (s x : Operand) (t : TypeId)
    (ho : o.op = .call { callee := .builtin .append, args := #[s, x], argTypes := #[t, t] })
    (base : Nat) (e : TypeId) (i : TypeInfo) (z : Value) (size bytes : Nat) (ht : P.underlying t = some (.slice e)) (hi : P.info? e = some i) (hz : i.zero = some z)
    (hsize : i.size = size) (hby : i.bytes = bytes) (hzs : z.cells.size = size) (hsz : 0 < size)
    (v : Value) (n : Nat) (xs : List Value) (hs : a.eval s = v) (hown : w.ownsRow base e size v n xs)
    (B : Nat) (A : Option Addr) (m c : Nat) (news : List Value) (hx : a.eval x = .slice A m c) (hl : news.length = m * size) (hr : Row w B A news) (h1 : ∀ u ∈ news, u.oneCell' = true)
    (h63 : n + m ≤ maxLen) (hbytes : (n + m) * bytes ≤ 140737488355328) (hbase : base ≤ w.heap.size)
    (h : ∀ v' w', w'.ownsRow base e size v' (n + m) (xs ++ news) → w.grownBy w' v.ownBlock → (v'.ownBlock = v.ownBlock ∨ v'.ownBlock = some w.heap.size) → (∀ k, v.ownBlock = some k → base ≤ k ∧ k < w.heap.size) → K (a.put o.dst v') w') :
    if Region.wanted o (yielded ops a.tmps) = true then Oper.wp P o a w K Q else E := by
  have hw : Region.wanted o (yielded ops a.tmps) = true := by simp [Region.wanted, hgd]
  rw [if_pos hw]
  exact wp_append w s x t ho base e i z size bytes ht hi hz hsize hby hzs hsz v n xs hs hown B A m c news hx hl hr h1 h63 hbytes hbase h
end
/-- Two rows that do not share a block. -/
def Apart (v u : Value) : Prop := v.ownBlock = none ∨ v.ownBlock ≠ u.ownBlock
theorem apart_type {w : World} {b1 b2 s1 s2 n1 n2 : Nat} {e1 e2 : TypeId} {v u : Value} {xs ys : List Value} (h1 : w.ownsRow b1 e1 s1 v n1 xs) (h2 : w.ownsRow b2 e2 s2 u n2 ys) (hne : e1 ≠ e2) : Apart v u := by
  rcases h1.2 with ⟨rfl, _⟩ | ⟨g, cap, cur, rfl, _, hh, _⟩
  · exact .inl rfl
  · refine .inr ?_
    rcases h2.2 with ⟨rfl, _⟩ | ⟨g2, cap2, cur2, rfl, _, hh2, _⟩
    · simp [Value.ownBlock]
    · intro he
      have : g = g2 := by simpa [Value.ownBlock] using he
      subst this
      rw [hh] at hh2
      injection hh2 with hh2
      injection hh2 with _ ht
      exact hne ht
/-- u has grown to u': it stays apart. -/
theorem Apart.grown {w : World} {b1 s1 n1 : Nat} {e1 : TypeId} {v u u' : Value} {xs : List Value} (h : Apart v u) (h1 : w.ownsRow b1 e1 s1 v n1 xs) (ha : u'.ownBlock = u.ownBlock ∨ u'.ownBlock = some w.heap.size) : Apart v u' := by
  rcases h with h | h
  · exact .inl h
  · rcases ha with ha | ha
    · exact .inr (by rw [ha]; exact h)
    · refine .inr (fun he => ?_)
      rw [ha] at he
      have := (h1.lt _ he).2
      omega
theorem Apart.symm {v u : Value} (h : Apart v u) : Apart u v := by
  rcases h with h | h
  · cases hu : u.ownBlock with
    | none => exact .inl hu
    | some k => exact .inr (by rw [h, hu]; simp)
  · exact .inr (Ne.symm h)
theorem own_below {B : Nat} {e : TypeId} {k : Nat} {v : Value} {n : Nat} {xs : List Value} {w w' : World} (h : w.ownsRow B e k v n xs) (hb : Below w.heap.size w w') : w'.ownsRow B e k v n xs := by
  have hl := h.lt
  refine ⟨h.1, h.2.imp id ?_⟩
  rintro ⟨q, cap, cur, e1, hq, hh, rest⟩
  exact ⟨q, cap, cur, e1, hq, (hb.block q (hl q (by rw [e1]; rfl)).2).trans hh, rest⟩
/-- The cells of a list of integers. -/
def ints (l : List Int) : List Value := l.map fun n => Value.int .i64 n
theorem ints_snoc (l : List Int) (n : Int) : ints (l ++ [n]) = ints l ++ [.int .i64 n] := by simp [ints]
theorem ints_length (l : List Int) : (ints l).length = l.length := by simp [ints]
theorem ints_oneCell (l : List Int) : ∀ u ∈ ints l, u.oneCell' = true := by
  intro u hu
  simp only [ints, List.mem_map] at hu
  obtain ⟨x, _, rfl⟩ := hu; rfl
theorem int_info : (Try.prog.info? 3).map (fun i => (i.zero, i.size, i.bytes)) = some (some (.int .i64 0), 1, 8) := by kernel_rfl
/-- The cells of a list of arrivals. -/
def arrs (l : List (Int × Int)) : List Value := l.flatMap fun x => [.int .i64 x.1, .int .i64 x.2]
theorem arrs_cons (x : Int × Int) (l : List (Int × Int)) : arrs (x :: l) = .int .i64 x.1 :: .int .i64 x.2 :: arrs l := by simp [arrs]
theorem arrs_append (a b : List (Int × Int)) : arrs (a ++ b) = arrs a ++ arrs b := by simp [arrs]
theorem arrs_length (l : List (Int × Int)) : (arrs l).length = l.length * 2 := by
  induction l with
  | nil => rfl
  | cons x l ih => rw [arrs_cons]; simp [ih]; omega
theorem arrs_one (x : Int × Int) : arrs [x] = [.int .i64 x.1, .int .i64 x.2] := by simp [arrs]
theorem arrs_oneCell (l : List (Int × Int)) : ∀ u ∈ arrs l, u.oneCell' = true := by
  intro u hu
  simp only [arrs, List.mem_flatMap, List.mem_cons, List.not_mem_nil, or_false] at hu
  obtain ⟨x, _, rfl | rfl⟩ := hu <;> rfl
theorem arrs_even (l : List (Int × Int)) (i : Nat) : (arrs l)[i * 2]? = (l[i]?).map fun x => .int .i64 x.1 := by
  induction l generalizing i with
  | nil => simp [arrs]
  | cons x l ih =>
    rw [arrs_cons]
    cases i with
    | zero => simp
    | succ i => rw [show (i + 1) * 2 = i * 2 + 1 + 1 from by omega]; simpa using ih i
theorem arrs_odd (l : List (Int × Int)) (i : Nat) : (arrs l)[i * 2 + 1]? = (l[i]?).map fun x => .int .i64 x.2 := by
  induction l generalizing i with
  | nil => simp [arrs]
  | cons x l ih =>
    rw [arrs_cons]
    cases i with
    | zero => simp
    | succ i => rw [show (i + 1) * 2 + 1 = i * 2 + 1 + 1 + 1 from by omega]; simpa using ih i
theorem arr_row {w : World} {B : Nat} {A : Option Addr} {l : List (Int × Int)} (h : Tr.Arr w B A l) : Row w B A (arrs l) := fun j u hu => by
  have hj : j < (arrs l).length := (List.getElem?_eq_some_iff.1 hu).1
  rw [arrs_length] at hj
  obtain ⟨x, hx⟩ : ∃ x, l[j / 2]? = some x := ⟨l[j / 2], List.getElem?_eq_getElem (by omega)⟩
  obtain ⟨ad, e, hb, h1, h2⟩ := h _ x hx
  refine ⟨ad, e, hb, ?_⟩
  rcases Nat.mod_two_eq_zero_or_one j with hm | hm
  · have ej : j = j / 2 * 2 := by omega
    rw [ej, arrs_even, hx] at hu
    rw [ej, h1]; simpa using hu
  · have ej : j = j / 2 * 2 + 1 := by omega
    rw [ej, arrs_odd, hx] at hu
    have ea : ad.add j = ⟨(ad.add (j / 2 * 2)).block, (ad.add (j / 2 * 2)).off + 1, none⟩ ∨ True := .inr trivial
    have e2 : (ad.add (j / 2 * 2)).add 1 = ad.add j := by rw [Tr.add_add, ← ej]
    rw [← e2]
    have e3 : (ad.add (j / 2 * 2)).add 1 = ⟨(ad.add (j / 2 * 2)).block, (ad.add (j / 2 * 2)).off + 1, none⟩ := by
      show (if 1 = 0 then _ else _) = _
      simp
    rw [e3, h2]; simpa using hu
theorem row_arr {w : World} {B : Nat} {A : Option Addr} {l : List (Int × Int)} (h : Row w B A (arrs l)) : Tr.Arr w B A l := fun i x hx => by
  obtain ⟨ad, e, hb, h1⟩ := h (i * 2) (.int .i64 x.1) (by rw [arrs_even, hx]; rfl)
  obtain ⟨ad', e', _, h2⟩ := h (i * 2 + 1) (.int .i64 x.2) (by rw [arrs_odd, hx]; rfl)
  rw [e] at e'; injection e' with e'; subst e'
  refine ⟨ad, e, hb, h1, ?_⟩
  rw [← Tr.add_add] at h2
  have e3 : (ad.add (i * 2)).add 1 = ⟨(ad.add (i * 2)).block, (ad.add (i * 2)).off + 1, none⟩ := by
    show (if 1 = 0 then _ else _) = _
    simp
  rwa [e3] at h2
theorem arr_info : (Try.prog.info? 49).map (fun i => (i.zero, i.size, i.bytes)) = some (some (.agg #[.int .i64 0, .int .i64 0]), 2, 16) := by kernel_rfl
theorem own_arr {w : World} {base n : Nat} {e : TypeId} {v : Value} {l : List (Int × Int)} (h : w.ownsRow base e 2 v n (arrs l)) : n = l.length ∧ ∃ A cap, v = .slice A l.length cap ∧ Tr.Arr w w.heap.size A l := by
  have hlen : l.length = n := by have := h.1; rw [arrs_length] at this; omega
  obtain ⟨A, cap, e, _, hr, _⟩ := own_row h
  subst hlen
  exact ⟨rfl, A, cap, e, row_arr hr⟩
theorem own_arr2 {w : World} {base n : Nat} {e : TypeId} {v : Value} {l : List (Int × Int)} (h : w.ownsRow base e 2 v n (arrs l)) : n = l.length ∧ ∃ A cap, v = .slice A l.length cap ∧ Tr.Arr w w.heap.size A l ∧ ∀ ad, A = some ad → base ≤ ad.block := by
  have hlen : l.length = n := by have := h.1; rw [arrs_length] at this; omega
  obtain ⟨A, cap, e, _, hr, hb⟩ := own_row h
  subst hlen
  exact ⟨rfl, A, cap, e, row_arr hr, fun ad ha => (hb ad ha).1⟩
theorem arr_own {w : World} {base n cap : Nat} {e : TypeId} {A : Option Addr} {l : List (Int × Int)} (h : w.ownsRow base e 2 (.slice A n cap) n (arrs l)) : Tr.Arr w w.heap.size A l := by
  obtain ⟨_, A', c', e', hA⟩ := own_arr h
  injection e' with e1
  rw [e1]; exact hA
theorem arr_set {w : World} {B : Nat} {A : Option Addr} {l : List (Int × Int)} (h : Tr.Arr w B A l) {g : Nat} (hne : l = [] ∨ ∀ ad, A = some ad → ad.block ≠ g) (j : Nat) (v : Value) : Tr.Arr (w.setCell ⟨g, j, none⟩ v) B A l := fun i x hx => by
  obtain ⟨ad, e, hb, h1, h2⟩ := h i x hx
  have hn : ad.block ≠ g := by
    rcases hne with h0 | hne
    · subst h0; simp at hx
    · exact hne ad e
  refine ⟨ad, e, hb, (World.cell?_setCell_other _ _ _ _ (fun e' => hn ?_)).trans h1, (World.cell?_setCell_other _ _ _ _ (fun e' => hn ?_)).trans h2⟩
  · have := congrArg Addr.block e'; rw [Tr.block_add] at this; first | exact this | exact this.symm
  · have := congrArg Addr.block e'; simp only [Tr.block_add] at this; first | exact this | exact this.symm
theorem arr_old {w : World} {A : Option Addr} {l : List (Int × Int)} (h : Tr.Arr w w.heap.size A l) : l = [] ∨ ∀ ad, A = some ad → ad.block ≠ w.heap.size := by
  cases l with
  | nil => exact .inl rfl
  | cons x l =>
    obtain ⟨ad, e, hb, _⟩ := h 0 x rfl
    exact .inr fun ad' e' => by rw [e] at e'; injection e' with e'; subst e'; omega
theorem arr_drew {w : World} {A : Option Addr} {l : List (Int × Int)} (h : Tr.Arr w w.heap.size A l) : Tr.Arr w.drew w.drew.heap.size A l := Tr.Arr.of_lt (Tr.Arr.below h (Below.drew (Below.refl _ _))) (Nat.le_refl _)
/-- The cells of a list of numbers of a kind. -/
def nums (k : IntKind) (l : List Int) : List Value := l.map fun n => Value.int k n
theorem nums_get (k : IntKind) (l : List Int) (j : Nat) : (nums k l)[j]? = (l[j]?).map (Value.int k) := by simp [nums]
theorem Row.at_ {w : World} {B : Nat} {A : Option Addr} {k : IntKind} {l : List Int} (h : Row w B A (nums k l)) {j : Nat} {x : Int} (hx : l[j]? = some x) : ∃ ad, A = some ad ∧ ad.block < B ∧ w.cell? (ad.add j) = some (.int k x) := h j _ (by rw [nums_get, hx]; rfl)
/-- A box of three integers. -/
structure Box3 (w : World) (g : Nat) (a b c : Int) : Prop where
  lt : g < w.heap.size
  c0 : w.cell? ⟨g, 0, none⟩ = some (.int .i64 a)
  c1 : w.cell? ⟨g, 1, none⟩ = some (.int .i64 b)
  c2 : w.cell? ⟨g, 2, none⟩ = some (.int .i64 c)
  z : ∀ i, w.frozen? ⟨g, i, none⟩ = false
section
variable {w w' : World} {g : Nat} {a b c : Int}
theorem Box3.of_block (h : Box3 w g a b c) (hs : w.heap.size ≤ w'.heap.size) (hb : w'.heap[g]? = w.heap[g]?) : Box3 w' g a b c :=
  ⟨Nat.lt_of_lt_of_le h.lt hs, (World.cell?_of_block (w := w) (a := ⟨g, 0, none⟩) hb).trans h.c0, (World.cell?_of_block (w := w) (a := ⟨g, 1, none⟩) hb).trans h.c1, (World.cell?_of_block (w := w) (a := ⟨g, 2, none⟩) hb).trans h.c2, fun i => (World.frozen?_of_block (w := w) (a := ⟨g, i, none⟩) hb).trans (h.z i)⟩
theorem Box3.new (w : World) (t : TypeId) (a b c : Int) : Box3 (w.alloc (.cells #[.int .i64 a, .int .i64 b, .int .i64 c] t)) w.heap.size a b c :=
  ⟨by simp, by rw [World.cell?_alloc_mark]; rfl, by rw [World.cell?_alloc_mark]; rfl, by rw [World.cell?_alloc_mark]; rfl, fun i => by simp [go_sem]⟩
theorem Box3.new_at (w : World) (t : TypeId) (a b c : Int) (g : Nat) (hg : w.heap.size = g) : Box3 (w.alloc (.cells #[.int .i64 a, .int .i64 b, .int .i64 c] t)) g a b c := hg ▸ Box3.new w t a b c
theorem Box3.drew (h : Box3 w g a b c) : Box3 w.drew g a b c := ⟨h.lt, h.c0, h.c1, h.c2, h.z⟩
theorem Box3.alloc (h : Box3 w g a b c) (o : Obj) : Box3 (w.alloc o) g a b c := h.of_block (by simp) (Below.heap_alloc w o g h.lt)
theorem Box3.below {B : Nat} (h : Box3 w g a b c) (hb : Below B w w') (hg : g < B) : Box3 w' g a b c := h.of_block hb.size (hb.block g hg)
theorem Box3.far (h : Box3 w g a b c) {p : Addr} (hp : g ≠ p.block) (u : Value) : Box3 (w.setCell p u) g a b c := h.of_block (by simp [World.setCell]) (Below.heap_setCell w p u g hp)
theorem Box3.set0 (h : Box3 w g a b c) (x : Int) : Box3 (w.setCell ⟨g, 0, none⟩ (.int .i64 x)) g x b c :=
  ⟨by have := h.lt; simpa [World.setCell] using this, World.cell?_setCell_same _ _ _ h.c0, (World.cell?_setCell_other _ _ _ _ (by simp)).trans h.c1, (World.cell?_setCell_other _ _ _ _ (by simp)).trans h.c2, fun i => by rw [World.frozen?_setCell]; exact h.z i⟩
theorem Box3.set1 (h : Box3 w g a b c) (x : Int) : Box3 (w.setCell ⟨g, 1, none⟩ (.int .i64 x)) g a x c :=
  ⟨by have := h.lt; simpa [World.setCell] using this, (World.cell?_setCell_other _ _ _ _ (by simp)).trans h.c0, World.cell?_setCell_same _ _ _ h.c1, (World.cell?_setCell_other _ _ _ _ (by simp)).trans h.c2, fun i => by rw [World.frozen?_setCell]; exact h.z i⟩
theorem Box3.set2 (h : Box3 w g a b c) (x : Int) : Box3 (w.setCell ⟨g, 2, none⟩ (.int .i64 x)) g a b x :=
  ⟨by have := h.lt; simpa [World.setCell] using this, (World.cell?_setCell_other _ _ _ _ (by simp)).trans h.c0, (World.cell?_setCell_other _ _ _ _ (by simp)).trans h.c1, World.cell?_setCell_same _ _ _ h.c2, fun i => by rw [World.frozen?_setCell]; exact h.z i⟩
theorem Box3.store (h : Box3 w g a b c) (x y z : Int) : Box3 (((w.setCell ⟨g, 0, none⟩ (.int .i64 x)).setCell ⟨g, 1, none⟩ (.int .i64 y)).setCell ⟨g, 2, none⟩ (.int .i64 z)) g x y z := ((h.set0 x).set1 y).set2 z
theorem below_store {B : Nat} {w0 : World} (h : Below B w0 w) (hg : B ≤ g) (x y z : Value) : Below B w0 (((w.setCell ⟨g, 0, none⟩ x).setCell ⟨g, 1, none⟩ y).setCell ⟨g, 2, none⟩ z) := ((h.setCell (p := ⟨g, 0, none⟩) hg _).setCell (p := ⟨g, 1, none⟩) hg _).setCell (p := ⟨g, 2, none⟩) hg _
theorem size_store (x y z : Value) : (((w.setCell ⟨g, 0, none⟩ x).setCell ⟨g, 1, none⟩ y).setCell ⟨g, 2, none⟩ z).heap.size = w.heap.size := by simp [World.setCell]
end
end Mem
end Go.Proofs.Ytoglmfpmeajbeaa
