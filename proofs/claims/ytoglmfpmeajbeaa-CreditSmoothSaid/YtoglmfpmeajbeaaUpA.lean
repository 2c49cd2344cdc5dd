/- What stays when one block is written; a box of four integers. -/
import Derived.Test.YtoglmfpmeajbeaaKit
import Derived.Below
import Derived.StillTailTactics
import Derived.RangeFuncOwn
import Derived.Laws.AppendOwn
namespace Go.Proofs.Ytoglmfpmeajbeaa
set_option linter.unusedSimpArgs false
set_option linter.unusedVariables false
open Go.RowKit
namespace It
/-- Nothing has turned but block p. -/
structure Upd (p : Nat) (A B : World) : Prop where
  os : B.os = A.os
  tape : B.tape = A.tape
  output : B.output = A.output
  size : A.heap.size ≤ B.heap.size
  block : ∀ k, k < A.heap.size → k ≠ p → B.heap[k]? = A.heap[k]?
theorem Upd.refl (p : Nat) (A : World) : Upd p A A := ⟨rfl, rfl, rfl, Nat.le_refl _, fun _ _ _ => rfl⟩
theorem Upd.trans {p : Nat} {A B C : World} (h : Upd p A B) (k : Upd p B C) : Upd p A C :=
  ⟨k.os.trans h.os, k.tape.trans h.tape, k.output.trans h.output, Nat.le_trans h.size k.size, fun i hi hp => (k.block i (Nat.lt_of_lt_of_le hi h.size) hp).trans (h.block i hi hp)⟩
theorem Upd.of_below {p : Nat} {A B : World} (h : Below A.heap.size A B) : Upd p A B := ⟨h.os, h.tape, h.output, h.size, fun k hk _ => h.block k hk⟩
theorem Upd.alloc {p : Nat} (A : World) (o : Obj) : Upd p A (A.alloc o) := Upd.of_below ((Below.refl _ _).alloc (Nat.le_refl _) _)
theorem Upd.set {p : Nat} (A : World) (i : Nat) (v : Value) : Upd p A (A.setCell ⟨p, i, none⟩ v) :=
  ⟨rfl, rfl, rfl, by simp [World.setCell], fun k _ hp => Below.heap_setCell A _ v k hp⟩
theorem Upd.below {p n : Nat} {W A B : World} (h : Upd p A B) (hb : Below n W A) (hn : n ≤ A.heap.size) (hp : n ≤ p) : Below n W B :=
  hb.trans ⟨h.os, h.tape, h.output, h.size, fun k hk => h.block k (by omega) (by omega)⟩
theorem Upd.cell {p : Nat} {A B : World} (h : Upd p A B) {a : Addr} (ha : a.block ≠ p) {v : Value} (hc : A.cell? a = some v) : B.cell? a = some v := by
  have hlt : a.block < A.heap.size := by
    obtain ⟨o, ho, _⟩ := cells_of_cell hc
    exact (Array.getElem?_eq_some_iff.1 ho).1
  exact (World.cell?_of_block (h.block _ hlt ha)).trans hc
theorem Upd.frozen {p : Nat} {A B : World} (h : Upd p A B) {a : Addr} (ha : a.block ≠ p) {v : Value} (hc : A.cell? a = some v) : B.frozen? a = A.frozen? a := by
  have hlt : a.block < A.heap.size := by
    obtain ⟨o, ho, _⟩ := cells_of_cell hc
    exact (Array.getElem?_eq_some_iff.1 ho).1
  exact World.frozen?_of_block (h.block _ hlt ha)
theorem Upd.obj {p k : Nat} {A B : World} {o : Obj} (h : Upd p A B) (hk : k ≠ p) (ho : A.heap[k]? = some o) : B.heap[k]? = some o :=
  (h.block k (Array.getElem?_eq_some_iff.1 ho).1 hk).trans ho
theorem Upd.drew {p : Nat} {A B : World} (h : Upd p A B) : Upd p A B.drew := ⟨h.os, h.tape, h.output, h.size, h.block⟩
theorem Upd.lt {p : Nat} {A B : World} (h : Upd p A B) {k : Nat} (hk : k < A.heap.size) : k < B.heap.size := Nat.lt_of_lt_of_le hk h.size
/-- A box of four integers, of which the first two may be written. -/
structure Box4 (w : World) (g : Nat) (a b c d : Int) : Prop where
  c0 : w.cell? ⟨g, 0, none⟩ = some (.int .i64 a)
  c1 : w.cell? ⟨g, 1, none⟩ = some (.int .i64 b)
  c2 : w.cell? ⟨g, 2, none⟩ = some (.int .i64 c)
  c3 : w.cell? ⟨g, 3, none⟩ = some (.int .i64 d)
  z0 : w.frozen? ⟨g, 0, none⟩ = false
  z1 : w.frozen? ⟨g, 1, none⟩ = false
section
variable {w w' : World} {g p : Nat} {a b c d : Int}
theorem Box4.upd (h : Box4 w g a b c d) (hp : g ≠ p) (u : Upd p w w') : Box4 w' g a b c d :=
  ⟨u.cell (a := ⟨g, 0, none⟩) hp h.c0, u.cell (a := ⟨g, 1, none⟩) hp h.c1, u.cell (a := ⟨g, 2, none⟩) hp h.c2, u.cell (a := ⟨g, 3, none⟩) hp h.c3, (u.frozen (a := ⟨g, 0, none⟩) hp h.c0).trans h.z0, (u.frozen (a := ⟨g, 1, none⟩) hp h.c1).trans h.z1⟩
theorem Box4.set0 (h : Box4 w g a b c d) (x : Int) : Box4 (w.setCell ⟨g, 0, none⟩ (.int .i64 x)) g x b c d :=
  ⟨World.cell?_setCell_same _ _ _ h.c0, (World.cell?_setCell_other _ _ _ _ (by simp)).trans h.c1, (World.cell?_setCell_other _ _ _ _ (by simp)).trans h.c2, (World.cell?_setCell_other _ _ _ _ (by simp)).trans h.c3, by rw [World.frozen?_setCell]; exact h.z0, by rw [World.frozen?_setCell]; exact h.z1⟩
theorem Box4.set1 (h : Box4 w g a b c d) (x : Int) : Box4 (w.setCell ⟨g, 1, none⟩ (.int .i64 x)) g a x c d :=
  ⟨(World.cell?_setCell_other _ _ _ _ (by simp)).trans h.c0, World.cell?_setCell_same _ _ _ h.c1, (World.cell?_setCell_other _ _ _ _ (by simp)).trans h.c2, (World.cell?_setCell_other _ _ _ _ (by simp)).trans h.c3, by rw [World.frozen?_setCell]; exact h.z0, by rw [World.frozen?_setCell]; exact h.z1⟩
theorem Box4.drew (h : Box4 w g a b c d) : Box4 w.drew g a b c d := ⟨h.c0, h.c1, h.c2, h.c3, h.z0, h.z1⟩
theorem Box4.below {B : Nat} (h : Box4 w g a b c d) (hb : Below B w w') (hg : g < B) : Box4 w' g a b c d :=
  ⟨(hb.cell (p := ⟨g, 0, none⟩) hg).trans h.c0, (hb.cell (p := ⟨g, 1, none⟩) hg).trans h.c1, (hb.cell (p := ⟨g, 2, none⟩) hg).trans h.c2, (hb.cell (p := ⟨g, 3, none⟩) hg).trans h.c3, (hb.frozen (p := ⟨g, 0, none⟩) hg).trans h.z0, (hb.frozen (p := ⟨g, 1, none⟩) hg).trans h.z1⟩
end
/-- Below N nothing has turned but block p. -/
structure Kept (N p : Nat) (A B : World) : Prop where
  os : B.os = A.os
  tape : B.tape = A.tape
  output : B.output = A.output
  size : A.heap.size ≤ B.heap.size
  block : ∀ k, k < N → k ≠ p → B.heap[k]? = A.heap[k]?
theorem Kept.refl (N p : Nat) (A : World) : Kept N p A A := ⟨rfl, rfl, rfl, Nat.le_refl _, fun _ _ _ => rfl⟩
theorem Kept.trans {N p : Nat} {A B C : World} (h : Kept N p A B) (k : Kept N p B C) : Kept N p A C :=
  ⟨k.os.trans h.os, k.tape.trans h.tape, k.output.trans h.output, Nat.le_trans h.size k.size, fun i hi hp => (k.block i hi hp).trans (h.block i hi hp)⟩
theorem Kept.of_below {N M p : Nat} {A B : World} (h : Below M A B) (hn : N ≤ M) : Kept N p A B := ⟨h.os, h.tape, h.output, h.size, fun k hk _ => h.block k (by omega)⟩
theorem Kept.of_upd {N p : Nat} {A B : World} (h : Upd p A B) (hn : N ≤ A.heap.size) : Kept N p A B := ⟨h.os, h.tape, h.output, h.size, fun k hk hp => h.block k (by omega) hp⟩
theorem Kept.grown {N p : Nat} {A B : World} {row : Option Nat} (hg : A.grownBy B row) (hn : N ≤ A.heap.size) (hr : ∀ k, row = some k → N ≤ k) : Kept N p A B :=
  ⟨hg.os, hg.tape, hg.output, hg.size, fun k hk hp => hg.block k (by omega) (fun e => by have := hr k e.symm; omega)⟩
theorem Kept.drew {N p : Nat} {A B : World} (h : Kept N p A B) : Kept N p A B.drew := ⟨h.os, h.tape, h.output, h.size, h.block⟩
theorem Kept.below {N n p : Nat} {W A B : World} (h : Kept N p A B) (hb : Below n W A) (hn : n ≤ N) (hp : n ≤ p) : Below n W B :=
  hb.trans ⟨h.os, h.tape, h.output, h.size, fun k hk => h.block k (by omega) (by omega)⟩
theorem Kept.cell {N p : Nat} {A B : World} (h : Kept N p A B) {a : Addr} {v : Value} (ha : a.block ≠ p) (hl : a.block < N) (hc : A.cell? a = some v) : B.cell? a = some v :=
  (World.cell?_of_block (h.block _ hl ha)).trans hc
theorem own_put {N n p : Nat} {A B : World} {v : Value} {xs : List Value} {e : TypeId} {s : Nat} (h : A.ownsRow N e s v n xs) (u : Upd p A B) (hp : p < N) : B.ownsRow N e s v n xs := by
  refine h.kept ⟨u.os, u.tape, u.output, u.size, fun k hk hp => u.block k hk (fun e => hp (by rw [e]))⟩ ?_
  rcases h.2 with ⟨rfl, _⟩ | ⟨g, cap, cur, rfl, hq, hh, _⟩
  · exact .inl rfl
  · refine .inr fun he => ?_
    obtain rfl : g = p := by simpa [Value.ownBlock] using he
    omega
/-- A box of two integers. -/
structure Box2 (w : World) (g : Nat) (a b : Int) : Prop where
  c0 : w.cell? ⟨g, 0, none⟩ = some (.int .i64 a)
  c1 : w.cell? ⟨g, 1, none⟩ = some (.int .i64 b)
  z0 : w.frozen? ⟨g, 0, none⟩ = false
  z1 : w.frozen? ⟨g, 1, none⟩ = false
section
variable {w w' : World} {g p : Nat} {a b : Int}
theorem Box2.upd (h : Box2 w g a b) (hp : g ≠ p) (u : Upd p w w') : Box2 w' g a b := ⟨u.cell (a := ⟨g, 0, none⟩) hp h.c0, u.cell (a := ⟨g, 1, none⟩) hp h.c1, (u.frozen (a := ⟨g, 0, none⟩) hp h.c0).trans h.z0, (u.frozen (a := ⟨g, 1, none⟩) hp h.c1).trans h.z1⟩
theorem Box2.set0 (h : Box2 w g a b) (x : Int) : Box2 (w.setCell ⟨g, 0, none⟩ (.int .i64 x)) g x b := ⟨World.cell?_setCell_same _ _ _ h.c0, (World.cell?_setCell_other _ _ _ _ (by simp)).trans h.c1, by rw [World.frozen?_setCell]; exact h.z0, by rw [World.frozen?_setCell]; exact h.z1⟩
theorem Box2.set1 (h : Box2 w g a b) (x : Int) : Box2 (w.setCell ⟨g, 1, none⟩ (.int .i64 x)) g a x := ⟨(World.cell?_setCell_other _ _ _ _ (by simp)).trans h.c0, World.cell?_setCell_same _ _ _ h.c1, by rw [World.frozen?_setCell]; exact h.z0, by rw [World.frozen?_setCell]; exact h.z1⟩
theorem Box2.drew (h : Box2 w g a b) : Box2 w.drew g a b := ⟨h.c0, h.c1, h.z0, h.z1⟩
theorem Box2.below {B : Nat} (h : Box2 w g a b) (hb : Below B w w') (hg : g < B) : Box2 w' g a b := ⟨(hb.cell (p := ⟨g, 0, none⟩) hg).trans h.c0, (hb.cell (p := ⟨g, 1, none⟩) hg).trans h.c1, (hb.frozen (p := ⟨g, 0, none⟩) hg).trans h.z0, (hb.frozen (p := ⟨g, 1, none⟩) hg).trans h.z1⟩
theorem Box2.grown {row : Option Nat} (h : Box2 w g a b) (hg : w.grownBy w' row) (hl : g < w.heap.size) (hr : some g ≠ row) : Box2 w' g a b :=
  have e := hg.block g hl hr
  ⟨(World.cell?_of_block (a := ⟨g, 0, none⟩) e).trans h.c0, (World.cell?_of_block (a := ⟨g, 1, none⟩) e).trans h.c1, (World.frozen?_of_block (a := ⟨g, 0, none⟩) e).trans h.z0, (World.frozen?_of_block (a := ⟨g, 1, none⟩) e).trans h.z1⟩
end
theorem own_set {N n p : Nat} {A : World} {v : Value} {xs : List Value} {e : TypeId} {s : Nat} (h : A.ownsRow N e s v n xs) (hp : p < N) (i : Nat) (u : Value) : (A.setCell ⟨p, i, none⟩ u).ownsRow N e s v n xs := own_put h (Upd.set A i u) hp
/-- The integer that a cell holds. -/
def cellInt (w : World) (a : Addr) : Int := match w.cell? a with
  | some (.int _ n) => n
  | _ => 0
theorem cellInt_spec {w : World} {a : Addr} (h : ∃ x, w.cell? a = some (.int .i64 x)) : w.cell? a = some (.int .i64 (cellInt w a)) := by
  obtain ⟨x, hx⟩ := h
  unfold cellInt
  rw [hx]
/-- Nothing has turned but block p, of which two cells stay writable, and the row. -/
structure Near (p : Nat) (ob : Option Nat) (A B : World) : Prop where
  os : B.os = A.os
  tape : B.tape = A.tape
  output : B.output = A.output
  size : A.heap.size ≤ B.heap.size
  lt : p < A.heap.size
  block : ∀ k, k < A.heap.size → k ≠ p → some k ≠ ob → B.heap[k]? = A.heap[k]?
  z0 : B.frozen? ⟨p, 0, none⟩ = A.frozen? ⟨p, 0, none⟩
  z1 : B.frozen? ⟨p, 1, none⟩ = A.frozen? ⟨p, 1, none⟩
  e0 : ∃ x, B.cell? ⟨p, 0, none⟩ = some (.int .i64 x)
  e1 : ∃ x, B.cell? ⟨p, 1, none⟩ = some (.int .i64 x)
section
variable {p : Nat} {ob : Option Nat} {A B C : World}
theorem Near.refl {a b : Int} (h : p < A.heap.size) (hx : Box2 A p a b) : Near p ob A A := ⟨rfl, rfl, rfl, Nat.le_refl _, h, fun _ _ _ _ => rfl, rfl, rfl, ⟨_, hx.c0⟩, ⟨_, hx.c1⟩⟩
theorem Near.drew (h : Near p ob A B) : Near p ob A B.drew := ⟨h.os, h.tape, h.output, h.size, h.lt, h.block, h.z0, h.z1, h.e0, h.e1⟩
theorem ex_of {w w' : World} {a : Addr} (e : w'.cell? a = w.cell? a) (h : ∃ x, w.cell? a = some (.int .i64 x)) : ∃ x, w'.cell? a = some (.int .i64 x) := e ▸ h
theorem Near.alloc (h : Near p ob A B) (o : Obj) : Near p ob A (B.alloc o) :=
  have e : ∀ k, k < A.heap.size → (B.alloc o).heap[k]? = B.heap[k]? := fun k hk => Below.heap_alloc B o k (Nat.lt_of_lt_of_le hk h.size)
  ⟨h.os, h.tape, h.output, by have := h.size; simp; omega, h.lt, fun k hk h1 h2 => (e k hk).trans (h.block k hk h1 h2), (World.frozen?_of_block (a := ⟨p, 0, none⟩) (e p h.lt)).trans h.z0, (World.frozen?_of_block (a := ⟨p, 1, none⟩) (e p h.lt)).trans h.z1,
    ex_of (World.cell?_of_block (a := ⟨p, 0, none⟩) (e p h.lt)) h.e0, ex_of (World.cell?_of_block (a := ⟨p, 1, none⟩) (e p h.lt)) h.e1⟩
theorem Near.set0 (h : Near p ob A B) (y : Int) : Near p ob A (B.setCell ⟨p, 0, none⟩ (.int .i64 y)) :=
  ⟨h.os, h.tape, h.output, by have := h.size; simp [World.setCell]; omega, h.lt, fun k hk h1 h2 => (Below.heap_setCell B _ _ k h1).trans (h.block k hk h1 h2), by rw [World.frozen?_setCell]; exact h.z0, by rw [World.frozen?_setCell]; exact h.z1,
    by obtain ⟨x, hx⟩ := h.e0; exact ⟨y, World.cell?_setCell_same _ _ _ hx⟩, by obtain ⟨x, hx⟩ := h.e1; exact ⟨x, (World.cell?_setCell_other _ _ _ _ (by simp)).trans hx⟩⟩
theorem Near.set1 (h : Near p ob A B) (y : Int) : Near p ob A (B.setCell ⟨p, 1, none⟩ (.int .i64 y)) :=
  ⟨h.os, h.tape, h.output, by have := h.size; simp [World.setCell]; omega, h.lt, fun k hk h1 h2 => (Below.heap_setCell B _ _ k h1).trans (h.block k hk h1 h2), by rw [World.frozen?_setCell]; exact h.z0, by rw [World.frozen?_setCell]; exact h.z1,
    by obtain ⟨x, hx⟩ := h.e0; exact ⟨x, (World.cell?_setCell_other _ _ _ _ (by simp)).trans hx⟩, by obtain ⟨x, hx⟩ := h.e1; exact ⟨y, World.cell?_setCell_same _ _ _ hx⟩⟩
theorem Near.grown (h : Near p ob A B) (hp : some p ≠ ob) (hg : B.grownBy C ob) : Near p ob A C :=
  have e : ∀ k, k < A.heap.size → some k ≠ ob → C.heap[k]? = B.heap[k]? := fun k hk hn => hg.block k (Nat.lt_of_lt_of_le hk h.size) hn
  ⟨hg.os.trans h.os, hg.tape.trans h.tape, hg.output.trans h.output, Nat.le_trans h.size hg.size, h.lt, fun k hk h1 h2 => (e k hk h2).trans (h.block k hk h1 h2), (World.frozen?_of_block (a := ⟨p, 0, none⟩) (e p h.lt hp)).trans h.z0, (World.frozen?_of_block (a := ⟨p, 1, none⟩) (e p h.lt hp)).trans h.z1,
    ex_of (World.cell?_of_block (a := ⟨p, 0, none⟩) (e p h.lt hp)) h.e0, ex_of (World.cell?_of_block (a := ⟨p, 1, none⟩) (e p h.lt hp)) h.e1⟩
theorem Near.cell (h : Near p ob A B) {a : Addr} {v : Value} (h1 : a.block ≠ p) (h2 : some a.block ≠ ob) (hl : a.block < A.heap.size) (hc : A.cell? a = some v) : B.cell? a = some v := (World.cell?_of_block (h.block _ hl h1 h2)).trans hc
theorem Near.kept {N : Nat} (h : Near p ob A B) (hN : N ≤ A.heap.size) (ho : ∀ k, ob = some k → N ≤ k) : Kept N p A B :=
  ⟨h.os, h.tape, h.output, h.size, fun k hk h1 => h.block k (by omega) h1 (fun e => by have := ho k e.symm; omega)⟩
end
end It
end Go.Proofs.Ytoglmfpmeajbeaa
