/- One block that is written: boxes of two integers, what stays. -/
import Derived.Test.YtpglhjgpjnapgaaPriv
import Derived.Test.YtpglhjgpjnapgaaOwn
import Derived.StillTailTactics
namespace Go.Proofs.Ytpglhjgpjnapgaa
set_option linter.unusedSimpArgs false
set_option linter.unusedVariables false
open Go.RowKit
namespace It
theorem Upd.drew {p : Nat} {A B : World} (h : Upd p A B) : Upd p A B.drew := ⟨h.os, h.tape, h.output, h.size, h.block⟩
theorem arr_upd {A B : World} {n g : Nat} {X : Option Addr} {l : List (Int × Int)} (h : Tr.Arr A n X l) (hne : l = [] ∨ ∀ ad, X = some ad → ad.block ≠ g) (u : Upd g A B) : Tr.Arr B n X l := fun i x hx => by
  obtain ⟨ad, e, hb, h1, h2⟩ := h i x hx
  have hn : ad.block ≠ g := by
    rcases hne with h0 | hne
    · subst h0; simp at hx
    · exact hne ad e
  exact ⟨ad, e, hb, u.cell (by rw [Tr.block_add]; exact hn) h1, u.cell (by show (ad.add (i * 2)).block ≠ g; rw [Tr.block_add]; exact hn) h2⟩
/-- A box of two integers. -/
structure Box2 (w : World) (g : Nat) (a b : Int) : Prop where
  c0 : w.cell? ⟨g, 0, none⟩ = some (.int .i64 a)
  c1 : w.cell? ⟨g, 1, none⟩ = some (.int .i64 b)
  z0 : w.frozen? ⟨g, 0, none⟩ = false
  z1 : w.frozen? ⟨g, 1, none⟩ = false
section
variable {w w' : World} {g p : Nat} {a b : Int}
theorem Box2.upd (h : Box2 w g a b) (hp : g ≠ p) (u : Upd p w w') : Box2 w' g a b := ⟨u.cell (a := ⟨g, 0, none⟩) hp h.c0, u.cell (a := ⟨g, 1, none⟩) hp h.c1, (u.frozen (a := ⟨g, 0, none⟩) hp h.c0).trans h.z0, (u.frozen (a := ⟨g, 1, none⟩) hp h.c1).trans h.z1⟩
theorem Box2.set0 (h : Box2 w g a b) (x : Int) : Box2 (w.setCell ⟨g, 0, none⟩ (.int .i64 x)) g x b := ⟨World.cell?_setCell_same _ _ _ h.c0, (World.cell?_setCell_other _ _ _ _ (by simp)).trans h.c1, by rw [World.frozen?_setCell]; exact h.z0, by rw [World.frozen?_setCell]; exact h.z1⟩
theorem Box2.set1 (h : Box2 w g a b) (x : Int) : Box2 (w.setCell ⟨g, 1, none⟩ (.int .i64 x)) g a x := ⟨(World.cell?_setCell_other _ _ _ _ (by simp)).trans h.c0, World.cell?_setCell_same _ _ _ h.c1, by rw [World.frozen?_setCell]; exact h.z0, by rw [World.frozen?_setCell]; exact h.z1⟩
theorem Box2.drew (h : Box2 w g a b) : Box2 w.drew g a b := ⟨h.c0, h.c1, h.z0, h.z1⟩
theorem Box2.below {B : Nat} (h : Box2 w g a b) (hb : Below B w w') (hg : g < B) : Box2 w' g a b := ⟨below_cell' hb h.c0 hg, below_cell' hb h.c1 hg, (hb.frozen (p := ⟨g, 0, none⟩) hg).trans h.z0, (hb.frozen (p := ⟨g, 1, none⟩) hg).trans h.z1⟩
  where below_cell' {B : Nat} {w w' : World} {a : Addr} {v : Value} (hb : Below B w w') (hc : w.cell? a = some v) (ha : a.block < B) : w'.cell? a = some v := (hb.cell ha).trans hc
end
/-- An operation whose guard is false. -/
theorem wpStill_skip {P : Program} {ops : Array Oper} {w : World} {Q : Act → Prop} {a : Act} {o : Oper} {rest : List Oper} (hw : Region.wanted o (yielded ops a.tmps) = false) (h : wpStill P ops w Q rest (a.put o.dst undef)) : wpStill P ops w Q (o :: rest) a :=
  wpStill_step fun K hK => by rw [if_neg (by rw [hw]; exact Bool.false_ne_true)]; exact hK _ h
end It
end Go.Proofs.Ytpglhjgpjnapgaa
