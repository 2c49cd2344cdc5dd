/- Meters: refill and mark. -/
import Derived.Test.YtgpknoakkkkapaaMtR
import Derived.Deep.DeepCutAuto
namespace Go.Proofs.Ytgpknoakkkkapaa
set_option linter.unusedSimpArgs false
set_option linter.unusedVariables false
open Go.RowKit
namespace MtW
/-- The cells of a marker. -/
structure Mkr (w : World) (g : Nat) (l c p cb cr pb pr : Int) : Prop where
  lt : g < w.heap.size
  c0 : w.cell? ⟨g, 0, none⟩ = some (.int .i64 l)
  c1 : w.cell? ⟨g, 1, none⟩ = some (.int .i64 c)
  c2 : w.cell? ⟨g, 2, none⟩ = some (.int .i64 p)
  c3 : w.cell? ⟨g, 3, none⟩ = some (.int .i64 cb)
  c4 : w.cell? ⟨g, 4, none⟩ = some (.int .i64 cr)
  c5 : w.cell? ⟨g, 5, none⟩ = some (.int .i64 pb)
  c6 : w.cell? ⟨g, 6, none⟩ = some (.int .i64 pr)
  z0 : w.frozen? ⟨g, 0, none⟩ = false
  z1 : w.frozen? ⟨g, 1, none⟩ = false
  z2 : w.frozen? ⟨g, 2, none⟩ = false
theorem refill_any (g : Nat) (l c p cb cr pb pr at_ t k1 k2 : Int) (w : World) (M : Mkr w g l c p cb cr pb pr) (hsub : at_ - l = t) (hk1 : cr * t = k1) (hk2 : pr * t = k2)
    (l0 : 0 ≤ l) (a1 : at_ ≤ 1099511627776) (a0 : 0 ≤ t) (b1 : 1 ≤ cb) (b2 : cb ≤ 1048576) (b3 : 1 ≤ pb) (b4 : pb ≤ 1048576) (c1 : 0 ≤ c) (c2 : c ≤ 1099511627776) (p1 : 0 ≤ p) (p2 : p ≤ 1099511627776)
    (e1 : 0 ≤ k1) (e2 : k1 ≤ 2305843009213693952) (e3 : 0 ≤ k2) (e4 : k2 ≤ 2305843009213693952) :
    Calls Try.prog 37 #[.pointer (some ⟨g, 0, none⟩), .int .i64 at_] w fun e w' => e = .returned (.tuple #[]) ∧ w' = (((w.setCell ⟨g, 1, none⟩ (.int .i64 (min (cb * 1048576) (c + k1)))).setCell ⟨g, 2, none⟩ (.int .i64 (min (pb * 1048576) (p + k2)))).setCell ⟨g, 0, none⟩ (.int .i64 at_)).drew.drew := by
  obtain ⟨hlt, h0, h1, h2, h3, h4, h5, h6, z0, z1, z2⟩ := M
  have q1 : IntKind.i64.wrap (cb * 1048576) = cb * 1048576 := IntWalk.i64_in _ (by omega)
  have q2 : IntKind.i64.wrap (pb * 1048576) = pb * 1048576 := IntWalk.i64_in _ (by omega)
  have q3 : IntKind.i64.wrap k1 = k1 := IntWalk.i64_in _ (by omega)
  have q4 : IntKind.i64.wrap k2 = k2 := IntWalk.i64_in _ (by omega)
  have q5 : IntKind.i64.wrap (c + k1) = c + k1 := IntWalk.i64_in _ (by omega)
  have q6 : IntKind.i64.wrap (p + k2) = p + k2 := IntWalk.i64_in _ (by omega)
  go_enter Try.func37, Try.ntmps37
  go_wp2_with fail
  go_region
  go_wp2_with fail
  go_region
  go_wp2_with fail
  go_end0
  exact ⟨rfl, rfl⟩
/-- Nothing but one block changes. -/
structure Only (g : Nat) (w w' : World) : Prop where
  os : w'.os = w.os
  tape : w'.tape = w.tape
  output : w'.output = w.output
  size : w.heap.size ≤ w'.heap.size
  block : ∀ k, k < w.heap.size → k ≠ g → w'.heap[k]? = w.heap[k]?
theorem Only.refl (g : Nat) (w : World) : Only g w w := ⟨rfl, rfl, rfl, Nat.le_refl _, fun _ _ _ => rfl⟩
theorem Only.trans {g : Nat} {a b c : World} (h : Only g a b) (k : Only g b c) : Only g a c :=
  ⟨k.os.trans h.os, k.tape.trans h.tape, k.output.trans h.output, Nat.le_trans h.size k.size, fun j hj hg => (k.block j (Nat.lt_of_lt_of_le hj h.size) hg).trans (h.block j hj hg)⟩
theorem Only.drew {g : Nat} {a w : World} (h : Only g a w) : Only g a w.drew := ⟨h.os, h.tape, h.output, h.size, h.block⟩
theorem Only.alloc {g : Nat} {a w : World} (h : Only g a w) (o : Obj) : Only g a (w.alloc o) := by
  have hb := (Below.refl w.heap.size w).alloc (Nat.le_refl _) o
  exact ⟨hb.os.trans h.os, hb.tape.trans h.tape, hb.output.trans h.output, Nat.le_trans h.size hb.size, fun j hj hg => (hb.block j (Nat.lt_of_lt_of_le hj h.size)).trans (h.block j hj hg)⟩
theorem Only.setCell {g : Nat} {a w : World} (h : Only g a w) (i : Nat) (u : Value) : Only g a (w.setCell ⟨g, i, none⟩ u) := by
  have hb := (Below.refl g w).setCell (p := ⟨g, i, none⟩) (Nat.le_refl _) u
  exact ⟨hb.os.trans h.os, hb.tape.trans h.tape, hb.output.trans h.output, Nat.le_trans h.size hb.size, fun j hj hg => (Below.heap_setCell w ⟨g, i, none⟩ u j hg).trans (h.block j hj hg)⟩
theorem Only.below {g B : Nat} {a w : World} (h : Only g a w) (hB : B ≤ g) (hB2 : B ≤ a.heap.size) : Below B a w := ⟨h.os, h.tape, h.output, h.size, fun k hk => h.block k (by omega) (by omega)⟩
theorem Only.of_below {g : Nat} {a w : World} (h : Below a.heap.size a w) : Only g a w := ⟨h.os, h.tape, h.output, h.size, fun k hk _ => h.block k hk⟩
theorem Mkr.alloc {w : World} {g : Nat} {l c p cb cr pb pr : Int} (M : Mkr w g l c p cb cr pb pr) (o : Obj) : Mkr (w.alloc o) g l c p cb cr pb pr := by
  have hb := (Below.refl w.heap.size w).alloc (Nat.le_refl _) o
  exact ⟨Nat.lt_of_lt_of_le M.lt hb.size, (hb.cell (p := ⟨g, 0, none⟩) M.lt).trans M.c0, (hb.cell (p := ⟨g, 1, none⟩) M.lt).trans M.c1, (hb.cell (p := ⟨g, 2, none⟩) M.lt).trans M.c2, (hb.cell (p := ⟨g, 3, none⟩) M.lt).trans M.c3, (hb.cell (p := ⟨g, 4, none⟩) M.lt).trans M.c4, (hb.cell (p := ⟨g, 5, none⟩) M.lt).trans M.c5, (hb.cell (p := ⟨g, 6, none⟩) M.lt).trans M.c6, (hb.frozen (p := ⟨g, 0, none⟩) M.lt).trans M.z0, (hb.frozen (p := ⟨g, 1, none⟩) M.lt).trans M.z1, (hb.frozen (p := ⟨g, 2, none⟩) M.lt).trans M.z2⟩
theorem Mkr.set0 {w : World} {g : Nat} {c l0 p x cb cr pb pr : Int} (M : Mkr w g l0 c p cb cr pb pr) : Mkr (w.setCell ⟨g, 0, none⟩ (.int .i64 x)) g x c p cb cr pb pr :=
  ⟨by have := M.lt; simpa [World.setCell] using this, World.cell?_setCell_same _ _ _ M.c0, (World.cell?_setCell_other _ _ _ _ (by simp)).trans M.c1, (World.cell?_setCell_other _ _ _ _ (by simp)).trans M.c2, (World.cell?_setCell_other _ _ _ _ (by simp)).trans M.c3, (World.cell?_setCell_other _ _ _ _ (by simp)).trans M.c4, (World.cell?_setCell_other _ _ _ _ (by simp)).trans M.c5, (World.cell?_setCell_other _ _ _ _ (by simp)).trans M.c6, by rw [World.frozen?_setCell]; exact M.z0, by rw [World.frozen?_setCell]; exact M.z1, by rw [World.frozen?_setCell]; exact M.z2⟩
theorem Mkr.set1 {w : World} {g : Nat} {c0 l p x cb cr pb pr : Int} (M : Mkr w g l c0 p cb cr pb pr) : Mkr (w.setCell ⟨g, 1, none⟩ (.int .i64 x)) g l x p cb cr pb pr :=
  ⟨by have := M.lt; simpa [World.setCell] using this, (World.cell?_setCell_other _ _ _ _ (by simp)).trans M.c0, World.cell?_setCell_same _ _ _ M.c1, (World.cell?_setCell_other _ _ _ _ (by simp)).trans M.c2, (World.cell?_setCell_other _ _ _ _ (by simp)).trans M.c3, (World.cell?_setCell_other _ _ _ _ (by simp)).trans M.c4, (World.cell?_setCell_other _ _ _ _ (by simp)).trans M.c5, (World.cell?_setCell_other _ _ _ _ (by simp)).trans M.c6, by rw [World.frozen?_setCell]; exact M.z0, by rw [World.frozen?_setCell]; exact M.z1, by rw [World.frozen?_setCell]; exact M.z2⟩
theorem Mkr.set2 {w : World} {g : Nat} {c l p0 x cb cr pb pr : Int} (M : Mkr w g l c p0 cb cr pb pr) : Mkr (w.setCell ⟨g, 2, none⟩ (.int .i64 x)) g l c x cb cr pb pr :=
  ⟨by have := M.lt; simpa [World.setCell] using this, (World.cell?_setCell_other _ _ _ _ (by simp)).trans M.c0, (World.cell?_setCell_other _ _ _ _ (by simp)).trans M.c1, World.cell?_setCell_same _ _ _ M.c2, (World.cell?_setCell_other _ _ _ _ (by simp)).trans M.c3, (World.cell?_setCell_other _ _ _ _ (by simp)).trans M.c4, (World.cell?_setCell_other _ _ _ _ (by simp)).trans M.c5, (World.cell?_setCell_other _ _ _ _ (by simp)).trans M.c6, by rw [World.frozen?_setCell]; exact M.z0, by rw [World.frozen?_setCell]; exact M.z1, by rw [World.frozen?_setCell]; exact M.z2⟩
theorem Mkr.drew {w : World} {g : Nat} {l c p cb cr pb pr : Int} (M : Mkr w g l c p cb cr pb pr) : Mkr w.drew g l c p cb cr pb pr :=
  ⟨M.lt, M.c0, M.c1, M.c2, M.c3, M.c4, M.c5, M.c6, M.z0, M.z1, M.z2⟩
set_option maxHeartbeats 1000000 in
theorem mark_red (g : Nat) (l c p cb cr pb pr at_ size t k1 k2 C P need : Int) (w : World) (M : Mkr w g l c p cb cr pb pr) (hsub : at_ - l = t) (hk1 : cr * t = k1) (hk2 : pr * t = k2)
    (l0 : 0 ≤ l) (a1 : at_ ≤ 1099511627776) (a0 : 0 ≤ t) (b1 : 1 ≤ cb) (b2 : cb ≤ 1048576) (b3 : 1 ≤ pb) (b4 : pb ≤ 1048576) (c1 : 0 ≤ c) (c2 : c ≤ 1099511627776) (p1 : 0 ≤ p) (p2 : p ≤ 1099511627776)
    (e1 : 0 ≤ k1) (e2 : k1 ≤ 2305843009213693952) (e3 : 0 ≤ k2) (e4 : k2 ≤ 2305843009213693952)
    (s1 : 1 ≤ size) (s2 : size ≤ 1048576) (hC : min (cb * 1048576) (c + k1) = C) (hP : min (pb * 1048576) (p + k2) = P) (hn : size * 1048576 = need) (hp : P < need) (hc : need ≤ C) :
    Calls Try.prog 30 #[.pointer (some ⟨g, 0, none⟩), .agg #[.int .i64 at_, .int .i64 size]] w fun e w' => e = .returned (.int .i64 2) ∧ Only g w w' ∧ Mkr w' g at_ C P cb cr pb pr := by
  have R := refill_any g l c p cb cr pb pr at_ t k1 k2 (w.alloc (.cells #[.int .i64 at_, .int .i64 size] 33)) (M.alloc _) hsub hk1 hk2 l0 a1 a0 b1 b2 b3 b4 c1 c2 p1 p2 e1 e2 e3 e4
  rw [hC, hP] at R
  obtain ⟨C1, C2⟩ : 0 ≤ C ∧ C ≤ 1099511627776 := by omega
  obtain ⟨P1, P2⟩ : 0 ≤ P ∧ P ≤ 1099511627776 := by omega
  obtain ⟨N1, N2⟩ : 1 ≤ need ∧ need ≤ 1099511627776 := by omega
  have RR := Lib.hid R
  clear R hC hP hsub hk1 hk2 l0 a1 a0 b1 b2 b3 b4 c1 c2 p1 p2 e1 e2 e3 e4
  have MM := Lib.hid M
  obtain ⟨hlt, h0, h1, h2, h3, h4, h5, h6, z0, z1, z2⟩ := M
  go_enter Try.func30, Try.ntmps30
  go_wp2_with fail
  refine RR.out.mono ?_
  rintro e w1 ⟨rfl, rfl⟩
  go_wp2_with fail
  go_ret
  refine ⟨rfl, by (with_reducible (repeat' (first | exact Only.refl _ _ | refine Only.alloc ?_ _ | refine Only.setCell ?_ _ _ | refine Only.drew ?_ | assumption))), ?_⟩
  have M' := MM.out
  (with_reducible (repeat' (first | assumption | refine Mkr.drew ?_ | refine Mkr.alloc ?_ _ | apply Mkr.set0 | apply Mkr.set1 | apply Mkr.set2)))
set_option maxHeartbeats 1000000 in
theorem mark_red2 (g : Nat) (l c p cb cr pb pr at_ size t k1 k2 C P need : Int) (w : World) (M : Mkr w g l c p cb cr pb pr) (hsub : at_ - l = t) (hk1 : cr * t = k1) (hk2 : pr * t = k2)
    (l0 : 0 ≤ l) (a1 : at_ ≤ 1099511627776) (a0 : 0 ≤ t) (b1 : 1 ≤ cb) (b2 : cb ≤ 1048576) (b3 : 1 ≤ pb) (b4 : pb ≤ 1048576) (c1 : 0 ≤ c) (c2 : c ≤ 1099511627776) (p1 : 0 ≤ p) (p2 : p ≤ 1099511627776)
    (e1 : 0 ≤ k1) (e2 : k1 ≤ 2305843009213693952) (e3 : 0 ≤ k2) (e4 : k2 ≤ 2305843009213693952)
    (s1 : 1 ≤ size) (s2 : size ≤ 1048576) (hC : min (cb * 1048576) (c + k1) = C) (hP : min (pb * 1048576) (p + k2) = P) (hn : size * 1048576 = need) (hp : P < need) (hc : C < need) :
    Calls Try.prog 30 #[.pointer (some ⟨g, 0, none⟩), .agg #[.int .i64 at_, .int .i64 size]] w fun e w' => e = .returned (.int .i64 2) ∧ Only g w w' ∧ Mkr w' g at_ C P cb cr pb pr := by
  have R := refill_any g l c p cb cr pb pr at_ t k1 k2 (w.alloc (.cells #[.int .i64 at_, .int .i64 size] 33)) (M.alloc _) hsub hk1 hk2 l0 a1 a0 b1 b2 b3 b4 c1 c2 p1 p2 e1 e2 e3 e4
  rw [hC, hP] at R
  obtain ⟨C1, C2⟩ : 0 ≤ C ∧ C ≤ 1099511627776 := by omega
  obtain ⟨P1, P2⟩ : 0 ≤ P ∧ P ≤ 1099511627776 := by omega
  obtain ⟨N1, N2⟩ : 1 ≤ need ∧ need ≤ 1099511627776 := by omega
  have RR := Lib.hid R
  clear R hC hP hsub hk1 hk2 l0 a1 a0 b1 b2 b3 b4 c1 c2 p1 p2 e1 e2 e3 e4
  have MM := Lib.hid M
  obtain ⟨hlt, h0, h1, h2, h3, h4, h5, h6, z0, z1, z2⟩ := M
  go_enter Try.func30, Try.ntmps30
  go_wp2_with fail
  refine RR.out.mono ?_
  rintro e w1 ⟨rfl, rfl⟩
  go_wp2_with fail
  go_ret
  refine ⟨rfl, by (with_reducible (repeat' (first | exact Only.refl _ _ | refine Only.alloc ?_ _ | refine Only.setCell ?_ _ _ | refine Only.drew ?_ | assumption))), ?_⟩
  have M' := MM.out
  (with_reducible (repeat' (first | assumption | refine Mkr.drew ?_ | refine Mkr.alloc ?_ _ | apply Mkr.set0 | apply Mkr.set1 | apply Mkr.set2)))
set_option maxHeartbeats 1000000 in
theorem mark_yellow (g : Nat) (l c p cb cr pb pr at_ size t k1 k2 C P need : Int) (w : World) (M : Mkr w g l c p cb cr pb pr) (hsub : at_ - l = t) (hk1 : cr * t = k1) (hk2 : pr * t = k2)
    (l0 : 0 ≤ l) (a1 : at_ ≤ 1099511627776) (a0 : 0 ≤ t) (b1 : 1 ≤ cb) (b2 : cb ≤ 1048576) (b3 : 1 ≤ pb) (b4 : pb ≤ 1048576) (c1 : 0 ≤ c) (c2 : c ≤ 1099511627776) (p1 : 0 ≤ p) (p2 : p ≤ 1099511627776)
    (e1 : 0 ≤ k1) (e2 : k1 ≤ 2305843009213693952) (e3 : 0 ≤ k2) (e4 : k2 ≤ 2305843009213693952)
    (s1 : 1 ≤ size) (s2 : size ≤ 1048576) (hC : min (cb * 1048576) (c + k1) = C) (hP : min (pb * 1048576) (p + k2) = P) (hn : size * 1048576 = need) (hp : need ≤ P) (hc : C < need) :
    Calls Try.prog 30 #[.pointer (some ⟨g, 0, none⟩), .agg #[.int .i64 at_, .int .i64 size]] w fun e w' => e = .returned (.int .i64 1) ∧ Only g w w' ∧ Mkr w' g at_ C (P - need) cb cr pb pr := by
  have R := refill_any g l c p cb cr pb pr at_ t k1 k2 (w.alloc (.cells #[.int .i64 at_, .int .i64 size] 33)) (M.alloc _) hsub hk1 hk2 l0 a1 a0 b1 b2 b3 b4 c1 c2 p1 p2 e1 e2 e3 e4
  rw [hC, hP] at R
  obtain ⟨C1, C2⟩ : 0 ≤ C ∧ C ≤ 1099511627776 := by omega
  obtain ⟨P1, P2⟩ : 0 ≤ P ∧ P ≤ 1099511627776 := by omega
  obtain ⟨N1, N2⟩ : 1 ≤ need ∧ need ≤ 1099511627776 := by omega
  have RR := Lib.hid R
  clear R hC hP hsub hk1 hk2 l0 a1 a0 b1 b2 b3 b4 c1 c2 p1 p2 e1 e2 e3 e4
  have MM := Lib.hid M
  obtain ⟨hlt, h0, h1, h2, h3, h4, h5, h6, z0, z1, z2⟩ := M
  go_enter Try.func30, Try.ntmps30
  go_wp2_with fail
  refine RR.out.mono ?_
  rintro e w1 ⟨rfl, rfl⟩
  go_wp2_with fail
  go_ret
  refine ⟨rfl, by (with_reducible (repeat' (first | exact Only.refl _ _ | refine Only.alloc ?_ _ | refine Only.setCell ?_ _ _ | refine Only.drew ?_ | assumption))), ?_⟩
  have M' := MM.out
  (with_reducible (repeat' (first | assumption | refine Mkr.drew ?_ | refine Mkr.alloc ?_ _ | apply Mkr.set0 | apply Mkr.set1 | apply Mkr.set2)))
set_option maxHeartbeats 1000000 in
theorem mark_green (g : Nat) (l c p cb cr pb pr at_ size t k1 k2 C P need : Int) (w : World) (M : Mkr w g l c p cb cr pb pr) (hsub : at_ - l = t) (hk1 : cr * t = k1) (hk2 : pr * t = k2)
    (l0 : 0 ≤ l) (a1 : at_ ≤ 1099511627776) (a0 : 0 ≤ t) (b1 : 1 ≤ cb) (b2 : cb ≤ 1048576) (b3 : 1 ≤ pb) (b4 : pb ≤ 1048576) (c1 : 0 ≤ c) (c2 : c ≤ 1099511627776) (p1 : 0 ≤ p) (p2 : p ≤ 1099511627776)
    (e1 : 0 ≤ k1) (e2 : k1 ≤ 2305843009213693952) (e3 : 0 ≤ k2) (e4 : k2 ≤ 2305843009213693952)
    (s1 : 1 ≤ size) (s2 : size ≤ 1048576) (hC : min (cb * 1048576) (c + k1) = C) (hP : min (pb * 1048576) (p + k2) = P) (hn : size * 1048576 = need) (hp : need ≤ P) (hc : need ≤ C) :
    Calls Try.prog 30 #[.pointer (some ⟨g, 0, none⟩), .agg #[.int .i64 at_, .int .i64 size]] w fun e w' => e = .returned (.int .i64 0) ∧ Only g w w' ∧ Mkr w' g at_ (C - need) (P - need) cb cr pb pr := by
  have R := refill_any g l c p cb cr pb pr at_ t k1 k2 (w.alloc (.cells #[.int .i64 at_, .int .i64 size] 33)) (M.alloc _) hsub hk1 hk2 l0 a1 a0 b1 b2 b3 b4 c1 c2 p1 p2 e1 e2 e3 e4
  rw [hC, hP] at R
  obtain ⟨C1, C2⟩ : 0 ≤ C ∧ C ≤ 1099511627776 := by omega
  obtain ⟨P1, P2⟩ : 0 ≤ P ∧ P ≤ 1099511627776 := by omega
  obtain ⟨N1, N2⟩ : 1 ≤ need ∧ need ≤ 1099511627776 := by omega
  have RR := Lib.hid R
  clear R hC hP hsub hk1 hk2 l0 a1 a0 b1 b2 b3 b4 c1 c2 p1 p2 e1 e2 e3 e4
  have MM := Lib.hid M
  obtain ⟨hlt, h0, h1, h2, h3, h4, h5, h6, z0, z1, z2⟩ := M
  go_enter Try.func30, Try.ntmps30
  go_wp2_with fail
  refine RR.out.mono ?_
  rintro e w1 ⟨rfl, rfl⟩
  go_wp2_with fail
  go_ret
  refine ⟨rfl, by (with_reducible (repeat' (first | exact Only.refl _ _ | refine Only.alloc ?_ _ | refine Only.setCell ?_ _ _ | refine Only.drew ?_ | assumption))), ?_⟩
  have M' := MM.out
  (with_reducible (repeat' (first | assumption | refine Mkr.drew ?_ | refine Mkr.alloc ?_ _ | apply Mkr.set0 | apply Mkr.set1 | apply Mkr.set2)))
theorem mark_any (g : Nat) (l c p cb cr pb pr at_ size t k1 k2 C P need : Int) (w : World) (M : Mkr w g l c p cb cr pb pr) (hsub : at_ - l = t) (hk1 : cr * t = k1) (hk2 : pr * t = k2)
    (l0 : 0 ≤ l) (a1 : at_ ≤ 1099511627776) (a0 : 0 ≤ t) (b1 : 1 ≤ cb) (b2 : cb ≤ 1048576) (b3 : 1 ≤ pb) (b4 : pb ≤ 1048576) (c1 : 0 ≤ c) (c2 : c ≤ 1099511627776) (p1 : 0 ≤ p) (p2 : p ≤ 1099511627776)
    (e1 : 0 ≤ k1) (e2 : k1 ≤ 2305843009213693952) (e3 : 0 ≤ k2) (e4 : k2 ≤ 2305843009213693952)
    (s1 : 1 ≤ size) (s2 : size ≤ 1048576) (hC : min (cb * 1048576) (c + k1) = C) (hP : min (pb * 1048576) (p + k2) = P) (hn : size * 1048576 = need) :
    Calls Try.prog 30 #[.pointer (some ⟨g, 0, none⟩), .agg #[.int .i64 at_, .int .i64 size]] w fun e w' => e = .returned (.int .i64 (Mt.color C P need)) ∧ Only g w w' ∧ Mkr w' g at_ (Mt.takeC C P need) (Mt.takeP P need) cb cr pb pr := by
  unfold Mt.color Mt.takeC Mt.takeP
  rcases Int.lt_or_le P need with hp | hp <;> rcases Int.lt_or_le C need with hc | hc
  · rw [if_pos hp, if_pos hp, if_pos hp]; exact mark_red2 g l c p cb cr pb pr at_ size t k1 k2 C P need w M hsub hk1 hk2 l0 a1 a0 b1 b2 b3 b4 c1 c2 p1 p2 e1 e2 e3 e4 s1 s2 hC hP hn hp hc
  · rw [if_pos hp, if_pos hp, if_pos hp]; exact mark_red g l c p cb cr pb pr at_ size t k1 k2 C P need w M hsub hk1 hk2 l0 a1 a0 b1 b2 b3 b4 c1 c2 p1 p2 e1 e2 e3 e4 s1 s2 hC hP hn hp hc
  · have h : ¬ P < need := by omega
    rw [if_neg h, if_neg h, if_neg h, if_pos hc, if_pos hc]; exact mark_yellow g l c p cb cr pb pr at_ size t k1 k2 C P need w M hsub hk1 hk2 l0 a1 a0 b1 b2 b3 b4 c1 c2 p1 p2 e1 e2 e3 e4 s1 s2 hC hP hn hp hc
  · have h : ¬ P < need := by omega
    have h' : ¬ C < need := by omega
    rw [if_neg h, if_neg h, if_neg h, if_neg h', if_neg h']; exact mark_green g l c p cb cr pb pr at_ size t k1 k2 C P need w M hsub hk1 hk2 l0 a1 a0 b1 b2 b3 b4 c1 c2 p1 p2 e1 e2 e3 e4 s1 s2 hC hP hn hp hc
end MtW
end Go.Proofs.Ytgpknoakkkkapaa
