/- Shaping: Run of a valid trace. -/
import Derived.Test.YtpglhjgpjnapgaaSpI
import Derived.RangeFuncBox
namespace Go.Proofs.Ytpglhjgpjnapgaa
set_option linter.unusedSimpArgs false
set_option linter.unusedVariables false
open Go.RowKit Go.Shelf
attribute [local go_sem] Oper.semAt_some
namespace SpW
open It
theorem grown_upd {p : Nat} {A B : World} (u : Upd p A B) : A.grownBy B (some p) := ⟨u.os, u.tape, u.output, u.size, fun k hk hp => u.block k hk (fun e => hp (by rw [e]))⟩
/-- What the body keeps. -/
structure Coll (N g4 g5 g10 : Nat) (w : World) (pre : List Int) (W : World) : Prop where
  le : ∀ t ∈ pre, t ≤ 1099511627776
  c4 : W.cell? ⟨g4, 0, none⟩ = some (.slice none 0 0)
  f4 : W.frozen? ⟨g4, 0, none⟩ = false
  c5 : W.cell? ⟨g5, 0, none⟩ = some (.int .i64 0)
  f5 : W.frozen? ⟨g5, 0, none⟩ = false
  out : ∃ v, Boxed W g10 48 v ∧ W.ownsRow N 3 1 v pre.length (Mem.ints pre)
  below : Below w.heap.size w W
theorem own_upd {N n p : Nat} {A B : World} {v : Value} {xs : List Value} {e : TypeId} {s : Nat} (h : A.ownsRow N e s v n xs) (u : Upd p A B) (hp : p < N ∨ ∃ o : Obj, A.heap[p]? = some o ∧ o.isCells = false) : B.ownsRow N e s v n xs := by
  refine h.kept (grown_upd u) ?_
  rcases h.2 with ⟨rfl, _⟩ | ⟨g, cap, cur, rfl, hq, hh, _⟩
  · exact .inl rfl
  · refine .inr fun he => ?_
    obtain rfl : g = p := by simpa [Value.ownBlock] using he
    rcases hp with hp | ⟨o, ho, hc⟩
    · omega
    · rw [hh] at ho; cases ho; cases hc
theorem Coll.upd {N g4 g5 g10 p : Nat} {w A B : World} {pre : List Int} (h : Coll N g4 g5 g10 w pre A) (u : Upd p A B) (hp : (p < N ∧ p ≠ g4 ∧ p ≠ g5 ∧ p ≠ g10) ∨ ∃ o : Obj, A.heap[p]? = some o ∧ o.isCells = false) (hw : w.heap.size ≤ p) : Coll N g4 g5 g10 w pre B := by
  have ne : ∀ {g : Nat} {a : Addr} {v : Value}, a.block = g → A.cell? a = some v → (p < N ∧ p ≠ g4 ∧ p ≠ g5 ∧ p ≠ g10 → p ≠ g) → a.block ≠ p := fun ha hc hg => by
    rcases hp with hp | ⟨o, ho, hn⟩
    · rw [ha]; exact fun e => hg hp e.symm
    · intro e
      obtain ⟨o', ho', hc'⟩ := cells_of_cell hc
      rw [e, ho] at ho'; cases ho'; rw [hn] at hc'; cases hc'
  obtain ⟨v, hv, ho⟩ := h.out
  have n4 := ne (g := g4) rfl h.c4 (fun h => h.2.1)
  have n5 := ne (g := g5) rfl h.c5 (fun h => h.2.2.1)
  have n10 := ne (g := g10) (a := ⟨g10, 0, none⟩) rfl hv.cell (fun h => h.2.2.2)
  exact ⟨h.le, u.cell n4 h.c4, (u.frozen n4 h.c4).trans h.f4, u.cell n5 h.c5, (u.frozen n5 h.c5).trans h.f5, ⟨v, hv.kept (grown_upd u) (fun e => n10 (by injection e)), own_upd ho u (hp.imp (fun h => h.1) id)⟩, u.below h.below h.below.size hw⟩
/-- Where it stopped. -/
structure Stop (g4 g5 : Nat) (w : World) (pre : List Int) (W : World) : Prop where
  big : ∃ ini t, pre = ini ++ [t] ∧ 1099511627776 < t
  c4 : W.cell? ⟨g4, 0, none⟩ = some (.slice none 0 0)
  c5 : W.cell? ⟨g5, 0, none⟩ = some (.int .i64 6)
  below : Below w.heap.size w W
theorem Stop.upd {g4 g5 p : Nat} {w A B : World} {pre : List Int} (h : Stop g4 g5 w pre A) (u : Upd p A B) (hp : (p ≠ g4 ∧ p ≠ g5) ∨ ∃ o : Obj, A.heap[p]? = some o ∧ o.isCells = false) (hw : w.heap.size ≤ p) : Stop g4 g5 w pre B := by
  have ne : ∀ {g : Nat} {a : Addr} {v : Value}, a.block = g → A.cell? a = some v → (p ≠ g4 ∧ p ≠ g5 → p ≠ g) → a.block ≠ p := fun ha hc hg => by
    rcases hp with hp | ⟨o, ho, hn⟩
    · rw [ha]; exact fun e => hg hp e.symm
    · intro e
      obtain ⟨o', ho', hc'⟩ := cells_of_cell hc
      rw [e, ho] at ho'; cases ho'; rw [hn] at hc'; cases hc'
  exact ⟨h.big, u.cell (ne (g := g4) rfl h.c4 (fun h => h.1)) h.c4, u.cell (ne (g := g5) rfl h.c5 (fun h => h.2)) h.c5, u.below h.below h.below.size hw⟩
theorem own_ne {w : World} {base n s k : Nat} {e : TypeId} {v : Value} {xs : List Value} (h : w.ownsRow base e s v n xs) (hk : k < base) : v.ownBlock = none ∨ v.ownBlock ≠ some k := by
  cases hv : v.ownBlock with
  | none => exact .inl rfl
  | some j =>
    refine .inr fun he => ?_
    have := (h.lt j hv).1
    injection he with he
    omega
theorem upd_put {p : Nat} {A : World} {o o' : Obj} (_ : A.heap[p]? = some o) : Upd p A (A.putObj p o') :=
  have h := grownBy_putObj' A p o'
  ⟨h.os, h.tape, h.output, h.size, fun k hk hp => h.block k hk (fun e => hp (by injection e))⟩
theorem times_any (b r l v : Int) (A : Option Addr) (len cap : Nat) (w : World) : Calls Try.prog 31 #[.agg #[.int .i64 b, .int .i64 r], .agg #[.int .i64 l, .int .i64 v], .slice A len cap] w fun e w' => e = .returned (.func (.func 35) #[] #[.pointer (some ⟨w.heap.size + 2, 0, none⟩), .pointer (some ⟨w.heap.size, 0, none⟩), .pointer (some ⟨w.heap.size + 1, 0, none⟩)]) ∧ w' = ((w.alloc (.cells #[.int .i64 b, .int .i64 r] 23)).alloc (.cells #[.int .i64 l, .int .i64 v] 29)).alloc (.cells #[.slice A len cap] 46) := by
  go_enter Try.func31, Try.ntmps31
  go_wp2_with fail
  go_ret
  exact ⟨rfl, rfl⟩
set_option maxRecDepth 100000 in
set_option maxHeartbeats 4000000 in
theorem Run_range (b r : Int) (A : Option Addr) (k : List (Int × Int)) (cap : Nat) (ho : Bk.ok b r = true) (hok : Tr.ok k = true) (hz : ∀ x ∈ k, x.2 ≤ b) (w : World) (hA : Tr.Arr w w.heap.size A k) :
    Calls Try.prog 17 #[.agg #[.int .i64 b, .int .i64 r], .slice A k.length cap] w fun e w' => (∃ v E, e = .returned (.tuple #[v, .int .i64 E]) ∧ ((E = 0 ∧ (∀ t ∈ Sp.run b r 0 (b * 1048576) k, t ≤ 1099511627776) ∧ w'.ownsRow w.heap.size 3 1 v k.length (Mem.ints (Sp.run b r 0 (b * 1048576) k))) ∨ (E = 6 ∧ (∃ t ∈ Sp.run b r 0 (b * 1048576) k, 1099511627776 < t) ∧ v = .slice none 0 0))) ∧ Below w.heap.size w w' := by
  have h1 : Bk.chk b r = 0 := by unfold Bk.chk; rw [ho]; rfl
  have h2 : Sp.newT b r = b * 1048576 := by unfold Sp.newT; rw [ho]; rfl
  have c1 := New_any b r
  rw [h1, h2] at c1
  obtain ⟨b0, b1, r0, r1⟩ := Bk.ok_iff.1 ho
  have hok2 : k.length ≤ 200 ∧ Tr.okFrom 0 k = true := by
    unfold Tr.ok at hok; rw [Bool.and_eq_true, decide_eq_true_iff] at hok; exact hok
  obtain ⟨hl, hof⟩ := hok2
  have hst : Sp.St b r 0 (b * 1048576) := ⟨b0, b1, r0, r1, by omega, by omega, by omega, by omega⟩
  have c2 := fun W hA => BkW.CheckTrace_any A k cap W hA (by omega)
  rw [MtW.chk_of_ok hok] at c2
  have C1 := Lib.hid c1
  have C2 := Lib.hid c2
  have HA := Lib.hid hA
  have HOF := Lib.hid hof
  have HZ := Lib.hid hz
  have HST := Lib.hid hst
  obtain ⟨ii, hi0, hz0, hz1, hz2⟩ := info_parts Mem.int_info
  have II := Lib.hid (And.intro hi0 (And.intro hz0 (And.intro hz1 hz2)))
  clear c1 c2 h1 h2 hok hA hof hz hst ho hi0 hz0 hz1 hz2
  refine (callsIn_wide (n := 5)).1 ?_
  refine callsIn_of_wp_marks Try.func17 rfl trivial ?_ rfl
  simp only [Try.ntmps17, List.size_toArray, List.length_cons, List.length_nil, Nat.reduceAdd, Nat.reduceSub, Array.replicate_succ, Array.replicate_zero, List.push_toArray, List.append_toArray, List.nil_append, List.cons_append]
  gi_wp2_with fail
  refine ⟨trivial, ((callsIn_wide (n := 4)).2 (C1.out _)).mono ?_⟩
  rintro e w1 ⟨rfl, hb⟩
  have k0 : w1.cell? ⟨w.heap.size, 0, none⟩ = some (.int .i64 b) := by rw [(bcell hb).1 _ _ (by first | (simp; done) | (simp; omega))]; simp [go_sem]
  have k1 : w1.cell? ⟨w.heap.size, 1, none⟩ = some (.int .i64 r) := by rw [(bcell hb).1 _ _ (by first | (simp; done) | (simp; omega))]; simp [go_sem]
  have k2 : w1.cell? ⟨w.heap.size + 1, 0, none⟩ = some (.slice none 0 0) := by rw [(bcell hb).1 _ _ (by first | (simp; done) | (simp; omega))]; simp [go_sem]
  have k3 : w1.cell? ⟨w.heap.size + 1 + 1, 0, none⟩ = some (.int .i64 0) := by rw [(bcell hb).1 _ _ (by first | (simp; done) | (simp; omega))]; simp [go_sem]
  have k4 : w1.frozen? ⟨w.heap.size + 1, 0, none⟩ = false := by rw [(bcell hb).2 _ _ (by first | (simp; done) | (simp; omega))]; simp [go_sem]
  have k5 : w1.frozen? ⟨w.heap.size + 1 + 1, 0, none⟩ = false := by rw [(bcell hb).2 _ _ (by first | (simp; done) | (simp; omega))]; simp [go_sem]
  have z1 : w.heap.size + 1 + 1 < w1.heap.size := by have := hb.size; simp at this; omega
  have HB1 : Hid (Below w.heap.size w w1) := Lib.hid (Below.trans (by (repeat' (first | (with_reducible exact Below.refl _ _) | (with_reducible refine Below.alloc ?_ ?_ _) | (with_reducible refine Below.setCell ?_ ?_ _) | (with_reducible refine Below.drew ?_) | (with_reducible assumption) | omega | (simp; done) | (simp; omega)))) (hb.mono (by simp; omega)))
  clear hb C1
  gi_wp2_with fail
  obtain ⟨W1, hW1⟩ : ∃ W1, w1.alloc (.cells #[.int .i64 0, .int .i64 (b * 1048576)] 29) = W1 := ⟨_, rfl⟩
  have kn0 : W1.cell? ⟨w1.heap.size, 0, none⟩ = some (.int .i64 0) := by rw [← hW1]; simp [go_sem]
  have kn1 : W1.cell? ⟨w1.heap.size, 1, none⟩ = some (.int .i64 (b * 1048576)) := by rw [← hW1]; simp [go_sem]
  have z2 : w1.heap.size < W1.heap.size := by rw [← hW1]; simp
  have hb : Below w1.heap.size w1 W1 := by rw [← hW1]; exact (Below.refl _ _).alloc (Nat.le_refl _) _
  rw [hW1]
  clear hW1
  replace k0 := below_cell hb k0 (by omega)
  replace k1 := below_cell hb k1 (by omega)
  replace k2 := below_cell hb k2 (by omega)
  replace k3 := below_cell hb k3 (by omega)
  replace k4 := (hb.frozen (p := ⟨w.heap.size + 1, 0, none⟩) (by show w.heap.size + 1 < _; omega)).trans k4
  replace k5 := (hb.frozen (p := ⟨w.heap.size + 1 + 1, 0, none⟩) (by show w.heap.size + 1 + 1 < _; omega)).trans k5
  have HB2 := Lib.hid (HB1.out.trans (hb.mono HB1.out.size))
  clear hb HB1
  refine ⟨trivial, ((callsIn_wide (n := 4)).2 (C2.out _ ((HA.out.below HB2.out).of_lt HB2.out.size))).mono ?_⟩
  rintro e w2 ⟨rfl, hb⟩
  have s2 := hb.size
  replace k0 := below_cell hb k0 (by omega)
  replace k1 := below_cell hb k1 (by omega)
  replace k2 := below_cell hb k2 (by omega)
  replace k3 := below_cell hb k3 (by omega)
  replace kn0 := below_cell hb kn0 (by omega)
  replace kn1 := below_cell hb kn1 (by omega)
  replace k4 := (hb.frozen (p := ⟨w.heap.size + 1, 0, none⟩) (by show w.heap.size + 1 < _; omega)).trans k4
  replace k5 := (hb.frozen (p := ⟨w.heap.size + 1 + 1, 0, none⟩) (by show w.heap.size + 1 + 1 < _; omega)).trans k5
  have HB3 := Lib.hid (HB2.out.trans (hb.mono HB2.out.size))
  have HA3 := Lib.hid ((HA.out.below HB3.out).of_lt HB3.out.size)
  have HK := Lib.hid (And.intro k0 (And.intro k1 (And.intro k2 (And.intro k3 (And.intro k4 (And.intro k5 (And.intro kn0 kn1)))))))
  clear hb C2 HB2 k2 k3 k4 k5 kn0 kn1
  gi_wp2_with fail
  gi_loopw [26] (fun i wr => ∃ j : Nat, j ≤ k.length ∧ i = .int .i64 j ∧ Below w2.heap.size w2 wr) (fun i _ => k.length - (intOf i).toNat)
  case atStart => exact ⟨0, Nat.zero_le _, rfl, Below.refl _ _⟩
  case round =>
    obtain ⟨j, hj, rfl, hbr⟩ := hrel
    obtain ⟨wo, rfl⟩ : ∃ wo : World, wo = wr := ⟨_, rfl⟩
    have HR := Lib.hid hbr
    have lr := hbr.size
    by_cases hlt : j < k.length
    · obtain ⟨x, hx⟩ : ∃ x, k[j]? = some x := ⟨k[j], List.getElem?_eq_getElem hlt⟩
      obtain ⟨ad, rfl, hbk, hc0, hc1⟩ := (HA3.out.below hbr) j x hx
      have xz := HZ.out x (List.mem_of_getElem? hx)
      replace k0 := below_cell hbr k0 (by omega)
      replace k1 := below_cell hbr k1 (by omega)
      have i0 : (0 : Int) ≤ (j : Int) := by omega
      have i1 : (j : Int) < (k.length : Int) := by omega
      have z0 : w.heap.size < wo.heap.size := by omega
      clear hx hbr
      gi_wp2_with fail
      go_roundw
      case rel => exact ⟨j + 1, by omega, by go_num, HR.out.alloc HR.out.size _⟩
      case measure => simp [intOf]; omega
    · have hg := HK.out
      obtain ⟨y0, y1, y2, y3, y4, y5, y6, y7⟩ := hg
      replace k0 := below_cell hbr y0 (by omega)
      replace k1 := below_cell hbr y1 (by omega)
      have k2 := below_cell hbr y2 (by omega)
      have k3 := below_cell hbr y3 (by omega)
      have k6 := below_cell hbr y6 (by omega)
      have k7 := below_cell hbr y7 (by omega)
      have k4 := (hbr.frozen (p := ⟨w.heap.size + 1, 0, none⟩) (by show w.heap.size + 1 < _; omega)).trans y4
      have k5 := (hbr.frozen (p := ⟨w.heap.size + 1 + 1, 0, none⟩) (by show w.heap.size + 1 + 1 < _; omega)).trans y5
      have HB4 := Lib.hid (HB3.out.trans (hbr.mono HB3.out.size))
      clear hbr y0 y1 y2 y3 y4 y5 y6 y7 HK HB3 HA3 HR
      have z0 : w.heap.size < wo.heap.size := by omega
      have z3 : w1.heap.size < wo.heap.size := by omega
      gi_wp2_with fail
      refine ⟨trivial, ((callsIn_wide (n := 4)).2 (times_any b r 0 (b * 1048576) A k.length cap _)).mono ?_⟩
      rintro e w3 ⟨rfl, rfl⟩
      simp only [World.size_alloc]
      obtain ⟨W3, hW3⟩ : ∃ W3, (((wo.alloc (.cells #[.slice none 0 0] 48)).alloc (.cells #[.int .i64 b, .int .i64 r] 23)).alloc (.cells #[.int .i64 0, .int .i64 (b * 1048576)] 29)).alloc (.cells #[.slice A k.length cap] 46) = W3 := ⟨_, rfl⟩
      have hb : Below wo.heap.size wo W3 := by rw [← hW3]; (repeat' (first | (with_reducible exact Below.refl _ _) | (with_reducible refine Below.alloc ?_ ?_ _) | (with_reducible refine Below.setCell ?_ ?_ _) | (with_reducible refine Below.drew ?_) | (with_reducible assumption) | omega | (simp; done) | (simp; omega)))
      have z4 : wo.heap.size + 1 + 1 + 1 < W3.heap.size := by rw [← hW3]; simp
      have z5 : W3.heap.size = wo.heap.size + 4 := by rw [← hW3]; simp
      have HZ5 := Lib.hid z5
      have hbox : Boxed W3 wo.heap.size 48 (.slice none 0 0) := by rw [← hW3]; exact (((Boxed.new wo _ _).alloc _).alloc _).alloc _
      have hg0 : W3.cell? ⟨wo.heap.size + 1, 0, none⟩ = some (.int .i64 b) := by rw [← hW3]; simp [go_sem]
      have hg1 : W3.cell? ⟨wo.heap.size + 1, 1, none⟩ = some (.int .i64 r) := by rw [← hW3]; simp [go_sem]
      have hg2 : W3.cell? ⟨wo.heap.size + 1 + 1, 0, none⟩ = some (.int .i64 0) := by rw [← hW3]; simp [go_sem]
      have hg3 : W3.cell? ⟨wo.heap.size + 1 + 1, 1, none⟩ = some (.int .i64 (b * 1048576)) := by rw [← hW3]; simp [go_sem]
      have hg4 : W3.frozen? ⟨wo.heap.size + 1 + 1, 0, none⟩ = false := by rw [← hW3]; simp [go_sem]
      have hg5 : W3.frozen? ⟨wo.heap.size + 1 + 1, 1, none⟩ = false := by rw [← hW3]; simp [go_sem]
      have hg6 : W3.cell? ⟨wo.heap.size + 1 + 1 + 1, 0, none⟩ = some (.slice A k.length cap) := by rw [← hW3]; simp [go_sem]
      rw [hW3]
      clear hW3 z5
      have HB5 := Lib.hid (HB4.out.trans (hb.mono HB4.out.size))
      have hcoll : Coll W3.heap.size (w.heap.size + 1) (w.heap.size + 1 + 1) wo.heap.size w [] W3 := ⟨by simp, below_cell hb k2 (by omega), (hb.frozen (p := ⟨w.heap.size + 1, 0, none⟩) (by show w.heap.size + 1 < _; omega)).trans k4, below_cell hb k3 (by omega), (hb.frozen (p := ⟨w.heap.size + 1 + 1, 0, none⟩) (by show w.heap.size + 1 + 1 < _; omega)).trans k5, ⟨_, hbox, World.ownsRow_nil _ _ _ _⟩, HB5.out⟩
      have hgen : Gen W3.heap.size w.heap.size (wo.heap.size + 1) (wo.heap.size + 1 + 1 + 1) (wo.heap.size + 1 + 1) b r A k cap 0 (b * 1048576) W3 := ⟨Nat.le_refl _, hg0, hg1, hg2, hg3, hg4, hg5, hg6, HA.out.below HB5.out⟩
      have HC := Lib.hid hcoll
      have HG := Lib.hid hgen
      clear hcoll hgen hg0 hg1 hg2 hg3 hg4 hg5 hg6 hb hbox k0 k1 k2 k3 k4 k5 k6 k7
      gi_wp2_with fail
      refine range_priv (α := Int) rfl (by omega) (gf := 35) (lb := #[.pointer (some ⟨wo.heap.size + 1 + 2, 0, none⟩), .pointer (some ⟨wo.heap.size + 1, 0, none⟩), .pointer (some ⟨wo.heap.size + 1 + 1, 0, none⟩)]) rfl trivial (enters_of Try.func35 (by kernel_rfl) rfl)
        (encs := fun t => #[.int .i64 t]) (fun _ => rfl) (wo.heap.size + 1 + 1) k.length (by omega) (S := fun ys => ys = Sp.run b r 0 (b * 1048576) k) (Sp := fun pre => ∃ j, j ≤ k.length ∧ pre = (Sp.run b r 0 (b * 1048576) k).take j)
        (Kp := KB W3.heap.size (fun j => j = w.heap.size + 1 ∨ j = w.heap.size + 1 + 1 ∨ j = wo.heap.size)) (fun h k => h.trans k) (fun W o o' h => ⟨by simp [World.putObj], fun j hj _ => World.putObj_heap_other (by omega)⟩)
        (Coll W3.heap.size (w.heap.size + 1) (w.heap.size + 1 + 1) wo.heap.size w) (Stop (w.heap.size + 1) (w.heap.size + 1 + 1) w) (fun s => ∀ t ∈ s, t ≤ 1099511627776) (fun s A h => h.le)
        (fun s A B h u => h.upd u (.inl ⟨by omega, by omega, by omega, by omega⟩) (by omega)) (fun s A B h u => h.upd u (.inl ⟨by omega, by omega⟩) (by omega))
        (fun s A o o' h ho => h.upd (upd_put ho) (.inr ⟨_, ho, rfl⟩) (by omega)) (fun s A o o' h ho => h.upd (upd_put ho) (.inr ⟨_, ho, rfl⟩) (by omega)) HC.out ?a1 ?gen ?assign ?body ?done ?stop
      case assign =>
        intro x W K hK
        gi_wp2
        exact hK
      case gen =>
        intro J Jx W hW hG hJ hJx hY h0
        exact times1_in 4 (by omega) _ _ _ _ b r A k cap 0 (b * 1048576) HST.out HOF.out HZ.out hl W3.heap.size w.heap.size _ J Jx hG hJ hY W (by omega) (by omega) (by omega) (by omega) (by omega) (by omega) (by omega) (fun j hj => by omega) (by omega) (by omega) (by omega)
          (HG.out.below hW (by omega) (by omega) (by omega) (by omega)) h0
      case body =>
        rintro pre x W ⟨hle, hc4, hf4, hc5, hf5, ⟨v, hv, hrow⟩, hB⟩ hlen hsz
        have hc := hv.cell
        have HR := Lib.hid hrow
        have HV := Lib.hid hv
        have HB := Lib.hid hB
        have HLE := Lib.hid hle
        have nW := hv.lt
        clear hrow hv hB hle
        gi_wp2_with (gi_at_builtin; refine wpListIn_append_own _ rfl _ _ 48 rfl W3.heap.size 3 ii (.int .i64 0) 1 8 Try.underlying48 II.out.1 II.out.2.1 II.out.2.2.1 II.out.2.2.2 rfl (by decide) _ pre.length (Mem.ints pre) rfl (HR.out.alloc _) ⟨W.heap.size, 0, none⟩ 1 1 [.int .i64 x] rfl rfl (cell_one_new _ _ _) (by simp [Value.oneCell']) (by unfold maxLen; omega) (by omega) (by simp; omega) ?_; intro v' w9 hown' hgrow _; obtain ⟨g', cap', rfl⟩ := ownsRow_succ hown'; have happ := HV.out.appended (n₀ := wo.heap.size) (by decide) (World.ownsRow.mono HR.out (by omega)) (by omega) (Nat.le_refl _) (World.ownsRow.mono hown' (by omega)) hgrow; have hc1 := happ.1.cell; have hf1 := happ.1.frozen; have HAP := Lib.hid happ; have HOW := Lib.hid (hown'.kept (grownBy_setCell' w9 wo.heap.size (.slice (some ⟨g', 0, none⟩) (pre.length + 1) cap')) (.inr (happ.1.not_row (by decide) hown').symm)); have HGR := Lib.hid hgrow; clear happ hown' hgrow)
        · have hx : 1099511627776 < x := by assumption
          refine ⟨(KeepsOthers.setCell _ _ _).trans (KeepsOthers.setCell _ _ _), rfl, ⟨pre, x, rfl, hx⟩, ?_, ?_, (HB.out.setCell (p := ⟨w.heap.size + 1, 0, none⟩) (by simp) _).setCell (p := ⟨w.heap.size + 1 + 1, 0, none⟩) (by simp; omega) _⟩
          · rw [World.cell?_setCell_other _ _ _ _ (by simp)]
            exact World.cell?_setCell_same' _ _ _ (by rw [hc4]; rfl)
          · exact World.cell?_setCell_same' _ _ _ (by rw [World.cell?_setCell_other _ _ _ _ (by simp), hc5]; rfl)
        · have hx : x ≤ 1099511627776 := by assumption
          obtain ⟨a1, a2, a3, a4, a5⟩ := HAP.out
          have hkeep : ∀ j, j < W3.heap.size → j ≠ wo.heap.size → (w9.setCell ⟨wo.heap.size, 0, none⟩ (.slice (some ⟨g', 0, none⟩) (pre.length + 1) cap')).heap[j]? = W.heap[j]? := fun j h1 h2 => by
            rw [Below.heap_setCell _ _ _ _ h2, HGR.out.block j (by simp; omega) (fun e => by have := HR.out.lt j e.symm; omega)]
            exact Below.heap_alloc _ _ _ (by omega)
          refine ⟨a4, ⟨a5.size, fun j h1 h2 => hkeep j h1 (fun e => h2 (.inr (.inr e)))⟩, fun t ht => ?_, (World.cell?_of_block (w := W) (a := ⟨w.heap.size + 1, 0, none⟩) (hkeep _ (by show w.heap.size + 1 < _; omega) (by show w.heap.size + 1 ≠ _; omega))).trans hc4, (World.frozen?_of_block (w := W) (a := ⟨w.heap.size + 1, 0, none⟩) (hkeep _ (by show w.heap.size + 1 < _; omega) (by show w.heap.size + 1 ≠ _; omega))).trans hf4,
            (World.cell?_of_block (w := W) (a := ⟨w.heap.size + 1 + 1, 0, none⟩) (hkeep _ (by show w.heap.size + 1 + 1 < _; omega) (by show w.heap.size + 1 + 1 ≠ _; omega))).trans hc5, (World.frozen?_of_block (w := W) (a := ⟨w.heap.size + 1 + 1, 0, none⟩) (hkeep _ (by show w.heap.size + 1 + 1 < _; omega) (by show w.heap.size + 1 + 1 ≠ _; omega))).trans hf5, ⟨_, a2, ?_⟩, HB.out.trans (a5.mono (by omega))⟩
          · rcases List.mem_append.1 ht with h | h
            · exact HLE.out t h
            · simp at h; subst h; exact hx
          · rw [Mem.ints_snoc, List.length_append]; exact HOW.out
      case done =>
        rintro ys W rfl ⟨hle, hc4, hf4, hc5, hf5, ⟨v, hv, hrow⟩, hB⟩ hK
        obtain ⟨Av, capv, rfl, _, hcv, _⟩ := Mem.own_row hrow
        have hc := hv.cell
        have HR := Lib.hid hrow
        have HV := Lib.hid hv
        have HB := Lib.hid hB
        have HLE := Lib.hid hle
        have HKK := Lib.hid hK
        have hlen := Sp.run_length b r k 0 (b * 1048576)
        have HLN := Lib.hid hlen
        clear hrow hv hB hle hK hcv hlen
        gi_wp2
        have hK' := ((KeepsOthers.setCell W ⟨w.heap.size + 1, 0, none⟩ (.slice Av (Sp.run b r 0 (b * 1048576) k).length capv)).trans (KeepsOthers.setCell _ ⟨w.heap.size + 1 + 1, 0, none⟩ (.int .i64 0))).same W3.heap.size _ HKK.out rfl
        refine ⟨by simp, .inl ⟨_, _, rfl, run_takeDeferred hK', ?_⟩⟩
        have e4 : ((W.setCell ⟨w.heap.size + 1, 0, none⟩ (.slice Av (Sp.run b r 0 (b * 1048576) k).length capv)).setCell ⟨w.heap.size + 1 + 1, 0, none⟩ (.int .i64 0)).cell? ⟨w.heap.size + 1, 0, none⟩ = some (.slice Av (Sp.run b r 0 (b * 1048576) k).length capv) := by
          rw [World.cell?_setCell_other _ _ _ _ (by simp)]
          exact World.cell?_setCell_same' _ _ _ (by rw [hc4]; rfl)
        have e5 : ((W.setCell ⟨w.heap.size + 1, 0, none⟩ (.slice Av (Sp.run b r 0 (b * 1048576) k).length capv)).setCell ⟨w.heap.size + 1 + 1, 0, none⟩ (.int .i64 0)).cell? ⟨w.heap.size + 1 + 1, 0, none⟩ = some (.int .i64 0) :=
          World.cell?_setCell_same' _ _ _ (by rw [World.cell?_setCell_other _ _ _ _ (by simp), hc5]; rfl)
        have d4 := cell_kept e4 (grownBy_putObj' _ W3.heap.size (.deferred none)) (fun r e => by cases e; exact ⟨_, hK', rfl⟩)
        have d5 := cell_kept e5 (grownBy_putObj' _ W3.heap.size (.deferred none)) (fun r e => by cases e; exact ⟨_, hK', rfl⟩)
        have hrow2 := ((HR.out.kept (grownBy_setCell' W (w.heap.size + 1) (.slice Av (Sp.run b r 0 (b * 1048576) k).length capv)) (own_ne HR.out (by show w.heap.size + 1 < _; omega))).kept (grownBy_setCell' _ (w.heap.size + 1 + 1) (.int .i64 0)) (own_ne HR.out (by show w.heap.size + 1 + 1 < _; omega)))
        refine ⟨.tuple #[.slice Av (Sp.run b r 0 (b * 1048576) k).length capv, .int .i64 0], ?_, ⟨.slice Av (Sp.run b r 0 (b * 1048576) k).length capv, 0, rfl, .inl ⟨rfl, HLE.out, ?_⟩⟩, ((HB.out.setCell (p := ⟨w.heap.size + 1, 0, none⟩) (by simp) _).setCell (p := ⟨w.heap.size + 1 + 1, 0, none⟩) (by simp; omega) _).trans (belowK_b (w := w) (Nat.le_refl _) _ W3.heap.size _ _ (by omega) hK' rfl rfl)⟩
        · simp [results, Try.f17, go_sem, d4, d5]
        · have h9 := ownsRow_putObj hrow2 (.deferred none) hK' rfl
          have hww : w.heap.size ≤ W3.heap.size := by omega
          rw [HLN.out] at h9 ⊢
          exact World.ownsRow.mono h9 hww
      case stop =>
        rintro pre W ⟨j, hj, rfl⟩ ⟨⟨ini, t, e1, e2⟩, e3, e4, hB⟩ hK
        gi_wp2
        refine ⟨by simp, .inl ⟨_, _, rfl, run_takeDeferred hK, ?_⟩⟩
        have d4 := cell_kept e3 (grownBy_putObj' _ W3.heap.size (.deferred none)) (fun r e => by cases e; exact ⟨_, hK, rfl⟩)
        have d5 := cell_kept e4 (grownBy_putObj' _ W3.heap.size (.deferred none)) (fun r e => by cases e; exact ⟨_, hK, rfl⟩)
        refine ⟨.tuple #[.slice none 0 0, .int .i64 6], ?_, ⟨.slice none 0 0, 6, rfl, .inr ⟨rfl, ⟨t, ?_, e2⟩, rfl⟩⟩, hB.trans (belowK_b (w := w) (Nat.le_refl _) W W3.heap.size _ _ (by omega) hK rfl rfl)⟩
        · simp [results, Try.f17, go_sem, d4, d5]
        · exact List.mem_of_mem_take (i := j) (by rw [e1]; simp)
end SpW
end Go.Proofs.Ytpglhjgpjnapgaa
