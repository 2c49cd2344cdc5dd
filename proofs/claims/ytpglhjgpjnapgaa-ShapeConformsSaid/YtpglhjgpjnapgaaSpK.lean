/- Shaping: Run with an error. -/
import Derived.Test.YtpglhjgpjnapgaaSpJ
namespace Go.Proofs.Ytpglhjgpjnapgaa
set_option linter.unusedSimpArgs false
set_option linter.unusedVariables false
open Go.RowKit Go.Shelf
attribute [local go_sem] Oper.semAt_some
namespace SpW
open It
theorem res2 {W : World} {g4 g5 : Nat} {a b : Value} (h : g4 ≠ g5) (c4 : W.cell? ⟨g4, 0, none⟩ = some a) (c5 : W.cell? ⟨g5, 0, none⟩ = some b) (x y : Value) :
    ((W.setCell ⟨g4, 0, none⟩ x).setCell ⟨g5, 0, none⟩ y).cell? ⟨g4, 0, none⟩ = some x ∧ ((W.setCell ⟨g4, 0, none⟩ x).setCell ⟨g5, 0, none⟩ y).cell? ⟨g5, 0, none⟩ = some y :=
  ⟨(World.cell?_setCell_other _ _ _ _ (by simp [h])).trans (World.cell?_setCell_same _ _ _ c4), World.cell?_setCell_same _ _ _ ((World.cell?_setCell_other _ _ _ _ (by simp [Ne.symm h])).trans c5)⟩
theorem res2_alloc {W : World} {g4 g5 : Nat} {a b : Value} (h : g4 ≠ g5) (z4 : g4 < W.heap.size) (z5 : g5 < W.heap.size) (c4 : W.cell? ⟨g4, 0, none⟩ = some a) (c5 : W.cell? ⟨g5, 0, none⟩ = some b) (x y : Value) (o : Obj) :
    (((W.setCell ⟨g4, 0, none⟩ x).setCell ⟨g5, 0, none⟩ y).alloc o).cell? ⟨g4, 0, none⟩ = some x ∧ (((W.setCell ⟨g4, 0, none⟩ x).setCell ⟨g5, 0, none⟩ y).alloc o).cell? ⟨g5, 0, none⟩ = some y := by
  obtain ⟨q4, q5⟩ := res2 h c4 c5 x y
  have hb : Below ((W.setCell ⟨g4, 0, none⟩ x).setCell ⟨g5, 0, none⟩ y).heap.size ((W.setCell ⟨g4, 0, none⟩ x).setCell ⟨g5, 0, none⟩ y) (((W.setCell ⟨g4, 0, none⟩ x).setCell ⟨g5, 0, none⟩ y).alloc o) := (Below.refl _ _).alloc (Nat.le_refl _) _
  exact ⟨below_cell hb q4 (by simpa [World.setCell] using z4), below_cell hb q5 (by simpa [World.setCell] using z5)⟩
set_option maxRecDepth 100000 in
set_option maxHeartbeats 4000000 in
theorem Run_chk (b r : Int) (A : Option Addr) (len cap : Nat) (ho : Bk.ok b r = false) (w : World) :
    Calls Try.prog 17 #[.agg #[.int .i64 b, .int .i64 r], .slice A len cap] w fun e w' => e = .returned (.tuple #[.slice none 0 0, .int .i64 130]) ∧ Below w.heap.size w w' := by
  have h1 : Bk.chk b r = 130 := by unfold Bk.chk; rw [ho]; rfl
  have h2 : Sp.newT b r = 0 := by unfold Sp.newT; rw [ho]; rfl
  have c1 := New_any b r
  rw [h1, h2] at c1
  have C1 := Lib.hid c1
  clear c1 h1 h2 ho
  refine (callsIn_wide (n := 5)).1 ?_
  refine callsIn_of_wp_marks Try.func17 rfl trivial ?_ rfl
  simp only [Try.ntmps17, List.size_toArray, List.length_cons, List.length_nil, Nat.reduceAdd, Nat.reduceSub, Array.replicate_succ, Array.replicate_zero, List.push_toArray, List.append_toArray, List.nil_append, List.cons_append]
  gi_wp2_with fail
  refine ⟨trivial, ((callsIn_wide (n := 4)).2 (C1.out _)).mono ?_⟩
  rintro e w1 ⟨rfl, hb⟩
  have k0 : w1.cell? ⟨w.heap.size, 0, none⟩ = some (.int .i64 b) := by rw [(bcell hb).1 _ _ (by first | (simp; done) | (simp; omega))]; simp [go_sem]
  have k2 : w1.cell? ⟨w.heap.size + 1, 0, none⟩ = some (.slice none 0 0) := by rw [(bcell hb).1 _ _ (by first | (simp; done) | (simp; omega))]; simp [go_sem]
  have k3 : w1.cell? ⟨w.heap.size + 1 + 1, 0, none⟩ = some (.int .i64 0) := by rw [(bcell hb).1 _ _ (by first | (simp; done) | (simp; omega))]; simp [go_sem]
  have k4 : w1.frozen? ⟨w.heap.size + 1, 0, none⟩ = false := by rw [(bcell hb).2 _ _ (by first | (simp; done) | (simp; omega))]; simp [go_sem]
  have k5 : w1.frozen? ⟨w.heap.size + 1 + 1, 0, none⟩ = false := by rw [(bcell hb).2 _ _ (by first | (simp; done) | (simp; omega))]; simp [go_sem]
  have z1 : w.heap.size + 1 + 1 < w1.heap.size := by have := hb.size; simp at this; omega
  have HB1 : Hid (Below w.heap.size w w1) := Lib.hid (Below.trans (by (repeat' (first | (with_reducible exact Below.refl _ _) | (with_reducible refine Below.alloc ?_ ?_ _) | (with_reducible refine Below.setCell ?_ ?_ _) | (with_reducible refine Below.drew ?_) | (with_reducible assumption) | omega | (simp; done) | (simp; omega)))) (hb.mono (by simp; omega)))
  clear hb C1
  have le_w1_0_0 : w.heap.size ≤ w1.heap.size := by omega
  have le_w1_0_1 : w.heap.size ≤ w1.heap.size + 1 := by omega
  have le_w1_0_2 : w.heap.size ≤ w1.heap.size + 1 + 1 := by omega
  have le_w1_0_3 : w.heap.size ≤ w1.heap.size + 1 + 1 + 1 := by omega
  have lu_w1_0_1 : w.heap.size < w1.heap.size + 1 := by omega
  have lu_w1_0_2 : w.heap.size < w1.heap.size + 1 + 1 := by omega
  have lu_w1_0_3 : w.heap.size < w1.heap.size + 1 + 1 + 1 := by omega
  have lt_w1_0_0 : w.heap.size < w1.heap.size := by omega
  have lt_w1_0_1 : w.heap.size + 1 < w1.heap.size := by omega
  have lt_w1_0_2 : w.heap.size + 1 + 1 < w1.heap.size := by omega
  gi_wp2
  obtain ⟨q4, q5⟩ := res2_alloc (show w.heap.size + 1 ≠ w.heap.size + 1 + 1 by omega) (by omega) (by omega) k2 k3 (.slice none 0 0) (.int .i64 130) (.cells #[.int .i64 0, .int .i64 0] 29)
  exact ⟨.tuple #[.slice none 0 0, .int .i64 130], by simp [results, Try.f17, go_sem, q4, q5], rfl, by have hb := HB1.out; have := hb.size; (repeat' (first | (with_reducible exact Below.refl _ _) | (with_reducible refine Below.alloc ?_ ?_ _) | (with_reducible refine Below.setCell ?_ ?_ _) | (with_reducible refine Below.drew ?_) | (with_reducible assumption) | omega | (simp; done) | (simp; omega)))⟩
set_option maxRecDepth 100000 in
set_option maxHeartbeats 4000000 in
theorem Run_trace (b r : Int) (A : Option Addr) (k : List (Int × Int)) (cap : Nat) (ho : Bk.ok b r = true) (ht : Tr.ok k = false) (hl : k.length ≤ 100000) (w : World) (hA : Tr.Arr w w.heap.size A k) :
    Calls Try.prog 17 #[.agg #[.int .i64 b, .int .i64 r], .slice A k.length cap] w fun e w' => e = .returned (.tuple #[.slice none 0 0, .int .i64 131]) ∧ Below w.heap.size w w' := by
  have h1 : Bk.chk b r = 0 := by unfold Bk.chk; rw [ho]; rfl
  have h2 : Sp.newT b r = b * 1048576 := by unfold Sp.newT; rw [ho]; rfl
  have c1 := New_any b r
  rw [h1, h2] at c1
  obtain ⟨b0, b1, r0, r1⟩ := Bk.ok_iff.1 ho
  have C1 := Lib.hid c1
  have c2 := fun W hA => BkW.CheckTrace_any A k cap W hA hl
  rw [show Tr.chk k = 131 by unfold Tr.chk; rw [ht]; rfl] at c2
  have C2 := Lib.hid c2
  have HA := Lib.hid hA
  clear c1 c2 h1 h2 ho hA ht
  refine (callsIn_wide (n := 5)).1 ?_
  refine callsIn_of_wp_marks Try.func17 rfl trivial ?_ rfl
  simp only [Try.ntmps17, List.size_toArray, List.length_cons, List.length_nil, Nat.reduceAdd, Nat.reduceSub, Array.replicate_succ, Array.replicate_zero, List.push_toArray, List.append_toArray, List.nil_append, List.cons_append]
  gi_wp2_with fail
  refine ⟨trivial, ((callsIn_wide (n := 4)).2 (C1.out _)).mono ?_⟩
  rintro e w1 ⟨rfl, hb⟩
  have k0 : w1.cell? ⟨w.heap.size, 0, none⟩ = some (.int .i64 b) := by rw [(bcell hb).1 _ _ (by first | (simp; done) | (simp; omega))]; simp [go_sem]
  have k2 : w1.cell? ⟨w.heap.size + 1, 0, none⟩ = some (.slice none 0 0) := by rw [(bcell hb).1 _ _ (by first | (simp; done) | (simp; omega))]; simp [go_sem]
  have k3 : w1.cell? ⟨w.heap.size + 1 + 1, 0, none⟩ = some (.int .i64 0) := by rw [(bcell hb).1 _ _ (by first | (simp; done) | (simp; omega))]; simp [go_sem]
  have k4 : w1.frozen? ⟨w.heap.size + 1, 0, none⟩ = false := by rw [(bcell hb).2 _ _ (by first | (simp; done) | (simp; omega))]; simp [go_sem]
  have k5 : w1.frozen? ⟨w.heap.size + 1 + 1, 0, none⟩ = false := by rw [(bcell hb).2 _ _ (by first | (simp; done) | (simp; omega))]; simp [go_sem]
  have z1 : w.heap.size + 1 + 1 < w1.heap.size := by have := hb.size; simp at this; omega
  have HB1 : Hid (Below w.heap.size w w1) := Lib.hid (Below.trans (by (repeat' (first | (with_reducible exact Below.refl _ _) | (with_reducible refine Below.alloc ?_ ?_ _) | (with_reducible refine Below.setCell ?_ ?_ _) | (with_reducible refine Below.drew ?_) | (with_reducible assumption) | omega | (simp; done) | (simp; omega)))) (hb.mono (by simp; omega)))
  clear hb C1
  gi_wp2_with fail
  obtain ⟨W1, hW1⟩ : ∃ W1, w1.alloc (.cells #[.int .i64 0, .int .i64 (b * 1048576)] 29) = W1 := ⟨_, rfl⟩
  have hb : Below w1.heap.size w1 W1 := by rw [← hW1]; exact (Below.refl _ _).alloc (Nat.le_refl _) _
  have z2 : w1.heap.size < W1.heap.size := by rw [← hW1]; simp
  rw [hW1]
  clear hW1
  replace k0 := below_cell hb k0 (by omega)
  replace k2 := below_cell hb k2 (by omega)
  replace k3 := below_cell hb k3 (by omega)
  replace k4 := (hb.frozen (p := ⟨w.heap.size + 1, 0, none⟩) (by show w.heap.size + 1 < _; omega)).trans k4
  replace k5 := (hb.frozen (p := ⟨w.heap.size + 1 + 1, 0, none⟩) (by show w.heap.size + 1 + 1 < _; omega)).trans k5
  have HB2 := Lib.hid (HB1.out.trans (hb.mono HB1.out.size))
  clear hb HB1
  refine ⟨trivial, ((callsIn_wide (n := 4)).2 (C2.out _ ((HA.out.below HB2.out).of_lt HB2.out.size))).mono ?_⟩
  rintro e w2 ⟨rfl, hb⟩
  have s2 := hb.size
  replace k0 := below_cell hb k0 (by omega)
  replace k2 := below_cell hb k2 (by omega)
  replace k3 := below_cell hb k3 (by omega)
  replace k4 := (hb.frozen (p := ⟨w.heap.size + 1, 0, none⟩) (by show w.heap.size + 1 < _; omega)).trans k4
  replace k5 := (hb.frozen (p := ⟨w.heap.size + 1 + 1, 0, none⟩) (by show w.heap.size + 1 + 1 < _; omega)).trans k5
  have HB3 := Lib.hid (HB2.out.trans (hb.mono HB2.out.size))
  have HA3 := Lib.hid ((HA.out.below HB3.out).of_lt HB3.out.size)
  clear hb C2 HB2
  gi_wp2
  obtain ⟨q4, q5⟩ := res2 (show w.heap.size + 1 ≠ w.heap.size + 1 + 1 by omega) k2 k3 (.slice none 0 0) (.int .i64 131)
  exact ⟨.tuple #[.slice none 0 0, .int .i64 131], by simp [results, Try.f17, go_sem, q4, q5], rfl, by have hb := HB3.out; have := hb.size; (repeat' (first | (with_reducible exact Below.refl _ _) | (with_reducible refine Below.alloc ?_ ?_ _) | (with_reducible refine Below.setCell ?_ ?_ _) | (with_reducible refine Below.drew ?_) | (with_reducible assumption) | omega | (simp; done) | (simp; omega)))⟩
set_option maxRecDepth 100000 in
set_option maxHeartbeats 4000000 in
theorem Run_none (b r : Int) (A : Option Addr) (k : List (Int × Int)) (cap : Nat) (ho : Bk.ok b r = true) (ht : Tr.ok k = true) (hl : k.length ≤ 100000) (hbig : ∃ x ∈ k, b < x.2) (w : World) (hA : Tr.Arr w w.heap.size A k) :
    Calls Try.prog 17 #[.agg #[.int .i64 b, .int .i64 r], .slice A k.length cap] w fun e w' => e = .returned (.tuple #[.slice none 0 0, .int .i64 4]) ∧ Below w.heap.size w w' := by
  have h1 : Bk.chk b r = 0 := by unfold Bk.chk; rw [ho]; rfl
  have h2 : Sp.newT b r = b * 1048576 := by unfold Sp.newT; rw [ho]; rfl
  have c1 := New_any b r
  rw [h1, h2] at c1
  obtain ⟨b0, b1, r0, r1⟩ := Bk.ok_iff.1 ho
  have C1 := Lib.hid c1
  have c2 := fun W hA => BkW.CheckTrace_any A k cap W hA hl
  rw [MtW.chk_of_ok ht] at c2
  have C2 := Lib.hid c2
  have HA := Lib.hid hA
  clear c1 c2 h1 h2 ho hA ht
  have HBIG := Lib.hid hbig
  clear hbig
  refine (callsIn_wide (n := 5)).1 ?_
  refine callsIn_of_wp_marks Try.func17 rfl trivial ?_ rfl
  simp only [Try.ntmps17, List.size_toArray, List.length_cons, List.length_nil, Nat.reduceAdd, Nat.reduceSub, Array.replicate_succ, Array.replicate_zero, List.push_toArray, List.append_toArray, List.nil_append, List.cons_append]
  gi_wp2_with fail
  refine ⟨trivial, ((callsIn_wide (n := 4)).2 (C1.out _)).mono ?_⟩
  rintro e w1 ⟨rfl, hb⟩
  have k0 : w1.cell? ⟨w.heap.size, 0, none⟩ = some (.int .i64 b) := by rw [(bcell hb).1 _ _ (by first | (simp; done) | (simp; omega))]; simp [go_sem]
  have k2 : w1.cell? ⟨w.heap.size + 1, 0, none⟩ = some (.slice none 0 0) := by rw [(bcell hb).1 _ _ (by first | (simp; done) | (simp; omega))]; simp [go_sem]
  have k3 : w1.cell? ⟨w.heap.size + 1 + 1, 0, none⟩ = some (.int .i64 0) := by rw [(bcell hb).1 _ _ (by first | (simp; done) | (simp; omega))]; simp [go_sem]
  have k4 : w1.frozen? ⟨w.heap.size + 1, 0, none⟩ = false := by rw [(bcell hb).2 _ _ (by first | (simp; done) | (simp; omega))]; simp [go_sem]
  have k5 : w1.frozen? ⟨w.heap.size + 1 + 1, 0, none⟩ = false := by rw [(bcell hb).2 _ _ (by first | (simp; done) | (simp; omega))]; simp [go_sem]
  have z1 : w.heap.size + 1 + 1 < w1.heap.size := by have := hb.size; simp at this; omega
  have HB1 : Hid (Below w.heap.size w w1) := Lib.hid (Below.trans (by (repeat' (first | (with_reducible exact Below.refl _ _) | (with_reducible refine Below.alloc ?_ ?_ _) | (with_reducible refine Below.setCell ?_ ?_ _) | (with_reducible refine Below.drew ?_) | (with_reducible assumption) | omega | (simp; done) | (simp; omega)))) (hb.mono (by simp; omega)))
  clear hb C1
  gi_wp2_with fail
  obtain ⟨W1, hW1⟩ : ∃ W1, w1.alloc (.cells #[.int .i64 0, .int .i64 (b * 1048576)] 29) = W1 := ⟨_, rfl⟩
  have hb : Below w1.heap.size w1 W1 := by rw [← hW1]; exact (Below.refl _ _).alloc (Nat.le_refl _) _
  have z2 : w1.heap.size < W1.heap.size := by rw [← hW1]; simp
  rw [hW1]
  clear hW1
  replace k0 := below_cell hb k0 (by omega)
  replace k2 := below_cell hb k2 (by omega)
  replace k3 := below_cell hb k3 (by omega)
  replace k4 := (hb.frozen (p := ⟨w.heap.size + 1, 0, none⟩) (by show w.heap.size + 1 < _; omega)).trans k4
  replace k5 := (hb.frozen (p := ⟨w.heap.size + 1 + 1, 0, none⟩) (by show w.heap.size + 1 + 1 < _; omega)).trans k5
  have HB2 := Lib.hid (HB1.out.trans (hb.mono HB1.out.size))
  clear hb HB1
  refine ⟨trivial, ((callsIn_wide (n := 4)).2 (C2.out _ ((HA.out.below HB2.out).of_lt HB2.out.size))).mono ?_⟩
  rintro e w2 ⟨rfl, hb⟩
  have s2 := hb.size
  replace k0 := below_cell hb k0 (by omega)
  replace k2 := below_cell hb k2 (by omega)
  replace k3 := below_cell hb k3 (by omega)
  replace k4 := (hb.frozen (p := ⟨w.heap.size + 1, 0, none⟩) (by show w.heap.size + 1 < _; omega)).trans k4
  replace k5 := (hb.frozen (p := ⟨w.heap.size + 1 + 1, 0, none⟩) (by show w.heap.size + 1 + 1 < _; omega)).trans k5
  have HB3 := Lib.hid (HB2.out.trans (hb.mono HB2.out.size))
  have HA3 := Lib.hid ((HA.out.below HB3.out).of_lt HB3.out.size)
  clear hb C2 HB2
  have HK := Lib.hid (And.intro k0 (And.intro k2 (And.intro k3 (And.intro k4 k5))))
  clear k2 k3 k4 k5 k0
  gi_wp2_with fail
  gi_loopw [26] (fun i wr => ∃ j : Nat, j ≤ k.length ∧ i = .int .i64 j ∧ (∃ x ∈ k.drop j, b < x.2) ∧ Below w2.heap.size w2 wr) (fun i _ => k.length - (intOf i).toNat)
  case atStart => exact ⟨0, Nat.zero_le _, rfl, HBIG.out, Below.refl _ _⟩
  case round =>
    obtain ⟨j, hj, rfl, hex, hbr⟩ := hrel
    obtain ⟨wo, rfl⟩ : ∃ wo : World, wo = wr := ⟨_, rfl⟩
    have hlt : j < k.length := by
      rcases Nat.lt_or_ge j k.length with h | h
      · exact h
      · rw [List.drop_eq_nil_of_le h] at hex; obtain ⟨x, hx, _⟩ := hex; simp at hx
    have HR := Lib.hid hbr
    have lr := hbr.size
    obtain ⟨x, hx⟩ : ∃ x, k[j]? = some x := ⟨k[j], List.getElem?_eq_getElem hlt⟩
    have hdr : k.drop j = x :: k.drop (j + 1) := by
      obtain ⟨hk', rfl⟩ := List.getElem?_eq_some_iff.1 hx
      exact List.drop_eq_getElem_cons hk'
    rw [hdr] at hex
    obtain ⟨ad, rfl, hbk, hc0, hc1⟩ := (HA3.out.below hbr) j x hx
    have hg := HK.out
    obtain ⟨y0, y2, y3, y4, y5⟩ := hg
    have k0 := below_cell hbr y0 (by omega)
    have k2 := below_cell hbr y2 (by omega)
    have k3 := below_cell hbr y3 (by omega)
    have k4 := (hbr.frozen (p := ⟨w.heap.size + 1, 0, none⟩) (by show w.heap.size + 1 < _; omega)).trans y4
    have k5 := (hbr.frozen (p := ⟨w.heap.size + 1 + 1, 0, none⟩) (by show w.heap.size + 1 + 1 < _; omega)).trans y5
    have i0 : (0 : Int) ≤ (j : Int) := by omega
    have i1 : (j : Int) < (k.length : Int) := by omega
    have HEX := Lib.hid hex
    have HB4 := Lib.hid (HB3.out.trans (hbr.mono HB3.out.size))
    have le_wo_0_0 : w.heap.size ≤ wo.heap.size := by omega
    have le_wo_0_1 : w.heap.size ≤ wo.heap.size + 1 := by omega
    have le_wo_0_2 : w.heap.size ≤ wo.heap.size + 1 + 1 := by omega
    have le_wo_0_3 : w.heap.size ≤ wo.heap.size + 1 + 1 + 1 := by omega
    have lu_wo_0_1 : w.heap.size < wo.heap.size + 1 := by omega
    have lu_wo_0_2 : w.heap.size < wo.heap.size + 1 + 1 := by omega
    have lu_wo_0_3 : w.heap.size < wo.heap.size + 1 + 1 + 1 := by omega
    have lt_wo_0_0 : w.heap.size < wo.heap.size := by omega
    have lt_wo_0_1 : w.heap.size + 1 < wo.heap.size := by omega
    have lt_wo_0_2 : w.heap.size + 1 + 1 < wo.heap.size := by omega
    clear hx hbr hex hdr y0 y2 y3 y4 y5
    gi_wp2_with fail
    · have hgt : b < x.2 := by assumption
      obtain ⟨q4, q5⟩ := res2_alloc (show w.heap.size + 1 ≠ w.heap.size + 1 + 1 by omega) (by omega) (by omega) k2 k3 (.slice none 0 0) (.int .i64 4) (.cells #[.int .i64 x.1, .int .i64 x.2] 31)
      exact ⟨.tuple #[.slice none 0 0, .int .i64 4], by simp [results, Try.f17, go_sem, q4, q5], rfl, by have hb := HB4.out; have := hb.size; (repeat' (first | (with_reducible exact Below.refl _ _) | (with_reducible refine Below.alloc ?_ ?_ _) | (with_reducible refine Below.setCell ?_ ?_ _) | (with_reducible refine Below.drew ?_) | (with_reducible assumption) | omega | (simp; done) | (simp; omega)))⟩
    · have hle : x.2 ≤ b := by assumption
      go_roundw
      case rel =>
        refine ⟨j + 1, by omega, by go_num, ?_, HR.out.alloc HR.out.size _⟩
        obtain ⟨z, hz, hbz⟩ := HEX.out
        rcases List.mem_cons.1 hz with rfl | hz
        · omega
        · exact ⟨z, hz, hbz⟩
      case measure => simp [intOf]; omega
end SpW
end Go.Proofs.Ytpglhjgpjnapgaa
