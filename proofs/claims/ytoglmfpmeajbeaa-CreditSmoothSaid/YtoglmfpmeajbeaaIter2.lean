/- First and Conforms. -/
import Derived.Test.YtoglmfpmeajbeaaIter
namespace Go.Proofs.Ytoglmfpmeajbeaa
set_option linter.unusedSimpArgs false
set_option linter.unusedVariables false
open Go.RowKit Go.Shelf
attribute [local go_sem] Oper.semAt_some
namespace ItW
open It MtW
theorem levels_stops (F : Fence) (n : Nat) (h40 : F.fn 39) (hro : F.round = none) (hn : 1 ≤ n) (gb gl : Nat) (b r : Int) (A : Option Addr) (l : List (Int × Int)) (cap : Nat) (b1 : 1 ≤ b) (b2 : b ≤ 1048576) (r1 : 1 ≤ r) (r2 : r ≤ 2097152) (hok : Tr.okFrom 0 l = true) (hl : l.length ≤ 200)
    (N n1 : Nat) (bad : Nat → Prop) (w : World) (hNW : N ≤ w.heap.size) (hgb : gb < N) (hgb' : ¬ bad gb) (hgl : gl < N) (hgl' : ¬ bad gl) (hn1 : n1 ≤ N) (hbad : ∀ k, k < n1 → ¬ bad k)
    (c0 : w.cell? ⟨gb, 0, none⟩ = some (.int .i64 b)) (c1 : w.cell? ⟨gb, 1, none⟩ = some (.int .i64 r)) (c2 : w.cell? ⟨gl, 0, none⟩ = some (.slice A l.length cap)) (hA : Tr.Arr w n1 A l) :
    SeqStopsK F n Try.prog 39 #[.pointer (some ⟨gb, 0, none⟩), .pointer (some ⟨gl, 0, none⟩)] (fun x : Nat × Int => #[Value.int .i64 (x.1 : Int), Value.int .i64 x.2]) (KB N bad) (fun ys => ys = upto (fun j => (j, (levs b r l)[j]?.getD 0)) l.length)
      (fun pre => ∃ k, k ≤ l.length ∧ pre = upto (fun j => (j, (levs b r l)[j]?.getD 0)) k) l.length w := fun L J Jx W hW hJ _ hY h0 =>
  levels1_in F n h40 hro hn L gb gl b r A l cap b1 b2 r1 r2 hok hl N n1 bad J Jx hY W (by have := hW.size; omega) hJ hgb hgb' hgl hgl' hn1 hbad ((hW.cell (p := ⟨gb, 0, none⟩) (by show gb < _; omega)).trans c0) ((hW.cell (p := ⟨gb, 1, none⟩) (by show gb < _; omega)).trans c1) ((hW.cell (p := ⟨gl, 0, none⟩) (by show gl < _; omega)).trans c2) (hA.below (hW.mono (by omega))) h0
theorem levels_any (b r : Int) (A : Option Addr) (len cap : Nat) (w : World) : Calls Try.prog 38 #[.agg #[.int .i64 b, .int .i64 r], .slice A len cap] w fun e w' => e = .returned (.func (.func 39) #[] #[.pointer (some ⟨w.heap.size, 0, none⟩), .pointer (some ⟨w.heap.size + 1, 0, none⟩)]) ∧ w' = (w.alloc (.cells #[.int .i64 b, .int .i64 r] 60)).alloc (.cells #[.slice A len cap] 45) := by
  go_enter Try.func38, Try.ntmps38
  go_wp2_with fail
  go_ret
  exact ⟨rfl, rfl⟩
set_option maxRecDepth 100000 in
set_option maxHeartbeats 4000000 in
theorem First_good (b r : Int) (A : Option Addr) (l : List (Int × Int)) (cap : Nat) (b1 : 1 ≤ b) (b2 : b ≤ 1048576) (r1 : 1 ≤ r) (r2 : r ≤ 2097152) (hok : Tr.ok l = true) (w : World) (hA : Tr.Arr w w.heap.size A l) :
    Calls Try.prog 32 #[.agg #[.int .i64 b, .int .i64 r], .slice A l.length cap] w fun e w' => (∃ k : Int, e = .returned (.tuple #[.int .i64 k, .int .i64 0]) ∧ (k < 0 ↔ ∀ v ∈ levs b r l, 0 ≤ v)) ∧ Below w.heap.size w w' := by
  have h1 : Bk.chk b r = 0 := by unfold Bk.chk; rw [Bk.ok_iff.2 ⟨b1, b2, r1, r2⟩]; rfl
  have c1 := BkW.Check_any b r
  rw [h1] at c1
  have hok2 : l.length ≤ 200 ∧ Tr.okFrom 0 l = true := by
    unfold Tr.ok at hok; rw [Bool.and_eq_true, decide_eq_true_iff] at hok; exact hok
  obtain ⟨hl, hof⟩ := hok2
  have c2 := fun W hA => BkW.CheckTrace_any A l cap W hA (by omega)
  rw [chk_of_ok hok] at c2
  have C1 := Lib.hid c1
  have C2 := Lib.hid c2
  have HA := Lib.hid hA
  clear c1 c2 h1 hok hA
  refine (callsIn_wide (n := 5)).1 ?_
  refine callsIn_of_wp_marks Try.func32 rfl trivial ?_ rfl
  simp only [Try.ntmps32, List.size_toArray, List.length_cons, List.length_nil, Nat.reduceAdd, Nat.reduceSub, Array.replicate_succ, Array.replicate_zero, List.push_toArray, List.append_toArray, List.nil_append, List.cons_append]
  gi_wp2_with fail
  refine ⟨trivial, ((callsIn_wide (n := 4)).2 (C1.out _)).mono ?_⟩
  rintro e w1 ⟨rfl, rfl⟩
  obtain ⟨W1, hW1⟩ : ∃ W1, (((w.alloc (.cells #[.int .i64 b, .int .i64 r] 60)).alloc (.cells #[.int .i64 0] 3)).alloc (.cells #[.int .i64 0] 34)).alloc (.cells #[.int .i64 b, .int .i64 r] 60) = W1 := ⟨_, rfl⟩
  have k0 : W1.cell? ⟨w.heap.size, 0, none⟩ = some (.int .i64 b) := by rw [← hW1]; simp [go_sem]
  have k1 : W1.cell? ⟨w.heap.size, 1, none⟩ = some (.int .i64 r) := by rw [← hW1]; simp [go_sem]
  have k2 : W1.cell? ⟨w.heap.size + 1, 0, none⟩ = some (.int .i64 0) := by rw [← hW1]; simp [go_sem]
  have k3 : W1.cell? ⟨w.heap.size + 1 + 1, 0, none⟩ = some (.int .i64 0) := by rw [← hW1]; simp [go_sem]
  have k4 : W1.frozen? ⟨w.heap.size + 1, 0, none⟩ = false := by rw [← hW1]; simp [go_sem]
  have k5 : W1.frozen? ⟨w.heap.size + 1 + 1, 0, none⟩ = false := by rw [← hW1]; simp [go_sem]
  have z1 : w.heap.size + 1 + 1 + 1 < W1.heap.size := by rw [← hW1]; simp
  have HB1 : Hid (Below w.heap.size w W1) := by rw [← hW1]; apply Lib.hid; (repeat' (first | (with_reducible exact Below.refl _ _) | (with_reducible refine Below.alloc ?_ ?_ _) | (with_reducible refine Below.setCell ?_ ?_ _) | (with_reducible refine Below.drew ?_) | (with_reducible assumption) | omega | (simp; done) | (simp; omega)))
  rw [hW1]
  clear hW1
  gi_wp2_with fail
  refine ⟨trivial, ((callsIn_wide (n := 4)).2 (C2.out _ ((HA.out.below HB1.out).of_lt HB1.out.size))).mono ?_⟩
  rintro e w2 ⟨rfl, hb⟩
  have s2 := hb.size
  replace k0 := below_cell hb k0 (by omega)
  replace k1 := below_cell hb k1 (by omega)
  replace k2 := below_cell hb k2 (by omega)
  replace k3 := below_cell hb k3 (by omega)
  replace k4 := (hb.frozen (p := ⟨w.heap.size + 1, 0, none⟩) (by show w.heap.size + 1 < _; omega)).trans k4
  replace k5 := (hb.frozen (p := ⟨w.heap.size + 1 + 1, 0, none⟩) (by show w.heap.size + 1 + 1 < _; omega)).trans k5
  have HB2 := Lib.hid (HB1.out.trans (hb.mono HB1.out.size))
  clear hb C1 C2
  gi_wp2_with fail
  refine ⟨trivial, ((callsIn_wide (n := 4)).2 (levels_any b r A l.length cap _)).mono ?_⟩
  rintro e w3 ⟨rfl, rfl⟩
  have hlen : levs b r l = levs b r l := rfl
  obtain ⟨W3, hW3⟩ : ∃ W3, (w2.alloc (.cells #[.int .i64 b, .int .i64 r] 60)).alloc (.cells #[.slice A l.length cap] 45) = W3 := ⟨_, rfl⟩
  have g0 : W3.cell? ⟨w2.heap.size, 0, none⟩ = some (.int .i64 b) := by rw [← hW3]; simp [go_sem]
  have g1 : W3.cell? ⟨w2.heap.size, 1, none⟩ = some (.int .i64 r) := by rw [← hW3]; simp [go_sem]
  have g2 : W3.cell? ⟨w2.heap.size + 1, 0, none⟩ = some (.slice A l.length cap) := by rw [← hW3]; simp [go_sem]
  have hb : Below w2.heap.size w2 W3 := by rw [← hW3]; (repeat' (first | (with_reducible exact Below.refl _ _) | (with_reducible refine Below.alloc ?_ ?_ _) | (with_reducible refine Below.setCell ?_ ?_ _) | (with_reducible refine Below.drew ?_) | (with_reducible assumption) | omega | (simp; done) | (simp; omega)))
  have z3 : w2.heap.size + 1 < W3.heap.size := by rw [← hW3]; simp
  rw [hW3]
  clear hW3 hlen
  replace k2 := below_cell hb k2 (by omega)
  replace k3 := below_cell hb k3 (by omega)
  replace k4 := (hb.frozen (p := ⟨w.heap.size + 1, 0, none⟩) (by show w.heap.size + 1 < _; omega)).trans k4
  replace k5 := (hb.frozen (p := ⟨w.heap.size + 1 + 1, 0, none⟩) (by show w.heap.size + 1 + 1 < _; omega)).trans k5
  have HB3 := Lib.hid (HB2.out.trans (hb.mono HB2.out.size))
  clear hb k0 k1
  gi_wp2_with fail
  refine wpIn_rangeFunc_ownF rfl (by omega) (gf := 39) (lb := #[.pointer (some ⟨w2.heap.size, 0, none⟩), .pointer (some ⟨w2.heap.size + 1, 0, none⟩)]) rfl trivial (enters_of Try.func39 (by kernel_rfl) rfl)
    (levels_stops Fence.wide 4 trivial rfl (by omega) w2.heap.size (w2.heap.size + 1) b r A l cap b1 b2 r1 r2 hof hl W3.heap.size w.heap.size (fun k => k = w.heap.size + 1 ∨ k = w.heap.size + 1 + 1) W3 (Nat.le_refl _) (by omega) (by omega) (by omega) (by omega) (by omega) (fun k hk => by omega) g0 g1 g2 (HA.out.below HB3.out)) (fun h k => h.trans k) (KB.putObj (Nat.le_refl _)) (Below.refl _ _) (fun _ => rfl)
    (fun pre W => ((∀ p ∈ pre, 0 ≤ p.2) ∧ W.cell? ⟨w.heap.size + 1, 0, none⟩ = some (.int .i64 0) ∧ W.frozen? ⟨w.heap.size + 1, 0, none⟩ = false ∧ W.cell? ⟨w.heap.size + 1 + 1, 0, none⟩ = some (.int .i64 0) ∧ W.frozen? ⟨w.heap.size + 1 + 1, 0, none⟩ = false) ∧ Below w.heap.size w W)
    (fun c pre W => (c = .ret ∧ ∃ ini last, pre = ini ++ [last] ∧ last.2 < 0 ∧ W.cell? ⟨w.heap.size + 1, 0, none⟩ = some (.int .i64 (last.1 : Int)) ∧ W.cell? ⟨w.heap.size + 1 + 1, 0, none⟩ = some (.int .i64 0)) ∧ Below w.heap.size w W)
    (OwnFrom.and (Own.from (fun s A B row hs hg hr => ⟨hs.1, cell_kept hs.2.1 hg hr, (frozen_kept hs.2.1 hg hr).trans hs.2.2.1, cell_kept hs.2.2.2.1 hg hr, (frozen_kept hs.2.2.2.1 hg hr).trans hs.2.2.2.2⟩) _) (ownFrom_below (Nat.le_refl _) (by omega)))
    (fun c => OwnFrom.and (Own.from (fun s A B row hs hg hr => by obtain ⟨hc, ini, last, e1, e2, e3, e4⟩ := hs; exact ⟨hc, ini, last, e1, e2, cell_kept e3 hg hr, cell_kept e4 hg hr⟩) _) (ownFrom_below (Nat.le_refl _) (by omega)))
    ⟨⟨by simp, k2, k4, k3, k5⟩, HB3.out⟩
    (fun x => { tmps := #[.agg #[.int .i64 b, .int .i64 r], .slice A l.length cap, .pointer (some ⟨w.heap.size, 0, none⟩), undef, .pointer (some ⟨w.heap.size + 1, 0, none⟩), .pointer (some ⟨w.heap.size + 1 + 1, 0, none⟩), .int .i64 0, .int .i64 0, .int .i64 (x.1 : Int), .int .i64 x.2, .agg #[.int .i64 b, .int .i64 r], .int .i64 0, .int .i64 0, .bool false, undef, .slice A l.length cap, .int .i64 0, .int .i64 0, .bool false, undef, .agg #[.int .i64 b, .int .i64 r], .slice A l.length cap, .func (.func 39) #[] #[.pointer (some ⟨w2.heap.size, 0, none⟩), .pointer (some ⟨w2.heap.size + 1, 0, none⟩)], .int .i64 (x.1 : Int), .int .i64 x.2, undef, undef, undef], defers := [] }) ?assign ?body ?done ?stop
  case assign =>
    intro L x W K hK
    gi_wp2
    exact hK
  case body =>
    rintro L pre x W ⟨⟨hp, hc4, hf4, hc5, hf5⟩, hB⟩ _
    gi_wp2
    · have hx : x.2 < 0 := by assumption
      refine ⟨(KeepsOthers.setCell _ _ _).trans (KeepsOthers.setCell _ _ _), ⟨rfl, pre, x, rfl, hx, ?_, ?_⟩, (hB.setCell (p := ⟨w.heap.size + 1, 0, none⟩) (by simp) _).setCell (p := ⟨w.heap.size + 1 + 1, 0, none⟩) (by simp; omega) _⟩
      · rw [World.cell?_setCell_other _ _ _ _ (by simp)]
        exact World.cell?_setCell_same' _ _ _ (by rw [hc4]; rfl)
      · exact World.cell?_setCell_same' _ _ _ (by rw [World.cell?_setCell_other _ _ _ _ (by simp), hc5]; rfl)
    · have hx : 0 ≤ x.2 := by assumption
      exact ⟨KeepsOthers.refl _, KB.refl _, ⟨fun p hp' => (List.mem_append.1 hp').elim (hp p) (fun e => by simp at e; subst e; exact hx), hc4, hf4, hc5, hf5⟩, hB⟩
  case done =>
    rintro D ys W hD rfl ⟨⟨hne, hc4, hf4, hc5, hf5⟩, hB⟩ hK
    gi_wp2
    have hK' := ((KeepsOthers.setCell W ⟨w.heap.size + 1, 0, none⟩ (.int .i64 (-1))).trans (KeepsOthers.setCell _ ⟨w.heap.size + 1 + 1, 0, none⟩ (.int .i64 0))).same D _ hK rfl
    refine ⟨by simp, .inl ⟨_, _, rfl, run_takeDeferred hK', ?_⟩⟩
    have e4 : ((W.setCell ⟨w.heap.size + 1, 0, none⟩ (.int .i64 (-1))).setCell ⟨w.heap.size + 1 + 1, 0, none⟩ (.int .i64 0)).cell? ⟨w.heap.size + 1, 0, none⟩ = some (.int .i64 (-1)) := by
      rw [World.cell?_setCell_other _ _ _ _ (by simp)]
      exact World.cell?_setCell_same' _ _ _ (by rw [hc4]; rfl)
    have e5 : ((W.setCell ⟨w.heap.size + 1, 0, none⟩ (.int .i64 (-1))).setCell ⟨w.heap.size + 1 + 1, 0, none⟩ (.int .i64 0)).cell? ⟨w.heap.size + 1 + 1, 0, none⟩ = some (.int .i64 0) :=
      World.cell?_setCell_same' _ _ _ (by rw [World.cell?_setCell_other _ _ _ _ (by simp), hc5]; rfl)
    have d4 := cell_kept e4 (grownBy_putObj' _ D (.deferred none)) (fun r e => by cases e; exact ⟨_, hK', rfl⟩)
    have d5 := cell_kept e5 (grownBy_putObj' _ D (.deferred none)) (fun r e => by cases e; exact ⟨_, hK', rfl⟩)
    have hall : ∀ v ∈ levs b r l, 0 ≤ v := by
      intro v hv
      obtain ⟨j, hj, rfl⟩ := List.mem_iff_getElem.1 hv
      have hj' : j < l.length := by rw [levs_length] at hj; exact hj
      have := hne (j, (levs b r l)[j]?.getD 0) (by simp only [upto, List.mem_map, List.mem_range]; exact ⟨j, hj', rfl⟩)
      simpa [List.getElem?_eq_getElem hj] using this
    refine ⟨.tuple #[.int .i64 (-1), .int .i64 0], ?_, ⟨-1, rfl, ⟨fun _ => hall, fun _ => by decide⟩⟩, ((hB.setCell (p := ⟨w.heap.size + 1, 0, none⟩) (by simp) _).setCell (p := ⟨w.heap.size + 1 + 1, 0, none⟩) (by simp; omega) _).trans (belowK_b (w := w) (Nat.le_refl _) _ D _ _ (by omega) hK' rfl rfl)⟩
    simp [results, Try.f32, go_sem, d4, d5]
  case stop =>
    rintro D c pre W hD ⟨k, hk, rfl⟩ ⟨⟨rfl, ini, last, e1, e2, e3, e4⟩, hB⟩ hK
    gi_wp2
    refine ⟨by simp, .inl ⟨_, _, rfl, run_takeDeferred hK, ?_⟩⟩
    have d4 := cell_kept e3 (grownBy_putObj' _ D (.deferred none)) (fun r e => by cases e; exact ⟨_, hK, rfl⟩)
    have d5 := cell_kept e4 (grownBy_putObj' _ D (.deferred none)) (fun r e => by cases e; exact ⟨_, hK, rfl⟩)
    obtain ⟨k', rfl⟩ : ∃ k', k = k' + 1 := by
      cases k with
      | zero => simp [upto] at e1
      | succ k' => exact ⟨k', rfl⟩
    rw [upto_succ] at e1
    obtain ⟨rfl, e6⟩ := List.append_inj' e1 rfl
    obtain rfl : (k', (levs b r l)[k']?.getD 0) = last := by simpa using e6
    have hj : k' < (levs b r l).length := by rw [levs_length]; omega
    have hnot : ¬ ∀ v ∈ levs b r l, 0 ≤ v := fun h => by
      have h2 := h _ (List.getElem_mem hj)
      simp [List.getElem?_eq_getElem hj] at e2
      omega
    refine ⟨.tuple #[.int .i64 (k' : Int), .int .i64 0], ?_, ⟨k', rfl, ⟨fun h => by omega, fun h => (hnot h).elim⟩⟩, hB.trans (belowK_b (w := w) (Nat.le_refl _) W D _ _ (by omega) hK rfl rfl)⟩
    simp [results, Try.f32, go_sem, d4, d5]
end ItW
end Go.Proofs.Ytoglmfpmeajbeaa
