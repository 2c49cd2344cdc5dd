/- Shaping: the times of a trace, one by one. -/
import Derived.Test.YtpglhjgpjnapgaaPriv
import Derived.Test.YtpglhjgpjnapgaaSpE
namespace Go.Proofs.Ytpglhjgpjnapgaa
set_option linter.unusedSimpArgs false
set_option linter.unusedVariables false
open Go.RowKit Go.Shelf
attribute [local go_sem] Oper.semAt_some
namespace SpW
open It
/-- What the generator finds in memory. -/
structure Gen (N n1 gb gl gs : Nat) (b r : Int) (A : Option Addr) (k : List (Int × Int)) (cap : Nat) (l v : Int) (W : World) : Prop where
  size : N ≤ W.heap.size
  b0 : W.cell? ⟨gb, 0, none⟩ = some (.int .i64 b)
  b1 : W.cell? ⟨gb, 1, none⟩ = some (.int .i64 r)
  s0 : W.cell? ⟨gs, 0, none⟩ = some (.int .i64 l)
  s1 : W.cell? ⟨gs, 1, none⟩ = some (.int .i64 v)
  f0 : W.frozen? ⟨gs, 0, none⟩ = false
  f1 : W.frozen? ⟨gs, 1, none⟩ = false
  l0 : W.cell? ⟨gl, 0, none⟩ = some (.slice A k.length cap)
  arr : Tr.Arr W n1 A k
section
variable {N n1 gb gl gs : Nat} {b r : Int} {A : Option Addr} {k : List (Int × Int)} {cap : Nat} {l v : Int} {W W' : World}
theorem Gen.keep {bad : Nat → Prop} (h : Gen N n1 gb gl gs b r A k cap l v W) (hk : KB N bad W W') (hgb : gb < N) (hgl : gl < N) (hgs : gs < N) (hn : n1 ≤ N) (xb : ¬ bad gb) (xl : ¬ bad gl) (xs : ¬ bad gs) (xn : ∀ j, j < n1 → ¬ bad j) : Gen N n1 gb gl gs b r A k cap l v W' where
  size := Nat.le_trans h.size hk.1
  b0 := (hk.cell (a := ⟨gb, 0, none⟩) hgb xb).trans h.b0
  b1 := (hk.cell (a := ⟨gb, 1, none⟩) hgb xb).trans h.b1
  s0 := (hk.cell (a := ⟨gs, 0, none⟩) hgs xs).trans h.s0
  s1 := (hk.cell (a := ⟨gs, 1, none⟩) hgs xs).trans h.s1
  f0 := (World.frozen?_of_block (w := W) (a := ⟨gs, 0, none⟩) (hk.2 _ hgs xs)).trans h.f0
  f1 := (World.frozen?_of_block (w := W) (a := ⟨gs, 1, none⟩) (hk.2 _ hgs xs)).trans h.f1
  l0 := (hk.cell (a := ⟨gl, 0, none⟩) hgl xl).trans h.l0
  arr := h.arr.keep fun p hp => hk.cell (by omega) (xn _ hp)
theorem Gen.below (h : Gen N n1 gb gl gs b r A k cap l v W) (hb : Below W.heap.size W W') (hgb : gb < N) (hgl : gl < N) (hgs : gs < N) (hn : n1 ≤ N) : Gen N n1 gb gl gs b r A k cap l v W' :=
  h.keep (bad := fun _ => False) (KB.of_below (hb.mono h.size)) hgb hgl hgs hn (fun h => h) (fun h => h) (fun h => h) (fun _ _ h => h)
theorem Gen.set (h : Gen N n1 gb gl gs b r A k cap l v W) (nb : gb ≠ gs) (nl : gl ≠ gs) (ns : n1 ≤ gs) (l' v' : Int) : Gen N n1 gb gl gs b r A k cap l' v' ((W.setCell ⟨gs, 0, none⟩ (.int .i64 l')).setCell ⟨gs, 1, none⟩ (.int .i64 v')) where
  size := by have := h.size; simpa [World.setCell] using this
  b0 := (World.cell?_setCell_other _ _ _ _ (by simp [nb])).trans ((World.cell?_setCell_other _ _ _ _ (by simp [nb])).trans h.b0)
  b1 := (World.cell?_setCell_other _ _ _ _ (by simp [nb])).trans ((World.cell?_setCell_other _ _ _ _ (by simp [nb])).trans h.b1)
  s0 := (cell2 _ _ h.s0 h.s1).1
  s1 := (cell2 _ _ h.s0 h.s1).2
  f0 := by rw [World.frozen?_setCell, World.frozen?_setCell]; exact h.f0
  f1 := by rw [World.frozen?_setCell, World.frozen?_setCell]; exact h.f1
  l0 := (World.cell?_setCell_other _ _ _ _ (by simp [nl])).trans ((World.cell?_setCell_other _ _ _ _ (by simp [nl])).trans h.l0)
  arr := h.arr.keep fun p hp => by
    have hq : p.block ≠ gs := by omega
    rw [World.cell?_setCell_other _ _ _ _ (fun e => hq (by rw [← e])), World.cell?_setCell_other _ _ _ _ (fun e => hq (by rw [← e]))]
end
theorem take_next {α : Type} {m t : List α} {x : α} {j : Nat} (hl : (m.take j).length = j) (h : m = m.take j ++ x :: t) : m.take (j + 1) = m.take j ++ [x] := by
  have hj : m[j]? = some x := by
    rw [h, List.getElem?_append_right (by omega), hl, Nat.sub_self]; rfl
  obtain ⟨hk, rfl⟩ := List.getElem?_eq_some_iff.1 hj
  exact List.take_succ_eq_append_getElem hk
set_option maxRecDepth 100000 in
set_option maxHeartbeats 4000000 in
theorem times1_in (n : Nat) (hn : 1 ≤ n) (L gb gl gs : Nat) (b r : Int) (A : Option Addr) (k : List (Int × Int)) (cap : Nat) (l0 v0 : Int) (hst : Sp.St b r l0 v0) (hok : Tr.okFrom 0 k = true) (hz : ∀ x ∈ k, x.2 ≤ b) (hl : k.length ≤ 200)
    (N n1 : Nat) (bad : Nat → Prop) (J Jx : List Int → World → Prop) (hG : ∀ s A, J s A → ∀ t ∈ s, t ≤ 1099511627776) (hJ : ∀ s A B, J s A → Upd gs A B → J s B)
    (hY : ∀ pre x W, J pre W → pre.length < k.length → YieldAt Fence.wide (n - 1) Try.prog L #[.int .i64 x] W fun e W' =>
      (e = .returned (.bool true) ∧ J (pre ++ [x]) W' ∧ KB N bad W W') ∨ (e = .returned (.bool false) ∧ Jx (pre ++ [x]) W'))
    (W : World) (hgb : gb < N) (hgl : gl < N) (hgs : gs < N) (hn1 : n1 ≤ N) (xb : ¬ bad gb) (xl : ¬ bad gl) (xs : ¬ bad gs) (xn : ∀ j, j < n1 → ¬ bad j) (nb : gb ≠ gs) (nl : gl ≠ gs) (ns : n1 ≤ gs)
    (g0 : Gen N n1 gb gl gs b r A k cap l0 v0 W) (h0 : J [] W) :
    CallsIn Fence.wide n Try.prog 35 #[.func (.yield L) #[] #[], .pointer (some ⟨gl, 0, none⟩), .pointer (some ⟨gb, 0, none⟩), .pointer (some ⟨gs, 0, none⟩)] W fun e W' => (∃ v, e = .returned v) ∧
      ((∃ ys, ys = Sp.run b r l0 v0 k ∧ J ys W') ∨ (∃ pre, (∃ j, j ≤ k.length ∧ pre = (Sp.run b r l0 v0 k).take j) ∧ Jx pre W')) := by
  have HOK := Lib.hid hok
  have HZ := Lib.hid hz
  have HG := Lib.hid hG
  have HJ := Lib.hid hJ
  have HY := Lib.hid hY
  have G0 := Lib.hid g0
  have H0 := Lib.hid h0
  have HST := Lib.hid hst
  have HX := Lib.hid (And.intro hgb (And.intro hgl (And.intro hgs (And.intro hn1 (And.intro xb (And.intro xl (And.intro xs (And.intro xn (And.intro nb (And.intro nl ns))))))))))
  have c0 := g0.l0
  clear hok hz hG hJ hY g0 h0 hst hgb hgl hgs hn1 xb xl xs xn nb nl ns
  refine callsIn_of_wp Try.func35 rfl trivial ?_ rfl
  simp only [Try.ntmps35, List.size_toArray, List.length_cons, List.length_nil, Nat.reduceAdd, Nat.reduceSub, Array.replicate_succ, Array.replicate_zero, List.push_toArray, List.append_toArray, List.nil_append, List.cons_append]
  gi_wp2
  gi_loopw [11] (fun i wr => ∃ (j : Nat) (l v : Int), j ≤ k.length ∧ i = .int .i64 j ∧ Sp.run b r l0 v0 k = (Sp.run b r l0 v0 k).take j ++ Sp.run b r l v (k.drop j) ∧ Sp.St b r l v ∧ Gen N n1 gb gl gs b r A k cap l v wr ∧ J ((Sp.run b r l0 v0 k).take j) wr) (fun i _ => k.length - (intOf i).toNat)
  case atStart => exact ⟨0, l0, v0, Nat.zero_le _, rfl, by simp, HST.out, G0.out, H0.out⟩
  case round =>
    obtain ⟨j, l, v, hj, rfl, hr, hs, g, hJs⟩ := hrel
    obtain ⟨wo, rfl⟩ : ∃ wo : World, wo = wr := ⟨_, rfl⟩
    have G1 := Lib.hid g
    have HR := Lib.hid hr
    have HS := Lib.hid hs
    have HJS := Lib.hid hJs
    have c1 := g.l0
    clear hr hs g hJs c0
    by_cases hlt : j < k.length
    · obtain ⟨x, hx⟩ : ∃ x, k[j]? = some x := ⟨k[j], List.getElem?_eq_getElem hlt⟩
      obtain ⟨ad, rfl, hbk, hc0, hc1⟩ := G1.out.arr j x hx
      obtain ⟨x1, x2, x3, x4⟩ := Tr.okFrom_at HOK.out (Int.le_refl _) hx
      have xz := HZ.out x (List.mem_of_getElem? hx)
      have hstep := Sp.run_step (b := b) (r := r) (l := l) (v := v) hx
      have SA := Lib.hid (step_any b r l v x.1 x.2 HS.out x1 x2 x3 x4)
      have HN := Lib.hid (fun ht => Sp.next_st (a := x.1) HS.out x3 xz ht)
      have HR2 := Lib.hid (HR.out.trans (by rw [hstep]))
      have hlen : ((Sp.run b r l0 v0 k).take j).length = j := by rw [List.length_take, Sp.run_length]; omega
      have HL := Lib.hid hlen
      generalize Sp.time b r l v x.1 x.2 = T at *
      generalize Sp.left b r l v x.1 x.2 = Y at *
      have b0 := G1.out.b0
      have b1 := G1.out.b1
      have s0 := G1.out.s0
      have s1 := G1.out.s1
      have i0 : (0 : Int) ≤ (j : Int) := by omega
      have i1 : (j : Int) < (k.length : Int) := by omega
      have sz := G1.out.size
      have z0 : gb < wo.heap.size := by have := HX.out.1; omega
      have z1 : gs < wo.heap.size := by have := HX.out.2.2.1; omega
      have z2 : gl < wo.heap.size := by have := HX.out.2.1; omega
      clear hx hstep hlen x1 x2 x3 x4 xz
      gi_wp2_with fail
      refine ⟨trivial, ((callsIn_wide (n := n - 1)).2 (SA.out _)).mono ?_⟩
      rintro e w1 ⟨rfl, hb⟩
      have hb1 : Below wo.heap.size wo w1 := ((Below.refl _ _).alloc (Nat.le_refl _) _).trans (hb.mono (by simp))
      have g1 := G1.out.below hb1 HX.out.1 HX.out.2.1 HX.out.2.2.1 HX.out.2.2.2.1
      have g2 := g1.set HX.out.2.2.2.2.2.2.2.2.1 HX.out.2.2.2.2.2.2.2.2.2.1 HX.out.2.2.2.2.2.2.2.2.2.2 T Y
      have q1 := hb1.size
      have f0 := g1.f0
      have f1 := g1.f1
      have t0 := g1.s0
      have t1 := g1.s1
      have G3 := Lib.hid (g2.below ((Below.refl _ _).alloc (Nat.le_refl _) (.cells #[.int .i64 T, .int .i64 Y] 29)) HX.out.1 HX.out.2.1 HX.out.2.2.1 HX.out.2.2.2.1)
      have hJ2 := HJ.out _ _ _ HJS.out (((Upd.of_below hb1).trans ((Upd.set _ 0 (.int .i64 T)).trans (Upd.set _ 1 (.int .i64 Y)))).trans (Upd.alloc _ (.cells #[.int .i64 T, .int .i64 Y] 29)))
      obtain ⟨fn, tmps, assign, body, hy, hR⟩ := HY.out _ T _ hJ2 (by rw [HL.out]; exact hlt)
      have HRR := Lib.hid hR
      clear hb hb1 g1 g2 hJ2 hR
      have z3 : gs < w1.heap.size := by omega
      clear b0 b1 s0 s1 hc0 hc1 c1
      gi_wp2
      refine HRR.out.mono ?_
      rintro e W3 (⟨rfl, hJ3, hk3⟩ | ⟨rfl, hJx3⟩)
      · have e1 := take_next HL.out HR2.out
        have HE := Lib.hid e1
        have HJ3 := Lib.hid hJ3
        have HK3 := Lib.hid hk3
        clear hJ3 hk3 e1
        gi_wp2
        go_roundw
        case rel =>
          refine ⟨j + 1, T, Y, by omega, by go_num, ?_, HN.out (HG.out _ _ HJ3.out T (by simp)), G3.out.keep HK3.out HX.out.1 HX.out.2.1 HX.out.2.2.1 HX.out.2.2.2.1 HX.out.2.2.2.2.1 HX.out.2.2.2.2.2.1 HX.out.2.2.2.2.2.2.1 HX.out.2.2.2.2.2.2.2.1, by rw [HE.out]; exact HJ3.out⟩
          rw [HE.out]
          simpa using HR2.out
        case measure => simp [intOf]; omega
      · have HJx3 := Lib.hid hJx3
        clear hJx3
        gi_wp2
        refine bodyPost_ret (results_none rfl _ _ _) rfl ?_
        exact ⟨⟨_, rfl⟩, .inr ⟨_, ⟨j + 1, by omega, (take_next HL.out HR2.out).symm⟩, HJx3.out⟩⟩
    · have ej : (Sp.run b r l0 v0 k).take j = Sp.run b r l0 v0 k := List.take_of_length_le (by rw [Sp.run_length]; omega)
      have HE := Lib.hid ej
      clear ej
      gi_wp2
      go_end0
      exact ⟨⟨_, rfl⟩, .inl ⟨_, rfl, by rw [← HE.out]; exact HJS.out⟩⟩
end SpW
end Go.Proofs.Ytpglhjgpjnapgaa
