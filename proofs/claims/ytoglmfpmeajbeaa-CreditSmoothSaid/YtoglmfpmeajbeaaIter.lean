/- Ranges over functions: the levels of a trace; First and Conforms. -/
import Derived.Test.YtoglmfpmeajbeaaFitW
import Derived.RangeFuncBox
import Derived.RangeFuncLeaves
import Derived.RangeFuncFrom
import Derived.Shelf.Abstract
import Derived.OwnWalkIn
import Derived.TacticsInMore
import Derived.LoopNIn
import Derived.LoopIn
namespace Go.Proofs.Ytoglmfpmeajbeaa
set_option linter.unusedSimpArgs false
set_option linter.unusedVariables false
open Go.RowKit Go.Shelf
attribute [local go_sem] Oper.semAt_some
namespace It
/-- Blocks below N keep what they hold, but for the bad ones. -/
def KB (N : Nat) (bad : Nat → Prop) (W W' : World) : Prop := W.heap.size ≤ W'.heap.size ∧ ∀ k, k < N → ¬ bad k → W'.heap[k]? = W.heap[k]?
theorem KB.refl {N : Nat} {bad : Nat → Prop} (W : World) : KB N bad W W := ⟨Nat.le_refl _, fun _ _ _ => rfl⟩
theorem KB.trans {N : Nat} {bad : Nat → Prop} {A B C : World} (h : KB N bad A B) (k : KB N bad B C) : KB N bad A C := ⟨Nat.le_trans h.1 k.1, fun j h1 h2 => (k.2 j h1 h2).trans (h.2 j h1 h2)⟩
theorem KB.putObj {N : Nat} {bad : Nat → Prop} {w : World} (hN : N ≤ w.heap.size) (W : World) (l : Nat) (o o' : Obj) (hl : w.heap.size ≤ l) (_ : W.heap[l]? = some o) (_ : o.isCells = false) (_ : o.isWalk = false) : KB N bad W (W.putObj l o') :=
  ⟨by simp [World.putObj], fun k hk _ => World.putObj_heap_other (by omega)⟩
theorem KB.alloc {N : Nat} {bad : Nat → Prop} {A W : World} (h : KB N bad A W) (hN : N ≤ W.heap.size) (o : Obj) : KB N bad A (W.alloc o) := ⟨by have := h.1; simp; omega, fun k hk hb => (Below.heap_alloc W o k (by omega)).trans (h.2 k hk hb)⟩
theorem KB.drew {N : Nat} {bad : Nat → Prop} {A W : World} (h : KB N bad A W) : KB N bad A W.drew := ⟨h.1, h.2⟩
theorem KB.setCell {N : Nat} {bad : Nat → Prop} {A W : World} (h : KB N bad A W) {p : Addr} (hp : N ≤ p.block ∨ bad p.block) (u : Value) : KB N bad A (W.setCell p u) := ⟨by have := h.1; simpa [World.setCell] using this, fun k hk hb => (Below.heap_setCell W p u k (fun e => by subst e; rcases hp with h1 | h1 <;> first | omega | exact hb h1)).trans (h.2 k hk hb)⟩
theorem KB.of_below {N : Nat} {bad : Nat → Prop} {W W' : World} (h : Below N W W') : KB N bad W W' := ⟨h.size, fun k hk _ => h.block k hk⟩
theorem KB.cell {N : Nat} {bad : Nat → Prop} {W W' : World} (h : KB N bad W W') {a : Addr} (ha : a.block < N) (hb : ¬ bad a.block) : W'.cell? a = W.cell? a := World.cell?_of_block (w := W) (h.2 _ ha hb)
end It
namespace ItW
open It MtW
set_option maxRecDepth 100000 in
set_option maxHeartbeats 4000000 in
theorem levels1_in (F : Fence) (n : Nat) (h40 : F.fn 39) (hro : F.round = none) (hn : 1 ≤ n) (L gb gl : Nat) (b r : Int) (A : Option Addr) (l : List (Int × Int)) (cap : Nat) (b1 : 1 ≤ b) (b2 : b ≤ 1048576) (r1 : 1 ≤ r) (r2 : r ≤ 2097152) (hok : Tr.okFrom 0 l = true) (hl : l.length ≤ 200)
    (N n1 : Nat) (bad : Nat → Prop) (J Jx : List (Nat × Int) → World → Prop)
    (hY : ∀ pre x W, J pre W → pre.length < l.length → YieldAt F (n - 1) Try.prog L #[.int .i64 (x.1 : Int), .int .i64 x.2] W fun e W' =>
      (e = .returned (.bool true) ∧ J (pre ++ [x]) W' ∧ KB N bad W W') ∨ (e = .returned (.bool false) ∧ Jx (pre ++ [x]) W'))
    (W : World) (hNW : N ≤ W.heap.size) (hJ : AbidesFrom W.heap.size J) (hgb : gb < N) (hgb' : ¬ bad gb) (hgl : gl < N) (hgl' : ¬ bad gl) (hn1 : n1 ≤ N) (hbad : ∀ k, k < n1 → ¬ bad k)
    (c0 : W.cell? ⟨gb, 0, none⟩ = some (.int .i64 b)) (c1 : W.cell? ⟨gb, 1, none⟩ = some (.int .i64 r)) (c2 : W.cell? ⟨gl, 0, none⟩ = some (.slice A l.length cap)) (hA : Tr.Arr W n1 A l) (h0 : J [] W) :
    CallsIn F n Try.prog 39 #[.func (.yield L) #[] #[], .pointer (some ⟨gb, 0, none⟩), .pointer (some ⟨gl, 0, none⟩)] W fun e W' => (∃ v, e = .returned v) ∧
      ((∃ ys, ys = upto (fun j => (j, (levs b r l)[j]?.getD 0)) l.length ∧ J ys W') ∨ (∃ pre, (∃ k, k ≤ l.length ∧ pre = upto (fun j => (j, (levs b r l)[j]?.getD 0)) k) ∧ Jx pre W')) := by
  have q0 : IntKind.i64.wrap (b * 1048576) = b * 1048576 := IntWalk.i64_in _ (by omega)
  refine callsIn_of_wp Try.func39 rfl h40 ?_ hro
  simp only [Try.ntmps39, List.size_toArray, List.length_cons, List.length_nil, Nat.reduceAdd, Nat.reduceSub, Array.replicate_succ, Array.replicate_zero, List.push_toArray, List.append_toArray, List.nil_append, List.cons_append]
  gi_wp2
  gi_loopw [5, 6, 15] (fun v t i wr => ∃ (k : Nat) (level last : Int) (pre : List Int), k ≤ l.length ∧ i = .int .i64 k ∧ v = .int .i64 level ∧ t = .int .i64 last ∧ levs b r l = pre ++ lev b r level last (l.drop k) ∧ pre.length = k ∧ Tr.okFrom last (l.drop k) = true ∧ 0 ≤ last ∧ last ≤ 1099511627776 ∧ level ≤ b * 1048576 ∧ -1099511627776 * (k : Int) ≤ level ∧ J (upto (fun j => (j, (levs b r l)[j]?.getD 0)) k) wr ∧ KB N bad W wr)
    (fun _ _ i _ => l.length - (intOf i).toNat)
  case atStart => exact ⟨0, _, _, [], Nat.zero_le _, rfl, rfl, rfl, rfl, rfl, hok, by omega, by omega, by omega, by omega, h0, KB.refl _⟩
  case round =>
    obtain ⟨k, level, last, pre, hk, rfl, rfl, rfl, hlv, hpl, hok', t0, t1, v1, v0, hJs, hkb⟩ := hrel
    have hwr := hkb.1
    have hgw : gb < wr.heap.size := by omega
    have HLV := Lib.hid hlv
    have HKB := Lib.hid hkb
    have HJS := Lib.hid hJs
    have HA' := Lib.hid (hA.keep (fun p hp => hkb.cell (by omega) (hbad _ hp)))
    have d0 := (hkb.cell (a := ⟨gb, 0, none⟩) hgb hgb').trans c0
    have d1 := (hkb.cell (a := ⟨gb, 1, none⟩) hgb hgb').trans c1
    clear hlv hkb hJs
    by_cases hlt : k < l.length
    · obtain ⟨x, hx⟩ : ∃ x, l[k]? = some x := ⟨l[k], List.getElem?_eq_getElem hlt⟩
      obtain ⟨ad, rfl, hbk, hc0, hc1⟩ := HA'.out k x hx
      have hs := Tr.okFrom_step (last := last) hx
      rw [hok'] at hs
      have hs1 := hs.symm
      rw [Bool.and_eq_true] at hs1
      obtain ⟨hs1, hs2⟩ := hs1
      unfold Tr.stepOk at hs1
      rw [Bool.and_eq_true, decide_eq_true_iff, decide_eq_true_iff] at hs1
      obtain ⟨⟨x1, x2⟩, x3, x4⟩ := hs1
      have hrd := rd_bound (d := x.1 - last) r1 r2 (by omega) (by omega)
      have hrd0 := Int.mul_nonneg (show 0 ≤ r by omega) (show 0 ≤ x.1 - last by omega)
      have hlv2 := HLV.out.trans (by rw [lev_step hx])
      have hget : (levs b r l)[k]?.getD 0 = min (b * 1048576) (level + r * (x.1 - last)) - x.2 * 1048576 := by rw [hlv2, ← hpl]; simp
      have HX := Lib.hid (And.intro hlv2 (And.intro hs2 hget))
      clear hlv2 hs hs2 hget hx hok'
      have q1 : IntKind.i64.wrap (x.1 - last) = x.1 - last := IntWalk.i64_in _ (by omega)
      have q2 : IntKind.i64.wrap (r * (x.1 - last)) = r * (x.1 - last) := IntWalk.i64_in _ (by omega)
      have q3 : IntKind.i64.wrap (level + r * (x.1 - last)) = level + r * (x.1 - last) := IntWalk.i64_in _ (by omega)
      have q4 : IntKind.i64.wrap (x.2 * 1048576) = x.2 * 1048576 := IntWalk.i64_in _ (by omega)
      have q5 : IntKind.i64.wrap (min (b * 1048576) (level + r * (x.1 - last)) - x.2 * 1048576) = min (b * 1048576) (level + r * (x.1 - last)) - x.2 * 1048576 := IntWalk.i64_in _ (by omega)
      have hJ2 := hJ _ _ _ none HJS.out (World.grownBy_alloc wr (.cells #[.int .i64 x.1, .int .i64 x.2] 49) none) (fun r e => by cases e)
      obtain ⟨fn, tmps, assign, body, hy, hR⟩ := hY _ (k, min (b * 1048576) (level + r * (x.1 - last)) - x.2 * 1048576) _ hJ2 (by rw [upto_length]; exact hlt)
      dsimp only at hy
      have HJ2 := Lib.hid hJ2
      clear hJ2
      gi_wp2
      refine hR.mono ?_
      rintro e W3 (⟨rfl, hJ3, hk3⟩ | ⟨rfl, hJx3⟩)
      · have HJ3 := Lib.hid hJ3
        have HK3 := Lib.hid hk3
        clear hJ3 hk3
        gi_wp2
        go_roundw
        case rel => exact ⟨k + 1, _, _, pre ++ [min (b * 1048576) (level + r * (x.1 - last)) - x.2 * 1048576], by omega, by go_num, rfl, rfl, by rw [HX.out.1]; simp, by rw [List.length_append, hpl]; rfl, HX.out.2.1, by omega, by omega, by omega, by push_cast; omega, by rw [upto_succ, HX.out.2.2]; exact HJ3.out, (HKB.out.alloc (by omega) _).trans HK3.out⟩
        case measure => simp [intOf]; omega
      · have HJx3 := Lib.hid hJx3
        clear hJx3
        gi_wp2
        refine bodyPost_ret (results_none rfl _ _ _) rfl ?_
        exact ⟨⟨_, rfl⟩, .inr ⟨_, ⟨k + 1, by omega, by rw [upto_succ, HX.out.2.2]⟩, HJx3.out⟩⟩
    · obtain rfl : k = l.length := by omega
      gi_wp2
      go_end0
      exact ⟨⟨_, rfl⟩, .inl ⟨_, rfl, HJS.out⟩⟩
end ItW
end Go.Proofs.Ytoglmfpmeajbeaa
