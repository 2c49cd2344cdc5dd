/- WireOrder: the walk of the law. -/
import Derived.Test.YtchfckehobenkaaWireL4
namespace Go.Proofs.Ytchfckehobenkaa
open Go.RowKit
namespace WireW
theorem lst_beq (a b : ByteArray) (l m : List UInt8) (ha : a.data.toList = l) (hb : b.data.toList = m) : (a.toList == b.toList) = (l == m) := by
  rw [ByteArray.toList_eq, ByteArray.toList_eq, ha, hb]
theorem lst_less (a b : ByteArray) (l m : List UInt8) (ha : a.data.toList = l) (hb : b.data.toList = m) : Op.bytesLess a.toList b.toList = Op.bytesLess l m := by
  rw [ByteArray.toList_eq, ByteArray.toList_eq, ha, hb]
set_option maxRecDepth 100000 in
set_option maxHeartbeats 4000000 in
theorem law_Order (a b : Int) (o : Nat) (ho : o < 256) (w : World) :
    Calls Try.prog 6 #[.agg #[.int .i64 a, .int .i64 b], .int .u8 o] w fun e w' => e = .returned (.bool true) ∧ Below w.heap.size w w' := by
  go_enter Try.func6, Try.ntmps6
  go_wp2_with fail
  have hb := Below.refl (w.alloc (.cells #[.int .i64 a, .int .i64 b] 30)).heap.size (w.alloc (.cells #[.int .i64 a, .int .i64 b] 30))
  refine (carry hb (works_any _)).mono ?_
  clear hb
  rintro e w1 ⟨rfl, hb⟩
  have hc0 : w1.cell? ⟨w.heap.size, 0, none⟩ = some (.int .i64 a) := (hb.cell (p := ⟨w.heap.size, 0, none⟩) (by simp)).trans (by rw [World.cell?_alloc_mark]; rfl)
  have hc1 : w1.cell? ⟨w.heap.size, 1, none⟩ = some (.int .i64 b) := (hb.cell (p := ⟨w.heap.size, 1, none⟩) (by simp)).trans (by rw [World.cell?_alloc_mark]; rfl)
  have HB := Lib.hid hb
  clear hb
  go_upto_region 3 with fail
  go_cut [5] (fun s5 wx => w1 = wx ∧ ∃ K : Nat, s5 = .int .i64 (K : Int) ∧ 1 ≤ K ∧ K ≤ 7)
  case first =>
    go_wp2_with fail
    go_meet
    refine ⟨rfl, o % 7 + 1, ?_, ?_, ?_⟩
    · go_num
    · omega
    · omega
  case rest =>
    obtain ⟨rfl, K, rfl, k1, k7⟩ := hcut
    have KK : K = 1 ∨ K = 2 ∨ K = 3 ∨ K = 4 ∨ K = 5 ∨ K = 6 ∨ K = 7 := by omega
    go_upto_region 4 with fail
    go_cut [5, 6, 7] (fun s5 s6 s7 wx => wx = w1.drew ∧ s5 = .int .i64 (K : Int) ∧ ∃ x y : Int, s6 = .int .i64 x ∧ s7 = .int .i64 y ∧ 0 ≤ x ∧ x < Wire.pw K ∧ 0 ≤ y ∧ y < Wire.pw K)
    case first =>
      rcases KK with rfl | rfl | rfl | rfl | rfl | rfl | rfl
      all_goals
        go_wp2_with fail
        go_region
        go_wp2_with fail
        go_meet
        exact ⟨rfl, rfl, _, _, rfl, rfl, (u64_mod a _ (by decide) (by decide)).1, (u64_mod a _ (by decide) (by decide)).2, (u64_mod b _ (by decide) (by decide)).1, (u64_mod b _ (by decide) (by decide)).2⟩
    case rest =>
      obtain ⟨rfl, rfl, x, y, rfl, rfl, x1, x2, y1, y2⟩ := hcut
      have hp := Wire.pw_le k7
      have px := put_in (s := []) (m := x) (k := K) rfl k1 k7 x1 x2
      have py := put_in (s := []) (m := y) (k := K) rfl k1 k7 y1 y2
      have c1 := fun W => Put_eq ⟨#[]⟩ (S (Wire.digs x K)) 0 (by decide) x K (by omega) (by omega) (by rw [S_data]; exact px.2) px.1 W
      have c2 := fun W => Put_eq ⟨#[]⟩ (S (Wire.digs y K)) 0 (by decide) y K (by omega) (by omega) (by rw [S_data]; exact py.2) py.1 W
      have C1 := Lib.hid c1
      have C2 := Lib.hid c2
      obtain ⟨o1, o2⟩ := Wire.digs_order K x y x1 x2 y1 y2
      have l1 := (lst_less _ _ _ _ (S_data (Wire.digs x K)) (S_data (Wire.digs y K))).trans o1
      have l2 := (lst_beq _ _ _ _ (S_data (Wire.digs x K)) (S_data (Wire.digs y K))).trans o2
      clear c1 c2 px py o1 o2 KK hp
      generalize S (Wire.digs x K) = p at *
      generalize S (Wire.digs y K) = q at *
      have hb := Below.drew HB.out
      clear HB hc0 hc1
      generalize w1.drew = w2 at *
      go_wp2_with fail
      refine (carry hb (C1.out _)).mono ?_
      clear hb
      rintro e w3 ⟨rfl, hb⟩
      go_wp2_with fail
      refine (carry hb (C2.out _)).mono ?_
      clear hb
      rintro e w4 ⟨rfl, hb⟩
      refine stop ?_
      have hf := ((Below.refl w.heap.size w).alloc (Nat.le_refl _) (.cells #[.int .i64 a, .int .i64 b] 30)).trans (hb.mono (by simp))
      rcases Int.lt_trichotomy x y with h | h | h
      · have e1 := l1.trans (decide_eq_true h)
        have e2 := l2.trans (decide_eq_false (by omega))
        have e3 : (x == y) = false := by rw [beq_eq_false_iff_ne]; omega
        clear l1 l2
        refine Stopped.mk ?_
        go_wp2_with fail
        go_ret
        exact ⟨rfl, hf⟩
      · subst h
        have e1 := l1.trans (decide_eq_false (by omega))
        have e2 := l2.trans (decide_eq_true rfl)
        clear l1 l2
        refine Stopped.mk ?_
        go_wp2_with fail
        go_ret
        exact ⟨rfl, hf⟩
      · have e1 := l1.trans (decide_eq_false (by omega))
        have e2 := l2.trans (decide_eq_false (by omega))
        have e3 : (x == y) = false := by rw [beq_eq_false_iff_ne]; omega
        have e4 : decide (x < y) = false := decide_eq_false (by omega)
        clear l1 l2
        refine Stopped.mk ?_
        go_wp2_with fail
        go_ret
        exact ⟨rfl, hf⟩
end WireW
end Go.Proofs.Ytchfckehobenkaa
