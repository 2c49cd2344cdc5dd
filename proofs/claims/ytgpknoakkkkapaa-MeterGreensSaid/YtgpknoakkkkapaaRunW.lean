/- Meters: Run. -/
import Derived.Test.YtgpknoakkkkapaaTrA
import Derived.Test.YtgpknoakkkkapaaMtM
import Derived.Laws.AppendOwn
import Derived.OwnWalk
import Derived.Maps.AppendAt
namespace Go.Proofs.Ytgpknoakkkkapaa
set_option linter.unusedSimpArgs false
set_option linter.unusedVariables false
open Go.RowKit
namespace Mt
def runFrom (b r b2 r2 : Int) : Int → Int → Int → List (Int × Int) → List Int
  | _, _, _, [] => []
  | l, c, p, x :: t => color (fill b r l c x.1) (fill b2 r2 l p x.1) (x.2 * 1048576) :: runFrom b r b2 r2 x.1 (takeC (fill b r l c x.1) (fill b2 r2 l p x.1) (x.2 * 1048576)) (takeP (fill b2 r2 l p x.1) (x.2 * 1048576)) t
def run (b r b2 r2 : Int) (l : List (Int × Int)) : List Int := runFrom b r b2 r2 0 (b * 1048576) (b2 * 1048576) l
def runE (b r b2 r2 : Int) (l : List (Int × Int)) : Int := if newE b r b2 r2 = 0 then Tr.chk l else newE b r b2 r2
end Mt
namespace Tr
theorem chk_ok {l : List (Int × Int)} (h : chk l = 0) : okFrom 0 l = true := by
  unfold chk ok at h
  cases h2 : okFrom 0 l
  · rw [h2] at h; simp at h
  · rfl
end Tr
namespace MtW
theorem own_only {w w' : World} {g n : Nat} {e : TypeId} {v : Value} {xs : List Value} (h : w.ownsRow (g + 1) e 1 v n xs) (ho : Only g w w') : w'.ownsRow (g + 1) e 1 v n xs := by
  refine ⟨h.1, h.2.imp id ?_⟩
  rintro ⟨q, cap, cur, e1, hq, hh, rest⟩
  refine ⟨q, cap, cur, e1, hq, ?_, rest⟩
  have hlt : q < w.heap.size := by
    rcases Nat.lt_or_ge q w.heap.size with hlt | hge
    · exact hlt
    · rw [Array.getElem?_eq_none hge] at hh; cases hh
  exact (ho.block q hlt (by omega)).trans hh
theorem own_ge {w : World} {base n : Nat} {e : TypeId} {v : Value} {xs : List Value} (h : w.ownsRow base e 1 v n xs) (k : Nat) (hk : v.ownBlock = some k) : base ≤ k := by
  rcases h.2 with ⟨rfl, _⟩ | ⟨q, cap, cur, rfl, hq, _⟩
  · simp [Value.ownBlock] at hk
  · simp [Value.ownBlock] at hk; omega
theorem int_info : (Try.prog.info? 3).map (fun i => (i.zero, i.size, i.bytes)) = some (some (.int .i64 0), 1, 8) := by kernel_rfl
theorem mkr_grown {w w' : World} {g n : Nat} {e : TypeId} {v : Value} {xs : List Value} {l c p cb cr pb pr : Int} (M : Mkr w g l c p cb cr pb pr) (h : w.ownsRow (g + 1) e 1 v n xs) (hg : w.grownBy w' v.ownBlock) : Mkr w' g l c p cb cr pb pr := by
  have hne : some g ≠ v.ownBlock := by
    rcases h.2 with ⟨rfl, _⟩ | ⟨q, cap, cur, rfl, hq, _⟩
    · simp [Value.ownBlock]
    · simp [Value.ownBlock]; omega
  have hb := hg.block g M.lt hne
  have k : ∀ i, w'.cell? ⟨g, i, none⟩ = w.cell? ⟨g, i, none⟩ := fun i => World.cell?_of_block (w := w) hb
  have z : ∀ i, w'.frozen? ⟨g, i, none⟩ = w.frozen? ⟨g, i, none⟩ := fun i => World.frozen?_of_block (w := w) hb
  exact ⟨Nat.lt_of_lt_of_le M.lt hg.size, (k 0).trans M.c0, (k 1).trans M.c1, (k 2).trans M.c2, (k 3).trans M.c3, (k 4).trans M.c4, (k 5).trans M.c5, (k 6).trans M.c6, (z 0).trans M.z0, (z 1).trans M.z1, (z 2).trans M.z2⟩
theorem news1 (w : World) (v : Value) (t : TypeId) : ∀ (j : Nat) (u : Value), [v][j]? = some u → (w.alloc (.cells #[v] t)).cell? (({ block := w.heap.size, off := 0 } : Addr).add j) = some u := by
  intro j u h
  cases j with
  | zero => simp at h; subst h; simp [Addr.add, go_sem]
  | succ j => simp at h
theorem one1 (n : Int) : ∀ u ∈ [Value.int .i64 n], u.oneCell' = true := by
  intro u h
  simp at h; subst h; rfl
def ints (l : List Int) : List Value := l.map fun n => Value.int .i64 n
theorem ints_snoc (l : List Int) (n : Int) : ints (l ++ [n]) = ints l ++ [.int .i64 n] := by simp [ints]
theorem k_max {k n : Nat} (h : k < n) (hn : n ≤ 100000) : k + 1 ≤ maxLen ∧ (k + 1) * 8 ≤ 140737488355328 := by unfold maxLen; omega
set_option maxHeartbeats 2000000 in
theorem Run_good (b r b2 r2 : Int) (A : Option Addr) (l : List (Int × Int)) (cap : Nat) (w : World) (hA : Tr.Arr w w.heap.size A l) (hl : l.length ≤ 100000) (hn : Mt.newE b r b2 r2 = 0) (ht : Tr.chk l = 0) :
    Calls Try.prog 19 #[.agg #[.int .i64 b, .int .i64 r], .agg #[.int .i64 b2, .int .i64 r2], .slice A l.length cap] w fun e w' => (∃ v, e = .returned (.tuple #[v, .int .i64 0]) ∧ w'.ownsRow w.heap.size 3 1 v l.length (ints (Mt.run b r b2 r2 l))) ∧ Below w.heap.size w w' := by
  have c1 := New_any b r b2 r2
  rw [hn] at c1
  simp only [Mt.newT, if_pos] at c1
  have C1 := Lib.hid c1
  have c2 := fun W hA => BkW.CheckTrace_any A l cap W hA hl
  rw [ht] at c2
  have C2 := Lib.hid c2
  clear c1 c2
  go_enter Try.func19, Try.ntmps19
  go_wp2_with fail
  refine (C1.out _).mono ?_
  rintro e w1 ⟨rfl, hb⟩
  have hb0 : Below w.heap.size w w1 := Below.trans (by (repeat' (first | (with_reducible exact Below.refl _ _) | (with_reducible refine Below.alloc ?_ ?_ _) | (with_reducible refine Below.setCell ?_ ?_ _) | (with_reducible refine Below.drew ?_) | (with_reducible assumption) | omega | (simp; done) | (simp; omega)))) (hb.mono (by simp; omega))
  obtain ⟨hc, hz⟩ := bcell hb
  have hsz := hb.size
  simp at hsz
  have n0 : w.heap.size < w1.heap.size := by omega
  have n1 : w.heap.size + 1 < w1.heap.size := by omega
  clear hsz C1
  have HB := Lib.hid hb0
  clear hb hb0
  go_wp2_with fail
  refine (C2.out _ ?_).mono ?_
  · exact Tr.Arr.of_lt (Tr.Arr.below hA (Below.alloc HB.out HB.out.size _)) (Below.alloc HB.out HB.out.size _).size
  rintro e w2 ⟨rfl, hb⟩
  obtain ⟨hc2, hz2⟩ := bcell hb
  have hsz := hb.size
  simp at hsz
  have n2 : w.heap.size < w2.heap.size := by omega
  have n3 : w.heap.size + 1 < w2.heap.size := by omega
  have n4 : w1.heap.size < w2.heap.size := by omega
  have HB2 := Lib.hid hb
  obtain ⟨o1, o2, o3⟩ := Mt.new_zero hn
  have HO := Lib.hid (And.intro o1 o2)
  have HT := Lib.hid (Tr.chk_ok ht)
  have HA := Lib.hid hA
  clear hb hsz hn ht hA o1 o2 o3 C2
  go_wp2_with fail
  go_loopw [37, 12] (fun i v wr => ∃ k : Nat, k ≤ l.length ∧ i = .int .i64 k ∧ (∃ (pre : List Int) (lt c p : Int), wr.ownsRow (w2.heap.size + 1) 3 1 v k (ints pre) ∧ Mkr wr w2.heap.size lt c p b r b2 r2 ∧ Mt.run b r b2 r2 l = pre ++ Mt.runFrom b r b2 r2 lt c p (l.drop k) ∧ Tr.okFrom lt (l.drop k) = true ∧ 0 ≤ lt ∧ 0 ≤ c ∧ c ≤ b * 1048576 ∧ 0 ≤ p ∧ p ≤ b2 * 1048576) ∧ Below w2.heap.size w2 wr) (fun i _ _ => l.length - (intOf i).toNat)
  case atStart =>
    have o := HO.out
    refine ⟨0, by omega, rfl, ⟨[], 0, b * 1048576, b2 * 1048576, ⟨rfl, .inl ⟨rfl, rfl⟩⟩, ?_, rfl, HT.out, by omega, by omega, by omega, by omega, by omega⟩, by (repeat' (first | (with_reducible exact Below.refl _ _) | (with_reducible refine Below.alloc ?_ ?_ _) | (with_reducible refine Below.setCell ?_ ?_ _) | (with_reducible refine Below.drew ?_) | (with_reducible assumption) | omega | (simp; done) | (simp; omega)))⟩
    constructor <;> simp [go_sem]
  case round =>
    obtain ⟨k, hk, rfl, ⟨pre, lt, c, p, hown, hM, hrun, hok, l0, cc0, cc1, pp0, pp1⟩, hbr⟩ := hrel
    by_cases hlt : k < l.length
    · obtain ⟨x, hx⟩ : ∃ x, l[k]? = some x := ⟨l[k], List.getElem?_eq_getElem hlt⟩
      have hbA : Below w.heap.size w wr := ((Below.alloc HB.out HB.out.size _).trans (HB2.out.mono (Below.alloc HB.out HB.out.size _).size)).trans (hbr.mono (by omega))
      obtain ⟨ad, rfl, hbk, hc0, hc1⟩ := (HA.out.below hbA) k x hx
      have hs := Tr.okFrom_step (last := lt) hx
      rw [hok] at hs
      have HOWN := Lib.hid hown
      have HM := Lib.hid hM
      have HRUN := Lib.hid hrun
      have HS := Lib.hid hs
      have HBR := Lib.hid hbr
      have HX := Lib.hid hx
      have HIN := Lib.hid (And.intro l0 (And.intro cc0 (And.intro cc1 (And.intro pp0 pp1))))
      clear hown hM hrun hs hok hbr hx l0 cc0 cc1 pp0 pp1 hc hz hc2 hz2 hbA
      go_wp2_with fail
      have hs := HS.out.symm
      rw [Bool.and_eq_true] at hs
      obtain ⟨hs1, hs2⟩ := hs
      unfold Tr.stepOk at hs1
      rw [Bool.and_eq_true, decide_eq_true_iff, decide_eq_true_iff] at hs1
      obtain ⟨⟨x1, x2⟩, x3, x4⟩ := hs1
      obtain ⟨l0, cc0, cc1, pp0, pp1⟩ := HIN.out
      obtain ⟨o1, o2⟩ := HO.out
      have K1 := Mt.gain (t := x.1 - lt) o1.2.2.1 o1.2.2.2 (by omega) (by omega)
      have K2 := Mt.gain (t := x.1 - lt) o2.2.2.1 o2.2.2.2 (by omega) (by omega)
      refine (mark_any w2.heap.size lt c p b r b2 r2 x.1 x.2 (x.1 - lt) (r * (x.1 - lt)) (r2 * (x.1 - lt)) (Mt.fill b r lt c x.1) (Mt.fill b2 r2 lt p x.1) (x.2 * 1048576) _ (HM.out.alloc _) rfl rfl rfl l0 x2 (by omega) o1.1 o1.2.1 o2.1 o2.2.1 cc0 (by omega) pp0 (by omega) K1.1 K1.2 K2.1 K2.2 x3 x4 rfl rfl rfl).mono ?_
      rintro e w3 ⟨rfl, ho, M3⟩
      have F1 : 0 ≤ Mt.fill b r lt c x.1 ∧ Mt.fill b r lt c x.1 ≤ b * 1048576 := by unfold Mt.fill; omega
      have F2 : 0 ≤ Mt.fill b2 r2 lt p x.1 ∧ Mt.fill b2 r2 lt p x.1 ≤ b2 * 1048576 := by unfold Mt.fill; omega
      have G1 : 0 ≤ Mt.takeC (Mt.fill b r lt c x.1) (Mt.fill b2 r2 lt p x.1) (x.2 * 1048576) ∧ Mt.takeC (Mt.fill b r lt c x.1) (Mt.fill b2 r2 lt p x.1) (x.2 * 1048576) ≤ b * 1048576 := by unfold Mt.takeC; split <;> (try split) <;> omega
      have G2 : 0 ≤ Mt.takeP (Mt.fill b2 r2 lt p x.1) (x.2 * 1048576) ∧ Mt.takeP (Mt.fill b2 r2 lt p x.1) (x.2 * 1048576) ≤ b2 * 1048576 := by unfold Mt.takeP; split <;> omega
      have hr2 : Mt.runFrom b r b2 r2 lt c p (l.drop k) = Mt.color (Mt.fill b r lt c x.1) (Mt.fill b2 r2 lt p x.1) (x.2 * 1048576) :: Mt.runFrom b r b2 r2 x.1 (Mt.takeC (Mt.fill b r lt c x.1) (Mt.fill b2 r2 lt p x.1) (x.2 * 1048576)) (Mt.takeP (Mt.fill b2 r2 lt p x.1) (x.2 * 1048576)) (l.drop (k + 1)) := by
        obtain ⟨hk', e⟩ := List.getElem?_eq_some_iff.1 HX.out
        rw [List.drop_eq_getElem_cons hk', e]; rfl
      have HR2 := Lib.hid (HRUN.out.trans (by rw [hr2]))
      have HIN0 := Lib.hid l0
      have HG := Lib.hid (And.intro x1 (And.intro G1 G2))
      have HS2 := Lib.hid hs2
      generalize Mt.color (Mt.fill b r lt c x.1) (Mt.fill b2 r2 lt p x.1) (x.2 * 1048576) = col at *
      generalize Mt.takeC (Mt.fill b r lt c x.1) (Mt.fill b2 r2 lt p x.1) (x.2 * 1048576) = c' at *
      generalize Mt.takeP (Mt.fill b2 r2 lt p x.1) (x.2 * 1048576) = p' at *
      have OW := own_only HOWN.out ((Only.alloc (Only.refl _ _) (.cells #[.int .i64 x.1, .int .i64 x.2] 33)).trans ho)
      have HOW := Lib.hid (own_only OW (Only.alloc (Only.refl _ _) (.cells #[.int .i64 col] 3)))
      have HM3 := Lib.hid (M3.alloc (.cells #[.int .i64 col] 3))
      have HBB := Lib.hid (((HBR.out.alloc HBR.out.size (.cells #[.int .i64 x.1, .int .i64 x.2] 33)).trans (ho.below (Nat.le_refl _) (by have := HBR.out.size; simp; omega))))
      clear hr2 hs2 x1 x2 x3 x4 l0 cc0 cc1 pp0 pp1 o1 o2 K1 K2 F1 F2 G1 G2 OW ho M3 HS HRUN HM HOWN HIN hc0 hc1 hbk
      obtain ⟨i0, hi0, hz0, hz1, hz2⟩ := info_parts int_info
      have II := Lib.hid (And.intro hi0 (And.intro hz0 (And.intro hz1 hz2)))
      clear hi0 hz0 hz1 hz2
      go_wp2_with (at_builtin; refine wpList_append_own _ rfl (.tmp 41) (.tmp 45) _ rfl (w2.heap.size + 1) 3 i0 _ 1 8 Try.underlying53 II.out.1 II.out.2.1 II.out.2.2.1 II.out.2.2.2 rfl (by omega) _ k (ints pre) rfl HOW.out ⟨w3.heap.size, 0, none⟩ 1 1 [.int .i64 col] rfl rfl (news1 _ _ _) (one1 _) (k_max hlt hl).1 (k_max hlt hl).2 (by have := HBB.out.size; simp; omega) ?_; intro v1 w4 hown4 hg4 hnn; have HO4 := Lib.hid hown4; have HG4 := Lib.hid hg4; clear hown4 hg4 hnn)
      go_roundw
      case rel =>
        refine ⟨k + 1, by omega, by go_num, ⟨pre ++ [col], x.1, c', p', by rw [ints_snoc]; exact HO4.out, mkr_grown HM3.out HOW.out HG4.out, by rw [HR2.out]; simp, HS2.out, by have := HG.out; have := HIN0.out; omega, HG.out.2.1.1, HG.out.2.1.2, HG.out.2.2.1, HG.out.2.2.2⟩, ?_⟩
        refine (HBB.out.alloc HBB.out.size _).grown HG4.out (by have := HBB.out.size; simp; omega) ?_
        exact fun k hk => by have := own_ge HOW.out k hk; omega
      case measure => simp [intOf]; omega
    · have hkl : k = l.length := by omega
      subst hkl
      have HOWN := Lib.hid hown
      have e0 : Mt.runFrom b r b2 r2 lt c p (l.drop l.length) = [] := by rw [List.drop_eq_nil_of_le (Nat.le_refl _)]; rfl
      have HRUN : Hid (Mt.run b r b2 r2 l = pre) := by rw [hrun, e0]; exact List.append_nil _
      clear e0
      have HBR := Lib.hid hbr
      clear hown hrun hbr hM hok l0 cc0 cc1 pp0 pp1 hc hz hc2 hz2
      go_wp2_with fail
      go_ret2
      refine ⟨⟨_, rfl, ?_⟩, ((Below.alloc HB.out HB.out.size _).trans (HB2.out.mono (Below.alloc HB.out HB.out.size _).size)).trans (HBR.out.mono (by omega))⟩
      rw [HRUN.out]
      refine ⟨HOWN.out.1, HOWN.out.2.imp id ?_⟩
      rintro ⟨q, cap, cur, e1, hq, rest⟩
      exact ⟨q, cap, cur, e1, by omega, rest⟩
end MtW
end Go.Proofs.Ytgpknoakkkkapaa
