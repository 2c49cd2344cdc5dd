/- Credit-based shapers: slopes and traces for numbers. -/
import Derived.Test.YtoglmfpmeajbeaaCrB
import Derived.Test.YtoglmfpmeajbeaaDraft
import Derived.Test.YtoglmfpmeajbeaaOwn
import Derived.Test.YtoglmfpmeajbeaaUpA
import Derived.Deep.DeepCutAuto
namespace Go.Proofs.Ytoglmfpmeajbeaa
set_option linter.unusedSimpArgs false
set_option linter.unusedVariables false
open Go.RowKit
namespace Mem
theorem set_arrs1 {pre t : List (Int × Int)} {x : Int × Int} {k : Nat} (hk : pre.length = k) (a : Int) : (Mem.arrs (pre ++ x :: t)).set (k * 2 + 1) (.int .i64 a) = Mem.arrs (pre ++ (x.1, a) :: t) := by
  rw [Mem.arrs_append, Mem.arrs_append, Mem.arrs_cons, Mem.arrs_cons, List.set_append_right _ _ (by rw [Mem.arrs_length]; omega), Mem.arrs_length, hk, show k * 2 + 1 - k * 2 = 1 by omega]
  rfl
theorem set_arrs0 {pre t : List (Int × Int)} {x : Int × Int} {k : Nat} (hk : pre.length = k) (a : Int) : (Mem.arrs (pre ++ x :: t)).set (k * 2) (.int .i64 a) = Mem.arrs (pre ++ (a, x.2) :: t) := by
  rw [Mem.arrs_append, Mem.arrs_append, Mem.arrs_cons, Mem.arrs_cons, List.set_append_right _ _ (by rw [Mem.arrs_length]; omega), Mem.arrs_length, hk, Nat.sub_self]
  rfl
end Mem
namespace Cr
def cut (x : Int × Int) : Int × Int := (x.1, 1 + x.2 % 1542)
/-- The trace of a draft, with sizes of at most 1542. -/
def trace (gs ss : List Int) : List (Int × Int) := (Dr.trace gs ss).map cut
def ofR (x per : Int) : Int := 1 + x % (1048575 / per)
theorem of_ok {x y : Nat} (hx : x < 4294967296) : ok (ofR x (1 + (y : Int) % 1000)) (1 + (y : Int) % 1000) = true := by
  rw [ok_iff]
  obtain ⟨p, hp⟩ : ∃ p : Int, 1 + (y : Int) % 1000 = p := ⟨_, rfl⟩
  rw [hp]
  have h1 : 1 ≤ p ∧ p ≤ 1000 := by omega
  unfold ofR
  obtain ⟨q, hq⟩ : ∃ q, 1048575 / p = q := ⟨_, rfl⟩
  rw [hq]
  have e1 := Int.mul_ediv_add_emod 1048575 p
  have e2 := Int.emod_nonneg 1048575 (show p ≠ 0 by omega)
  have e3 := Int.emod_lt_of_pos 1048575 (show 0 < p by omega)
  rw [hq] at e1
  have q1 : 1 ≤ q := by
    rcases Int.lt_or_le q 1 with h | h
    · have := Int.mul_le_mul_of_nonneg_left (show q ≤ 0 by omega) (show 0 ≤ p by omega)
      omega
    · exact h
  have r1 := Int.emod_nonneg (x : Int) (show q ≠ 0 by omega)
  have r2 := Int.emod_lt_of_pos (x : Int) (show 0 < q by omega)
  have m1 := Int.mul_le_mul_of_nonneg_right (show 1 + (x : Int) % q ≤ q by omega) (show 0 ≤ p by omega)
  rw [Int.mul_comm q p] at m1
  have m2 := Int.mul_le_mul_of_nonneg_left h1.1 (show 0 ≤ q by omega)
  rw [Int.mul_comm q p] at m2
  refine ⟨h1.1, h1.2, by omega, ?_, ?_⟩ <;> omega
end Cr
namespace CrW
set_option maxRecDepth 100000
set_option maxHeartbeats 4000000
theorem Of_any (x y : Nat) (hx : x < 4294967296) (hy : y < 65536) (w : World) :
    Calls Try.prog 8 #[.int .u32 x, .int .u16 y] w fun e w' => e = .returned (.agg #[.int .i64 (Cr.ofR x (1 + (y : Int) % 1000)), .int .i64 (1 + (y : Int) % 1000)]) ∧ Below w.heap.size w w' := by
  obtain ⟨p, hp⟩ : ∃ p : Int, 1 + (y : Int) % 1000 = p := ⟨_, rfl⟩
  have h1 : 1 ≤ p ∧ p ≤ 1000 := by omega
  have e1 := Int.mul_ediv_add_emod 1048575 p
  have e2 := Int.emod_nonneg 1048575 (show p ≠ 0 by omega)
  have e3 := Int.emod_lt_of_pos 1048575 (show 0 < p by omega)
  have q1 : 1 ≤ 1048575 / p := by
    rcases Int.lt_or_le (1048575 / p) 1 with h | h
    · have := Int.mul_le_mul_of_nonneg_left (show 1048575 / p ≤ 0 by omega) (show 0 ≤ p by omega)
      omega
    · exact h
  have q2 : 1048575 / p ≤ 1048575 := Int.ediv_le_self _ (by decide)
  have t0 : (y : Int).tmod 1000 = (y : Int) % 1000 := Int.tmod_eq_emod_of_nonneg (by omega)
  have t1 : (1048575 : Int).tdiv p = 1048575 / p := Int.tdiv_eq_ediv_of_nonneg (by decide)
  have t2 : (x : Int).tmod (1048575 / p) = (x : Int) % (1048575 / p) := Int.tmod_eq_emod_of_nonneg (by omega)
  have r1 := Int.emod_nonneg (x : Int) (show 1048575 / p ≠ 0 by omega)
  have r2 := Int.emod_lt_of_pos (x : Int) (show 0 < 1048575 / p by omega)
  have w1 : IntKind.u16.wrap ((y : Int) % 1000) = (y : Int) % 1000 := by show _ % 65536 = _; omega
  have w2 : IntKind.i64.wrap ((y : Int) % 1000) = (y : Int) % 1000 := IntWalk.i64_in _ (by omega)
  have w3 : IntKind.i64.wrap (1 + (y : Int) % 1000) = p := by rw [hp]; exact IntWalk.i64_in _ (by omega)
  have w4 : IntKind.i64.wrap (x : Int) = x := IntWalk.i64_in _ (by omega)
  have w5 : IntKind.i64.wrap (1048575 / p) = 1048575 / p := IntWalk.i64_in _ (by omega)
  have w6 : IntKind.i64.wrap ((x : Int) % (1048575 / p)) = (x : Int) % (1048575 / p) := IntWalk.i64_in _ (by omega)
  have w7 : IntKind.i64.wrap (1 + (x : Int) % (1048575 / p)) = 1 + (x : Int) % (1048575 / p) := IntWalk.i64_in _ (by omega)
  have n1 : p ≠ 0 := by omega
  have n2 : 1048575 / p ≠ 0 := by omega
  unfold Cr.ofR
  rw [hp]
  clear e1 e2 e3 r1 r2
  go_enter Try.func8, Try.ntmps8
  go_wp2_with fail
  exact bodyPost_ret (v := .agg #[.int .i64 (1 + (x : Int) % (1048575 / p)), .int .i64 p]) (by simp [results, Try.results8, go_sem]) rfl ⟨rfl, by (repeat' (first | (with_reducible exact Below.refl _ _) | (with_reducible refine Below.alloc ?_ ?_ _) | (with_reducible refine Below.setCell ?_ ?_ _) | (with_reducible refine Below.drew ?_) | (with_reducible assumption) | omega | (simp; done) | (simp; omega)))⟩
theorem Trace_cut (x y : Int) (G : Option Addr) (gs : List Int) (cg : Nat) (S : Option Addr) (ss : List Int) (cs : Nat) (w : World) (hG : Mem.Row w w.heap.size G (Mem.nums .u16 gs)) (hS : Mem.Row w w.heap.size S (Mem.nums .u16 ss)) (bG : ∀ n ∈ gs, 0 ≤ n ∧ n ≤ 65535) (bS : ∀ n ∈ ss, 0 ≤ n ∧ n ≤ 65535) (lG : gs.length ≤ maxLen) (lS : ss.length ≤ maxLen) :
    Calls Try.prog 16 #[.agg #[.int .u32 x, .int .u32 y, .slice G gs.length cg, .slice S ss.length cs]] w fun e w' => (∃ A cap, e = .returned (.slice A (Dr.trace gs ss).length cap) ∧ w'.ownsRow w.heap.size 49 2 (.slice A (Dr.trace gs ss).length cap) (Dr.trace gs ss).length (Mem.arrs (Cr.trace gs ss))) ∧ Below w.heap.size w w' := by
  have h30 : (Dr.trace gs ss).length ≤ 30 := by rw [Dr.trace_length]; omega
  have CT := Lib.hid (fun W hG hS => DrW.Trace_any x y G gs cg S ss cs W hG hS bG bS lG lS)
  have hmem := Dr.trace_at bG bS
  show Calls _ _ _ _ fun e w' => (∃ A cap, e = .returned (.slice A (Dr.trace gs ss).length cap) ∧ w'.ownsRow w.heap.size 49 2 (.slice A (Dr.trace gs ss).length cap) (Dr.trace gs ss).length (Mem.arrs ((Dr.trace gs ss).map Cr.cut))) ∧ Below w.heap.size w w'
  generalize Dr.trace gs ss = l at *
  have HG := Lib.hid hG
  have HS := Lib.hid hS
  have HM := Lib.hid hmem
  clear hG hS hmem bG bS lG lS
  have A0 : Hid (Below w.heap.size w w) := Lib.hid (Below.refl _ _)
  go_enter Try.func16, Try.ntmps16
  go_upto_region 1 with fail
  obtain ⟨W0, hW0⟩ : ∃ W0, (w.alloc (.cells #[.int .u32 x, .int .u32 y, .slice G gs.length cg, .slice S ss.length cs] 44)) = W0 := ⟨_, rfl⟩
  have hm_W0 : Below w.heap.size w W0 := by rw [← hW0]; (repeat' (first | (with_reducible exact Below.refl _ _) | (with_reducible refine Below.alloc ?_ ?_ _) | (with_reducible refine Below.setCell ?_ ?_ _) | (with_reducible refine Below.drew ?_) | (with_reducible assumption) | omega | (simp; done) | (simp; omega)))
  have q_W0 : w.heap.size + 1 ≤ W0.heap.size := by rw [← hW0]; simp
  replace HG := Lib.hid ((HG.out.below hm_W0).of_lt hm_W0.size)
  replace HS := Lib.hid ((HS.out.below hm_W0).of_lt hm_W0.size)
  replace A0 := Lib.hid (A0.out.trans (hm_W0.mono A0.out.size))
  have c_d_0 : W0.cell? ⟨w.heap.size, 0, none⟩ = some (.int .u32 x) := by rw [← hW0]; simp [go_sem]
  have c_d_1 : W0.cell? ⟨w.heap.size, 1, none⟩ = some (.int .u32 y) := by rw [← hW0]; simp [go_sem]
  have c_d_2 : W0.cell? ⟨w.heap.size, 2, none⟩ = some (.slice G gs.length cg) := by rw [← hW0]; simp [go_sem]
  have c_d_3 : W0.cell? ⟨w.heap.size, 3, none⟩ = some (.slice S ss.length cs) := by rw [← hW0]; simp [go_sem]
  rw [hW0]
  have lt_W0_0_0 : w.heap.size < W0.heap.size := by omega
  obtain ⟨le_W0_0_0, le_W0_0_1, le_W0_0_2, le_W0_0_3, lu_W0_0_1, lu_W0_0_2, lu_W0_0_3⟩ := lts lt_W0_0_0
  clear hW0 hm_W0
  go_wp2_with fail
  refine (CT.out _ HG.out HS.out).mono ?_
  rintro e w1 ⟨⟨v, rfl, hO⟩, hb_⟩
  obtain ⟨A5, c5, rfl, _, _, _⟩ := Mem.own_row hO
  have HO := Lib.hid hO
  clear hO
  replace HO : Hid (w1.ownsRow w.heap.size 49 2 (.slice A5 l.length c5) l.length (Mem.arrs l)) := Lib.hid (World.ownsRow.mono HO.out (by omega))
  clear HG HS CT
  have hm_w1 : Below W0.heap.size W0 w1 := hb_
  have q_w1 := hm_w1.size
  replace c_d_0 := below_cell hm_w1 c_d_0 lt_W0_0_0
  replace c_d_1 := below_cell hm_w1 c_d_1 lt_W0_0_0
  replace c_d_2 := below_cell hm_w1 c_d_2 lt_W0_0_0
  replace c_d_3 := below_cell hm_w1 c_d_3 lt_W0_0_0
  replace A0 := Lib.hid (A0.out.trans (hm_w1.mono A0.out.size))
  have lt_w1_0_0 : w.heap.size < w1.heap.size := by omega
  obtain ⟨le_w1_0_0, le_w1_0_1, le_w1_0_2, le_w1_0_3, lu_w1_0_1, lu_w1_0_2, lu_w1_0_3⟩ := lts lt_w1_0_0
  clear le_W0_0_0 le_W0_0_1 le_W0_0_2 le_W0_0_3 lu_W0_0_1 lu_W0_0_2 lu_W0_0_3 lt_W0_0_0
  clear hm_w1
  clear hb_
  clear c_d_0
  clear c_d_1
  clear c_d_2
  clear c_d_3
  clear le_w1_0_0 le_w1_0_1 le_w1_0_2 le_w1_0_3 lu_w1_0_1 lu_w1_0_2 lu_w1_0_3 lt_w1_0_0
  go_wp2_with fail
  go_loopw [4] (fun i wr => ∃ k : Nat, k ≤ l.length ∧ i = .int .i64 k ∧ wr.ownsRow w.heap.size 49 2 (.slice A5 l.length c5) l.length (Mem.arrs ((l.take k).map Cr.cut ++ l.drop k)) ∧ Below w.heap.size w wr) (fun i _ => l.length - (intOf i).toNat)
  case atStart => exact ⟨0, by omega, rfl, by simpa using HO.out, A0.out⟩
  case round =>
    obtain ⟨k, hk, rfl, hown, hbr⟩ := hrel
    obtain ⟨wo, rfl⟩ : ∃ wo : World, wo = wr := ⟨_, rfl⟩
    have HOW := Lib.hid hown
    have HB := Lib.hid hbr
    clear hown hbr
    by_cases hlt : k < l.length
    · obtain ⟨⟨x1, x2⟩, hx⟩ : ∃ x, l[k]? = some x := ⟨l[k], List.getElem?_eq_getElem hlt⟩
      have hm := HM.out (x1, x2) (List.mem_of_getElem? hx)
      simp only at hm
      obtain ⟨g5, rfl, hg5a, hg5b⟩ := Mem.own_some HOW.out (by omega)
      have hdr := Cr.drop_at hx
      have hpl : ((l.take k).map Cr.cut).length = k := by rw [List.length_map, List.length_take]; omega
      have hat : ((l.take k).map Cr.cut ++ l.drop k)[k]? = some (x1, x2) := by rw [hdr, List.getElem?_append_right (by omega), hpl, Nat.sub_self]; rfl
      obtain ⟨e0, e1, z0, z1⟩ := Mem.own_at HOW.out hat
      have t2 : x2.tmod 1542 = x2 % 1542 := Int.tmod_eq_emod_of_nonneg (by omega)
      have w1_ : IntKind.i64.wrap (x2 % 1542) = x2 % 1542 := IntWalk.i64_in _ (by omega)
      have w2_ : IntKind.i64.wrap (1 + x2 % 1542) = 1 + x2 % 1542 := IntWalk.i64_in _ (by omega)
      have htk : (l.take (k + 1)).map Cr.cut = (l.take k).map Cr.cut ++ [(x1, 1 + x2 % 1542)] := by rw [List.take_add_one, hx]; simp [Cr.cut]
      have i0 : (0 : Int) ≤ (k : Int) := by omega
      have i1 : (k : Int) < (l.length : Int) := by omega
      have HDR := Lib.hid hdr
      have HTK := Lib.hid htk
      clear hx hdr hat htk hm
      go_wp2_with fail
      go_roundw
      case rel =>
        refine ⟨k + 1, by omega, by go_num, ?_, by have hb := HB.out; (repeat' (first | (with_reducible exact Below.refl _ _) | (with_reducible refine Below.alloc ?_ ?_ _) | (with_reducible refine Below.setCell ?_ ?_ _) | (with_reducible refine Below.drew ?_) | (with_reducible assumption) | omega | (simp; done) | (simp; omega)))⟩
        have h := (HOW.out.stored (k * 2 + 1) (.int .i64 (1 + x2 % 1542))).1
        rw [HDR.out, Mem.set_arrs1 hpl] at h
        rw [HTK.out, List.append_assoc]
        exact h
      case measure => simp [intOf]; omega
    · have ekl : k = l.length := by omega
      have hO : wo.ownsRow w.heap.size 49 2 (.slice A5 l.length c5) l.length (Mem.arrs (l.map Cr.cut)) := by have h := HOW.out; rw [List.drop_eq_nil_of_le (show l.length ≤ k by omega), List.take_of_length_le (show l.length ≤ k by omega), List.append_nil] at h; exact h
      have HO2 := Lib.hid hO
      clear hO HO HOW
      go_wp2_with fail
      go_ret
      exact ⟨⟨A5, c5, rfl, HO2.out⟩, HB.out⟩
end CrW
end Go.Proofs.Ytoglmfpmeajbeaa
