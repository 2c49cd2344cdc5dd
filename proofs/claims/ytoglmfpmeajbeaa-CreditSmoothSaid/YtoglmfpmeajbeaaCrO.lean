/- Credit-based shapers: Run of valid arguments. -/
import Derived.Test.YtoglmfpmeajbeaaCrN
namespace Go.Proofs.Ytoglmfpmeajbeaa
set_option linter.unusedSimpArgs false
set_option linter.unusedVariables false
open Go.RowKit
namespace CrW
set_option maxRecDepth 100000
set_option maxHeartbeats 4000000
theorem ints_at {w : World} {base n cap : Nat} {e : TypeId} {A : Option Addr} {l : List Int} (h : w.ownsRow base e 1 (.slice A n cap) n (Mem.ints l)) : Tr.Ints w w.heap.size A l := by
  obtain ⟨A', c', e', hI⟩ := SmW.own_slice h
  cases e'
  exact hI
theorem Run_go (r p : Int) (A : Option Addr) (l : List (Int × Int)) (cap : Nat) (AF : Option Addr) (fr : List Int) (cf : Nat) (h : Cr.ok r p = true) (hl : l.length ≤ 100000) (ht : Tr.chk l = 0) (hn : fr.length ≤ l.length) (hok : ∀ k x1 x2, l[k]? = some (x1, x2) → (0 ≤ x1 ∧ x1 ≤ 1073741824) ∧ (0 ≤ fr.getD k 0 ∧ fr.getD k 0 ≤ 1073741824) ∧ (1 ≤ x2 ∧ x2 ≤ 1542)) (w : World) (hA : Tr.Arr w w.heap.size A l) (hF : Tr.Ints w w.heap.size AF fr) :
    Calls Try.prog 17 #[.agg #[.int .i64 r, .int .i64 p], .slice A l.length cap, .slice AF fr.length cf] w fun e w' => ((Cr.good r p 0 0 (Cr.items fr l) = false ∧ e = .returned (.tuple #[.slice none 0 0, .agg #[.int .i64 0, .int .i64 0], .int .i64 6])) ∨ (Cr.good r p 0 0 (Cr.items fr l) = true ∧ ∃ A' cap', e = .returned (.tuple #[.slice A' l.length cap', .agg #[.int .i64 (Cr.endA r p 0 0 (Cr.items fr l)), .int .i64 (Cr.endL r p 0 0 (Cr.items fr l))], .int .i64 0]) ∧ Tr.Ints w' w'.heap.size A' (Cr.starts r p 0 0 (Cr.items fr l)))) ∧ Below w.heap.size w w' := by
  have C1 := Check_b r p
  rw [show Cr.chk r p = 0 by unfold Cr.chk; rw [h]; rfl] at C1
  have C1 := Lib.hid C1
  have C2 := Lib.hid (fun W hA => BkW.CheckTrace_any A l cap W hA hl)
  rw [show Tr.chk l = 0 from ht] at C2
  have hn2 : decide ((l.length : Int) < (fr.length : Int)) = false := decide_eq_false (by omega)
  have hn3 : decide (l.length < fr.length) = false := decide_eq_false (by omega)
  have HOK2 := Lib.hid hok
  have HOK := Lib.hid (fun (k : Nat) (x1 x2 : Int) (hx : l[k]? = some (x1, x2)) (_ : k < l.length) => (⟨(hok k x1 x2 hx).1, (hok k x1 x2 hx).2.1, (hok k x1 x2 hx).2.2.2⟩ : (0 ≤ x1 ∧ x1 ≤ 1073741824) ∧ (0 ≤ fr.getD k 0 ∧ fr.getD k 0 ≤ 1073741824) ∧ x2 ≤ 1542))
  have HR := Lib.hid h
  obtain ⟨i0_, hi0, hz0, hz1, hz2⟩ := info_parts Mem.int_info
  have II := Lib.hid (And.intro hi0 (And.intro hz0 (And.intro hz1 hz2)))
  clear h ht hok hi0 hz0 hz1 hz2
  have hmf : ∀ (fn : Fn) (first cap : Array Value) (w : World), (Instr.makeFunc fn first cap).run Try.prog w = .ok (.func fn first cap) w := fun _ _ _ _ => rfl
  have HA := Lib.hid hA
  have HF := Lib.hid hF
  have HA0 := HA
  have HF0r := HF
  clear hA hF
  have A0 : Hid (Below w.heap.size w w) := Lib.hid (Below.refl _ _)
  go_enter Try.func17, Try.ntmps17
  go_wp2_with fail
  refine (C1.out _).mono ?_
  rintro e w1 ⟨rfl, hb_⟩
  have s_w1 := hb_.size
  try simp only [World.size_alloc] at s_w1
  have hm_w1 : Below w.heap.size w w1 := Below.trans (b := (((w.alloc (.cells #[.int .i64 r, .int .i64 p] 23)).alloc (.cells #[.slice AF fr.length cf] 47)).alloc (.cells #[.int .i64 0, .int .i64 0] 25))) (by (repeat' (first | (with_reducible exact Below.refl _ _) | (with_reducible refine Below.alloc ?_ ?_ _) | (with_reducible refine Below.setCell ?_ ?_ _) | (with_reducible refine Below.drew ?_) | (with_reducible assumption) | omega | (simp; done) | (simp; omega)))) (hb_.mono (by first | (simp; done) | (simp; omega)))
  have q_w1 := hm_w1.size
  replace HA := Lib.hid ((HA.out.below hm_w1).of_lt hm_w1.size)
  replace HF := Lib.hid ((HF.out.below hm_w1).of_lt hm_w1.size)
  replace A0 := Lib.hid (A0.out.trans (hm_w1.mono A0.out.size))
  have c_s_0 : w1.cell? ⟨w.heap.size, 0, none⟩ = some (.int .i64 r) := by rw [(bcell hb_).1 _ _ (by first | (simp; done) | (simp; omega))]; simp [go_sem]
  have c_s_1 : w1.cell? ⟨w.heap.size, 1, none⟩ = some (.int .i64 p) := by rw [(bcell hb_).1 _ _ (by first | (simp; done) | (simp; omega))]; simp [go_sem]
  have c_f_0 : w1.cell? ⟨w.heap.size + 1, 0, none⟩ = some (.slice AF fr.length cf) := by rw [(bcell hb_).1 _ _ (by first | (simp; done) | (simp; omega))]; simp [go_sem]
  have c_e_0 : w1.cell? ⟨w.heap.size + 1 + 1, 0, none⟩ = some (.int .i64 0) := by rw [(bcell hb_).1 _ _ (by first | (simp; done) | (simp; omega))]; simp [go_sem]
  have f_e_0 : w1.frozen? ⟨w.heap.size + 1 + 1, 0, none⟩ = false := by rw [(bcell hb_).2 _ _ (by first | (simp; done) | (simp; omega))]; simp [go_sem]
  have c_e_1 : w1.cell? ⟨w.heap.size + 1 + 1, 1, none⟩ = some (.int .i64 0) := by rw [(bcell hb_).1 _ _ (by first | (simp; done) | (simp; omega))]; simp [go_sem]
  have f_e_1 : w1.frozen? ⟨w.heap.size + 1 + 1, 1, none⟩ = false := by rw [(bcell hb_).2 _ _ (by first | (simp; done) | (simp; omega))]; simp [go_sem]
  have lt_w1_0_2 : w.heap.size + 1 + 1 < w1.heap.size := by omega
  have lt_w1_0_1 : w.heap.size + 1 < w1.heap.size := Nat.lt_of_succ_lt lt_w1_0_2
  have lt_w1_0_0 : w.heap.size < w1.heap.size := Nat.lt_of_succ_lt lt_w1_0_1
  obtain ⟨le_w1_0_0, le_w1_0_1, le_w1_0_2, le_w1_0_3, lu_w1_0_1, lu_w1_0_2, lu_w1_0_3⟩ := lts lt_w1_0_0
  clear hm_w1
  clear hb_
  go_wp2_with fail
  refine (C2.out _ HA.out).mono ?_
  rintro e w2 ⟨rfl, hb_⟩
  have hm_w2 : Below w1.heap.size w1 w2 := hb_
  have q_w2 := hm_w2.size
  replace c_s_0 := below_cell hm_w2 c_s_0 lt_w1_0_0
  replace c_s_1 := below_cell hm_w2 c_s_1 lt_w1_0_0
  replace c_f_0 := below_cell hm_w2 c_f_0 lt_w1_0_1
  replace c_e_0 := below_cell hm_w2 c_e_0 lt_w1_0_2
  replace f_e_0 := (hm_w2.frozen (p := ⟨w.heap.size + 1 + 1, 0, none⟩) lt_w1_0_2).trans f_e_0
  replace c_e_1 := below_cell hm_w2 c_e_1 lt_w1_0_2
  replace f_e_1 := (hm_w2.frozen (p := ⟨w.heap.size + 1 + 1, 1, none⟩) lt_w1_0_2).trans f_e_1
  replace HA := Lib.hid ((HA.out.below hm_w2).of_lt hm_w2.size)
  replace HF := Lib.hid ((HF.out.below hm_w2).of_lt hm_w2.size)
  replace A0 := Lib.hid (A0.out.trans (hm_w2.mono A0.out.size))
  have lt_w2_0_2 : w.heap.size + 1 + 1 < w2.heap.size := by omega
  have lt_w2_0_1 : w.heap.size + 1 < w2.heap.size := Nat.lt_of_succ_lt lt_w2_0_2
  have lt_w2_0_0 : w.heap.size < w2.heap.size := Nat.lt_of_succ_lt lt_w2_0_1
  obtain ⟨le_w2_0_0, le_w2_0_1, le_w2_0_2, le_w2_0_3, lu_w2_0_1, lu_w2_0_2, lu_w2_0_3⟩ := lts lt_w2_0_0
  clear le_w1_0_0 le_w1_0_1 le_w1_0_2 le_w1_0_3 lu_w1_0_1 lu_w1_0_2 lu_w1_0_3 lt_w1_0_0 lt_w1_0_1 lt_w1_0_2
  clear hm_w2
  clear hb_
  have RD := Lib.hid (fun (k : Nat) (W : World) (hk : k ≤ 100000) hc hF => ready_any (w.heap.size + 1) AF fr cf k W hk hc hF)
  go_wp2_with fail
  go_loopw [40, 6] (fun i v wr => ∃ k : Nat, k ≤ l.length ∧ i = .int .i64 k ∧ v = .slice none 0 0 ∧ Below w2.heap.size w2 wr) (fun i _ _ => l.length - (intOf i).toNat)
  case atStart => exact ⟨0, by omega, rfl, rfl, Below.refl _ _⟩
  case round =>
    obtain ⟨k, hk, rfl, rfl, hbr⟩ := hrel
    obtain ⟨wo, rfl⟩ : ∃ wo : World, wo = wr := ⟨_, rfl⟩
    have KW := Lib.hid hbr
    have hm_wo : Below w2.heap.size w2 wo := hbr
    have q_wo := hm_wo.size
    replace c_s_0 := below_cell hm_wo c_s_0 lt_w2_0_0
    replace c_s_1 := below_cell hm_wo c_s_1 lt_w2_0_0
    replace c_f_0 := below_cell hm_wo c_f_0 lt_w2_0_1
    replace c_e_0 := below_cell hm_wo c_e_0 lt_w2_0_2
    replace f_e_0 := (hm_wo.frozen (p := ⟨w.heap.size + 1 + 1, 0, none⟩) lt_w2_0_2).trans f_e_0
    replace c_e_1 := below_cell hm_wo c_e_1 lt_w2_0_2
    replace f_e_1 := (hm_wo.frozen (p := ⟨w.heap.size + 1 + 1, 1, none⟩) lt_w2_0_2).trans f_e_1
    replace HA := Lib.hid ((HA.out.below hm_wo).of_lt hm_wo.size)
    replace HF := Lib.hid ((HF.out.below hm_wo).of_lt hm_wo.size)
    replace A0 := Lib.hid (A0.out.trans (hm_wo.mono A0.out.size))
    have lt_wo_0_2 : w.heap.size + 1 + 1 < wo.heap.size := by omega
    have lt_wo_0_1 : w.heap.size + 1 < wo.heap.size := Nat.lt_of_succ_lt lt_wo_0_2
    have lt_wo_0_0 : w.heap.size < wo.heap.size := Nat.lt_of_succ_lt lt_wo_0_1
    obtain ⟨le_wo_0_0, le_wo_0_1, le_wo_0_2, le_wo_0_3, lu_wo_0_1, lu_wo_0_2, lu_wo_0_3⟩ := lts lt_wo_0_0
    clear le_w2_0_0 le_w2_0_1 le_w2_0_2 le_w2_0_3 lu_w2_0_1 lu_w2_0_2 lu_w2_0_3 lt_w2_0_0 lt_w2_0_1 lt_w2_0_2
    clear hm_wo
    clear hbr
    by_cases hlt : k < l.length
    · obtain ⟨⟨x1, x2⟩, hx⟩ : ∃ x, l[k]? = some x := ⟨l[k]'(by omega), List.getElem?_eq_getElem _⟩
      obtain ⟨ad, rfl, hbk, hc0, hc1⟩ := HA.out k (x1, x2) hx
      have hm := HOK.out k x1 x2 hx (by omega)
      have I1 := instant_any x1
      rw [decide_eq_true hm.1] at I1
      have I1 := Lib.hid I1
      have I2 := instant_any (fr.getD k 0)
      rw [decide_eq_true hm.2.1] at I2
      have I2 := Lib.hid I2
      have hz := hm.2.2
      have i0 : (0 : Int) ≤ (k : Int) := by omega
      have i1 : (k : Int) < (l.length : Int) := by omega
      clear hx hm
      go_upto_region 13 with fail
      obtain ⟨X, hX⟩ : ∃ X, (wo.alloc (.cells #[.int .i64 x1, .int .i64 x2] 49)) = X := ⟨_, rfl⟩
      have hm_X : Below wo.heap.size wo X := by rw [← hX]; (repeat' (first | (with_reducible exact Below.refl _ _) | (with_reducible refine Below.alloc ?_ ?_ _) | (with_reducible refine Below.setCell ?_ ?_ _) | (with_reducible refine Below.drew ?_) | (with_reducible assumption) | omega | (simp; done) | (simp; omega)))
      have q_X : wo.heap.size + 1 ≤ X.heap.size := by rw [← hX]; simp
      replace c_s_0 := below_cell hm_X c_s_0 lt_wo_0_0
      replace c_s_1 := below_cell hm_X c_s_1 lt_wo_0_0
      replace c_f_0 := below_cell hm_X c_f_0 lt_wo_0_1
      replace c_e_0 := below_cell hm_X c_e_0 lt_wo_0_2
      replace f_e_0 := (hm_X.frozen (p := ⟨w.heap.size + 1 + 1, 0, none⟩) lt_wo_0_2).trans f_e_0
      replace c_e_1 := below_cell hm_X c_e_1 lt_wo_0_2
      replace f_e_1 := (hm_X.frozen (p := ⟨w.heap.size + 1 + 1, 1, none⟩) lt_wo_0_2).trans f_e_1
      replace HA := Lib.hid ((HA.out.below hm_X).of_lt hm_X.size)
      replace HF := Lib.hid ((HF.out.below hm_X).of_lt hm_X.size)
      replace A0 := Lib.hid (A0.out.trans (hm_X.mono A0.out.size))
      replace KW := Lib.hid (KW.out.trans (hm_X.mono KW.out.size))
      have c_x_0 : X.cell? ⟨wo.heap.size, 0, none⟩ = some (.int .i64 x1) := by rw [← hX]; simp [go_sem]
      have c_x_1 : X.cell? ⟨wo.heap.size, 1, none⟩ = some (.int .i64 x2) := by rw [← hX]; simp [go_sem]
      rw [hX]
      have lt_X_0_2 : w.heap.size + 1 + 1 < X.heap.size := by omega
      have lt_X_0_1 : w.heap.size + 1 < X.heap.size := Nat.lt_of_succ_lt lt_X_0_2
      have lt_X_0_0 : w.heap.size < X.heap.size := Nat.lt_of_succ_lt lt_X_0_1
      obtain ⟨le_X_0_0, le_X_0_1, le_X_0_2, le_X_0_3, lu_X_0_1, lu_X_0_2, lu_X_0_3⟩ := lts lt_X_0_0
      have lt_X_1_0 : wo.heap.size < X.heap.size := by omega
      obtain ⟨le_X_1_0, le_X_1_1, le_X_1_2, le_X_1_3, lu_X_1_1, lu_X_1_2, lu_X_1_3⟩ := lts lt_X_1_0
      clear le_wo_0_0 le_wo_0_1 le_wo_0_2 le_wo_0_3 lu_wo_0_1 lu_wo_0_2 lu_wo_0_3 lt_wo_0_0 lt_wo_0_1 lt_wo_0_2
      clear hX hm_X
      go_wp2_with fail
      refine (I1.out _).mono ?_
      rintro e w9 ⟨rfl, rfl⟩
      go_wp2_with fail
      refine (RD.out k X (by omega) c_f_0 HF.out).mono ?_
      rintro e w9 ⟨rfl, rfl⟩
      go_wp2_with fail
      refine (I2.out _).mono ?_
      rintro e w9 ⟨rfl, rfl⟩
      go_wp2_with fail
      go_roundw
      case rel => exact ⟨k + 1, by omega, by go_num, rfl, KW.out⟩
      case measure => simp [intOf]; omega
    · have ekl : k = l.length := by omega
      clear HOK
      have HE0 : Hid (It.Box2 wo (w.heap.size + 1 + 1) 0 0) := Lib.hid ⟨c_e_0, c_e_1, f_e_0, f_e_1⟩
      have HS0 := Lib.hid c_s_0
      have HS1 := Lib.hid c_s_1
      have HF0 := Lib.hid c_f_0
      have HB0 : Hid (Below w.heap.size w wo) := A0
      have HA1 := HA
      have HF1 := HF
      have lso : w.heap.size < wo.heap.size := by omega
      have lfo : w.heap.size + 1 < wo.heap.size := by omega
      have leo : w.heap.size + 1 + 1 < wo.heap.size := by omega
      clear KW HA HF A0
      clear c_s_0
      clear c_s_1
      clear c_f_0
      clear c_e_0 f_e_0
      clear c_e_1 f_e_1
      clear le_wo_0_0 le_wo_0_1 le_wo_0_2 le_wo_0_3 lu_wo_0_1 lu_wo_0_2 lu_wo_0_3 lt_wo_0_0 lt_wo_0_1 lt_wo_0_2
      clear hk
      go_wp2_with fail
      clear hlt ekl
      go_loopw [65, 6] (fun i v wr => ∃ (k : Nat) (pre : List Int) (a lv : Int), k ≤ l.length ∧ i = .int .i64 k ∧ wr.ownsRow wo.heap.size 3 1 v k (Mem.ints pre) ∧ It.Box2 wr (w.heap.size + 1 + 1) a lv ∧ Cr.stOk a lv = true ∧ Cr.starts r p 0 0 (Cr.items fr l) = pre ++ Cr.starts r p a lv ((Cr.items fr l).drop k) ∧ Cr.endA r p 0 0 (Cr.items fr l) = Cr.endA r p a lv ((Cr.items fr l).drop k) ∧ Cr.endL r p 0 0 (Cr.items fr l) = Cr.endL r p a lv ((Cr.items fr l).drop k) ∧ Cr.good r p 0 0 (Cr.items fr l) = Cr.good r p a lv ((Cr.items fr l).drop k) ∧ It.Kept wo.heap.size (w.heap.size + 1 + 1) wo wr) (fun i _ _ => l.length - (intOf i).toNat)
      case atStart => exact ⟨0, [], 0, 0, by omega, rfl, ⟨rfl, .inl ⟨rfl, rfl⟩⟩, HE0.out, rfl, rfl, rfl, rfl, rfl, It.Kept.refl _ _ _⟩
      case round =>
        obtain ⟨k, pre, a, lv, hk, rfl, hown, hbx, hst, h1, h2, h3, h4, hkp⟩ := hrel
        obtain ⟨wq, rfl⟩ : ∃ wq : World, wq = wr := ⟨_, rfl⟩
        have c_s_0 := hkp.cell (a := ⟨w.heap.size, 0, none⟩) (by show w.heap.size ≠ w.heap.size + 1 + 1; omega) lso HS0.out
        have c_s_1 := hkp.cell (a := ⟨w.heap.size, 1, none⟩) (by show w.heap.size ≠ w.heap.size + 1 + 1; omega) lso HS1.out
        have c_f_0 := hkp.cell (a := ⟨w.heap.size + 1, 0, none⟩) (by show w.heap.size + 1 ≠ w.heap.size + 1 + 1; omega) lfo HF0.out
        have hbw := hkp.below HB0.out (by omega) (by omega)
        have A0 := Lib.hid hbw
        have HA := Lib.hid ((HA0.out.below hbw).of_lt hbw.size)
        have HF := Lib.hid ((HF0r.out.below hbw).of_lt hbw.size)
        have HBX := Lib.hid hbx
        obtain ⟨c_e_0, c_e_1, f_e_0, f_e_1⟩ := hbx
        have q_wq := hkp.size
        have HOW := Lib.hid hown
        have HST := Lib.hid hst
        have H1 := Lib.hid h1
        have H2 := Lib.hid h2
        have H3 := Lib.hid h3
        have H4 := Lib.hid h4
        have HK := Lib.hid hkp
        clear hown hst h1 h2 h3 h4 hkp hbw
        have lt_wq_0_2 : w.heap.size + 1 + 1 < wq.heap.size := by omega
        have lt_wq_0_1 : w.heap.size + 1 < wq.heap.size := Nat.lt_of_succ_lt lt_wq_0_2
        have lt_wq_0_0 : w.heap.size < wq.heap.size := Nat.lt_of_succ_lt lt_wq_0_1
        obtain ⟨le_wq_0_0, le_wq_0_1, le_wq_0_2, le_wq_0_3, lu_wq_0_1, lu_wq_0_2, lu_wq_0_3⟩ := lts lt_wq_0_0
        have KQ : Hid (Below wq.heap.size wq wq) := Lib.hid (Below.refl _ _)
        by_cases hlt : k < l.length
        · obtain ⟨⟨x1, x2⟩, hx⟩ : ∃ x, l[k]? = some x := ⟨l[k]'(by omega), List.getElem?_eq_getElem _⟩
          obtain ⟨ad, rfl, hbk, hc0, hc1⟩ := HA.out k (x1, x2) hx
          have hm := HOK2.out k x1 x2 hx
          have hin : Cr.argOk x1 (fr.getD k 0) x2 = true := decide_eq_true (by omega)
          have hat := Cr.at_step (r := r) (p := p) (a := a) (l := lv) (Cr.items_get (fr := fr) hx)
          simp only at hat
          obtain ⟨t1, t2, t3, t4, t5⟩ := hat
          clear t2
          have G1 := Lib.hid (H1.out.trans (by rw [t1]))
          have G2 := Lib.hid (H2.out.trans (by rw [t3]))
          have G3 := Lib.hid (H3.out.trans (by rw [t4]))
          have G4 := Lib.hid (H4.out.trans (by rw [t5]))
          have TT := Step_any r p a lv x1 (fr.getD k 0) x2
          have hE : Cr.stepE r p a lv x1 (fr.getD k 0) x2 = if Cr.stOk (Cr.outA r p a lv x1 (fr.getD k 0) x2) (Cr.outL r p a lv x1 (fr.getD k 0) x2) then 0 else 6 := by
            unfold Cr.stepE; rw [if_neg (by rw [HR.out, HST.out]; simp), if_neg (by rw [hin]; simp)]
          generalize Cr.outA r p a lv x1 (fr.getD k 0) x2 = A2 at *
          generalize Cr.outL r p a lv x1 (fr.getD k 0) x2 = L2 at *
          generalize Cr.start r a lv x1 (fr.getD k 0) = T at *
          have i0 : (0 : Int) ≤ (k : Int) := by omega
          have i1 : (k : Int) < (l.length : Int) := by omega
          skip
          clear hx hm hin t1 t3 t4 t5 H1 H2 H3 H4 HST
          obtain ⟨f, hfk⟩ : ∃ f, fr.getD k 0 = f := ⟨_, rfl⟩
          have RDk := RD.out k
          rw [hfk] at RDk TT hE
          have RDk := Lib.hid RDk
          clear hfk
          unfold Cr.sX at TT
          rw [hE] at TT
          cases ho : Cr.stOk A2 L2
          · rw [ho] at TT
            rw [ho] at G4
            simp only [Bool.false_eq_true, if_false, show ¬ ((6 : Int) = 0) by decide, Bool.false_and] at TT G4
            have TT := Lib.hid TT
            clear hE
            go_upto_region 19 with fail
            obtain ⟨X, hX⟩ : ∃ X, (wq.alloc (.cells #[.int .i64 x1, .int .i64 x2] 49)) = X := ⟨_, rfl⟩
            have hm_X : Below wq.heap.size wq X := by rw [← hX]; (repeat' (first | (with_reducible exact Below.refl _ _) | (with_reducible refine Below.alloc ?_ ?_ _) | (with_reducible refine Below.setCell ?_ ?_ _) | (with_reducible refine Below.drew ?_) | (with_reducible assumption) | omega | (simp; done) | (simp; omega)))
            have q_X : wq.heap.size + 1 ≤ X.heap.size := by rw [← hX]; simp
            replace c_s_0 := below_cell hm_X c_s_0 lt_wq_0_0
            replace c_s_1 := below_cell hm_X c_s_1 lt_wq_0_0
            replace c_f_0 := below_cell hm_X c_f_0 lt_wq_0_1
            replace c_e_0 := below_cell hm_X c_e_0 lt_wq_0_2
            replace f_e_0 := (hm_X.frozen (p := ⟨w.heap.size + 1 + 1, 0, none⟩) lt_wq_0_2).trans f_e_0
            replace c_e_1 := below_cell hm_X c_e_1 lt_wq_0_2
            replace f_e_1 := (hm_X.frozen (p := ⟨w.heap.size + 1 + 1, 1, none⟩) lt_wq_0_2).trans f_e_1
            replace HA := Lib.hid ((HA.out.below hm_X).of_lt hm_X.size)
            replace HF := Lib.hid ((HF.out.below hm_X).of_lt hm_X.size)
            replace A0 := Lib.hid (A0.out.trans (hm_X.mono A0.out.size))
            replace KQ := Lib.hid (KQ.out.trans (hm_X.mono KQ.out.size))
            have c_x_0 : X.cell? ⟨wq.heap.size, 0, none⟩ = some (.int .i64 x1) := by rw [← hX]; simp [go_sem]
            have c_x_1 : X.cell? ⟨wq.heap.size, 1, none⟩ = some (.int .i64 x2) := by rw [← hX]; simp [go_sem]
            rw [hX]
            have lt_X_0_2 : w.heap.size + 1 + 1 < X.heap.size := by omega
            have lt_X_0_1 : w.heap.size + 1 < X.heap.size := Nat.lt_of_succ_lt lt_X_0_2
            have lt_X_0_0 : w.heap.size < X.heap.size := Nat.lt_of_succ_lt lt_X_0_1
            obtain ⟨le_X_0_0, le_X_0_1, le_X_0_2, le_X_0_3, lu_X_0_1, lu_X_0_2, lu_X_0_3⟩ := lts lt_X_0_0
            have lt_X_1_0 : wq.heap.size < X.heap.size := by omega
            obtain ⟨le_X_1_0, le_X_1_1, le_X_1_2, le_X_1_3, lu_X_1_1, lu_X_1_2, lu_X_1_3⟩ := lts lt_X_1_0
            clear le_wq_0_0 le_wq_0_1 le_wq_0_2 le_wq_0_3 lu_wq_0_1 lu_wq_0_2 lu_wq_0_3 lt_wq_0_0 lt_wq_0_1 lt_wq_0_2
            clear hX hm_X
            have HSx : Hid (∀ w', Below X.heap.size X w' → (Below X.heap.size X w' ∧ w'.cell? ⟨w.heap.size, 0, none⟩ = some (.int .i64 r) ∧ w'.cell? ⟨w.heap.size, 1, none⟩ = some (.int .i64 p) ∧ w'.cell? ⟨w.heap.size + 1, 0, none⟩ = some (.slice AF fr.length cf) ∧ w'.cell? ⟨w.heap.size + 1 + 1, 0, none⟩ = some (.int .i64 a) ∧ w'.cell? ⟨w.heap.size + 1 + 1, 1, none⟩ = some (.int .i64 lv) ∧ w'.cell? ⟨wq.heap.size, 0, none⟩ = some (.int .i64 x1) ∧ w'.cell? ⟨wq.heap.size, 1, none⟩ = some (.int .i64 x2))) := Lib.hid (fun w' h => ⟨h, below_cell h c_s_0 lt_X_0_0, below_cell h c_s_1 lt_X_0_0, below_cell h c_f_0 lt_X_0_1, below_cell h c_e_0 lt_X_0_2, below_cell h c_e_1 lt_X_0_2, below_cell h c_x_0 lt_X_1_0, below_cell h c_x_1 lt_X_1_0⟩)
            go_cut [16, 17, 18] (fun s16 s17 s18 wx => ∃ g17 : Nat, s16 = .int .i64 0 ∧ s17 = .pointer (some ⟨g17, 0, none⟩) ∧ s18 = .int .i64 6 ∧ X.heap.size ≤ g17 ∧ g17 < wx.heap.size ∧ It.Box2 wx g17 0 0 ∧ Below X.heap.size X wx)
            case first =>
              go_region_held3 (fun w' => Below X.heap.size X w' ∧ w'.cell? ⟨w.heap.size, 0, none⟩ = some (.int .i64 r) ∧ w'.cell? ⟨w.heap.size, 1, none⟩ = some (.int .i64 p) ∧ w'.cell? ⟨w.heap.size + 1, 0, none⟩ = some (.slice AF fr.length cf) ∧ w'.cell? ⟨w.heap.size + 1 + 1, 0, none⟩ = some (.int .i64 a) ∧ w'.cell? ⟨w.heap.size + 1 + 1, 1, none⟩ = some (.int .i64 lv) ∧ w'.cell? ⟨wq.heap.size, 0, none⟩ = some (.int .i64 x1) ∧ w'.cell? ⟨wq.heap.size, 1, none⟩ = some (.int .i64 x2))
                ((refine HSx.out _ ?_; first | assumption | (repeat' (first | (with_reducible exact Below.refl _ _) | (with_reducible refine Below.alloc ?_ ?_ _) | (with_reducible refine Below.setCell ?_ ?_ _) | (with_reducible refine Below.drew ?_) | (with_reducible assumption) | omega | (simp; done) | (simp; omega)))))
                (first | (go_at_call_of 29 (Value.int .i64 (k : Int)); go_split_ands; refine (RDk.out _ (by omega) (by assumption) (Tr.Ints.of_lt (HF.out.below (by assumption)) (by first | (simp; done) | (simp; omega) | omega))).mono ?_; rintro e wD ⟨rfl, rfl⟩) | (go_at_call_of 13 (Value.agg #[.int .i64 r, .int .i64 p]); go_split_ands; refine (TT.out _).mono ?_; rintro e wE ⟨rfl, hrE⟩; have hbE := carry2 (w := X) (by assumption) hrE; have sE := hbE.size; obtain ⟨hcE, hzE⟩ := bcell hrE; have rE := hrE.size; try simp only [World.size_alloc, World.size_drew] at rE))
              all_goals
                go_wp2_with fail
                go_meet
                first
                | exact ⟨wE.heap.size, rfl, rfl, rfl, sE, by simp, ⟨by simp [go_sem], by simp [go_sem], by simp [go_sem], by simp [go_sem]⟩, hbE.alloc sE _⟩
                | (have t0 : wE.cell? ⟨X.heap.size, 0, none⟩ = some (.int .i64 0) := by rw [hcE _ _ (by simp)]; simp [go_sem]
                   have t1 : wE.cell? ⟨X.heap.size, 1, none⟩ = some (.int .i64 0) := by rw [hcE _ _ (by simp)]; simp [go_sem]
                   have z0 : wE.frozen? ⟨X.heap.size, 0, none⟩ = false := by rw [hzE _ _ (by simp)]; simp [go_sem]
                   have z1 : wE.frozen? ⟨X.heap.size, 1, none⟩ = false := by rw [hzE _ _ (by simp)]; simp [go_sem]
                   exact ⟨X.heap.size, rfl, rfl, rfl, Nat.le_refl _, by simp [World.setCell]; omega, ((⟨t0, t1, z0, z1⟩ : It.Box2 wE X.heap.size 0 0).set0 _).set1 _, (hbE.setCell (p := ⟨X.heap.size, 0, none⟩) (Nat.le_refl _) _).setCell (p := ⟨X.heap.size, 1, none⟩) (Nat.le_refl _) _⟩)
            case rest =>
              clear HSx TT
              obtain ⟨g17, rfl, rfl, rfl, hg17a, hg17b, hbn, hbc⟩ := hcut
              obtain ⟨Y, rfl⟩ : ∃ Y : World, Y = wc := ⟨_, rfl⟩
              have HBN := Lib.hid hbn
              have hm_Y : Below X.heap.size X Y := hbc
              have q_Y := hm_Y.size
              replace c_s_0 := below_cell hm_Y c_s_0 lt_X_0_0
              replace c_s_1 := below_cell hm_Y c_s_1 lt_X_0_0
              replace c_f_0 := below_cell hm_Y c_f_0 lt_X_0_1
              replace c_e_0 := below_cell hm_Y c_e_0 lt_X_0_2
              replace f_e_0 := (hm_Y.frozen (p := ⟨w.heap.size + 1 + 1, 0, none⟩) lt_X_0_2).trans f_e_0
              replace c_e_1 := below_cell hm_Y c_e_1 lt_X_0_2
              replace f_e_1 := (hm_Y.frozen (p := ⟨w.heap.size + 1 + 1, 1, none⟩) lt_X_0_2).trans f_e_1
              replace c_x_0 := below_cell hm_Y c_x_0 lt_X_1_0
              replace c_x_1 := below_cell hm_Y c_x_1 lt_X_1_0
              replace HA := Lib.hid ((HA.out.below hm_Y).of_lt hm_Y.size)
              replace HF := Lib.hid ((HF.out.below hm_Y).of_lt hm_Y.size)
              replace A0 := Lib.hid (A0.out.trans (hm_Y.mono A0.out.size))
              replace KQ := Lib.hid (KQ.out.trans (hm_Y.mono KQ.out.size))
              have lt_Y_0_2 : w.heap.size + 1 + 1 < Y.heap.size := by omega
              have lt_Y_0_1 : w.heap.size + 1 < Y.heap.size := Nat.lt_of_succ_lt lt_Y_0_2
              have lt_Y_0_0 : w.heap.size < Y.heap.size := Nat.lt_of_succ_lt lt_Y_0_1
              obtain ⟨le_Y_0_0, le_Y_0_1, le_Y_0_2, le_Y_0_3, lu_Y_0_1, lu_Y_0_2, lu_Y_0_3⟩ := lts lt_Y_0_0
              have lt_Y_1_0 : wq.heap.size < Y.heap.size := by omega
              obtain ⟨le_Y_1_0, le_Y_1_1, le_Y_1_2, le_Y_1_3, lu_Y_1_1, lu_Y_1_2, lu_Y_1_3⟩ := lts lt_Y_1_0
              clear le_X_0_0 le_X_0_1 le_X_0_2 le_X_0_3 lu_X_0_1 lu_X_0_2 lu_X_0_3 lt_X_0_0 lt_X_0_1 lt_X_0_2
              clear le_X_1_0 le_X_1_1 le_X_1_2 le_X_1_3 lu_X_1_1 lu_X_1_2 lu_X_1_3 lt_X_1_0
              clear hm_Y
              clear hbc hbn
              go_wp2_with fail
              exact bodyPost_ret (v := .tuple #[.slice none 0 0, .agg #[.int .i64 0, .int .i64 0], .int .i64 6]) (by simp [results, Try.results17, go_sem, c_e_0, c_e_1]) rfl ⟨.inl ⟨G4.out, rfl⟩, by have hb := A0.out; have := hb.size; (repeat' (first | (with_reducible exact Below.refl _ _) | (with_reducible refine Below.alloc ?_ ?_ _) | (with_reducible refine Below.setCell ?_ ?_ _) | (with_reducible refine Below.drew ?_) | (with_reducible assumption) | omega | (simp; done) | (simp; omega)))⟩
          · rw [ho] at TT
            rw [ho] at G4
            simp only [if_true, Bool.true_and] at TT G4
            have TT := Lib.hid TT
            clear hE
            go_upto_region 19 with fail
            obtain ⟨X, hX⟩ : ∃ X, (wq.alloc (.cells #[.int .i64 x1, .int .i64 x2] 49)) = X := ⟨_, rfl⟩
            have hm_X : Below wq.heap.size wq X := by rw [← hX]; (repeat' (first | (with_reducible exact Below.refl _ _) | (with_reducible refine Below.alloc ?_ ?_ _) | (with_reducible refine Below.setCell ?_ ?_ _) | (with_reducible refine Below.drew ?_) | (with_reducible assumption) | omega | (simp; done) | (simp; omega)))
            have q_X : wq.heap.size + 1 ≤ X.heap.size := by rw [← hX]; simp
            replace c_s_0 := below_cell hm_X c_s_0 lt_wq_0_0
            replace c_s_1 := below_cell hm_X c_s_1 lt_wq_0_0
            replace c_f_0 := below_cell hm_X c_f_0 lt_wq_0_1
            replace c_e_0 := below_cell hm_X c_e_0 lt_wq_0_2
            replace f_e_0 := (hm_X.frozen (p := ⟨w.heap.size + 1 + 1, 0, none⟩) lt_wq_0_2).trans f_e_0
            replace c_e_1 := below_cell hm_X c_e_1 lt_wq_0_2
            replace f_e_1 := (hm_X.frozen (p := ⟨w.heap.size + 1 + 1, 1, none⟩) lt_wq_0_2).trans f_e_1
            replace HA := Lib.hid ((HA.out.below hm_X).of_lt hm_X.size)
            replace HF := Lib.hid ((HF.out.below hm_X).of_lt hm_X.size)
            replace A0 := Lib.hid (A0.out.trans (hm_X.mono A0.out.size))
            replace KQ := Lib.hid (KQ.out.trans (hm_X.mono KQ.out.size))
            have c_x_0 : X.cell? ⟨wq.heap.size, 0, none⟩ = some (.int .i64 x1) := by rw [← hX]; simp [go_sem]
            have c_x_1 : X.cell? ⟨wq.heap.size, 1, none⟩ = some (.int .i64 x2) := by rw [← hX]; simp [go_sem]
            rw [hX]
            have lt_X_0_2 : w.heap.size + 1 + 1 < X.heap.size := by omega
            have lt_X_0_1 : w.heap.size + 1 < X.heap.size := Nat.lt_of_succ_lt lt_X_0_2
            have lt_X_0_0 : w.heap.size < X.heap.size := Nat.lt_of_succ_lt lt_X_0_1
            obtain ⟨le_X_0_0, le_X_0_1, le_X_0_2, le_X_0_3, lu_X_0_1, lu_X_0_2, lu_X_0_3⟩ := lts lt_X_0_0
            have lt_X_1_0 : wq.heap.size < X.heap.size := by omega
            obtain ⟨le_X_1_0, le_X_1_1, le_X_1_2, le_X_1_3, lu_X_1_1, lu_X_1_2, lu_X_1_3⟩ := lts lt_X_1_0
            clear le_wq_0_0 le_wq_0_1 le_wq_0_2 le_wq_0_3 lu_wq_0_1 lu_wq_0_2 lu_wq_0_3 lt_wq_0_0 lt_wq_0_1 lt_wq_0_2
            clear hX hm_X
            have HSx : Hid (∀ w', Below X.heap.size X w' → (Below X.heap.size X w' ∧ w'.cell? ⟨w.heap.size, 0, none⟩ = some (.int .i64 r) ∧ w'.cell? ⟨w.heap.size, 1, none⟩ = some (.int .i64 p) ∧ w'.cell? ⟨w.heap.size + 1, 0, none⟩ = some (.slice AF fr.length cf) ∧ w'.cell? ⟨w.heap.size + 1 + 1, 0, none⟩ = some (.int .i64 a) ∧ w'.cell? ⟨w.heap.size + 1 + 1, 1, none⟩ = some (.int .i64 lv) ∧ w'.cell? ⟨wq.heap.size, 0, none⟩ = some (.int .i64 x1) ∧ w'.cell? ⟨wq.heap.size, 1, none⟩ = some (.int .i64 x2))) := Lib.hid (fun w' h => ⟨h, below_cell h c_s_0 lt_X_0_0, below_cell h c_s_1 lt_X_0_0, below_cell h c_f_0 lt_X_0_1, below_cell h c_e_0 lt_X_0_2, below_cell h c_e_1 lt_X_0_2, below_cell h c_x_0 lt_X_1_0, below_cell h c_x_1 lt_X_1_0⟩)
            go_cut [16, 17, 18] (fun s16 s17 s18 wx => ∃ g17 : Nat, s16 = .int .i64 T ∧ s17 = .pointer (some ⟨g17, 0, none⟩) ∧ s18 = .int .i64 0 ∧ X.heap.size ≤ g17 ∧ g17 < wx.heap.size ∧ It.Box2 wx g17 A2 L2 ∧ Below X.heap.size X wx)
            case first =>
              go_region_held3 (fun w' => Below X.heap.size X w' ∧ w'.cell? ⟨w.heap.size, 0, none⟩ = some (.int .i64 r) ∧ w'.cell? ⟨w.heap.size, 1, none⟩ = some (.int .i64 p) ∧ w'.cell? ⟨w.heap.size + 1, 0, none⟩ = some (.slice AF fr.length cf) ∧ w'.cell? ⟨w.heap.size + 1 + 1, 0, none⟩ = some (.int .i64 a) ∧ w'.cell? ⟨w.heap.size + 1 + 1, 1, none⟩ = some (.int .i64 lv) ∧ w'.cell? ⟨wq.heap.size, 0, none⟩ = some (.int .i64 x1) ∧ w'.cell? ⟨wq.heap.size, 1, none⟩ = some (.int .i64 x2))
                ((refine HSx.out _ ?_; first | assumption | (repeat' (first | (with_reducible exact Below.refl _ _) | (with_reducible refine Below.alloc ?_ ?_ _) | (with_reducible refine Below.setCell ?_ ?_ _) | (with_reducible refine Below.drew ?_) | (with_reducible assumption) | omega | (simp; done) | (simp; omega)))))
                (first | (go_at_call_of 29 (Value.int .i64 (k : Int)); go_split_ands; refine (RDk.out _ (by omega) (by assumption) (Tr.Ints.of_lt (HF.out.below (by assumption)) (by first | (simp; done) | (simp; omega) | omega))).mono ?_; rintro e wD ⟨rfl, rfl⟩) | (go_at_call_of 13 (Value.agg #[.int .i64 r, .int .i64 p]); go_split_ands; refine (TT.out _).mono ?_; rintro e wE ⟨rfl, hrE⟩; have hbE := carry2 (w := X) (by assumption) hrE; have sE := hbE.size; obtain ⟨hcE, hzE⟩ := bcell hrE; have rE := hrE.size; try simp only [World.size_alloc, World.size_drew] at rE))
              all_goals
                go_wp2_with fail
                go_meet
                first
                | exact ⟨wE.heap.size, rfl, rfl, rfl, sE, by simp, ⟨by simp [go_sem], by simp [go_sem], by simp [go_sem], by simp [go_sem]⟩, hbE.alloc sE _⟩
                | (have t0 : wE.cell? ⟨X.heap.size, 0, none⟩ = some (.int .i64 0) := by rw [hcE _ _ (by simp)]; simp [go_sem]
                   have t1 : wE.cell? ⟨X.heap.size, 1, none⟩ = some (.int .i64 0) := by rw [hcE _ _ (by simp)]; simp [go_sem]
                   have z0 : wE.frozen? ⟨X.heap.size, 0, none⟩ = false := by rw [hzE _ _ (by simp)]; simp [go_sem]
                   have z1 : wE.frozen? ⟨X.heap.size, 1, none⟩ = false := by rw [hzE _ _ (by simp)]; simp [go_sem]
                   exact ⟨X.heap.size, rfl, rfl, rfl, Nat.le_refl _, by simp [World.setCell]; omega, ((⟨t0, t1, z0, z1⟩ : It.Box2 wE X.heap.size 0 0).set0 _).set1 _, (hbE.setCell (p := ⟨X.heap.size, 0, none⟩) (Nat.le_refl _) _).setCell (p := ⟨X.heap.size, 1, none⟩) (Nat.le_refl _) _⟩)
            case rest =>
              clear HSx TT
              obtain ⟨g17, rfl, rfl, rfl, hg17a, hg17b, hbn, hbc⟩ := hcut
              obtain ⟨Y, rfl⟩ : ∃ Y : World, Y = wc := ⟨_, rfl⟩
              have HBN := Lib.hid hbn
              have hm_Y : Below X.heap.size X Y := hbc
              have q_Y := hm_Y.size
              replace c_s_0 := below_cell hm_Y c_s_0 lt_X_0_0
              replace c_s_1 := below_cell hm_Y c_s_1 lt_X_0_0
              replace c_f_0 := below_cell hm_Y c_f_0 lt_X_0_1
              replace c_e_0 := below_cell hm_Y c_e_0 lt_X_0_2
              replace f_e_0 := (hm_Y.frozen (p := ⟨w.heap.size + 1 + 1, 0, none⟩) lt_X_0_2).trans f_e_0
              replace c_e_1 := below_cell hm_Y c_e_1 lt_X_0_2
              replace f_e_1 := (hm_Y.frozen (p := ⟨w.heap.size + 1 + 1, 1, none⟩) lt_X_0_2).trans f_e_1
              replace c_x_0 := below_cell hm_Y c_x_0 lt_X_1_0
              replace c_x_1 := below_cell hm_Y c_x_1 lt_X_1_0
              replace HA := Lib.hid ((HA.out.below hm_Y).of_lt hm_Y.size)
              replace HF := Lib.hid ((HF.out.below hm_Y).of_lt hm_Y.size)
              replace A0 := Lib.hid (A0.out.trans (hm_Y.mono A0.out.size))
              replace KQ := Lib.hid (KQ.out.trans (hm_Y.mono KQ.out.size))
              have lt_Y_0_2 : w.heap.size + 1 + 1 < Y.heap.size := by omega
              have lt_Y_0_1 : w.heap.size + 1 < Y.heap.size := Nat.lt_of_succ_lt lt_Y_0_2
              have lt_Y_0_0 : w.heap.size < Y.heap.size := Nat.lt_of_succ_lt lt_Y_0_1
              obtain ⟨le_Y_0_0, le_Y_0_1, le_Y_0_2, le_Y_0_3, lu_Y_0_1, lu_Y_0_2, lu_Y_0_3⟩ := lts lt_Y_0_0
              have lt_Y_1_0 : wq.heap.size < Y.heap.size := by omega
              obtain ⟨le_Y_1_0, le_Y_1_1, le_Y_1_2, le_Y_1_3, lu_Y_1_1, lu_Y_1_2, lu_Y_1_3⟩ := lts lt_Y_1_0
              clear le_X_0_0 le_X_0_1 le_X_0_2 le_X_0_3 lu_X_0_1 lu_X_0_2 lu_X_0_3 lt_X_0_0 lt_X_0_1 lt_X_0_2
              clear le_X_1_0 le_X_1_1 le_X_1_2 le_X_1_3 lu_X_1_1 lu_X_1_2 lu_X_1_3 lt_X_1_0
              clear hm_Y
              clear hbc hbn
              have HKY := KQ
              have HOW2 := Lib.hid (Mem.own_below HOW.out HKY.out)
              obtain ⟨A6, c6, rfl, hc6, _, ho6⟩ := Mem.own_row HOW2.out
              have hlt6 := HOW.out.lt
              skip
              have n0 := HBN.out.c0
              have n1 := HBN.out.c1
              have hpo : some (w.heap.size + 1 + 1) ≠ (Value.slice A6 k c6).ownBlock := fun e => by have := (hlt6 _ e.symm).1; omega
              have hno : some g17 ≠ (Value.slice A6 k c6).ownBlock := fun e => by have := (hlt6 _ e.symm).2; omega
              have hob : ∀ j, (Value.slice A6 k c6).ownBlock = some j → wo.heap.size ≤ j := fun j e => (hlt6 j e).1
              have HPO := Lib.hid hpo
              have HNO := Lib.hid hno
              have HOB := Lib.hid hob
              clear hpo hno hob hlt6 ho6
              have lge : w.heap.size + 1 + 1 < Y.heap.size := by omega
              have lng : g17 ≠ w.heap.size + 1 + 1 := by omega
              have q_Yo : wo.heap.size ≤ Y.heap.size := by omega
              have leo2 : w.heap.size + 1 + 1 < wo.heap.size := leo
              have HE2 : Hid (It.Box2 Y (w.heap.size + 1 + 1) a lv) := Lib.hid ⟨c_e_0, c_e_1, f_e_0, f_e_1⟩
              have HSx : Hid (∀ w', It.Near (w.heap.size + 1 + 1) (Value.slice A6 k c6).ownBlock Y w' → (It.Near (w.heap.size + 1 + 1) (Value.slice A6 k c6).ownBlock Y w' ∧ w'.frozen? ⟨w.heap.size + 1 + 1, 0, none⟩ = false ∧ w'.frozen? ⟨w.heap.size + 1 + 1, 1, none⟩ = false ∧ w'.cell? ⟨w.heap.size + 1 + 1, 0, none⟩ = some (.int .i64 (It.cellInt w' ⟨w.heap.size + 1 + 1, 0, none⟩)) ∧ w'.cell? ⟨w.heap.size + 1 + 1, 1, none⟩ = some (.int .i64 (It.cellInt w' ⟨w.heap.size + 1 + 1, 1, none⟩)) ∧ w'.cell? ⟨g17, 0, none⟩ = some (.int .i64 A2) ∧ w'.cell? ⟨g17, 1, none⟩ = some (.int .i64 L2))) := Lib.hid (fun w' h => ⟨h, h.z0.trans f_e_0, h.z1.trans f_e_1, It.cellInt_spec h.e0, It.cellInt_spec h.e1, h.cell (a := ⟨g17, 0, none⟩) lng HNO.out hg17b n0, h.cell (a := ⟨g17, 1, none⟩) lng HNO.out hg17b n1⟩)
              go_upto_region 22 with fail
              clear c_s_0
              clear c_s_1
              clear c_f_0
              clear c_x_0
              clear c_x_1
              have HO2 := ho
              go_region_held3 (fun w' => It.Near (w.heap.size + 1 + 1) (Value.slice A6 k c6).ownBlock Y w' ∧ w'.frozen? ⟨w.heap.size + 1 + 1, 0, none⟩ = false ∧ w'.frozen? ⟨w.heap.size + 1 + 1, 1, none⟩ = false ∧ w'.cell? ⟨w.heap.size + 1 + 1, 0, none⟩ = some (.int .i64 (It.cellInt w' ⟨w.heap.size + 1 + 1, 0, none⟩)) ∧ w'.cell? ⟨w.heap.size + 1 + 1, 1, none⟩ = some (.int .i64 (It.cellInt w' ⟨w.heap.size + 1 + 1, 1, none⟩)) ∧ w'.cell? ⟨g17, 0, none⟩ = some (.int .i64 A2) ∧ w'.cell? ⟨g17, 1, none⟩ = some (.int .i64 L2))
                  ((refine HSx.out _ ?_; first | assumption | (repeat' (first | (with_reducible assumption) | (with_reducible refine It.Near.drew ?_) | (with_reducible refine It.Near.alloc ?_ _) | (with_reducible refine It.Near.set0 ?_ _) | (with_reducible refine It.Near.set1 ?_ _) | (with_reducible exact It.Near.refl lge HE2.out)))))
                  (first
                    | (refine Mem.step_append _ (by rfl) (.tmp 88) (.tmp 90) _ (by rfl) wo.heap.size 3 i0_ _ 1 8 Try.underlying47 II.out.1 II.out.2.1 II.out.2.2.1 II.out.2.2.2 rfl (by omega) (.slice A6 k c6) k (Mem.ints pre) (by rfl) (by (repeat' (first | exact HOW2.out | (with_reducible refine World.ownsRow.drew ?_) | (with_reducible refine World.ownsRow.alloc ?_ _) | (with_reducible refine It.own_set ?_ leo2 _ _)))) (Y.heap.size + 1) (some ⟨Y.heap.size, 0, none⟩) 1 1 [.int .i64 T] (by rfl) rfl (Mem.Row.one (by simp [go_sem]) (Nat.lt_succ_self _)) (by intro u hu; simp at hu; subst hu; rfl) (by unfold maxLen; omega) (by omega) (by simp [World.setCell]; omega) ?_
                       intro v4 w4 hown4 hg4 hat4 hlt4
                       have HO4 : Hid (w4.ownsRow wo.heap.size 3 1 v4 (k + 1) (Mem.ints (pre ++ [T]))) := Lib.hid (by rw [Mem.ints_snoc]; exact hown4)
                       have HG4 := Lib.hid hg4
                       have hN4 : It.Near (w.heap.size + 1 + 1) (Value.slice A6 k c6).ownBlock Y w4 := It.Near.grown (by (repeat' (first | (with_reducible assumption) | (with_reducible refine It.Near.drew ?_) | (with_reducible refine It.Near.alloc ?_ _) | (with_reducible refine It.Near.set0 ?_ _) | (with_reducible refine It.Near.set1 ?_ _) | (with_reducible exact It.Near.refl lge HE2.out)))) HPO.out hg4
                       clear hown4 hg4 hat4 hlt4))
              all_goals
                go_wp2_with fail
                go_roundw
                case rel =>
                  first
                  | exact ⟨k + 1, pre ++ [T], A2, L2, by omega, by go_num, (It.own_set (It.own_set HO4.out leo2 _ _) leo2 _ _), (((It.Box2.grown (HE2.out.below (Below.alloc (Below.refl _ _) (Nat.le_refl _) _) lge).drew HG4.out (by simp; omega) HPO.out).set0 _).set1 _), HO2, by rw [G1.out]; simp, G2.out, G3.out, G4.out, (HK.out.trans (It.Kept.of_below HKY.out (by omega))).trans (It.Near.kept ((hN4.set0 _).set1 _) q_Yo HOB.out)⟩
                  | exact ⟨k + 1, pre ++ [T], A2, L2, by omega, by go_num, HO4.out, (It.Box2.grown (It.Box2.below ((HE2.out.set0 _).set1 _) (Below.alloc (Below.refl _ _) (Nat.le_refl _) _) (by simp [World.setCell]; exact lge)).drew HG4.out (by simp [World.setCell]; omega) HPO.out), HO2, by rw [G1.out]; simp, G2.out, G3.out, G4.out, (HK.out.trans (It.Kept.of_below HKY.out (by omega))).trans (It.Near.kept hN4 q_Yo HOB.out)⟩
                  | exact ⟨k + 1, pre ++ [T], A2, L2, by omega, by go_num, HO4.out, (It.Box2.grown (((It.Box2.below HE2.out (Below.alloc (Below.refl _ _) (Nat.le_refl _) _) lge).set0 _).set1 _).drew HG4.out (by simp [World.setCell]; omega) HPO.out), HO2, by rw [G1.out]; simp, G2.out, G3.out, G4.out, (HK.out.trans (It.Kept.of_below HKY.out (by omega))).trans (It.Near.kept hN4 q_Yo HOB.out)⟩
                  | exact ⟨k + 1, pre ++ [T], A2, L2, by omega, by go_num, (It.own_set (It.own_set HO4.out leo2 _ _) leo2 _ _).drew, (((It.Box2.grown (HE2.out.below (Below.alloc (Below.refl _ _) (Nat.le_refl _) _) lge).drew HG4.out (by simp; omega) HPO.out).set0 _).set1 _).drew, HO2, by rw [G1.out]; simp, G2.out, G3.out, G4.out, (HK.out.trans (It.Kept.of_below HKY.out (by omega))).trans (It.Near.kept ((hN4.set0 _).set1 _).drew q_Yo HOB.out)⟩
                  | exact ⟨k + 1, pre ++ [T], A2, L2, by omega, by go_num, HO4.out.drew, (It.Box2.grown (It.Box2.below ((HE2.out.set0 _).set1 _) (Below.alloc (Below.refl _ _) (Nat.le_refl _) _) (by simp [World.setCell]; exact lge)).drew HG4.out (by simp [World.setCell]; omega) HPO.out).drew, HO2, by rw [G1.out]; simp, G2.out, G3.out, G4.out, (HK.out.trans (It.Kept.of_below HKY.out (by omega))).trans (It.Near.kept hN4.drew q_Yo HOB.out)⟩
                  | exact ⟨k + 1, pre ++ [T], A2, L2, by omega, by go_num, HO4.out.drew, (It.Box2.grown (((It.Box2.below HE2.out (Below.alloc (Below.refl _ _) (Nat.le_refl _) _) lge).set0 _).set1 _).drew HG4.out (by simp [World.setCell]; omega) HPO.out).drew, HO2, by rw [G1.out]; simp, G2.out, G3.out, G4.out, (HK.out.trans (It.Kept.of_below HKY.out (by omega))).trans (It.Near.kept hN4.drew q_Yo HOB.out)⟩
                case measure => simp [intOf]; omega
        · have ekl : k = l.length := by omega
          have hd : (Cr.items fr l).drop k = [] := List.drop_eq_nil_of_le (by rw [Cr.items_length]; omega)
          have h1 := H1.out
          have h2 := H2.out
          have h3 := H3.out
          have h4 := H4.out
          rw [hd] at h1 h2 h3 h4
          simp only [Cr.starts, Cr.endA, Cr.endL, Cr.good, List.append_nil] at h1 h2 h3 h4
          obtain ⟨A6, c6, rfl, hR6⟩ := SmW.own_slice HOW.out
          have HR6 := Lib.hid hR6
          have J1 := Lib.hid h1
          have J2 := Lib.hid h2
          have J3 := Lib.hid h3
          have J4 := Lib.hid h4
          clear hd h1 h2 h3 h4 hR6
          subst ekl
          have leo2 : w.heap.size + 1 + 1 < wo.heap.size := leo
          go_wp2_with fail
          go_region
          all_goals go_wp2_with fail
          all_goals exact bodyPost_ret (v := .tuple #[.slice A6 l.length c6, .agg #[.int .i64 a, .int .i64 lv], .int .i64 0]) (by simp [results, Try.results17, go_sem, c_e_0, c_e_1]) rfl ⟨.inr ⟨J4.out, A6, c6, by rw [J2.out, J3.out], by rw [J1.out]; first | exact ints_at (It.own_set (It.own_set HOW.out leo2 _ _) leo2 _ _).drew | exact ints_at (It.own_set (It.own_set HOW.out leo2 _ _) leo2 _ _)⟩, by have hb := A0.out; have := hb.size; (repeat' (first | (with_reducible exact Below.refl _ _) | (with_reducible refine Below.alloc ?_ ?_ _) | (with_reducible refine Below.setCell ?_ ?_ _) | (with_reducible refine Below.drew ?_) | (with_reducible assumption) | omega | (simp; done) | (simp; omega)))⟩
end CrW
end Go.Proofs.Ytoglmfpmeajbeaa
