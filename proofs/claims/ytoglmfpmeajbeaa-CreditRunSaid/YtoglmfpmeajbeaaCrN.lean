/- Credit-based shapers: Run. -/
import Derived.Test.YtoglmfpmeajbeaaCrS
import Derived.Test.YtoglmfpmeajbeaaSame
import Derived.Deep.DeepCutAuto
namespace Go.Proofs.Ytoglmfpmeajbeaa
set_option linter.unusedSimpArgs false
set_option linter.unusedVariables false
open Go.RowKit
namespace CrW
set_option maxRecDepth 100000
set_option maxHeartbeats 4000000
theorem ready_any (gf : Nat) (AF : Option Addr) (fr : List Int) (cf k : Nat) (w : World) (hk : k ≤ 100000) (hc : w.cell? ⟨gf, 0, none⟩ = some (.slice AF fr.length cf)) (hF : Tr.Ints w w.heap.size AF fr) :
    Calls Try.prog 29 #[.int .i64 k, .pointer (some ⟨gf, 0, none⟩)] w fun e w' => e = .returned (.int .i64 (fr.getD k 0)) ∧ w = w' := by
  by_cases h : k < fr.length
  · obtain ⟨f, hf⟩ : ∃ f, fr[k]? = some f := ⟨fr[k], List.getElem?_eq_getElem h⟩
    rw [show fr.getD k 0 = f by rw [List.getD_eq_getElem?_getD, hf]; rfl]
    obtain ⟨ad, rfl, hbk, hc0⟩ := hF k f hf
    have i0 : (0 : Int) ≤ (k : Int) := by omega
    have i1 : (k : Int) < (fr.length : Int) := by omega
    clear hf hF
    go_enter Try.func29, Try.ntmps29
    go_wp2_with fail
    go_ret
    exact ⟨rfl, rfl⟩
  · rw [show fr.getD k 0 = 0 by rw [List.getD_eq_getElem?_getD, List.getElem?_eq_none (by omega)]; rfl]
    have i1 : ¬ (k : Int) < (fr.length : Int) := by omega
    clear hF
    go_enter Try.func29, Try.ntmps29
    go_wp2_with fail
    go_ret
    exact ⟨rfl, rfl⟩
theorem Run_chk (r p : Int) (A : Option Addr) (l : List (Int × Int)) (cap : Nat) (AF : Option Addr) (fr : List Int) (cf : Nat) (h : Cr.ok r p = false) (w : World) (hA : Tr.Arr w w.heap.size A l) (hF : Tr.Ints w w.heap.size AF fr) :
    Calls Try.prog 17 #[.agg #[.int .i64 r, .int .i64 p], .slice A l.length cap, .slice AF fr.length cf] w fun e w' => e = .returned (.tuple #[.slice none 0 0, .agg #[.int .i64 0, .int .i64 0], .int .i64 450]) ∧ Below w.heap.size w w' := by
  have C1 := Check_b r p
  rw [show Cr.chk r p = 450 by unfold Cr.chk; rw [h]; rfl] at C1
  have C1 := Lib.hid C1
  clear h
  have hmf : ∀ (fn : Fn) (first cap : Array Value) (w : World), (Instr.makeFunc fn first cap).run Try.prog w = .ok (.func fn first cap) w := fun _ _ _ _ => rfl
  have HA := Lib.hid hA
  have HF := Lib.hid hF
  have HA0 := HA
  have HF0r := HF
  clear hA hF
  have A0 : Hid (Below w.heap.size w w) := Lib.hid (Below.refl _ _)
  go_enter Try.func17, Try.ntmps17
  go_wp2_with fail
  refine (C1.out _).mono ?_
  rintro e w1 ⟨rfl, hb_⟩
  have s_w1 := hb_.size
  try simp only [World.size_alloc] at s_w1
  have hm_w1 : Below w.heap.size w w1 := Below.trans (b := (((w.alloc (.cells #[.int .i64 r, .int .i64 p] 23)).alloc (.cells #[.slice AF fr.length cf] 47)).alloc (.cells #[.int .i64 0, .int .i64 0] 25))) (by (repeat' (first | (with_reducible exact Below.refl _ _) | (with_reducible refine Below.alloc ?_ ?_ _) | (with_reducible refine Below.setCell ?_ ?_ _) | (with_reducible refine Below.drew ?_) | (with_reducible assumption) | omega | (simp; done) | (simp; omega)))) (hb_.mono (by first | (simp; done) | (simp; omega)))
  have q_w1 := hm_w1.size
  replace HA := Lib.hid ((HA.out.below hm_w1).of_lt hm_w1.size)
  replace HF := Lib.hid ((HF.out.below hm_w1).of_lt hm_w1.size)
  replace A0 := Lib.hid (A0.out.trans (hm_w1.mono A0.out.size))
  have c_s_0 : w1.cell? ⟨w.heap.size, 0, none⟩ = some (.int .i64 r) := by rw [(bcell hb_).1 _ _ (by first | (simp; done) | (simp; omega))]; simp [go_sem]
  have c_s_1 : w1.cell? ⟨w.heap.size, 1, none⟩ = some (.int .i64 p) := by rw [(bcell hb_).1 _ _ (by first | (simp; done) | (simp; omega))]; simp [go_sem]
  have c_f_0 : w1.cell? ⟨w.heap.size + 1, 0, none⟩ = some (.slice AF fr.length cf) := by rw [(bcell hb_).1 _ _ (by first | (simp; done) | (simp; omega))]; simp [go_sem]
  have c_e_0 : w1.cell? ⟨w.heap.size + 1 + 1, 0, none⟩ = some (.int .i64 0) := by rw [(bcell hb_).1 _ _ (by first | (simp; done) | (simp; omega))]; simp [go_sem]
  have f_e_0 : w1.frozen? ⟨w.heap.size + 1 + 1, 0, none⟩ = false := by rw [(bcell hb_).2 _ _ (by first | (simp; done) | (simp; omega))]; simp [go_sem]
  have c_e_1 : w1.cell? ⟨w.heap.size + 1 + 1, 1, none⟩ = some (.int .i64 0) := by rw [(bcell hb_).1 _ _ (by first | (simp; done) | (simp; omega))]; simp [go_sem]
  have f_e_1 : w1.frozen? ⟨w.heap.size + 1 + 1, 1, none⟩ = false := by rw [(bcell hb_).2 _ _ (by first | (simp; done) | (simp; omega))]; simp [go_sem]
  have lt_w1_0_2 : w.heap.size + 1 + 1 < w1.heap.size := by omega
  have lt_w1_0_1 : w.heap.size + 1 < w1.heap.size := Nat.lt_of_succ_lt lt_w1_0_2
  have lt_w1_0_0 : w.heap.size < w1.heap.size := Nat.lt_of_succ_lt lt_w1_0_1
  obtain ⟨le_w1_0_0, le_w1_0_1, le_w1_0_2, le_w1_0_3, lu_w1_0_1, lu_w1_0_2, lu_w1_0_3⟩ := lts lt_w1_0_0
  clear hm_w1
  clear hb_
  go_wp2_with fail
  go_region
  all_goals go_wp2_with fail
  all_goals exact bodyPost_ret (v := .tuple #[.slice none 0 0, .agg #[.int .i64 0, .int .i64 0], .int .i64 450]) (by simp [results, Try.results17, go_sem, c_e_0, c_e_1]) rfl ⟨rfl, by have hb := A0.out; have := hb.size; (repeat' (first | (with_reducible exact Below.refl _ _) | (with_reducible refine Below.alloc ?_ ?_ _) | (with_reducible refine Below.setCell ?_ ?_ _) | (with_reducible refine Below.drew ?_) | (with_reducible assumption) | omega | (simp; done) | (simp; omega)))⟩
theorem Run_trace (r p : Int) (A : Option Addr) (l : List (Int × Int)) (cap : Nat) (AF : Option Addr) (fr : List Int) (cf : Nat) (h : Cr.ok r p = true) (hl : l.length ≤ 100000) (ht : Tr.chk l = 131) (w : World) (hA : Tr.Arr w w.heap.size A l) (hF : Tr.Ints w w.heap.size AF fr) :
    Calls Try.prog 17 #[.agg #[.int .i64 r, .int .i64 p], .slice A l.length cap, .slice AF fr.length cf] w fun e w' => e = .returned (.tuple #[.slice none 0 0, .agg #[.int .i64 0, .int .i64 0], .int .i64 131]) ∧ Below w.heap.size w w' := by
  have C1 := Check_b r p
  rw [show Cr.chk r p = 0 by unfold Cr.chk; rw [h]; rfl] at C1
  have C1 := Lib.hid C1
  have C2 := Lib.hid (fun W hA => BkW.CheckTrace_any A l cap W hA hl)
  rw [show Tr.chk l = 131 from ht] at C2
  clear h ht
  have hmf : ∀ (fn : Fn) (first cap : Array Value) (w : World), (Instr.makeFunc fn first cap).run Try.prog w = .ok (.func fn first cap) w := fun _ _ _ _ => rfl
  have HA := Lib.hid hA
  have HF := Lib.hid hF
  have HA0 := HA
  have HF0r := HF
  clear hA hF
  have A0 : Hid (Below w.heap.size w w) := Lib.hid (Below.refl _ _)
  go_enter Try.func17, Try.ntmps17
  go_wp2_with fail
  refine (C1.out _).mono ?_
  rintro e w1 ⟨rfl, hb_⟩
  have s_w1 := hb_.size
  try simp only [World.size_alloc] at s_w1
  have hm_w1 : Below w.heap.size w w1 := Below.trans (b := (((w.alloc (.cells #[.int .i64 r, .int .i64 p] 23)).alloc (.cells #[.slice AF fr.length cf] 47)).alloc (.cells #[.int .i64 0, .int .i64 0] 25))) (by (repeat' (first | (with_reducible exact Below.refl _ _) | (with_reducible refine Below.alloc ?_ ?_ _) | (with_reducible refine Below.setCell ?_ ?_ _) | (with_reducible refine Below.drew ?_) | (with_reducible assumption) | omega | (simp; done) | (simp; omega)))) (hb_.mono (by first | (simp; done) | (simp; omega)))
  have q_w1 := hm_w1.size
  replace HA := Lib.hid ((HA.out.below hm_w1).of_lt hm_w1.size)
  replace HF := Lib.hid ((HF.out.below hm_w1).of_lt hm_w1.size)
  replace A0 := Lib.hid (A0.out.trans (hm_w1.mono A0.out.size))
  have c_s_0 : w1.cell? ⟨w.heap.size, 0, none⟩ = some (.int .i64 r) := by rw [(bcell hb_).1 _ _ (by first | (simp; done) | (simp; omega))]; simp [go_sem]
  have c_s_1 : w1.cell? ⟨w.heap.size, 1, none⟩ = some (.int .i64 p) := by rw [(bcell hb_).1 _ _ (by first | (simp; done) | (simp; omega))]; simp [go_sem]
  have c_f_0 : w1.cell? ⟨w.heap.size + 1, 0, none⟩ = some (.slice AF fr.length cf) := by rw [(bcell hb_).1 _ _ (by first | (simp; done) | (simp; omega))]; simp [go_sem]
  have c_e_0 : w1.cell? ⟨w.heap.size + 1 + 1, 0, none⟩ = some (.int .i64 0) := by rw [(bcell hb_).1 _ _ (by first | (simp; done) | (simp; omega))]; simp [go_sem]
  have f_e_0 : w1.frozen? ⟨w.heap.size + 1 + 1, 0, none⟩ = false := by rw [(bcell hb_).2 _ _ (by first | (simp; done) | (simp; omega))]; simp [go_sem]
  have c_e_1 : w1.cell? ⟨w.heap.size + 1 + 1, 1, none⟩ = some (.int .i64 0) := by rw [(bcell hb_).1 _ _ (by first | (simp; done) | (simp; omega))]; simp [go_sem]
  have f_e_1 : w1.frozen? ⟨w.heap.size + 1 + 1, 1, none⟩ = false := by rw [(bcell hb_).2 _ _ (by first | (simp; done) | (simp; omega))]; simp [go_sem]
  have lt_w1_0_2 : w.heap.size + 1 + 1 < w1.heap.size := by omega
  have lt_w1_0_1 : w.heap.size + 1 < w1.heap.size := Nat.lt_of_succ_lt lt_w1_0_2
  have lt_w1_0_0 : w.heap.size < w1.heap.size := Nat.lt_of_succ_lt lt_w1_0_1
  obtain ⟨le_w1_0_0, le_w1_0_1, le_w1_0_2, le_w1_0_3, lu_w1_0_1, lu_w1_0_2, lu_w1_0_3⟩ := lts lt_w1_0_0
  clear hm_w1
  clear hb_
  go_wp2_with fail
  refine (C2.out _ HA.out).mono ?_
  rintro e w2 ⟨rfl, hb_⟩
  have hm_w2 : Below w1.heap.size w1 w2 := hb_
  have q_w2 := hm_w2.size
  replace c_s_0 := below_cell hm_w2 c_s_0 lt_w1_0_0
  replace c_s_1 := below_cell hm_w2 c_s_1 lt_w1_0_0
  replace c_f_0 := below_cell hm_w2 c_f_0 lt_w1_0_1
  replace c_e_0 := below_cell hm_w2 c_e_0 lt_w1_0_2
  replace f_e_0 := (hm_w2.frozen (p := ⟨w.heap.size + 1 + 1, 0, none⟩) lt_w1_0_2).trans f_e_0
  replace c_e_1 := below_cell hm_w2 c_e_1 lt_w1_0_2
  replace f_e_1 := (hm_w2.frozen (p := ⟨w.heap.size + 1 + 1, 1, none⟩) lt_w1_0_2).trans f_e_1
  replace HA := Lib.hid ((HA.out.below hm_w2).of_lt hm_w2.size)
  replace HF := Lib.hid ((HF.out.below hm_w2).of_lt hm_w2.size)
  replace A0 := Lib.hid (A0.out.trans (hm_w2.mono A0.out.size))
  have lt_w2_0_2 : w.heap.size + 1 + 1 < w2.heap.size := by omega
  have lt_w2_0_1 : w.heap.size + 1 < w2.heap.size := Nat.lt_of_succ_lt lt_w2_0_2
  have lt_w2_0_0 : w.heap.size < w2.heap.size := Nat.lt_of_succ_lt lt_w2_0_1
  obtain ⟨le_w2_0_0, le_w2_0_1, le_w2_0_2, le_w2_0_3, lu_w2_0_1, lu_w2_0_2, lu_w2_0_3⟩ := lts lt_w2_0_0
  clear le_w1_0_0 le_w1_0_1 le_w1_0_2 le_w1_0_3 lu_w1_0_1 lu_w1_0_2 lu_w1_0_3 lt_w1_0_0 lt_w1_0_1 lt_w1_0_2
  clear hm_w2
  clear hb_
  go_wp2_with fail
  go_region
  all_goals go_wp2_with fail
  all_goals exact bodyPost_ret (v := .tuple #[.slice none 0 0, .agg #[.int .i64 0, .int .i64 0], .int .i64 131]) (by simp [results, Try.results17, go_sem, c_e_0, c_e_1]) rfl ⟨rfl, by have hb := A0.out; have := hb.size; (repeat' (first | (with_reducible exact Below.refl _ _) | (with_reducible refine Below.alloc ?_ ?_ _) | (with_reducible refine Below.setCell ?_ ?_ _) | (with_reducible refine Below.drew ?_) | (with_reducible assumption) | omega | (simp; done) | (simp; omega)))⟩
theorem Run_long (r p : Int) (A : Option Addr) (l : List (Int × Int)) (cap : Nat) (AF : Option Addr) (fr : List Int) (cf : Nat) (h : Cr.ok r p = true) (hl : l.length ≤ 100000) (ht : Tr.chk l = 0) (hn : l.length < fr.length) (w : World) (hA : Tr.Arr w w.heap.size A l) (hF : Tr.Ints w w.heap.size AF fr) :
    Calls Try.prog 17 #[.agg #[.int .i64 r, .int .i64 p], .slice A l.length cap, .slice AF fr.length cf] w fun e w' => e = .returned (.tuple #[.slice none 0 0, .agg #[.int .i64 0, .int .i64 0], .int .i64 3]) ∧ Below w.heap.size w w' := by
  have C1 := Check_b r p
  rw [show Cr.chk r p = 0 by unfold Cr.chk; rw [h]; rfl] at C1
  have C1 := Lib.hid C1
  have C2 := Lib.hid (fun W hA => BkW.CheckTrace_any A l cap W hA hl)
  rw [show Tr.chk l = 0 from ht] at C2
  have hn2 : (l.length : Int) < (fr.length : Int) := by omega
  clear h ht
  have hmf : ∀ (fn : Fn) (first cap : Array Value) (w : World), (Instr.makeFunc fn first cap).run Try.prog w = .ok (.func fn first cap) w := fun _ _ _ _ => rfl
  have HA := Lib.hid hA
  have HF := Lib.hid hF
  have HA0 := HA
  have HF0r := HF
  clear hA hF
  have A0 : Hid (Below w.heap.size w w) := Lib.hid (Below.refl _ _)
  go_enter Try.func17, Try.ntmps17
  go_wp2_with fail
  refine (C1.out _).mono ?_
  rintro e w1 ⟨rfl, hb_⟩
  have s_w1 := hb_.size
  try simp only [World.size_alloc] at s_w1
  have hm_w1 : Below w.heap.size w w1 := Below.trans (b := (((w.alloc (.cells #[.int .i64 r, .int .i64 p] 23)).alloc (.cells #[.slice AF fr.length cf] 47)).alloc (.cells #[.int .i64 0, .int .i64 0] 25))) (by (repeat' (first | (with_reducible exact Below.refl _ _) | (with_reducible refine Below.alloc ?_ ?_ _) | (with_reducible refine Below.setCell ?_ ?_ _) | (with_reducible refine Below.drew ?_) | (with_reducible assumption) | omega | (simp; done) | (simp; omega)))) (hb_.mono (by first | (simp; done) | (simp; omega)))
  have q_w1 := hm_w1.size
  replace HA := Lib.hid ((HA.out.below hm_w1).of_lt hm_w1.size)
  replace HF := Lib.hid ((HF.out.below hm_w1).of_lt hm_w1.size)
  replace A0 := Lib.hid (A0.out.trans (hm_w1.mono A0.out.size))
  have c_s_0 : w1.cell? ⟨w.heap.size, 0, none⟩ = some (.int .i64 r) := by rw [(bcell hb_).1 _ _ (by first | (simp; done) | (simp; omega))]; simp [go_sem]
  have c_s_1 : w1.cell? ⟨w.heap.size, 1, none⟩ = some (.int .i64 p) := by rw [(bcell hb_).1 _ _ (by first | (simp; done) | (simp; omega))]; simp [go_sem]
  have c_f_0 : w1.cell? ⟨w.heap.size + 1, 0, none⟩ = some (.slice AF fr.length cf) := by rw [(bcell hb_).1 _ _ (by first | (simp; done) | (simp; omega))]; simp [go_sem]
  have c_e_0 : w1.cell? ⟨w.heap.size + 1 + 1, 0, none⟩ = some (.int .i64 0) := by rw [(bcell hb_).1 _ _ (by first | (simp; done) | (simp; omega))]; simp [go_sem]
  have f_e_0 : w1.frozen? ⟨w.heap.size + 1 + 1, 0, none⟩ = false := by rw [(bcell hb_).2 _ _ (by first | (simp; done) | (simp; omega))]; simp [go_sem]
  have c_e_1 : w1.cell? ⟨w.heap.size + 1 + 1, 1, none⟩ = some (.int .i64 0) := by rw [(bcell hb_).1 _ _ (by first | (simp; done) | (simp; omega))]; simp [go_sem]
  have f_e_1 : w1.frozen? ⟨w.heap.size + 1 + 1, 1, none⟩ = false := by rw [(bcell hb_).2 _ _ (by first | (simp; done) | (simp; omega))]; simp [go_sem]
  have lt_w1_0_2 : w.heap.size + 1 + 1 < w1.heap.size := by omega
  have lt_w1_0_1 : w.heap.size + 1 < w1.heap.size := Nat.lt_of_succ_lt lt_w1_0_2
  have lt_w1_0_0 : w.heap.size < w1.heap.size := Nat.lt_of_succ_lt lt_w1_0_1
  obtain ⟨le_w1_0_0, le_w1_0_1, le_w1_0_2, le_w1_0_3, lu_w1_0_1, lu_w1_0_2, lu_w1_0_3⟩ := lts lt_w1_0_0
  clear hm_w1
  clear hb_
  go_wp2_with fail
  refine (C2.out _ HA.out).mono ?_
  rintro e w2 ⟨rfl, hb_⟩
  have hm_w2 : Below w1.heap.size w1 w2 := hb_
  have q_w2 := hm_w2.size
  replace c_s_0 := below_cell hm_w2 c_s_0 lt_w1_0_0
  replace c_s_1 := below_cell hm_w2 c_s_1 lt_w1_0_0
  replace c_f_0 := below_cell hm_w2 c_f_0 lt_w1_0_1
  replace c_e_0 := below_cell hm_w2 c_e_0 lt_w1_0_2
  replace f_e_0 := (hm_w2.frozen (p := ⟨w.heap.size + 1 + 1, 0, none⟩) lt_w1_0_2).trans f_e_0
  replace c_e_1 := below_cell hm_w2 c_e_1 lt_w1_0_2
  replace f_e_1 := (hm_w2.frozen (p := ⟨w.heap.size + 1 + 1, 1, none⟩) lt_w1_0_2).trans f_e_1
  replace HA := Lib.hid ((HA.out.below hm_w2).of_lt hm_w2.size)
  replace HF := Lib.hid ((HF.out.below hm_w2).of_lt hm_w2.size)
  replace A0 := Lib.hid (A0.out.trans (hm_w2.mono A0.out.size))
  have lt_w2_0_2 : w.heap.size + 1 + 1 < w2.heap.size := by omega
  have lt_w2_0_1 : w.heap.size + 1 < w2.heap.size := Nat.lt_of_succ_lt lt_w2_0_2
  have lt_w2_0_0 : w.heap.size < w2.heap.size := Nat.lt_of_succ_lt lt_w2_0_1
  obtain ⟨le_w2_0_0, le_w2_0_1, le_w2_0_2, le_w2_0_3, lu_w2_0_1, lu_w2_0_2, lu_w2_0_3⟩ := lts lt_w2_0_0
  clear le_w1_0_0 le_w1_0_1 le_w1_0_2 le_w1_0_3 lu_w1_0_1 lu_w1_0_2 lu_w1_0_3 lt_w1_0_0 lt_w1_0_1 lt_w1_0_2
  clear hm_w2
  clear hb_
  go_wp2_with fail
  go_region
  all_goals go_wp2_with fail
  all_goals exact bodyPost_ret (v := .tuple #[.slice none 0 0, .agg #[.int .i64 0, .int .i64 0], .int .i64 3]) (by simp [results, Try.results17, go_sem, c_e_0, c_e_1]) rfl ⟨rfl, by have hb := A0.out; have := hb.size; (repeat' (first | (with_reducible exact Below.refl _ _) | (with_reducible refine Below.alloc ?_ ?_ _) | (with_reducible refine Below.setCell ?_ ?_ _) | (with_reducible refine Below.drew ?_) | (with_reducible assumption) | omega | (simp; done) | (simp; omega)))⟩
theorem Run_arg (r p : Int) (A : Option Addr) (l : List (Int × Int)) (cap : Nat) (AF : Option Addr) (fr : List Int) (cf : Nat) (h : Cr.ok r p = true) (hl : l.length ≤ 100000) (ht : Tr.chk l = 0) (hn : fr.length ≤ l.length) (m : Nat) (y1 y2 : Int) (hm0 : l[m]? = some (y1, y2)) (hbad : ¬ ((0 ≤ y1 ∧ y1 ≤ 1073741824) ∧ (0 ≤ fr.getD m 0 ∧ fr.getD m 0 ≤ 1073741824) ∧ y2 ≤ 1542)) (hok : ∀ k x1 x2, l[k]? = some (x1, x2) → k < m → (0 ≤ x1 ∧ x1 ≤ 1073741824) ∧ (0 ≤ fr.getD k 0 ∧ fr.getD k 0 ≤ 1073741824) ∧ x2 ≤ 1542) (w : World) (hA : Tr.Arr w w.heap.size A l) (hF : Tr.Ints w w.heap.size AF fr) :
    Calls Try.prog 17 #[.agg #[.int .i64 r, .int .i64 p], .slice A l.length cap, .slice AF fr.length cf] w fun e w' => e = .returned (.tuple #[.slice none 0 0, .agg #[.int .i64 0, .int .i64 0], .int .i64 2]) ∧ Below w.heap.size w w' := by
  have C1 := Check_b r p
  rw [show Cr.chk r p = 0 by unfold Cr.chk; rw [h]; rfl] at C1
  have C1 := Lib.hid C1
  have C2 := Lib.hid (fun W hA => BkW.CheckTrace_any A l cap W hA hl)
  rw [show Tr.chk l = 0 from ht] at C2
  have hn2 : decide ((l.length : Int) < (fr.length : Int)) = false := decide_eq_false (by omega)
  have hn3 : decide (l.length < fr.length) = false := decide_eq_false (by omega)
  have hml : m < l.length := (List.getElem?_eq_some_iff.1 hm0).1
  have HOK := Lib.hid hok
  have HM0 := Lib.hid hm0
  clear h ht hok hm0
  have hmf : ∀ (fn : Fn) (first cap : Array Value) (w : World), (Instr.makeFunc fn first cap).run Try.prog w = .ok (.func fn first cap) w := fun _ _ _ _ => rfl
  have HA := Lib.hid hA
  have HF := Lib.hid hF
  have HA0 := HA
  have HF0r := HF
  clear hA hF
  have A0 : Hid (Below w.heap.size w w) := Lib.hid (Below.refl _ _)
  go_enter Try.func17, Try.ntmps17
  go_wp2_with fail
  refine (C1.out _).mono ?_
  rintro e w1 ⟨rfl, hb_⟩
  have s_w1 := hb_.size
  try simp only [World.size_alloc] at s_w1
  have hm_w1 : Below w.heap.size w w1 := Below.trans (b := (((w.alloc (.cells #[.int .i64 r, .int .i64 p] 23)).alloc (.cells #[.slice AF fr.length cf] 47)).alloc (.cells #[.int .i64 0, .int .i64 0] 25))) (by (repeat' (first | (with_reducible exact Below.refl _ _) | (with_reducible refine Below.alloc ?_ ?_ _) | (with_reducible refine Below.setCell ?_ ?_ _) | (with_reducible refine Below.drew ?_) | (with_reducible assumption) | omega | (simp; done) | (simp; omega)))) (hb_.mono (by first | (simp; done) | (simp; omega)))
  have q_w1 := hm_w1.size
  replace HA := Lib.hid ((HA.out.below hm_w1).of_lt hm_w1.size)
  replace HF := Lib.hid ((HF.out.below hm_w1).of_lt hm_w1.size)
  replace A0 := Lib.hid (A0.out.trans (hm_w1.mono A0.out.size))
  have c_s_0 : w1.cell? ⟨w.heap.size, 0, none⟩ = some (.int .i64 r) := by rw [(bcell hb_).1 _ _ (by first | (simp; done) | (simp; omega))]; simp [go_sem]
  have c_s_1 : w1.cell? ⟨w.heap.size, 1, none⟩ = some (.int .i64 p) := by rw [(bcell hb_).1 _ _ (by first | (simp; done) | (simp; omega))]; simp [go_sem]
  have c_f_0 : w1.cell? ⟨w.heap.size + 1, 0, none⟩ = some (.slice AF fr.length cf) := by rw [(bcell hb_).1 _ _ (by first | (simp; done) | (simp; omega))]; simp [go_sem]
  have c_e_0 : w1.cell? ⟨w.heap.size + 1 + 1, 0, none⟩ = some (.int .i64 0) := by rw [(bcell hb_).1 _ _ (by first | (simp; done) | (simp; omega))]; simp [go_sem]
  have f_e_0 : w1.frozen? ⟨w.heap.size + 1 + 1, 0, none⟩ = false := by rw [(bcell hb_).2 _ _ (by first | (simp; done) | (simp; omega))]; simp [go_sem]
  have c_e_1 : w1.cell? ⟨w.heap.size + 1 + 1, 1, none⟩ = some (.int .i64 0) := by rw [(bcell hb_).1 _ _ (by first | (simp; done) | (simp; omega))]; simp [go_sem]
  have f_e_1 : w1.frozen? ⟨w.heap.size + 1 + 1, 1, none⟩ = false := by rw [(bcell hb_).2 _ _ (by first | (simp; done) | (simp; omega))]; simp [go_sem]
  have lt_w1_0_2 : w.heap.size + 1 + 1 < w1.heap.size := by omega
  have lt_w1_0_1 : w.heap.size + 1 < w1.heap.size := Nat.lt_of_succ_lt lt_w1_0_2
  have lt_w1_0_0 : w.heap.size < w1.heap.size := Nat.lt_of_succ_lt lt_w1_0_1
  obtain ⟨le_w1_0_0, le_w1_0_1, le_w1_0_2, le_w1_0_3, lu_w1_0_1, lu_w1_0_2, lu_w1_0_3⟩ := lts lt_w1_0_0
  clear hm_w1
  clear hb_
  go_wp2_with fail
  refine (C2.out _ HA.out).mono ?_
  rintro e w2 ⟨rfl, hb_⟩
  have hm_w2 : Below w1.heap.size w1 w2 := hb_
  have q_w2 := hm_w2.size
  replace c_s_0 := below_cell hm_w2 c_s_0 lt_w1_0_0
  replace c_s_1 := below_cell hm_w2 c_s_1 lt_w1_0_0
  replace c_f_0 := below_cell hm_w2 c_f_0 lt_w1_0_1
  replace c_e_0 := below_cell hm_w2 c_e_0 lt_w1_0_2
  replace f_e_0 := (hm_w2.frozen (p := ⟨w.heap.size + 1 + 1, 0, none⟩) lt_w1_0_2).trans f_e_0
  replace c_e_1 := below_cell hm_w2 c_e_1 lt_w1_0_2
  replace f_e_1 := (hm_w2.frozen (p := ⟨w.heap.size + 1 + 1, 1, none⟩) lt_w1_0_2).trans f_e_1
  replace HA := Lib.hid ((HA.out.below hm_w2).of_lt hm_w2.size)
  replace HF := Lib.hid ((HF.out.below hm_w2).of_lt hm_w2.size)
  replace A0 := Lib.hid (A0.out.trans (hm_w2.mono A0.out.size))
  have lt_w2_0_2 : w.heap.size + 1 + 1 < w2.heap.size := by omega
  have lt_w2_0_1 : w.heap.size + 1 < w2.heap.size := Nat.lt_of_succ_lt lt_w2_0_2
  have lt_w2_0_0 : w.heap.size < w2.heap.size := Nat.lt_of_succ_lt lt_w2_0_1
  obtain ⟨le_w2_0_0, le_w2_0_1, le_w2_0_2, le_w2_0_3, lu_w2_0_1, lu_w2_0_2, lu_w2_0_3⟩ := lts lt_w2_0_0
  clear le_w1_0_0 le_w1_0_1 le_w1_0_2 le_w1_0_3 lu_w1_0_1 lu_w1_0_2 lu_w1_0_3 lt_w1_0_0 lt_w1_0_1 lt_w1_0_2
  clear hm_w2
  clear hb_
  have RD := Lib.hid (fun (k : Nat) (W : World) (hk : k ≤ 100000) hc hF => ready_any (w.heap.size + 1) AF fr cf k W hk hc hF)
  go_wp2_with fail
  go_loopw [40, 6] (fun i v wr => ∃ k : Nat, k ≤ m ∧ i = .int .i64 k ∧ v = .slice none 0 0 ∧ Below w2.heap.size w2 wr) (fun i _ _ => l.length - (intOf i).toNat)
  case atStart => exact ⟨0, by omega, rfl, rfl, Below.refl _ _⟩
  case round =>
    obtain ⟨k, hk, rfl, rfl, hbr⟩ := hrel
    obtain ⟨wo, rfl⟩ : ∃ wo : World, wo = wr := ⟨_, rfl⟩
    have KW := Lib.hid hbr
    have hm_wo : Below w2.heap.size w2 wo := hbr
    have q_wo := hm_wo.size
    replace c_s_0 := below_cell hm_wo c_s_0 lt_w2_0_0
    replace c_s_1 := below_cell hm_wo c_s_1 lt_w2_0_0
    replace c_f_0 := below_cell hm_wo c_f_0 lt_w2_0_1
    replace c_e_0 := below_cell hm_wo c_e_0 lt_w2_0_2
    replace f_e_0 := (hm_wo.frozen (p := ⟨w.heap.size + 1 + 1, 0, none⟩) lt_w2_0_2).trans f_e_0
    replace c_e_1 := below_cell hm_wo c_e_1 lt_w2_0_2
    replace f_e_1 := (hm_wo.frozen (p := ⟨w.heap.size + 1 + 1, 1, none⟩) lt_w2_0_2).trans f_e_1
    replace HA := Lib.hid ((HA.out.below hm_wo).of_lt hm_wo.size)
    replace HF := Lib.hid ((HF.out.below hm_wo).of_lt hm_wo.size)
    replace A0 := Lib.hid (A0.out.trans (hm_wo.mono A0.out.size))
    have lt_wo_0_2 : w.heap.size + 1 + 1 < wo.heap.size := by omega
    have lt_wo_0_1 : w.heap.size + 1 < wo.heap.size := Nat.lt_of_succ_lt lt_wo_0_2
    have lt_wo_0_0 : w.heap.size < wo.heap.size := Nat.lt_of_succ_lt lt_wo_0_1
    obtain ⟨le_wo_0_0, le_wo_0_1, le_wo_0_2, le_wo_0_3, lu_wo_0_1, lu_wo_0_2, lu_wo_0_3⟩ := lts lt_wo_0_0
    clear le_w2_0_0 le_w2_0_1 le_w2_0_2 le_w2_0_3 lu_w2_0_1 lu_w2_0_2 lu_w2_0_3 lt_w2_0_0 lt_w2_0_1 lt_w2_0_2
    clear hm_wo
    clear hbr
    by_cases hlt : k < m
    · obtain ⟨⟨x1, x2⟩, hx⟩ : ∃ x, l[k]? = some x := ⟨l[k]'(by omega), List.getElem?_eq_getElem _⟩
      obtain ⟨ad, rfl, hbk, hc0, hc1⟩ := HA.out k (x1, x2) hx
      have hm := HOK.out k x1 x2 hx (by omega)
      have I1 := instant_any x1
      rw [decide_eq_true hm.1] at I1
      have I1 := Lib.hid I1
      have I2 := instant_any (fr.getD k 0)
      rw [decide_eq_true hm.2.1] at I2
      have I2 := Lib.hid I2
      have hz := hm.2.2
      have i0 : (0 : Int) ≤ (k : Int) := by omega
      have i1 : (k : Int) < (l.length : Int) := by omega
      clear hx hm
      go_upto_region 13 with fail
      obtain ⟨X, hX⟩ : ∃ X, (wo.alloc (.cells #[.int .i64 x1, .int .i64 x2] 49)) = X := ⟨_, rfl⟩
      have hm_X : Below wo.heap.size wo X := by rw [← hX]; (repeat' (first | (with_reducible exact Below.refl _ _) | (with_reducible refine Below.alloc ?_ ?_ _) | (with_reducible refine Below.setCell ?_ ?_ _) | (with_reducible refine Below.drew ?_) | (with_reducible assumption) | omega | (simp; done) | (simp; omega)))
      have q_X : wo.heap.size + 1 ≤ X.heap.size := by rw [← hX]; simp
      replace c_s_0 := below_cell hm_X c_s_0 lt_wo_0_0
      replace c_s_1 := below_cell hm_X c_s_1 lt_wo_0_0
      replace c_f_0 := below_cell hm_X c_f_0 lt_wo_0_1
      replace c_e_0 := below_cell hm_X c_e_0 lt_wo_0_2
      replace f_e_0 := (hm_X.frozen (p := ⟨w.heap.size + 1 + 1, 0, none⟩) lt_wo_0_2).trans f_e_0
      replace c_e_1 := below_cell hm_X c_e_1 lt_wo_0_2
      replace f_e_1 := (hm_X.frozen (p := ⟨w.heap.size + 1 + 1, 1, none⟩) lt_wo_0_2).trans f_e_1
      replace HA := Lib.hid ((HA.out.below hm_X).of_lt hm_X.size)
      replace HF := Lib.hid ((HF.out.below hm_X).of_lt hm_X.size)
      replace A0 := Lib.hid (A0.out.trans (hm_X.mono A0.out.size))
      replace KW := Lib.hid (KW.out.trans (hm_X.mono KW.out.size))
      have c_x_0 : X.cell? ⟨wo.heap.size, 0, none⟩ = some (.int .i64 x1) := by rw [← hX]; simp [go_sem]
      have c_x_1 : X.cell? ⟨wo.heap.size, 1, none⟩ = some (.int .i64 x2) := by rw [← hX]; simp [go_sem]
      rw [hX]
      have lt_X_0_2 : w.heap.size + 1 + 1 < X.heap.size := by omega
      have lt_X_0_1 : w.heap.size + 1 < X.heap.size := Nat.lt_of_succ_lt lt_X_0_2
      have lt_X_0_0 : w.heap.size < X.heap.size := Nat.lt_of_succ_lt lt_X_0_1
      obtain ⟨le_X_0_0, le_X_0_1, le_X_0_2, le_X_0_3, lu_X_0_1, lu_X_0_2, lu_X_0_3⟩ := lts lt_X_0_0
      have lt_X_1_0 : wo.heap.size < X.heap.size := by omega
      obtain ⟨le_X_1_0, le_X_1_1, le_X_1_2, le_X_1_3, lu_X_1_1, lu_X_1_2, lu_X_1_3⟩ := lts lt_X_1_0
      clear le_wo_0_0 le_wo_0_1 le_wo_0_2 le_wo_0_3 lu_wo_0_1 lu_wo_0_2 lu_wo_0_3 lt_wo_0_0 lt_wo_0_1 lt_wo_0_2
      clear hX hm_X
      go_wp2_with fail
      refine (I1.out _).mono ?_
      rintro e w9 ⟨rfl, rfl⟩
      go_wp2_with fail
      refine (RD.out k X (by omega) c_f_0 HF.out).mono ?_
      rintro e w9 ⟨rfl, rfl⟩
      go_wp2_with fail
      refine (I2.out _).mono ?_
      rintro e w9 ⟨rfl, rfl⟩
      go_wp2_with fail
      go_roundw
      case rel => exact ⟨k + 1, by omega, by go_num, rfl, KW.out⟩
      case measure => simp [intOf]; omega
    · have ekm : k = m := by omega
      subst ekm
      obtain ⟨ad, rfl, hbk, hc0, hc1⟩ := HA.out k (y1, y2) HM0.out
      have i0 : (0 : Int) ≤ (k : Int) := by omega
      have i1 : (k : Int) < (l.length : Int) := by omega
      clear hlt hk HOK
      go_upto_region 13 with fail
      obtain ⟨X, hX⟩ : ∃ X, (wo.alloc (.cells #[.int .i64 y1, .int .i64 y2] 49)) = X := ⟨_, rfl⟩
      have hm_X : Below wo.heap.size wo X := by rw [← hX]; (repeat' (first | (with_reducible exact Below.refl _ _) | (with_reducible refine Below.alloc ?_ ?_ _) | (with_reducible refine Below.setCell ?_ ?_ _) | (with_reducible refine Below.drew ?_) | (with_reducible assumption) | omega | (simp; done) | (simp; omega)))
      have q_X : wo.heap.size + 1 ≤ X.heap.size := by rw [← hX]; simp
      replace c_s_0 := below_cell hm_X c_s_0 lt_wo_0_0
      replace c_s_1 := below_cell hm_X c_s_1 lt_wo_0_0
      replace c_f_0 := below_cell hm_X c_f_0 lt_wo_0_1
      replace c_e_0 := below_cell hm_X c_e_0 lt_wo_0_2
      replace f_e_0 := (hm_X.frozen (p := ⟨w.heap.size + 1 + 1, 0, none⟩) lt_wo_0_2).trans f_e_0
      replace c_e_1 := below_cell hm_X c_e_1 lt_wo_0_2
      replace f_e_1 := (hm_X.frozen (p := ⟨w.heap.size + 1 + 1, 1, none⟩) lt_wo_0_2).trans f_e_1
      replace HA := Lib.hid ((HA.out.below hm_X).of_lt hm_X.size)
      replace HF := Lib.hid ((HF.out.below hm_X).of_lt hm_X.size)
      replace A0 := Lib.hid (A0.out.trans (hm_X.mono A0.out.size))
      replace KW := Lib.hid (KW.out.trans (hm_X.mono KW.out.size))
      have c_x_0 : X.cell? ⟨wo.heap.size, 0, none⟩ = some (.int .i64 y1) := by rw [← hX]; simp [go_sem]
      have c_x_1 : X.cell? ⟨wo.heap.size, 1, none⟩ = some (.int .i64 y2) := by rw [← hX]; simp [go_sem]
      rw [hX]
      have lt_X_0_2 : w.heap.size + 1 + 1 < X.heap.size := by omega
      have lt_X_0_1 : w.heap.size + 1 < X.heap.size := Nat.lt_of_succ_lt lt_X_0_2
      have lt_X_0_0 : w.heap.size < X.heap.size := Nat.lt_of_succ_lt lt_X_0_1
      obtain ⟨le_X_0_0, le_X_0_1, le_X_0_2, le_X_0_3, lu_X_0_1, lu_X_0_2, lu_X_0_3⟩ := lts lt_X_0_0
      have lt_X_1_0 : wo.heap.size < X.heap.size := by omega
      obtain ⟨le_X_1_0, le_X_1_1, le_X_1_2, le_X_1_3, lu_X_1_1, lu_X_1_2, lu_X_1_3⟩ := lts lt_X_1_0
      clear le_wo_0_0 le_wo_0_1 le_wo_0_2 le_wo_0_3 lu_wo_0_1 lu_wo_0_2 lu_wo_0_3 lt_wo_0_0 lt_wo_0_1 lt_wo_0_2
      clear hX hm_X
      by_cases g1 : 0 ≤ y1 ∧ y1 ≤ 1073741824
      · have I1 := instant_any y1
        rw [decide_eq_true g1] at I1
        have I1 := Lib.hid I1
        by_cases g2 : 0 ≤ fr.getD k 0 ∧ fr.getD k 0 ≤ 1073741824
        · have I2 := instant_any (fr.getD k 0)
          rw [decide_eq_true g2] at I2
          have I2 := Lib.hid I2
          have g3 : 1542 < y2 := by omega
          clear hbad g1 g2
          go_wp2_with fail
          refine (I1.out _).mono ?_
          rintro e w9 ⟨rfl, rfl⟩
          go_wp2_with fail
          refine (RD.out k X (by omega) c_f_0 HF.out).mono ?_
          rintro e w9 ⟨rfl, rfl⟩
          go_wp2_with fail
          refine (I2.out _).mono ?_
          rintro e w9 ⟨rfl, rfl⟩
          go_wp2_with fail
          go_region
          all_goals go_wp2_with fail
          all_goals exact bodyPost_ret (v := .tuple #[.slice none 0 0, .agg #[.int .i64 0, .int .i64 0], .int .i64 2]) (by simp [results, Try.results17, go_sem, c_e_0, c_e_1]) rfl ⟨rfl, by have hb := A0.out; have := hb.size; (repeat' (first | (with_reducible exact Below.refl _ _) | (with_reducible refine Below.alloc ?_ ?_ _) | (with_reducible refine Below.setCell ?_ ?_ _) | (with_reducible refine Below.drew ?_) | (with_reducible assumption) | omega | (simp; done) | (simp; omega)))⟩
        · have I2 := instant_any (fr.getD k 0)
          rw [decide_eq_false g2] at I2
          have I2 := Lib.hid I2
          clear hbad g1 g2
          go_wp2_with fail
          refine (I1.out _).mono ?_
          rintro e w9 ⟨rfl, rfl⟩
          go_wp2_with fail
          refine (RD.out k X (by omega) c_f_0 HF.out).mono ?_
          rintro e w9 ⟨rfl, rfl⟩
          go_wp2_with fail
          refine (I2.out _).mono ?_
          rintro e w9 ⟨rfl, rfl⟩
          go_wp2_with fail
          go_region
          all_goals go_wp2_with fail
          all_goals exact bodyPost_ret (v := .tuple #[.slice none 0 0, .agg #[.int .i64 0, .int .i64 0], .int .i64 2]) (by simp [results, Try.results17, go_sem, c_e_0, c_e_1]) rfl ⟨rfl, by have hb := A0.out; have := hb.size; (repeat' (first | (with_reducible exact Below.refl _ _) | (with_reducible refine Below.alloc ?_ ?_ _) | (with_reducible refine Below.setCell ?_ ?_ _) | (with_reducible refine Below.drew ?_) | (with_reducible assumption) | omega | (simp; done) | (simp; omega)))⟩
      · have I1 := instant_any y1
        rw [decide_eq_false g1] at I1
        have I1 := Lib.hid I1
        clear hbad g1
        go_wp2_with fail
        refine (I1.out _).mono ?_
        rintro e w9 ⟨rfl, rfl⟩
        go_wp2_with fail
        go_region
        all_goals go_wp2_with fail
        all_goals exact bodyPost_ret (v := .tuple #[.slice none 0 0, .agg #[.int .i64 0, .int .i64 0], .int .i64 2]) (by simp [results, Try.results17, go_sem, c_e_0, c_e_1]) rfl ⟨rfl, by have hb := A0.out; have := hb.size; (repeat' (first | (with_reducible exact Below.refl _ _) | (with_reducible refine Below.alloc ?_ ?_ _) | (with_reducible refine Below.setCell ?_ ?_ _) | (with_reducible refine Below.drew ?_) | (with_reducible assumption) | omega | (simp; done) | (simp; omega)))⟩
end CrW
end Go.Proofs.Ytoglmfpmeajbeaa
