/- Credit-based shapers: the examples hold. -/
import Derived.Test.YtoglmfpmeajbeaaCrO
import Derived.Test.YtoglmfpmeajbeaaCrY
import Derived.Test.YtoglmfpmeajbeaaSame
import Derived.Deep.DeepCutAuto
namespace Go.Proofs.Ytoglmfpmeajbeaa
set_option linter.unusedSimpArgs false
set_option linter.unusedVariables false
open Go.RowKit
namespace CrW
set_option maxRecDepth 100000
set_option maxHeartbeats 4000000
theorem runs_any (A : Option Addr) (l : List (Int × Int)) (cap : Nat) (AF : Option Addr) (fr : List Int) (cf : Nat) (B : Option Addr) (want : List Int) (capw : Nat) (at_ lv : Int) (h30 : l.length ≤ 30) (ht : Tr.chk l = 0) (hn : fr.length ≤ l.length) (hok : ∀ k x1 x2, l[k]? = some (x1, x2) → (0 ≤ x1 ∧ x1 ≤ 1073741824) ∧ (0 ≤ fr.getD k 0 ∧ fr.getD k 0 ≤ 1073741824) ∧ (1 ≤ x2 ∧ x2 ≤ 1542))
    (h1 : Cr.good 131072 2 0 0 (Cr.items fr l) = true) (h2 : Cr.starts 131072 2 0 0 (Cr.items fr l) = want) (h3 : Cr.endA 131072 2 0 0 (Cr.items fr l) = at_) (h4 : Cr.endL 131072 2 0 0 (Cr.items fr l) = lv) (w : World) (hA : Tr.Arr w w.heap.size A l) (hF : Tr.Ints w w.heap.size AF fr) (hW : Tr.Ints w w.heap.size B want) :
    Calls Try.prog 20 #[.slice A l.length cap, .slice AF fr.length cf, .int .i64 at_, .int .i64 lv, .slice B l.length capw] w fun e w' => e = .returned (.bool true) ∧ Below w.heap.size w w' := by
  have RG := Lib.hid (fun W hA hF => Run_go 131072 2 A l cap AF fr cf (by decide) (by omega) ht hn hok W hA hF)
  rw [h1, h2, h3, h4] at RG
  have RG := Lib.hid (fun W hA hF => (RG.out W hA hF).mono fun e w' h => (⟨h.1.resolve_left (fun x => by cases x.1), h.2⟩ : (true = true ∧ ∃ A' cap', e = .returned (.tuple #[.slice A' l.length cap', .agg #[.int .i64 at_, .int .i64 lv], .int .i64 0]) ∧ Tr.Ints w' w'.heap.size A' want) ∧ Below W.heap.size W w'))
  have hlen : want.length = l.length := by rw [← h2, Cr.starts_length, Cr.items_length]
  have HA := Lib.hid hA
  have HF := Lib.hid hF
  have HW := Lib.hid hW
  clear hA hF hW h1 h2 h3 h4 ht hn hok
  have A0 : Hid (Below w.heap.size w w) := Lib.hid (Below.refl _ _)
  go_enter Try.func20, Try.ntmps20
  go_wp2_with fail
  refine (chapter_any _).mono ?_
  rintro e w1 ⟨rfl, hb_⟩
  have hm_w1 : Below w.heap.size w w1 := hb_
  have q_w1 := hm_w1.size
  replace HA := Lib.hid ((HA.out.below hm_w1).of_lt hm_w1.size)
  replace HF := Lib.hid ((HF.out.below hm_w1).of_lt hm_w1.size)
  replace HW := Lib.hid ((HW.out.below hm_w1).of_lt hm_w1.size)
  replace A0 := Lib.hid (A0.out.trans (hm_w1.mono A0.out.size))
  clear hm_w1
  clear hb_
  go_wp2_with fail
  refine (RG.out _ HA.out HF.out).mono ?_
  rintro e w2 ⟨⟨_, A', cap', rfl, hI⟩, hb_⟩
  have hm_w2 : Below w1.heap.size w1 w2 := hb_
  have q_w2 := hm_w2.size
  replace HA := Lib.hid ((HA.out.below hm_w2).of_lt hm_w2.size)
  replace HF := Lib.hid ((HF.out.below hm_w2).of_lt hm_w2.size)
  replace HW := Lib.hid ((HW.out.below hm_w2).of_lt hm_w2.size)
  replace A0 := Lib.hid (A0.out.trans (hm_w2.mono A0.out.size))
  clear hm_w2
  have HI := Lib.hid hI
  clear hI hb_ RG HA HF
  go_upto_region 2 with fail
  obtain ⟨W3, hW3⟩ : ∃ W3, (w2.alloc (.cells #[.int .i64 at_, .int .i64 lv] 25)) = W3 := ⟨_, rfl⟩
  have hm_W3 : Below w2.heap.size w2 W3 := by rw [← hW3]; (repeat' (first | (with_reducible exact Below.refl _ _) | (with_reducible refine Below.alloc ?_ ?_ _) | (with_reducible refine Below.setCell ?_ ?_ _) | (with_reducible refine Below.drew ?_) | (with_reducible assumption) | omega | (simp; done) | (simp; omega)))
  have q_W3 : w2.heap.size + 1 ≤ W3.heap.size := by rw [← hW3]; simp
  replace HW := Lib.hid ((HW.out.below hm_W3).of_lt hm_W3.size)
  replace HI := Lib.hid ((HI.out.below hm_W3).of_lt hm_W3.size)
  replace A0 := Lib.hid (A0.out.trans (hm_W3.mono A0.out.size))
  have c_n_0 : W3.cell? ⟨w2.heap.size, 0, none⟩ = some (.int .i64 at_) := by rw [← hW3]; simp [go_sem]
  have c_n_1 : W3.cell? ⟨w2.heap.size, 1, none⟩ = some (.int .i64 lv) := by rw [← hW3]; simp [go_sem]
  rw [hW3]
  have lt_W3_0_0 : w2.heap.size < W3.heap.size := by omega
  obtain ⟨le_W3_0_0, le_W3_0_1, le_W3_0_2, le_W3_0_3, lu_W3_0_1, lu_W3_0_2, lu_W3_0_3⟩ := lts lt_W3_0_0
  clear hW3 hm_W3
  have SS := SmW.Same_any A' want cap' B want capw W3 HI.out HW.out (by omega)
  rw [decide_eq_true rfl] at SS
  rw [hlen] at SS
  have SS := Lib.hid SS
  go_wp2_with fail
  refine (SS.out).mono ?_
  rintro e w4 ⟨rfl, hb_⟩
  have hm_w4 : Below W3.heap.size W3 w4 := hb_
  have q_w4 := hm_w4.size
  replace c_n_0 := below_cell hm_w4 c_n_0 lt_W3_0_0
  replace c_n_1 := below_cell hm_w4 c_n_1 lt_W3_0_0
  replace HW := Lib.hid ((HW.out.below hm_w4).of_lt hm_w4.size)
  replace HI := Lib.hid ((HI.out.below hm_w4).of_lt hm_w4.size)
  replace A0 := Lib.hid (A0.out.trans (hm_w4.mono A0.out.size))
  have lt_w4_0_0 : w2.heap.size < w4.heap.size := by omega
  obtain ⟨le_w4_0_0, le_w4_0_1, le_w4_0_2, le_w4_0_3, lu_w4_0_1, lu_w4_0_2, lu_w4_0_3⟩ := lts lt_w4_0_0
  clear le_W3_0_0 le_W3_0_1 le_W3_0_2 le_W3_0_3 lu_W3_0_1 lu_W3_0_2 lu_W3_0_3 lt_W3_0_0
  clear hm_w4
  clear hb_
  go_wp2_with fail
  go_ret
  exact ⟨rfl, A0.out⟩
theorem arr_lit (w : World) (l : List (Int × Int)) (cs : Array Value) (t : TypeId) (hcs : cs.toList = Mem.arrs l) : Mem.Row (w.alloc (.cells cs t)) (w.heap.size + 1) (some ⟨w.heap.size, 0, none⟩) (Mem.arrs l) := hcs ▸ Mem.Row.new w cs t
theorem ints_lit (w : World) (l : List Int) (cs : Array Value) (t : TypeId) (hcs : cs.toList = Mem.ints l) : Tr.Ints (w.alloc (.cells cs t)) (w.heap.size + 1) (some ⟨w.heap.size, 0, none⟩) l := fun i x hx => by
  obtain ⟨ad, e, h1, h2⟩ := (Mem.Row.new w cs t) i (.int .i64 x) (by rw [hcs]; simp [Mem.ints, hx])
  exact ⟨ad, e, h1, h2⟩
theorem ints_nil (w : World) (B : Nat) : Tr.Ints w B none [] := fun i x hx => by simp at hx
theorem runs_ex0 (A : Option Addr) (cap : Nat) (AF : Option Addr) (cf : Nat) (B : Option Addr) (capw : Nat) (w : World) (hA : Tr.Arr w w.heap.size A [(0, 100), (0, 100), (0, 100)]) (hF : Tr.Ints w w.heap.size AF []) (hW : Tr.Ints w w.heap.size B [0, 800, 1600]) :
    Calls Try.prog 20 #[.slice A 3 cap, .slice AF 0 cf, .int .i64 1800, .int .i64 (-78643200), .slice B 3 capw] w fun e w' => e = .returned (.bool true) ∧ Below w.heap.size w w' :=
  runs_any A [(0, 100), (0, 100), (0, 100)] cap AF [] cf B [0, 800, 1600] capw 1800 (-78643200) (by decide) (by decide) (by decide) (fun k x1 x2 h => by
    match k, h with
    | 0, h => simp at h; obtain ⟨rfl, rfl⟩ := h; decide
    | 1, h => simp at h; obtain ⟨rfl, rfl⟩ := h; decide
    | 2, h => simp at h; obtain ⟨rfl, rfl⟩ := h; decide
    | k + 3, h => simp at h) (by decide) (by decide) (by decide) (by decide) w hA hF hW
theorem runs_ex1 (A : Option Addr) (cap : Nat) (AF : Option Addr) (cf : Nat) (B : Option Addr) (capw : Nat) (w : World) (hA : Tr.Arr w w.heap.size A [(0, 100), (5000, 100)]) (hF : Tr.Ints w w.heap.size AF []) (hW : Tr.Ints w w.heap.size B [0, 5000]) :
    Calls Try.prog 20 #[.slice A 2 cap, .slice AF 0 cf, .int .i64 5200, .int .i64 (-78643200), .slice B 2 capw] w fun e w' => e = .returned (.bool true) ∧ Below w.heap.size w w' :=
  runs_any A [(0, 100), (5000, 100)] cap AF [] cf B [0, 5000] capw 5200 (-78643200) (by decide) (by decide) (by decide) (fun k x1 x2 h => by
    match k, h with
    | 0, h => simp at h; obtain ⟨rfl, rfl⟩ := h; decide
    | 1, h => simp at h; obtain ⟨rfl, rfl⟩ := h; decide
    | k + 2, h => simp at h) (by decide) (by decide) (by decide) (by decide) w hA hF hW
theorem runs_ex2 (A : Option Addr) (cap : Nat) (AF : Option Addr) (cf : Nat) (B : Option Addr) (capw : Nat) (w : World) (hA : Tr.Arr w w.heap.size A [(0, 100), (0, 100)]) (hF : Tr.Ints w w.heap.size AF [400]) (hW : Tr.Ints w w.heap.size B [400, 800]) :
    Calls Try.prog 20 #[.slice A 2 cap, .slice AF 1 cf, .int .i64 1000, .int .i64 (-78643200), .slice B 2 capw] w fun e w' => e = .returned (.bool true) ∧ Below w.heap.size w w' :=
  runs_any A [(0, 100), (0, 100)] cap AF [400] cf B [400, 800] capw 1000 (-78643200) (by decide) (by decide) (by decide) (fun k x1 x2 h => by
    match k, h with
    | 0, h => simp at h; obtain ⟨rfl, rfl⟩ := h; decide
    | 1, h => simp at h; obtain ⟨rfl, rfl⟩ := h; decide
    | k + 2, h => simp at h) (by decide) (by decide) (by decide) (by decide) w hA hF hW
theorem runs_ex3 (A : Option Addr) (cap : Nat) (AF : Option Addr) (cf : Nat) (B : Option Addr) (capw : Nat) (w : World) (hA : Tr.Arr w w.heap.size A [(0, 100), (8100, 10)]) (hF : Tr.Ints w w.heap.size AF [8000]) (hW : Tr.Ints w w.heap.size B [8000, 8200]) :
    Calls Try.prog 20 #[.slice A 2 cap, .slice AF 1 cf, .int .i64 8220, .int .i64 (962068480), .slice B 2 capw] w fun e w' => e = .returned (.bool true) ∧ Below w.heap.size w w' :=
  runs_any A [(0, 100), (8100, 10)] cap AF [8000] cf B [8000, 8200] capw 8220 (962068480) (by decide) (by decide) (by decide) (fun k x1 x2 h => by
    match k, h with
    | 0, h => simp at h; obtain ⟨rfl, rfl⟩ := h; decide
    | 1, h => simp at h; obtain ⟨rfl, rfl⟩ := h; decide
    | k + 2, h => simp at h) (by decide) (by decide) (by decide) (by decide) w hA hF hW
theorem works_any (w : World) : Calls Try.prog 15 #[] w fun e w' => e = .returned (.bool true) ∧ Below w.heap.size w w' := by
  have A0 : Hid (Below w.heap.size w w) := Lib.hid (Below.refl _ _)
  go_enter Try.func15, Try.ntmps15
  go_wp2_with fail
  have TR : Calls Try.prog 19 #[.slice (some ⟨w.heap.size, 0, none⟩) 6 6] ((w.alloc (.cells #[.int .i64 0, .int .i64 100, .int .i64 0, .int .i64 100, .int .i64 0, .int .i64 100] 3))) fun e w' => (∃ A' cap', e = .returned (.slice A' 3 cap') ∧ Tr.Arr w' w'.heap.size A' [(0, 100), (0, 100), (0, 100)]) ∧ Below ((w.alloc (.cells #[.int .i64 0, .int .i64 100, .int .i64 0, .int .i64 100, .int .i64 0, .int .i64 100] 3))).heap.size ((w.alloc (.cells #[.int .i64 0, .int .i64 100, .int .i64 0, .int .i64 100, .int .i64 0, .int .i64 100] 3))) w' := trace_any (some ⟨w.heap.size, 0, none⟩) [(0, 100), (0, 100), (0, 100)] 6 (by decide) ((w.alloc (.cells #[.int .i64 0, .int .i64 100, .int .i64 0, .int .i64 100, .int .i64 0, .int .i64 100] 3))) ((arr_lit w [(0, 100), (0, 100), (0, 100)] _ _ rfl).of_lt (by simp))
  refine TR.mono ?_
  clear TR
  rintro e t0 ⟨⟨B0, cap0, rfl, hA0⟩, hb_⟩
  have s_t0 := hb_.size
  try simp only [World.size_alloc] at s_t0
  have hm_t0 : Below w.heap.size w t0 := Below.trans (b := (w.alloc (.cells #[.int .i64 0, .int .i64 100, .int .i64 0, .int .i64 100, .int .i64 0, .int .i64 100] 3))) (by (repeat' (first | (with_reducible exact Below.refl _ _) | (with_reducible refine Below.alloc ?_ ?_ _) | (with_reducible refine Below.setCell ?_ ?_ _) | (with_reducible refine Below.drew ?_) | (with_reducible assumption) | omega | (simp; done) | (simp; omega)))) (hb_.mono (by first | (simp; done) | (simp; omega)))
  have q_t0 := hm_t0.size
  replace A0 := Lib.hid (A0.out.trans (hm_t0.mono A0.out.size))
  clear hm_t0
  have HA0 := Lib.hid hA0
  clear hA0 hb_
  go_wp2_with fail
  have SX := runs_ex0 B0 cap0 none 0 (some ⟨t0.heap.size, 0, none⟩) 3 ((t0.alloc (.cells #[.int .i64 0, .int .i64 800, .int .i64 1600] 3))) ((HA0.out.below (by (repeat' (first | (with_reducible exact Below.refl _ _) | (with_reducible refine Below.alloc ?_ ?_ _) | (with_reducible refine Below.setCell ?_ ?_ _) | (with_reducible refine Below.drew ?_) | (with_reducible assumption) | omega | (simp; done) | (simp; omega))))).of_lt (by simp; try omega)) (ints_nil _ _) ((by simpa using ints_lit t0 [0, 800, 1600] _ _ rfl : Tr.Ints _ (t0.heap.size + 1) (some ⟨t0.heap.size, 0, none⟩) [0, 800, 1600]).of_lt (by simp; try omega))
  refine SX.mono ?_
  clear SX
  rintro e u0 ⟨rfl, hb_⟩
  have s_u0 := hb_.size
  try simp only [World.size_alloc] at s_u0
  have hm_u0 : Below t0.heap.size t0 u0 := Below.trans (b := (t0.alloc (.cells #[.int .i64 0, .int .i64 800, .int .i64 1600] 3))) (by (repeat' (first | (with_reducible exact Below.refl _ _) | (with_reducible refine Below.alloc ?_ ?_ _) | (with_reducible refine Below.setCell ?_ ?_ _) | (with_reducible refine Below.drew ?_) | (with_reducible assumption) | omega | (simp; done) | (simp; omega)))) (hb_.mono (by first | (simp; done) | (simp; omega)))
  have q_u0 := hm_u0.size
  replace HA0 := Lib.hid ((HA0.out.below hm_u0).of_lt hm_u0.size)
  replace A0 := Lib.hid (A0.out.trans (hm_u0.mono A0.out.size))
  clear hm_u0
  clear hb_ HA0
  go_wp2_with fail
  have TR : Calls Try.prog 19 #[.slice (some ⟨u0.heap.size, 0, none⟩) 4 4] ((u0.alloc (.cells #[.int .i64 0, .int .i64 100, .int .i64 5000, .int .i64 100] 3))) fun e w' => (∃ A' cap', e = .returned (.slice A' 2 cap') ∧ Tr.Arr w' w'.heap.size A' [(0, 100), (5000, 100)]) ∧ Below ((u0.alloc (.cells #[.int .i64 0, .int .i64 100, .int .i64 5000, .int .i64 100] 3))).heap.size ((u0.alloc (.cells #[.int .i64 0, .int .i64 100, .int .i64 5000, .int .i64 100] 3))) w' := trace_any (some ⟨u0.heap.size, 0, none⟩) [(0, 100), (5000, 100)] 4 (by decide) ((u0.alloc (.cells #[.int .i64 0, .int .i64 100, .int .i64 5000, .int .i64 100] 3))) ((arr_lit u0 [(0, 100), (5000, 100)] _ _ rfl).of_lt (by simp))
  refine TR.mono ?_
  clear TR
  rintro e t1 ⟨⟨B1, cap1, rfl, hA1⟩, hb_⟩
  have s_t1 := hb_.size
  try simp only [World.size_alloc] at s_t1
  have hm_t1 : Below u0.heap.size u0 t1 := Below.trans (b := (u0.alloc (.cells #[.int .i64 0, .int .i64 100, .int .i64 5000, .int .i64 100] 3))) (by (repeat' (first | (with_reducible exact Below.refl _ _) | (with_reducible refine Below.alloc ?_ ?_ _) | (with_reducible refine Below.setCell ?_ ?_ _) | (with_reducible refine Below.drew ?_) | (with_reducible assumption) | omega | (simp; done) | (simp; omega)))) (hb_.mono (by first | (simp; done) | (simp; omega)))
  have q_t1 := hm_t1.size
  replace A0 := Lib.hid (A0.out.trans (hm_t1.mono A0.out.size))
  clear hm_t1
  have HA1 := Lib.hid hA1
  clear hA1 hb_
  go_wp2_with fail
  have SX := runs_ex1 B1 cap1 none 0 (some ⟨t1.heap.size, 0, none⟩) 2 ((t1.alloc (.cells #[.int .i64 0, .int .i64 5000] 3))) ((HA1.out.below (by (repeat' (first | (with_reducible exact Below.refl _ _) | (with_reducible refine Below.alloc ?_ ?_ _) | (with_reducible refine Below.setCell ?_ ?_ _) | (with_reducible refine Below.drew ?_) | (with_reducible assumption) | omega | (simp; done) | (simp; omega))))).of_lt (by simp; try omega)) (ints_nil _ _) ((by simpa using ints_lit t1 [0, 5000] _ _ rfl : Tr.Ints _ (t1.heap.size + 1) (some ⟨t1.heap.size, 0, none⟩) [0, 5000]).of_lt (by simp; try omega))
  refine SX.mono ?_
  clear SX
  rintro e u1 ⟨rfl, hb_⟩
  have s_u1 := hb_.size
  try simp only [World.size_alloc] at s_u1
  have hm_u1 : Below t1.heap.size t1 u1 := Below.trans (b := (t1.alloc (.cells #[.int .i64 0, .int .i64 5000] 3))) (by (repeat' (first | (with_reducible exact Below.refl _ _) | (with_reducible refine Below.alloc ?_ ?_ _) | (with_reducible refine Below.setCell ?_ ?_ _) | (with_reducible refine Below.drew ?_) | (with_reducible assumption) | omega | (simp; done) | (simp; omega)))) (hb_.mono (by first | (simp; done) | (simp; omega)))
  have q_u1 := hm_u1.size
  replace HA1 := Lib.hid ((HA1.out.below hm_u1).of_lt hm_u1.size)
  replace A0 := Lib.hid (A0.out.trans (hm_u1.mono A0.out.size))
  clear hm_u1
  clear hb_ HA1
  go_wp2_with fail
  have TR : Calls Try.prog 19 #[.slice (some ⟨u1.heap.size, 0, none⟩) 4 4] ((u1.alloc (.cells #[.int .i64 0, .int .i64 100, .int .i64 0, .int .i64 100] 3))) fun e w' => (∃ A' cap', e = .returned (.slice A' 2 cap') ∧ Tr.Arr w' w'.heap.size A' [(0, 100), (0, 100)]) ∧ Below ((u1.alloc (.cells #[.int .i64 0, .int .i64 100, .int .i64 0, .int .i64 100] 3))).heap.size ((u1.alloc (.cells #[.int .i64 0, .int .i64 100, .int .i64 0, .int .i64 100] 3))) w' := trace_any (some ⟨u1.heap.size, 0, none⟩) [(0, 100), (0, 100)] 4 (by decide) ((u1.alloc (.cells #[.int .i64 0, .int .i64 100, .int .i64 0, .int .i64 100] 3))) ((arr_lit u1 [(0, 100), (0, 100)] _ _ rfl).of_lt (by simp))
  refine TR.mono ?_
  clear TR
  rintro e t2 ⟨⟨B2, cap2, rfl, hA2⟩, hb_⟩
  have s_t2 := hb_.size
  try simp only [World.size_alloc] at s_t2
  have hm_t2 : Below u1.heap.size u1 t2 := Below.trans (b := (u1.alloc (.cells #[.int .i64 0, .int .i64 100, .int .i64 0, .int .i64 100] 3))) (by (repeat' (first | (with_reducible exact Below.refl _ _) | (with_reducible refine Below.alloc ?_ ?_ _) | (with_reducible refine Below.setCell ?_ ?_ _) | (with_reducible refine Below.drew ?_) | (with_reducible assumption) | omega | (simp; done) | (simp; omega)))) (hb_.mono (by first | (simp; done) | (simp; omega)))
  have q_t2 := hm_t2.size
  replace A0 := Lib.hid (A0.out.trans (hm_t2.mono A0.out.size))
  clear hm_t2
  have HA2 := Lib.hid hA2
  clear hA2 hb_
  go_wp2_with fail
  have SX := runs_ex2 B2 cap2 (some ⟨t2.heap.size, 0, none⟩) 1 (some ⟨t2.heap.size + 1, 0, none⟩) 2 (((t2.alloc (.cells #[.int .i64 400] 3)).alloc (.cells #[.int .i64 400, .int .i64 800] 3))) ((HA2.out.below (by (repeat' (first | (with_reducible exact Below.refl _ _) | (with_reducible refine Below.alloc ?_ ?_ _) | (with_reducible refine Below.setCell ?_ ?_ _) | (with_reducible refine Below.drew ?_) | (with_reducible assumption) | omega | (simp; done) | (simp; omega))))).of_lt (by simp; try omega)) ((Tr.Ints.below (ints_lit t2 [400] _ _ rfl) ((Below.refl _ _).alloc (by simp) _)).of_lt (by simp)) ((by simpa using ints_lit (t2.alloc (.cells #[.int .i64 400] 3)) [400, 800] _ _ rfl : Tr.Ints _ (t2.heap.size + 1 + 1) (some ⟨t2.heap.size + 1, 0, none⟩) [400, 800]).of_lt (by simp; try omega))
  refine SX.mono ?_
  clear SX
  rintro e u2 ⟨rfl, hb_⟩
  have s_u2 := hb_.size
  try simp only [World.size_alloc] at s_u2
  have hm_u2 : Below t2.heap.size t2 u2 := Below.trans (b := ((t2.alloc (.cells #[.int .i64 400] 3)).alloc (.cells #[.int .i64 400, .int .i64 800] 3))) (by (repeat' (first | (with_reducible exact Below.refl _ _) | (with_reducible refine Below.alloc ?_ ?_ _) | (with_reducible refine Below.setCell ?_ ?_ _) | (with_reducible refine Below.drew ?_) | (with_reducible assumption) | omega | (simp; done) | (simp; omega)))) (hb_.mono (by first | (simp; done) | (simp; omega)))
  have q_u2 := hm_u2.size
  replace HA2 := Lib.hid ((HA2.out.below hm_u2).of_lt hm_u2.size)
  replace A0 := Lib.hid (A0.out.trans (hm_u2.mono A0.out.size))
  clear hm_u2
  clear hb_ HA2
  go_wp2_with fail
  have TR : Calls Try.prog 19 #[.slice (some ⟨u2.heap.size, 0, none⟩) 4 4] ((u2.alloc (.cells #[.int .i64 0, .int .i64 100, .int .i64 8100, .int .i64 10] 3))) fun e w' => (∃ A' cap', e = .returned (.slice A' 2 cap') ∧ Tr.Arr w' w'.heap.size A' [(0, 100), (8100, 10)]) ∧ Below ((u2.alloc (.cells #[.int .i64 0, .int .i64 100, .int .i64 8100, .int .i64 10] 3))).heap.size ((u2.alloc (.cells #[.int .i64 0, .int .i64 100, .int .i64 8100, .int .i64 10] 3))) w' := trace_any (some ⟨u2.heap.size, 0, none⟩) [(0, 100), (8100, 10)] 4 (by decide) ((u2.alloc (.cells #[.int .i64 0, .int .i64 100, .int .i64 8100, .int .i64 10] 3))) ((arr_lit u2 [(0, 100), (8100, 10)] _ _ rfl).of_lt (by simp))
  refine TR.mono ?_
  clear TR
  rintro e t3 ⟨⟨B3, cap3, rfl, hA3⟩, hb_⟩
  have s_t3 := hb_.size
  try simp only [World.size_alloc] at s_t3
  have hm_t3 : Below u2.heap.size u2 t3 := Below.trans (b := (u2.alloc (.cells #[.int .i64 0, .int .i64 100, .int .i64 8100, .int .i64 10] 3))) (by (repeat' (first | (with_reducible exact Below.refl _ _) | (with_reducible refine Below.alloc ?_ ?_ _) | (with_reducible refine Below.setCell ?_ ?_ _) | (with_reducible refine Below.drew ?_) | (with_reducible assumption) | omega | (simp; done) | (simp; omega)))) (hb_.mono (by first | (simp; done) | (simp; omega)))
  have q_t3 := hm_t3.size
  replace A0 := Lib.hid (A0.out.trans (hm_t3.mono A0.out.size))
  clear hm_t3
  have HA3 := Lib.hid hA3
  clear hA3 hb_
  go_wp2_with fail
  have SX := runs_ex3 B3 cap3 (some ⟨t3.heap.size, 0, none⟩) 1 (some ⟨t3.heap.size + 1, 0, none⟩) 2 (((t3.alloc (.cells #[.int .i64 8000] 3)).alloc (.cells #[.int .i64 8000, .int .i64 8200] 3))) ((HA3.out.below (by (repeat' (first | (with_reducible exact Below.refl _ _) | (with_reducible refine Below.alloc ?_ ?_ _) | (with_reducible refine Below.setCell ?_ ?_ _) | (with_reducible refine Below.drew ?_) | (with_reducible assumption) | omega | (simp; done) | (simp; omega))))).of_lt (by simp; try omega)) ((Tr.Ints.below (ints_lit t3 [8000] _ _ rfl) ((Below.refl _ _).alloc (by simp) _)).of_lt (by simp)) ((by simpa using ints_lit (t3.alloc (.cells #[.int .i64 8000] 3)) [8000, 8200] _ _ rfl : Tr.Ints _ (t3.heap.size + 1 + 1) (some ⟨t3.heap.size + 1, 0, none⟩) [8000, 8200]).of_lt (by simp; try omega))
  refine SX.mono ?_
  clear SX
  rintro e u3 ⟨rfl, hb_⟩
  have s_u3 := hb_.size
  try simp only [World.size_alloc] at s_u3
  have hm_u3 : Below t3.heap.size t3 u3 := Below.trans (b := ((t3.alloc (.cells #[.int .i64 8000] 3)).alloc (.cells #[.int .i64 8000, .int .i64 8200] 3))) (by (repeat' (first | (with_reducible exact Below.refl _ _) | (with_reducible refine Below.alloc ?_ ?_ _) | (with_reducible refine Below.setCell ?_ ?_ _) | (with_reducible refine Below.drew ?_) | (with_reducible assumption) | omega | (simp; done) | (simp; omega)))) (hb_.mono (by first | (simp; done) | (simp; omega)))
  have q_u3 := hm_u3.size
  replace HA3 := Lib.hid ((HA3.out.below hm_u3).of_lt hm_u3.size)
  replace A0 := Lib.hid (A0.out.trans (hm_u3.mono A0.out.size))
  clear hm_u3
  clear hb_ HA3
  have CK := Check_b 524288 2
  rw [show Cr.chk 524288 2 = 450 by decide] at CK
  have CK := Lib.hid CK
  go_wp2_with fail
  refine (CK.out _).mono ?_
  rintro e u9 ⟨rfl, hb_⟩
  have hm_u9 : Below u3.heap.size u3 u9 := hb_
  have q_u9 := hm_u9.size
  replace A0 := Lib.hid (A0.out.trans (hm_u9.mono A0.out.size))
  clear hm_u9
  clear hb_
  go_wp2_with fail
  go_ret
  exact ⟨rfl, A0.out⟩
end CrW
end Go.Proofs.Ytoglmfpmeajbeaa
