/- MeterSteps: the walk of the law. -/
import Derived.Test.YtgpknoakkkkapaaMtK
import Derived.Test.YtgpknoakkkkapaaMtY
import Derived.Test.YtgpknoakkkkapaaDraft
import Derived.Deep.DeepCutAuto
namespace Go.Proofs.Ytgpknoakkkkapaa
set_option linter.unusedSimpArgs false
set_option linter.unusedVariables false
open Go.RowKit
namespace MtW
theorem carry2 {w w1 w' : World} (hb : Below w.heap.size w w1) (h : Below w1.heap.size w1 w') : Below w.heap.size w w' := hb.trans (h.mono hb.size)
set_option maxRecDepth 100000 in
set_option maxHeartbeats 4000000 in
theorem law_Steps (x y : Nat) (hx : x < 4294967296) (hy : y < 4294967296) (G : Option Addr) (gs : List Int) (cg : Nat) (S : Option Addr) (ss : List Int) (cs : Nat) (n m : Nat) (hn : n < 4294967296) (hm : m < 4294967296) (wait : Int) (wt0 : 0 ≤ wait) (wt1 : wait ≤ 65535) (w : World)
    (hG : Mem.Row w w.heap.size G (Mem.nums .u16 gs)) (hS : Mem.Row w w.heap.size S (Mem.nums .u16 ss)) (bG : ∀ n ∈ gs, 0 ≤ n ∧ n ≤ 65535) (bS : ∀ n ∈ ss, 0 ≤ n ∧ n ≤ 65535) (lG : gs.length ≤ maxLen) (lS : ss.length ≤ maxLen) :
    Calls Try.prog 5 #[.agg #[.int .u32 x, .int .u32 y, .slice G gs.length cg, .slice S ss.length cs], .agg #[.int .u32 n, .int .u32 m], .int .u16 wait] w fun e w' => e = .returned (.bool true) ∧ Below w.heap.size w w' := by
  obtain ⟨b, r, b2, r2, p1, p2, p3, p4, p5, p6, p7, p8, _, _, PR⟩ := Pair_some x y hx hy (.slice G gs.length cg) (.slice S ss.length cs) (IntKind.u16.wrap (n : Int)) m (by show 0 ≤ (n : Int) % 65536; omega) (by show (n : Int) % 65536 < 65536; omega) (by omega) (by omega)
  have hne : Mt.newE b r b2 r2 = 0 := Mt.newE_ok p1 p2 p3 p5 (by omega) p7 p8
  have HP := Lib.hid PR
  have HN := Lib.hid hne
  have HG := Lib.hid hG
  have HS := Lib.hid hS
  have HBG := Lib.hid (And.intro bG (And.intro bS (And.intro lG lS)))
  have HOK := Lib.hid (Dr.trace_ok bG bS)
  have HD := Lib.hid (Dr.trace_length gs ss)
  have HAT := Lib.hid (Dr.trace_at bG bS)
  have nw := New_any b r b2 r2
  rw [hne] at nw
  simp only [Mt.newT, if_pos] at nw
  have HNW := Lib.hid nw
  clear PR hG hS bG bS lG lS hne nw
  go_enter Try.func5, Try.ntmps5
  go_wp2_with fail
  obtain ⟨W0, hW0⟩ : ∃ W0, ((w.alloc (.cells #[.int .u32 x, .int .u32 y, .slice G gs.length cg, .slice S ss.length cs] 28)).alloc (.cells #[.int .u32 n, .int .u32 m] 29)) = W0 := ⟨_, rfl⟩
  have d0 : W0.cell? ⟨w.heap.size, 0, none⟩ = some (.int .u32 x) := by rw [← hW0]; simp [go_sem]
  have d1 : W0.cell? ⟨w.heap.size, 1, none⟩ = some (.int .u32 y) := by rw [← hW0]; simp [go_sem]
  have d2 : W0.cell? ⟨w.heap.size, 2, none⟩ = some (.slice G gs.length cg) := by rw [← hW0]; simp [go_sem]
  have d3 : W0.cell? ⟨w.heap.size, 3, none⟩ = some (.slice S ss.length cs) := by rw [← hW0]; simp [go_sem]
  have n0 : W0.cell? ⟨w.heap.size + 1, 0, none⟩ = some (.int .u32 n) := by rw [← hW0]; simp [go_sem]
  have n1 : W0.cell? ⟨w.heap.size + 1, 1, none⟩ = some (.int .u32 m) := by rw [← hW0]; simp [go_sem]
  have z0 : w.heap.size + 1 < W0.heap.size := by rw [← hW0]; simp
  have HW : Hid (Below w.heap.size w W0) := by rw [← hW0]; apply Lib.hid; (repeat' (first | (with_reducible exact Below.refl _ _) | (with_reducible refine Below.alloc ?_ ?_ _) | (with_reducible refine Below.setCell ?_ ?_ _) | (with_reducible refine Below.drew ?_) | (with_reducible assumption) | omega | (simp; done) | (simp; omega)))
  have HK := Lib.hid (And.intro d0 (And.intro d1 (And.intro d2 (And.intro d3 (And.intro n0 n1)))))
  rw [hW0]
  clear hW0 d0 d1 d2 d3 n0 n1
  refine (works_any _).mono ?_
  rintro e w1 ⟨rfl, hb⟩
  have s1 := hb.size
  have d0 := below_cell hb HK.out.1 (by omega)
  have d1 := below_cell hb HK.out.2.1 (by omega)
  have d2 := below_cell hb HK.out.2.2.1 (by omega)
  have d3 := below_cell hb HK.out.2.2.2.1 (by omega)
  have n0 := below_cell hb HK.out.2.2.2.2.1 (by omega)
  have n1 := below_cell hb HK.out.2.2.2.2.2 (by omega)
  have HB1 := Lib.hid hb
  clear hb
  have le_w1_0_0 : w.heap.size ≤ w1.heap.size := by omega
  have le_w1_0_1 : w.heap.size ≤ w1.heap.size + 1 := by omega
  have le_w1_0_2 : w.heap.size ≤ w1.heap.size + 1 + 1 := by omega
  have le_w1_0_3 : w.heap.size ≤ w1.heap.size + 1 + 1 + 1 := by omega
  have lu_w1_0_1 : w.heap.size < w1.heap.size + 1 := by omega
  have lu_w1_0_2 : w.heap.size < w1.heap.size + 1 + 1 := by omega
  have lu_w1_0_3 : w.heap.size < w1.heap.size + 1 + 1 + 1 := by omega
  have lt_w1_0_0 : w.heap.size < w1.heap.size := by omega
  have lt_w1_0_1 : w.heap.size + 1 < w1.heap.size := by omega
  go_wp2_with fail
  refine (HP.out _).mono ?_
  rintro e w2 ⟨rfl, hb⟩
  have s2 := hb.size
  have HB2 := Lib.hid (HB1.out.trans (hb.mono s1))
  clear hb d0 d1 d2 d3 n0 n1 HB1
  have d0 := below_cell HB2.out HK.out.1 (by omega)
  have d1 := below_cell HB2.out HK.out.2.1 (by omega)
  have d2 := below_cell HB2.out HK.out.2.2.1 (by omega)
  have d3 := below_cell HB2.out HK.out.2.2.2.1 (by omega)
  have le_w2_0_0 : w.heap.size ≤ w2.heap.size := by omega
  have le_w2_0_1 : w.heap.size ≤ w2.heap.size + 1 := by omega
  have le_w2_0_2 : w.heap.size ≤ w2.heap.size + 1 + 1 := by omega
  have le_w2_0_3 : w.heap.size ≤ w2.heap.size + 1 + 1 + 1 := by omega
  have lu_w2_0_1 : w.heap.size < w2.heap.size + 1 := by omega
  have lu_w2_0_2 : w.heap.size < w2.heap.size + 1 + 1 := by omega
  have lu_w2_0_3 : w.heap.size < w2.heap.size + 1 + 1 + 1 := by omega
  have lt_w2_0_0 : w.heap.size < w2.heap.size := by omega
  have lt_w2_0_1 : w.heap.size + 1 < w2.heap.size := by omega
  go_wp2_with fail
  obtain ⟨W3, hW3⟩ : ∃ W3, (w2.alloc (.cells #[.int .i64 b, .int .i64 r] 23)).alloc (.cells #[.int .i64 b2, .int .i64 r2] 23) = W3 := ⟨_, rfl⟩
  have u0 : W3.cell? ⟨w2.heap.size, 0, none⟩ = some (.int .i64 b) := by rw [← hW3]; simp [go_sem]
  have u1 : W3.cell? ⟨w2.heap.size, 1, none⟩ = some (.int .i64 r) := by rw [← hW3]; simp [go_sem]
  have u2 : W3.cell? ⟨w2.heap.size + 1, 0, none⟩ = some (.int .i64 b2) := by rw [← hW3]; simp [go_sem]
  have u3 : W3.cell? ⟨w2.heap.size + 1, 1, none⟩ = some (.int .i64 r2) := by rw [← hW3]; simp [go_sem]
  have z3 : w2.heap.size + 1 < W3.heap.size := by rw [← hW3]; simp
  have HB3 : Hid (Below W0.heap.size W0 W3) := by rw [← hW3]; exact Lib.hid ((HB2.out.alloc HB2.out.size _).alloc (by have := HB2.out.size; simp; omega) _)
  have HU := Lib.hid (And.intro u0 (And.intro u1 (And.intro u2 u3)))
  rw [hW3]
  have HWW := Lib.hid (HW.out.trans (HB3.out.mono HW.out.size))
  clear hW3 u0 u1 u2 u3 d0 d1 d2 d3
  refine (DrW.Trace_any x y G gs cg S ss cs _ ((HG.out.below HWW.out).of_lt HWW.out.size) ((HS.out.below HWW.out).of_lt HWW.out.size) HBG.out.1 HBG.out.2.1 HBG.out.2.2.1 HBG.out.2.2.2).mono ?_
  rintro e w4 ⟨⟨v4, rfl, hown⟩, hb⟩
  obtain ⟨_, A, cap, rfl, hA⟩ := Mem.own_arr hown
  generalize Dr.trace gs ss = l at *
  have h30 : l.length ≤ 30 := by have := HD.out; omega
  have HA := Lib.hid hA
  have HB4 := Lib.hid hb
  have s4 := hb.size
  clear hown hA HG HS
  have u0 := below_cell hb HU.out.1 (by omega)
  have u1 := below_cell hb HU.out.2.1 (by omega)
  have u2 := below_cell hb HU.out.2.2.1 (by omega)
  have u3 := below_cell hb HU.out.2.2.2 (by omega)
  clear hb
  go_wp2_with fail
  refine (Run_good b r b2 r2 A l cap _ HA.out (by omega) HN.out (chk_of_ok HOK.out)).mono ?_
  rintro e w5 ⟨⟨v5, rfl, hown⟩, hb⟩
  have hlr := Mt.run_length b r b2 r2 l
  obtain ⟨A5, c5, rfl, hI5⟩ := own_slice hown
  have s5 := hb.size
  have HB5 := Lib.hid (HB4.out.trans (hb.mono s4))
  have HA5 := Lib.hid (Tr.Arr.of_lt (HA.out.below hb) s5)
  have HI := Lib.hid hI5
  have HLR := Lib.hid hlr
  clear hown hb u0 u1 u2 u3 hlr hI5 HA
  have u0 := below_cell HB5.out HU.out.1 (by omega)
  have u1 := below_cell HB5.out HU.out.2.1 (by omega)
  have u2 := below_cell HB5.out HU.out.2.2.1 (by omega)
  have u3 := below_cell HB5.out HU.out.2.2.2 (by omega)
  go_wp2_with fail
  refine (HNW.out _).mono ?_
  rintro e w6 ⟨rfl, hb⟩
  have s6 := hb.size
  have HB6 := Lib.hid (HB5.out.trans (hb.mono (by omega)))
  have HA6 := Lib.hid (Tr.Arr.of_lt (HA5.out.below hb) s6)
  have HI6 := Lib.hid (Tr.Ints.of_lt (HI.out.below hb) s6)
  clear hb u0 u1 u2 u3 HA5 HI HB5 HB4 HNW
  have u0 := below_cell HB6.out HU.out.1 (by omega)
  have u1 := below_cell HB6.out HU.out.2.1 (by omega)
  have u2 := below_cell HB6.out HU.out.2.2.1 (by omega)
  have u3 := below_cell HB6.out HU.out.2.2.2 (by omega)
  have HU6 := Lib.hid (And.intro u0 (And.intro u1 (And.intro u2 u3)))
  clear u0 u1 u2 u3
  go_wp2_with fail
  have lz : ((l.length : Int) == (l.length : Int)) = true := by simp
  go_loopw [14] (fun i wr => ∃ (k : Nat) (lt c p : Int) (pre : List Int), k ≤ l.length ∧ i = .int .i64 k ∧ Mem.Box3 wr w6.heap.size lt c p ∧ Mt.run b r b2 r2 l = pre ++ Mt.runFrom b r b2 r2 lt c p (l.drop k) ∧ pre.length = k ∧ Tr.okFrom lt (l.drop k) = true ∧ 0 ≤ lt ∧ lt ≤ 1966050 ∧ 0 ≤ c ∧ c ≤ b * 1048576 ∧ 0 ≤ p ∧ p ≤ b2 * 1048576 ∧ Below w6.heap.size w6 wr) (fun i _ => l.length - (intOf i).toNat)
  case atStart => exact ⟨0, 0, b * 1048576, b2 * 1048576, [], by omega, rfl, Mem.Box3.new _ _ _ _ _, rfl, rfl, Tr.chk_ok (chk_of_ok HOK.out), by omega, by omega, by omega, by omega, by omega, by omega, by (repeat' (first | (with_reducible exact Below.refl _ _) | (with_reducible refine Below.alloc ?_ ?_ _) | (with_reducible refine Below.setCell ?_ ?_ _) | (with_reducible refine Below.drew ?_) | (with_reducible assumption) | omega | (simp; done) | (simp; omega)))⟩
  case round =>
    obtain ⟨k, lt, c, p, pre, hk, rfl, hbox, hrun, hpl, hok, t0, t1, c0, c1, q0, q1, hbr⟩ := hrel
    by_cases hlt : k < l.length
    · obtain ⟨x, hx⟩ : ∃ x, l[k]? = some x := ⟨l[k], List.getElem?_eq_getElem hlt⟩
      have hx30 := HAT.out x (List.mem_of_getElem? hx)
      have hs := Tr.okFrom_step (last := lt) hx
      rw [hok] at hs
      have hs1 := hs.symm
      rw [Bool.and_eq_true] at hs1
      obtain ⟨hs1, hs2⟩ := hs1
      unfold Tr.stepOk at hs1
      rw [Bool.and_eq_true, decide_eq_true_iff, decide_eq_true_iff] at hs1
      obtain ⟨⟨x1, x2⟩, x3, x4⟩ := hs1
      have hrs := Mt.runFrom_step (b := b) (r := r) (b2 := b2) (r2 := r2) (lt := lt) (c := c) (p := p) hx
      rw [hrs] at hrun
      obtain ⟨ad, rfl, hbk, hc0, hc1⟩ := (HA6.out.below hbr) k x hx
      have F1 := Mt.fill_range (b := b) (r := r) (l := lt) (c := c) (at_ := x.1) p1 (by omega) x1 c0
      have F2 := Mt.fill_range (b := b2) (r := r2) (l := lt) (c := p) (at_ := x.1) p5 (by omega) x1 q0
      have MK := Mark_fit (b := b) (r := r) (b2 := b2) (r2 := r2) HN.out t0 c0 c1 q0 q1 x1 x2 x3 x4
      have R1 := Mt.takeC_range (need := x.2 * 1048576) (P := Mt.fill b2 r2 lt p x.1) (by omega) F1.1 F1.2
      have R2 := Mt.takeP_range (need := x.2 * 1048576) (by omega) F2.1 F2.2
      have hcol : (Mt.run b r b2 r2 l)[k]? = some (Mt.color (Mt.fill b r lt c x.1) (Mt.fill b2 r2 lt p x.1) (x.2 * 1048576)) := by rw [hrun, ← hpl]; simp
      obtain ⟨bd, hbd, hbk2, hcc⟩ := (HI6.out.below hbr) k _ hcol
      generalize Mt.color (Mt.fill b r lt c x.1) (Mt.fill b2 r2 lt p x.1) (x.2 * 1048576) = col at *
      generalize Mt.takeC (Mt.fill b r lt c x.1) (Mt.fill b2 r2 lt p x.1) (x.2 * 1048576) = tc at *
      generalize Mt.takeP (Mt.fill b2 r2 lt p x.1) (x.2 * 1048576) = tp at *
      subst hbd
      have HX := Lib.hid (And.intro hrun (And.intro hs2 (And.intro hpl (And.intro R1 R2))))
      have HM := Lib.hid MK
      have HB := Lib.hid hbox
      have HR := Lib.hid hbr
      have lr := hbr.size
      clear hx hs hs2 hrs hrun hok MK hcol hbr F1 F2 R1 R2 hpl lz
      have i0 : (0 : Int) ≤ (k : Int) := by omega
      have i1 : (k : Int) < (l.length : Int) := by omega
      go_upto_region 12 with fail
      obtain ⟨X, rfl⟩ : ∃ X : World, X = wr := ⟨_, rfl⟩
      have HSx : Hid (∀ w', Below X.heap.size X w' → (Below X.heap.size X w' ∧ w'.cell? ⟨w2.heap.size, 0, none⟩ = some (.int .i64 b) ∧ w'.cell? ⟨w2.heap.size, 1, none⟩ = some (.int .i64 r) ∧ w'.cell? ⟨w2.heap.size + 1, 0, none⟩ = some (.int .i64 b2) ∧ w'.cell? ⟨w2.heap.size + 1, 1, none⟩ = some (.int .i64 r2) ∧ w'.cell? ⟨w6.heap.size, 0, none⟩ = some (.int .i64 lt) ∧ w'.cell? ⟨w6.heap.size, 1, none⟩ = some (.int .i64 c) ∧ w'.cell? ⟨w6.heap.size, 2, none⟩ = some (.int .i64 p) ∧ w'.cell? (ad.add (k * 2)) = some (.int .i64 x.1) ∧ w'.cell? ⟨(ad.add (k * 2)).block, (ad.add (k * 2)).off + 1, none⟩ = some (.int .i64 x.2))) := Lib.hid (fun w' h => ⟨h, below_cell h (below_cell HR.out HU6.out.1 (by omega)) (by omega), below_cell h (below_cell HR.out HU6.out.2.1 (by omega)) (by omega), below_cell h (below_cell HR.out HU6.out.2.2.1 (by omega)) (by omega), below_cell h (below_cell HR.out HU6.out.2.2.2 (by omega)) (by omega), below_cell h HB.out.c0 HB.out.lt, below_cell h HB.out.c1 HB.out.lt, below_cell h HB.out.c2 HB.out.lt, (h.cell (by rw [Tr.block_add]; omega)).trans hc0, (h.cell (by show (ad.add (k * 2)).block < _; rw [Tr.block_add]; omega)).trans hc1⟩)
      go_cut [15, 16, 17] (fun s15 s16 s17 wx => s15 = .int .i64 col ∧ s17 = .int .i64 0 ∧ ∃ g16 : Nat, s16 = .pointer (some ⟨g16, 0, none⟩) ∧ X.heap.size ≤ g16 ∧ Mem.Box3 wx g16 x.1 tc tp ∧ Below X.heap.size X wx)
      case first =>
        go_region_held3 (fun w' => Below X.heap.size X w' ∧ w'.cell? ⟨w2.heap.size, 0, none⟩ = some (.int .i64 b) ∧ w'.cell? ⟨w2.heap.size, 1, none⟩ = some (.int .i64 r) ∧ w'.cell? ⟨w2.heap.size + 1, 0, none⟩ = some (.int .i64 b2) ∧ w'.cell? ⟨w2.heap.size + 1, 1, none⟩ = some (.int .i64 r2) ∧ w'.cell? ⟨w6.heap.size, 0, none⟩ = some (.int .i64 lt) ∧ w'.cell? ⟨w6.heap.size, 1, none⟩ = some (.int .i64 c) ∧ w'.cell? ⟨w6.heap.size, 2, none⟩ = some (.int .i64 p) ∧ w'.cell? (ad.add (k * 2)) = some (.int .i64 x.1) ∧ w'.cell? ⟨(ad.add (k * 2)).block, (ad.add (k * 2)).off + 1, none⟩ = some (.int .i64 x.2))
          ((refine HSx.out _ ?_; first | assumption | (repeat' (first | (with_reducible exact Below.refl _ _) | (with_reducible refine Below.alloc ?_ ?_ _) | (with_reducible refine Below.setCell ?_ ?_ _) | (with_reducible refine Below.drew ?_) | (with_reducible assumption) | omega | (simp; done) | (simp; omega)))))
          (first | (go_at_call_of 15 (Value.agg #[.int .i64 b, .int .i64 r]); go_split_ands; refine (HM.out _).mono ?_; rintro e w7 ⟨rfl, hr7⟩; have hb7 := carry2 (w := X) (by assumption) hr7; obtain ⟨hc7, hz7⟩ := bcell hr7; have s7 := hb7.size; have r7 := hr7.size; simp only [World.size_alloc, World.size_drew] at r7))
        all_goals
          go_wp2_with fail
          go_meet
          first
          | exact ⟨rfl, rfl, _, rfl, s7, Mem.Box3.new _ _ _ _ _, hb7.alloc s7 _⟩
          | exact ⟨rfl, rfl, _, rfl, Nat.le_refl _, ((Mem.Box3.new X _ 0 0 0).drew.below hr7 (by simp)).store _ _ _, Mem.below_store hb7 (Nat.le_refl _) _ _ _⟩
      case rest =>
        obtain ⟨rfl, rfl, g16, rfl, hg16, b16, hby⟩ := hcut
        obtain ⟨Y, rfl⟩ : ∃ Y : World, Y = wc := ⟨_, rfl⟩
        have HY := Lib.hid hby
        have ly := hby.size
        have B12 := Lib.hid (HB.out.below hby HB.out.lt)
        have l12 := HB.out.lt
        have B16 := Lib.hid b16
        have HRY := Lib.hid (HR.out.trans (hby.mono lr))
        have CK := Check_any b r b2 r2 x.1 tc tp
        rw [Mt.chkE_ok HN.out (by omega) (by omega) HX.out.2.2.2.1.1 HX.out.2.2.2.1.2 HX.out.2.2.2.2.1 HX.out.2.2.2.2.2] at CK
        have HCK := Lib.hid CK
        have hcc' := (hby.cell (by rw [Tr.block_add]; omega)).trans hcc
        have hc0' := (hby.cell (by rw [Tr.block_add]; omega)).trans hc0
        have HSy : Hid (∀ w', Below Y.heap.size Y w' → (Below Y.heap.size Y w' ∧ w'.cell? ⟨w2.heap.size, 0, none⟩ = some (.int .i64 b) ∧ w'.cell? ⟨w2.heap.size, 1, none⟩ = some (.int .i64 r) ∧ w'.cell? ⟨w2.heap.size + 1, 0, none⟩ = some (.int .i64 b2) ∧ w'.cell? ⟨w2.heap.size + 1, 1, none⟩ = some (.int .i64 r2) ∧ w'.cell? ⟨g16, 0, none⟩ = some (.int .i64 x.1) ∧ w'.cell? ⟨g16, 1, none⟩ = some (.int .i64 tc) ∧ w'.cell? ⟨g16, 2, none⟩ = some (.int .i64 tp) ∧ w'.cell? (ad.add (k * 2)) = some (.int .i64 x.1) ∧ w'.cell? (bd.add k) = some (.int .i64 col))) := Lib.hid (fun w' h => ⟨h, below_cell h (below_cell HRY.out HU6.out.1 (by omega)) (by omega), below_cell h (below_cell HRY.out HU6.out.2.1 (by omega)) (by omega), below_cell h (below_cell HRY.out HU6.out.2.2.1 (by omega)) (by omega), below_cell h (below_cell HRY.out HU6.out.2.2.2 (by omega)) (by omega), below_cell h B16.out.c0 B16.out.lt, below_cell h B16.out.c1 B16.out.lt, below_cell h B16.out.c2 B16.out.lt, (h.cell (by rw [Tr.block_add]; omega)).trans hc0', (h.cell (by rw [Tr.block_add]; omega)).trans hcc'⟩)
        have i2 : (k : Int) < ((Mt.run b r b2 r2 l).length : Int) := by have := HLR.out; omega
        clear hby b16 CK hc0 hc1 hcc hc0' hcc' HSx
        go_upto_region 13 with fail
        go_cut [117] (fun s wx => s = .bool false ∧ Below Y.heap.size Y wx)
        case first =>
          go_region_held3 (fun w' => Below Y.heap.size Y w' ∧ w'.cell? ⟨w2.heap.size, 0, none⟩ = some (.int .i64 b) ∧ w'.cell? ⟨w2.heap.size, 1, none⟩ = some (.int .i64 r) ∧ w'.cell? ⟨w2.heap.size + 1, 0, none⟩ = some (.int .i64 b2) ∧ w'.cell? ⟨w2.heap.size + 1, 1, none⟩ = some (.int .i64 r2) ∧ w'.cell? ⟨g16, 0, none⟩ = some (.int .i64 x.1) ∧ w'.cell? ⟨g16, 1, none⟩ = some (.int .i64 tc) ∧ w'.cell? ⟨g16, 2, none⟩ = some (.int .i64 tp) ∧ w'.cell? (ad.add (k * 2)) = some (.int .i64 x.1) ∧ w'.cell? (bd.add k) = some (.int .i64 col))
            ((refine HSy.out _ ?_; first | assumption | (repeat' (first | (with_reducible exact Below.refl _ _) | (with_reducible refine Below.alloc ?_ ?_ _) | (with_reducible refine Below.setCell ?_ ?_ _) | (with_reducible refine Below.drew ?_) | (with_reducible assumption) | omega | (simp; done) | (simp; omega)))))
            (first | (go_at_call_of 13 (Value.agg #[.int .i64 b, .int .i64 r]); go_split_ands; refine (HCK.out _).mono ?_; rintro e w7 ⟨rfl, hr7⟩; have hb7 := carry2 (w := Y) (by assumption) hr7))
          all_goals
            go_wp2_with fail
            go_meet
            exact ⟨rfl, hb7⟩
        case rest =>
          obtain ⟨rfl, hbz⟩ := hcut
          obtain ⟨Z, rfl⟩ : ∃ Z : World, Z = wc := ⟨_, rfl⟩
          have D12 := Lib.hid (B12.out.below hbz B12.out.lt)
          have l12y := B12.out.lt
          have D16 := B16.out.below hbz B16.out.lt
          have HRZ := Lib.hid (HRY.out.trans (hbz.mono HRY.out.size))
          have lz := hbz.size
          have e0 := D16.c0
          have e1 := D16.c1
          have e2 := D16.c2
          have f0 := D12.out.c0
          have f1 := D12.out.c1
          have f2 := D12.out.c2
          have h0 := D12.out.z 0
          have h1 := D12.out.z 1
          have h2 := D12.out.z 2
          clear hbz D16 HSy
          go_upto_region 16 with fail
          obtain ⟨V, hV⟩ : ∃ V, ((Z.setCell ⟨w6.heap.size, 0, none⟩ (.int .i64 x.1)).setCell ⟨w6.heap.size, 1, none⟩ (.int .i64 tc)).setCell ⟨w6.heap.size, 2, none⟩ (.int .i64 tp) = V := ⟨_, rfl⟩
          have BV : Hid (Mem.Box3 V w6.heap.size x.1 tc tp) := by rw [← hV]; exact Lib.hid (D12.out.store _ _ _)
          have HV : Hid (Below w6.heap.size w6 V) := by rw [← hV]; exact Lib.hid (Mem.below_store HRZ.out (Nat.le_refl _) _ _ _)
          rw [hV]
          clear hV e0 e1 e2 f0 f1 f2 h0 h1 h2
          have lv := HV.out.size
          have lbv := BV.out.lt
          have u0 := below_cell HV.out HU6.out.1 (by omega)
          have u1 := below_cell HV.out HU6.out.2.1 (by omega)
          have u2 := below_cell HV.out HU6.out.2.2.1 (by omega)
          have u3 := below_cell HV.out HU6.out.2.2.2 (by omega)
          have v0 := BV.out.c0
          have v1 := BV.out.c1
          have v2 := BV.out.c2
          obtain ⟨R1, R2⟩ := HX.out.2.2.2
          have nd : (1 : Int) * 1048576 = 1048576 := rfl
          have M2 := Mark_fit (b := b) (r := r) (b2 := b2) (r2 := r2) (l := x.1) (c := tc) (p := tp) (at_ := x.1 + wait) (size := 1048576) HN.out (by omega) R1.1 R1.2 R2.1 R2.2 (by omega) (by omega) (by omega) (by omega)
          have F1 := Mt.fill_range (b := b) (r := r) (l := x.1) (c := tc) (at_ := x.1 + wait) p1 (by omega) (by omega) R1.1
          have F2 := Mt.fill_range (b := b2) (r := r2) (l := x.1) (c := tp) (at_ := x.1 + wait) p5 (by omega) (by omega) R2.1
          have M4 := Mark_fit (b := b) (r := r) (b2 := b2) (r2 := r2) (l := x.1) (c := tc) (p := tp) (at_ := x.1 + wait + wait) (size := 1) HN.out (by omega) R1.1 R1.2 R2.1 R2.2 (by omega) (by omega) (by omega) (by omega)
          by_cases hred : Mt.fill b2 r2 x.1 tp (x.1 + wait) < 1048576 * 1048576
          · obtain ⟨g1, g2, g3⟩ := Mt.color_red (C := Mt.fill b r x.1 tc (x.1 + wait)) hred
            rw [g1, g2, g3] at M2
            have M3 := Mark_fit (b := b) (r := r) (b2 := b2) (r2 := r2) (l := x.1 + wait) (c := Mt.fill b r x.1 tc (x.1 + wait)) (p := Mt.fill b2 r2 x.1 tp (x.1 + wait)) (at_ := x.1 + wait + wait) (size := 1) HN.out (by omega) F1.1 F1.2 F2.1 F2.2 (by omega) (by omega) (by omega) (by omega)
            rw [Mt.fill_fill (by omega) (by omega) (by omega), Mt.fill_fill (by omega) (by omega) (by omega)] at M3
            generalize Mt.color (Mt.fill b r x.1 tc (x.1 + wait + wait)) (Mt.fill b2 r2 x.1 tp (x.1 + wait + wait)) (1 * 1048576) = k4 at *
            generalize Mt.takeC (Mt.fill b r x.1 tc (x.1 + wait + wait)) (Mt.fill b2 r2 x.1 tp (x.1 + wait + wait)) (1 * 1048576) = t4 at *
            generalize Mt.takeP (Mt.fill b2 r2 x.1 tp (x.1 + wait + wait)) (1 * 1048576) = q4 at *
            generalize Mt.fill b r x.1 tc (x.1 + wait) = fc at *
            generalize Mt.fill b2 r2 x.1 tp (x.1 + wait) = fp at *
            have H2 := Lib.hid M2
            have H3 := Lib.hid M3
            have H4 := Lib.hid M4
            clear M2 M3 M4 g1 g2 g3 F1 F2 R1 R2 nd hred
            go_wp2_with fail
            refine (H2.out _).mono ?_
            rintro e w8 ⟨rfl, hb⟩
            have HV8 := Lib.hid (HV.out.trans (hb.mono lv))
            have BV8 := BV.out.below hb lbv
            have l8 := hb.size
            clear u0 u1 u2 u3 v0 v1 v2
            have u0 := below_cell HV8.out HU6.out.1 (by omega)
            have u1 := below_cell HV8.out HU6.out.2.1 (by omega)
            have u2 := below_cell HV8.out HU6.out.2.2.1 (by omega)
            have u3 := below_cell HV8.out HU6.out.2.2.2 (by omega)
            have v0 := BV8.c0
            have v1 := BV8.c1
            have v2 := BV8.c2
            have HB8 := Lib.hid BV8
            clear hb BV8
            have le_w8_0_0 : w2.heap.size ≤ w8.heap.size := by omega
            have le_w8_0_1 : w2.heap.size ≤ w8.heap.size + 1 := by omega
            have le_w8_0_2 : w2.heap.size ≤ w8.heap.size + 1 + 1 := by omega
            have le_w8_0_3 : w2.heap.size ≤ w8.heap.size + 1 + 1 + 1 := by omega
            have lu_w8_0_1 : w2.heap.size < w8.heap.size + 1 := by omega
            have lu_w8_0_2 : w2.heap.size < w8.heap.size + 1 + 1 := by omega
            have lu_w8_0_3 : w2.heap.size < w8.heap.size + 1 + 1 + 1 := by omega
            have lt_w8_0_0 : w2.heap.size < w8.heap.size := by omega
            have lt_w8_0_1 : w2.heap.size + 1 < w8.heap.size := by omega
            have le_w8_1_0 : w6.heap.size ≤ w8.heap.size := by omega
            have le_w8_1_1 : w6.heap.size ≤ w8.heap.size + 1 := by omega
            have le_w8_1_2 : w6.heap.size ≤ w8.heap.size + 1 + 1 := by omega
            have le_w8_1_3 : w6.heap.size ≤ w8.heap.size + 1 + 1 + 1 := by omega
            have lu_w8_1_1 : w6.heap.size < w8.heap.size + 1 := by omega
            have lu_w8_1_2 : w6.heap.size < w8.heap.size + 1 + 1 := by omega
            have lu_w8_1_3 : w6.heap.size < w8.heap.size + 1 + 1 + 1 := by omega
            have lt_w8_1_0 : w6.heap.size < w8.heap.size := by omega
            go_wp2_with fail
            refine (H3.out _).mono ?_
            rintro e w9 ⟨rfl, hb⟩
            have l9 := hb.size
            simp only [World.size_alloc] at l9
            have HV9 := Lib.hid ((HV8.out.alloc HV8.out.size (.cells #[.int .i64 (x.1 + wait), .int .i64 fc, .int .i64 fp] 31)).trans (hb.mono (by have := HV8.out.size; simp; omega)))
            have BV9 := (HB8.out.alloc (.cells #[.int .i64 (x.1 + wait), .int .i64 fc, .int .i64 fp] 31)).below hb (by simp; omega)
            have B19 := (Mem.Box3.new w8 31 (x.1 + wait) fc fp).below hb (by simp)
            clear u0 u1 u2 u3 v0 v1 v2 hb
            have u0 := below_cell HV9.out HU6.out.1 (by omega)
            have u1 := below_cell HV9.out HU6.out.2.1 (by omega)
            have u2 := below_cell HV9.out HU6.out.2.2.1 (by omega)
            have u3 := below_cell HV9.out HU6.out.2.2.2 (by omega)
            have v0 := BV9.c0
            have v1 := BV9.c1
            have v2 := BV9.c2
            have y0 := B19.c0
            have HB9 := Lib.hid BV9
            clear BV9 B19
            have le_w9_0_0 : w2.heap.size ≤ w9.heap.size := by omega
            have le_w9_0_1 : w2.heap.size ≤ w9.heap.size + 1 := by omega
            have le_w9_0_2 : w2.heap.size ≤ w9.heap.size + 1 + 1 := by omega
            have le_w9_0_3 : w2.heap.size ≤ w9.heap.size + 1 + 1 + 1 := by omega
            have lu_w9_0_1 : w2.heap.size < w9.heap.size + 1 := by omega
            have lu_w9_0_2 : w2.heap.size < w9.heap.size + 1 + 1 := by omega
            have lu_w9_0_3 : w2.heap.size < w9.heap.size + 1 + 1 + 1 := by omega
            have lt_w9_0_0 : w2.heap.size < w9.heap.size := by omega
            have lt_w9_0_1 : w2.heap.size + 1 < w9.heap.size := by omega
            have le_w9_1_0 : w6.heap.size ≤ w9.heap.size := by omega
            have le_w9_1_1 : w6.heap.size ≤ w9.heap.size + 1 := by omega
            have le_w9_1_2 : w6.heap.size ≤ w9.heap.size + 1 + 1 := by omega
            have le_w9_1_3 : w6.heap.size ≤ w9.heap.size + 1 + 1 + 1 := by omega
            have lu_w9_1_1 : w6.heap.size < w9.heap.size + 1 := by omega
            have lu_w9_1_2 : w6.heap.size < w9.heap.size + 1 + 1 := by omega
            have lu_w9_1_3 : w6.heap.size < w9.heap.size + 1 + 1 + 1 := by omega
            have lt_w9_1_0 : w6.heap.size < w9.heap.size := by omega
            have le_w9_2_0 : w8.heap.size ≤ w9.heap.size := by omega
            have le_w9_2_1 : w8.heap.size ≤ w9.heap.size + 1 := by omega
            have le_w9_2_2 : w8.heap.size ≤ w9.heap.size + 1 + 1 := by omega
            have le_w9_2_3 : w8.heap.size ≤ w9.heap.size + 1 + 1 + 1 := by omega
            have lu_w9_2_1 : w8.heap.size < w9.heap.size + 1 := by omega
            have lu_w9_2_2 : w8.heap.size < w9.heap.size + 1 + 1 := by omega
            have lu_w9_2_3 : w8.heap.size < w9.heap.size + 1 + 1 + 1 := by omega
            have lt_w9_2_0 : w8.heap.size < w9.heap.size := by omega
            go_wp2_with fail
            refine (H4.out _).mono ?_
            rintro e w10 ⟨rfl, hb⟩
            have l10 := hb.size
            simp only [World.size_alloc] at l10
            have HV10 := Lib.hid ((HV9.out.alloc HV9.out.size (.cells #[.int .i64 (x.1 + wait + wait), .int .i64 t4, .int .i64 q4] 31)).trans (hb.mono (by have := HV9.out.size; simp; omega)))
            have B10 := Lib.hid ((HB9.out.alloc (.cells #[.int .i64 (x.1 + wait + wait), .int .i64 t4, .int .i64 q4] 31)).below hb (by simp; omega))
            have B22 := (Mem.Box3.new w9 31 (x.1 + wait + wait) t4 q4).below hb (by simp)
            clear u0 u1 u2 u3 v0 v1 v2 hb y0
            have y0 := B22.c0
            have y1 := B22.c1
            have y2 := B22.c2
            clear B22
            have le_w10_0_0 : w9.heap.size ≤ w10.heap.size := by omega
            have le_w10_0_1 : w9.heap.size ≤ w10.heap.size + 1 := by omega
            have le_w10_0_2 : w9.heap.size ≤ w10.heap.size + 1 + 1 := by omega
            have le_w10_0_3 : w9.heap.size ≤ w10.heap.size + 1 + 1 + 1 := by omega
            have lu_w10_0_1 : w9.heap.size < w10.heap.size + 1 := by omega
            have lu_w10_0_2 : w9.heap.size < w10.heap.size + 1 + 1 := by omega
            have lu_w10_0_3 : w9.heap.size < w10.heap.size + 1 + 1 + 1 := by omega
            have lt_w10_0_0 : w9.heap.size < w10.heap.size := by omega
            go_wp2_with fail
            go_roundw
            case rel => exact ⟨k + 1, x.1, tc, tp, pre ++ [col], by omega, by go_num, B10.out.alloc _, by rw [HX.out.1]; simp, by rw [List.length_append, HX.out.2.2.1]; rfl, HX.out.2.1, by omega, by omega, HX.out.2.2.2.1.1, HX.out.2.2.2.1.2, HX.out.2.2.2.2.1, HX.out.2.2.2.2.2, HV10.out.alloc HV10.out.size _⟩
            case measure => simp [intOf]; omega
          · have hcn := Mt.color_not (C := Mt.fill b r x.1 tc (x.1 + wait)) hred
            generalize Mt.color (Mt.fill b r x.1 tc (x.1 + wait)) (Mt.fill b2 r2 x.1 tp (x.1 + wait)) (1048576 * 1048576) = k2 at *
            generalize Mt.takeC (Mt.fill b r x.1 tc (x.1 + wait)) (Mt.fill b2 r2 x.1 tp (x.1 + wait)) (1048576 * 1048576) = t2 at *
            generalize Mt.takeP (Mt.fill b2 r2 x.1 tp (x.1 + wait)) (1048576 * 1048576) = q2 at *
            have H2 := Lib.hid M2
            clear M2 M4 F1 F2 R1 R2 nd hred
            go_wp2_with fail
            refine (H2.out _).mono ?_
            rintro e w8 ⟨rfl, hb⟩
            have HV8 := Lib.hid (HV.out.trans (hb.mono lv))
            have BV8 := Lib.hid (BV.out.below hb lbv)
            have l8 := hb.size
            clear hb u0 u1 u2 u3 v0 v1 v2
            go_wp2_with fail
            go_roundw
            case rel => exact ⟨k + 1, x.1, tc, tp, pre ++ [col], by omega, by go_num, BV8.out.alloc _, by rw [HX.out.1]; simp, by rw [List.length_append, HX.out.2.2.1]; rfl, HX.out.2.1, by omega, by omega, HX.out.2.2.2.1.1, HX.out.2.2.2.1.2, HX.out.2.2.2.2.1, HX.out.2.2.2.2.2, HV8.out.alloc HV8.out.size _⟩
            case measure => simp [intOf]; omega
    · have HR := Lib.hid hbr
      clear hbox hrun hok hbr
      go_wp2_with fail
      go_ret
      exact ⟨rfl, HWW.out.trans ((HB6.out.mono (by have := HWW.out.size; omega)).trans (HR.out.mono (by have := HWW.out.size; have := HB6.out.size; omega)))⟩
end MtW
end Go.Proofs.Ytgpknoakkkkapaa
