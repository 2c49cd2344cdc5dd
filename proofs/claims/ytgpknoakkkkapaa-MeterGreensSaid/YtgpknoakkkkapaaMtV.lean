/- The reference's Run. -/
import Derived.Test.YtgpknoakkkkapaaMtU
import Derived.Deep.Onto
namespace Go.Proofs.Ytgpknoakkkkapaa
set_option linter.unusedSimpArgs false
set_option linter.unusedVariables false
open Go.RowKit
namespace Mt
theorem refFrom_step {b r b2 r2 : Int} {g q l : List (Int × Int)} {k : Nat} {x : Int × Int} (hx : l[k]? = some x) : refFrom b r b2 r2 g q (l.drop k) = refK b r b2 r2 g q x :: refFrom b r b2 r2 (refG (refK b r b2 r2 g q x) g x) (refP (refK b r b2 r2 g q x) q x) (l.drop (k + 1)) := by
  obtain ⟨hk, rfl⟩ := List.getElem?_eq_some_iff.1 hx
  rw [List.drop_eq_getElem_cons hk]; rfl
theorem refK_2 {b r b2 r2 : Int} {g q : List (Int × Int)} {x : Int × Int} (h : Fits.fits b2 r2 (q ++ [x]) = false) : refK b r b2 r2 g q x = 2 := by unfold refK; rw [if_pos h]
theorem refK_1 {b r b2 r2 : Int} {g q : List (Int × Int)} {x : Int × Int} (h : Fits.fits b2 r2 (q ++ [x]) = true) (h1 : Fits.fits b r (g ++ [x]) = false) : refK b r b2 r2 g q x = 1 := by unfold refK; rw [if_neg (by simp [h]), if_pos h1]
theorem refK_0 {b r b2 r2 : Int} {g q : List (Int × Int)} {x : Int × Int} (h : Fits.fits b2 r2 (q ++ [x]) = true) (h1 : Fits.fits b r (g ++ [x]) = true) : refK b r b2 r2 g q x = 0 := by unfold refK; rw [if_neg (by simp [h]), if_neg (by simp [h1])]
end Mt
namespace MtW
set_option maxHeartbeats 4000000 in
theorem ref_Run_good (b r b2 r2 : Int) (A : Option Addr) (l : List (Int × Int)) (cap : Nat) (w : World) (hA : Tr.Arr w w.heap.size A l) (hl : l.length ≤ 100000) (hn : Mt.newE b r b2 r2 = 0) (ht : Tr.ok l = true) :
    Calls Try.prog 20 #[.agg #[.int .i64 b, .int .i64 r], .agg #[.int .i64 b2, .int .i64 r2], .slice A l.length cap] w fun e w' => (∃ v, e = .returned (.tuple #[v, .int .i64 0]) ∧ w'.ownsRow w.heap.size 3 1 v l.length (Mem.ints (Mt.refFrom b r b2 r2 [] [] l))) ∧ Below w.heap.size w w' := by
  have c1 := ref_New b r b2 r2
  rw [hn] at c1
  simp only [Mt.newT, if_pos] at c1
  have C1 := Lib.hid c1
  have c2 := fun W hA => RightTrace_any A l cap W hA hl
  rw [ht] at c2
  have C2 := Lib.hid c2
  obtain ⟨o1, o2, o3⟩ := Mt.new_zero hn
  have HT : Hid (l.length ≤ 200 ∧ Tr.okFrom 0 l = true) := by
    apply Lib.hid
    unfold Tr.ok at ht; rw [Bool.and_eq_true, decide_eq_true_iff] at ht; exact ht
  have HA := Lib.hid hA
  have H200 := HT.out.1
  clear c1 c2 hn ht hA
  go_enter Try.func20, Try.ntmps20
  go_wp2_with fail
  refine (C1.out _).mono ?_
  rintro e w1 ⟨rfl, hb⟩
  have HB1 : Hid (Below w.heap.size w w1) := Lib.hid (Below.trans (by (repeat' (first | (with_reducible exact Below.refl _ _) | (with_reducible refine Below.alloc ?_ ?_ _) | (with_reducible refine Below.setCell ?_ ?_ _) | (with_reducible refine Below.drew ?_) | (with_reducible assumption) | omega | (simp; done) | (simp; omega)))) (hb.mono (by simp; omega)))
  obtain ⟨hc, hz⟩ := bcell hb
  have hsz := hb.size
  simp at hsz
  have n0 : w.heap.size < w1.heap.size := by omega
  have n1 : w.heap.size + 1 < w1.heap.size := by omega
  clear hsz C1 hb
  go_wp2_with fail
  refine (C2.out _ ?_).mono ?_
  · exact Tr.Arr.of_lt (Tr.Arr.below HA.out (Below.alloc HB1.out HB1.out.size _)) (Below.alloc HB1.out HB1.out.size _).size
  rintro e w2 ⟨rfl, hb⟩
  have HB2 : Hid (Below w.heap.size w w2) := Lib.hid (Below.trans (Below.alloc HB1.out HB1.out.size _) (hb.mono (Below.alloc HB1.out HB1.out.size _).size))
  obtain ⟨hc2, hz2⟩ := bcell hb
  have hsz := hb.size
  simp at hsz
  have n2 : w.heap.size + 1 < w2.heap.size := by omega
  have n3 : w.heap.size < w2.heap.size := by omega
  have k0 : w2.cell? ⟨w.heap.size, 0, none⟩ = some (.int .i64 b) := by rw [hc2 _ _ (by simp; omega)]; simp [go_sem, hc, n0, n1]
  have k1 : w2.cell? ⟨w.heap.size, 1, none⟩ = some (.int .i64 r) := by rw [hc2 _ _ (by simp; omega)]; simp [go_sem, hc, n0, n1]
  have k2 : w2.cell? ⟨w.heap.size + 1, 0, none⟩ = some (.int .i64 b2) := by rw [hc2 _ _ (by simp; omega)]; simp [go_sem, hc, n0, n1]
  have k3 : w2.cell? ⟨w.heap.size + 1, 1, none⟩ = some (.int .i64 r2) := by rw [hc2 _ _ (by simp; omega)]; simp [go_sem, hc, n0, n1]
  have HAA : Hid (Tr.Arr w2 w2.heap.size A l) := Lib.hid ((HA.out.below HB2.out).of_lt HB2.out.size)
  clear hb hsz C2 hc hz hc2 hz2 HA
  go_wp2_with fail
  go_loopw [10, 11, 12, 13] (fun v10 v11 v12 i wr => ∃ k : Nat, k ≤ l.length ∧ i = .int .i64 k ∧ (∃ (pre : List Int) (g q : List (Int × Int)), wr.ownsRow w2.heap.size 3 1 v10 k (Mem.ints pre) ∧ wr.ownsRow w2.heap.size 33 2 v11 g.length (Mem.arrs g) ∧ wr.ownsRow w2.heap.size 33 2 v12 q.length (Mem.arrs q) ∧ Mem.Apart v11 v12 ∧
      Mt.refFrom b r b2 r2 [] [] l = pre ++ Mt.refFrom b r b2 r2 g q (l.drop k) ∧ Tr.okFrom 0 (g ++ l.drop k) = true ∧ Tr.okFrom 0 (q ++ l.drop k) = true ∧ g.length ≤ k ∧ q.length ≤ k) ∧ Below w2.heap.size w2 wr) (fun _ _ _ i _ => l.length - (intOf i).toNat)
  case atStart => exact ⟨0, by omega, rfl, ⟨[], [], [], World.ownsRow_nil _ _ _ _, World.ownsRow_nil _ _ _ _, World.ownsRow_nil _ _ _ _, .inl rfl, rfl, HT.out.2, HT.out.2, Nat.le_refl _, Nat.le_refl _⟩, Below.refl _ _⟩
  case round =>
    obtain ⟨k, hk, rfl, ⟨pre, g, q, w10, w11, w12, hap, href, hg, hq, lg, lq⟩, hbr⟩ := hrel
    by_cases hlt : k < l.length
    · obtain ⟨x, hx⟩ : ∃ x, l[k]? = some x := ⟨l[k], List.getElem?_eq_getElem hlt⟩
      have hd : l.drop k = x :: l.drop (k + 1) := by
        obtain ⟨hk', rfl⟩ := List.getElem?_eq_some_iff.1 hx
        exact List.drop_eq_getElem_cons hk'
      rw [hd] at hg hq
      have hs := Mt.refFrom_step (b := b) (r := r) (b2 := b2) (r2 := r2) (g := g) (q := q) hx
      have hg1 : Tr.okFrom 0 (g ++ [x]) = true := Tr.okFrom_prefix (b := l.drop (k + 1)) (by simpa using hg)
      have hq1 : Tr.okFrom 0 (q ++ [x]) = true := Tr.okFrom_prefix (b := l.drop (k + 1)) (by simpa using hq)
      obtain ⟨x1, x2⟩ := x
      have H10 := Lib.hid w10
      have H11 := Lib.hid w11
      have H12 := Lib.hid w12
      obtain ⟨_, A1, c1, rfl, hG⟩ := Mem.own_arr w11
      obtain ⟨_, A2, c2, rfl, hQ⟩ := Mem.own_arr w12
      have F1 := fun W hA => fits_any b r A1 g c1 x1 x2 W hA (by omega) o1.1 o1.2.1 o1.2.2.1 o1.2.2.2 hg1
      have F2 := fun W hA => fits_any b2 r2 A2 q c2 x1 x2 W hA (by omega) o2.1 o2.2.1 o2.2.2.1 o2.2.2.2 hq1
      have HG := Lib.hid hG
      have HQ := Lib.hid hQ
      have HBR := Lib.hid hbr
      have HX := Lib.hid hx
      have HREF := Lib.hid (href.trans (by rw [hs]))
      have HOK := Lib.hid (And.intro hg (And.intro hq (And.intro (Tr.okFrom_skip hg) (Tr.okFrom_skip hq))))
      have HAP := Lib.hid hap
      obtain ⟨ad, had, hbk0, z0, z1⟩ := HAA.out k (x1, x2) hx
      obtain ⟨ad', had', hbk', hc0, hc1⟩ := (HAA.out.below hbr) k (x1, x2) hx
      rw [had] at had'
      injection had' with had'
      subst had' had
      have e0 := below_cell hbr k0 n3
      have e1 := below_cell hbr k1 n3
      have e2 := below_cell hbr k2 n2
      have e3 := below_cell hbr k3 n2
      have hsz := hbr.size
      obtain ⟨ia, ha0, ha1, ha2, ha3⟩ := info_parts Mem.arr_info
      have IA := Lib.hid (And.intro ha0 (And.intro ha1 (And.intro ha2 ha3)))
      obtain ⟨ii, hi0, hz0, hz1, hz2⟩ := info_parts Mem.int_info
      have II := Lib.hid (And.intro hi0 (And.intro hz0 (And.intro hz1 hz2)))
      clear w10 w11 w12 hap href hg hq hG hQ hd hs hg1 hq1 hx hbr hi0 hz0 hz1 hz2 ha0 ha1 ha2 ha3
      have i0 : (0 : Int) ≤ (k : Int) := by omega
      have i1 : (k : Int) < (l.length : Int) := by omega
      cases hF2 : Fits.fits b2 r2 (q ++ [(x1, x2)])
      · rw [hF2] at F2
        have HF2 := Lib.hid F2
        clear F1 F2
        go_wp2_with fail
        go_region_held3 (fun w' => Below wr.heap.size wr w' ∧ w'.cell? ⟨w.heap.size + 1, 0, none⟩ = some (.int .i64 b2) ∧ w'.cell? ⟨w.heap.size + 1, 1, none⟩ = some (.int .i64 r2) ∧ w'.cell? (ad.add (k * 2)) = some (.int .i64 x1) ∧ w'.cell? ⟨(ad.add (k * 2)).block, (ad.add (k * 2)).off + 1, none⟩ = some (.int .i64 x2))
          (refine ⟨?_, ?_, ?_, ?_, ?_⟩ <;> first | exact Below.drew (Below.refl _ _) | exact hbf | assumption | go_keep)
          (first
            | (go_at_call_of 33 (Value.agg #[.int .i64 b2, .int .i64 r2])
               (with_reducible refine (HF2.out _ (by exact Mem.arr_drew HQ.out)).mono ?_)
               rintro e w3 ⟨rfl, hb3⟩
               have hbf : Below wr.heap.size wr w3 := (Below.drew (Below.refl _ _)).trans hb3
               have hbz : Below w2.heap.size w2 w3 := HBR.out.trans (hbf.mono HBR.out.size)
               have e0w3 := below_cell hbz k0 n3
               have e1w3 := below_cell hbz k1 n3
               have e2w3 := below_cell hbz k2 n2
               have e3w3 := below_cell hbz k3 n2
               have y0w3 := (hbz.cell (by rw [Tr.block_add]; omega)).trans z0
               have y1w3 := (hbz.cell (by show (ad.add (k * 2)).block < _; rw [Tr.block_add]; omega)).trans z1))
        have HBF := Lib.hid hbf
        have hsz3 := hbf.size
        have hszW := HBF.out.size
        have O10 := Lib.hid (Mem.own_below H10.out HBF.out)
        have O11 := Lib.hid (Mem.own_below H11.out HBF.out)
        have O12 := Lib.hid (Mem.own_below H12.out HBF.out)
        have HBW : Hid (Below w2.heap.size w2 w3) := Lib.hid (HBR.out.trans (HBF.out.mono HBR.out.size))
        clear hbz hb3 hbf HF2
        go_wp2_with (first | (at_builtin; refine Mem.wpList_append _ rfl (.tmp 69) (.tmp 71) _ rfl w2.heap.size 3 ii _ 1 8 Try.underlying53 II.out.1 II.out.2.1 II.out.2.2.1 II.out.2.2.2 rfl (by omega) _ k (Mem.ints pre) rfl (O10.out.alloc _) _ (some ⟨w3.heap.size, 0, none⟩) 1 1 [.int .i64 2] rfl rfl (Mem.Row.new _ _ _) (Mem.ints_oneCell [2]) (by unfold maxLen; omega) (by omega) (by simp; omega) ?_; intro vC wC hown hg hat hlt; have HOwC := Lib.hid hown; have HGwC := Lib.hid hg; have HTwC := Lib.hid hat; have HLwC := Lib.hid hlt; clear hown hg hat hlt))
        go_roundw
        case rel =>
          refine ⟨k + 1, by omega, by go_num, ⟨pre ++ [2], g, q, by rw [Mem.ints_snoc]; exact HOwC.out, ?_, ?_, HAP.out, ?_, ?_, ?_, by first | omega | (simp; omega), by first | omega | (simp; omega)⟩, ?_⟩
          · have h := ((O11.out.alloc (.cells #[.int .i64 2] 3)).kept HGwC.out (Mem.apart_type O11.out O10.out (by decide)))
            exact h
          · have h := ((O12.out.alloc (.cells #[.int .i64 2] 3)).kept HGwC.out (Mem.apart_type O12.out O10.out (by decide)))
            exact h
          · rw [HREF.out, Mt.refK_2 hF2]; simp [Mt.refG, Mt.refP]
          · exact HOK.out.2.2.1
          · exact HOK.out.2.2.2
          · exact ((HBW.out.alloc HBW.out.size _).grown HGwC.out (by have := HBW.out.size; simp; omega) (fun k hk => (HLwC.out k hk).1))
        case measure => simp [intOf]; omega
      · rw [hF2] at F2
        have HF2 := Lib.hid F2
        clear F2
        cases hF1 : Fits.fits b r (g ++ [(x1, x2)])
        all_goals
          rw [hF1] at F1
          have HF1 := Lib.hid F1
          clear F1
          go_wp2_with fail
        · go_region_held3 (fun w' => Below wr.heap.size wr w' ∧ w'.cell? ⟨w.heap.size + 1, 0, none⟩ = some (.int .i64 b2) ∧ w'.cell? ⟨w.heap.size + 1, 1, none⟩ = some (.int .i64 r2) ∧ w'.cell? (ad.add (k * 2)) = some (.int .i64 x1) ∧ w'.cell? ⟨(ad.add (k * 2)).block, (ad.add (k * 2)).off + 1, none⟩ = some (.int .i64 x2))
            (refine ⟨?_, ?_, ?_, ?_, ?_⟩ <;> first | exact Below.drew (Below.refl _ _) | exact hbf | assumption | go_keep)
            (first
              | (go_at_call_of 33 (Value.agg #[.int .i64 b2, .int .i64 r2])
                 (with_reducible refine (HF2.out _ (by exact Mem.arr_drew HQ.out)).mono ?_)
                 rintro e w3 ⟨rfl, hb3⟩
                 have hbf : Below wr.heap.size wr w3 := (Below.drew (Below.refl _ _)).trans hb3
                 have hbz : Below w2.heap.size w2 w3 := HBR.out.trans (hbf.mono HBR.out.size)
                 have e0w3 := below_cell hbz k0 n3
                 have e1w3 := below_cell hbz k1 n3
                 have e2w3 := below_cell hbz k2 n2
                 have e3w3 := below_cell hbz k3 n2
                 have y0w3 := (hbz.cell (by rw [Tr.block_add]; omega)).trans z0
                 have y1w3 := (hbz.cell (by show (ad.add (k * 2)).block < _; rw [Tr.block_add]; omega)).trans z1))
          have HBF3 := Lib.hid hbf
          have hsz3 := hbf.size
          clear hbz hb3 HF2 hbf
          go_wp2_with fail
          go_region_held3 (fun w' => Below w3.heap.size w3 w' ∧ w'.cell? ⟨w.heap.size, 0, none⟩ = some (.int .i64 b) ∧ w'.cell? ⟨w.heap.size, 1, none⟩ = some (.int .i64 r) ∧ w'.cell? (ad.add (k * 2)) = some (.int .i64 x1) ∧ w'.cell? ⟨(ad.add (k * 2)).block, (ad.add (k * 2)).off + 1, none⟩ = some (.int .i64 x2))
            (refine ⟨?_, ?_, ?_, ?_, ?_⟩ <;> first | exact Below.drew (Below.refl _ _) | exact hbf | assumption | go_keep)
            (first
              | (go_at_call_of 33 (Value.agg #[.int .i64 b, .int .i64 r])
                 (with_reducible refine (HF1.out _ (by exact Mem.arr_drew (HG.out.below HBF3.out |>.of_lt HBF3.out.size))).mono ?_)
                 rintro e w5 ⟨rfl, hb3⟩
                 have hbf : Below w3.heap.size w3 w5 := (Below.drew (Below.refl _ _)).trans hb3
                 have hbz : Below w2.heap.size w2 w5 := (HBR.out.trans (HBF3.out.mono HBR.out.size)).trans (hbf.mono (HBR.out.trans (HBF3.out.mono HBR.out.size)).size)
                 have e0w5 := below_cell hbz k0 n3
                 have e1w5 := below_cell hbz k1 n3
                 have e2w5 := below_cell hbz k2 n2
                 have e3w5 := below_cell hbz k3 n2
                 have y0w5 := (hbz.cell (by rw [Tr.block_add]; omega)).trans z0
                 have y1w5 := (hbz.cell (by show (ad.add (k * 2)).block < _; rw [Tr.block_add]; omega)).trans z1))
          have HBF := Lib.hid (HBF3.out.trans (hbf.mono HBF3.out.size))
          have hsz5 := hbf.size
          have hszW := HBF.out.size
          have O10 := Lib.hid (Mem.own_below H10.out HBF.out)
          have O11 := Lib.hid (Mem.own_below H11.out HBF.out)
          have O12 := Lib.hid (Mem.own_below H12.out HBF.out)
          have HBW : Hid (Below w2.heap.size w2 w5) := Lib.hid (HBR.out.trans (HBF.out.mono HBR.out.size))
          clear hbz hb3 hbf HF1
          go_wp2_with (first | (at_builtin; refine Mem.wpList_append _ rfl (.tmp 53) (.tmp 58) _ rfl w2.heap.size 33 ia _ 2 16 Try.underlying50 IA.out.1 IA.out.2.1 IA.out.2.2.1 IA.out.2.2.2 rfl (by omega) _ q.length (Mem.arrs q) rfl (O12.out.alloc _) _ (some ⟨w5.heap.size, 0, none⟩) 1 1 [.int .i64 x1, .int .i64 x2] rfl rfl (Mem.Row.new _ _ _) (Mem.arrs_oneCell [(x1, x2)]) (by unfold maxLen; omega) (by omega) (by simp; omega) ?_; intro vP wP hown hg hat hlt; have HOwP := Lib.hid hown; have HGwP := Lib.hid hg; have HTwP := Lib.hid hat; have HLwP := Lib.hid hlt; have HBwP := Lib.hid ((HBW.out.alloc HBW.out.size (.cells #[.int .i64 x1, .int .i64 x2] 33)).grown hg (by simp; omega) (fun k hk => (hlt k hk).1)); clear hown hg hat hlt; have y0wP := (HBwP.out.cell (by rw [Tr.block_add]; omega)).trans z0; have y1wP := (HBwP.out.cell (by show (ad.add (k * 2)).block < _; rw [Tr.block_add]; omega)).trans z1; have szwP := HGwP.out.size; simp only [World.size_alloc] at szwP; ) | (at_builtin; refine Mem.wpList_append _ rfl (.tmp 69) (.tmp 71) _ rfl w2.heap.size 3 ii _ 1 8 Try.underlying53 II.out.1 II.out.2.1 II.out.2.2.1 II.out.2.2.2 rfl (by omega) _ k (Mem.ints pre) rfl (((O10.out.alloc (.cells #[.int .i64 x1, .int .i64 x2] 33)).kept HGwP.out (Mem.apart_type O10.out O12.out (by decide))).alloc _) _ (some ⟨wP.heap.size, 0, none⟩) 1 1 [.int .i64 1] rfl rfl (Mem.Row.new _ _ _) (Mem.ints_oneCell [1]) (by unfold maxLen; omega) (by omega) (by simp; omega) ?_; intro vC wC hown hg hat hlt; have HOwC := Lib.hid hown; have HGwC := Lib.hid hg; have HTwC := Lib.hid hat; have HLwC := Lib.hid hlt; clear hown hg hat hlt))
          go_roundw
          case rel =>
            refine ⟨k + 1, by omega, by go_num, ⟨pre ++ [1], g, (q ++ [(x1, x2)]), by rw [Mem.ints_snoc]; exact HOwC.out, ?_, ?_, (HAP.out.grown (O11.out.alloc (.cells #[.int .i64 x1, .int .i64 x2] 33)) HTwP.out), ?_, ?_, ?_, by first | omega | (simp; omega), by first | omega | (simp; omega)⟩, ?_⟩
            · have h := ((((O11.out.alloc (.cells #[.int .i64 x1, .int .i64 x2] 33)).kept HGwP.out HAP.out).alloc (.cells #[.int .i64 1] 3)).kept HGwC.out (Mem.apart_type ((O11.out.alloc (.cells #[.int .i64 x1, .int .i64 x2] 33)).kept HGwP.out HAP.out) ((O10.out.alloc (.cells #[.int .i64 x1, .int .i64 x2] 33)).kept HGwP.out (Mem.apart_type O10.out O12.out (by decide))) (by decide)))
              exact h
            · have h := ((HOwP.out.alloc (.cells #[.int .i64 1] 3)).kept HGwC.out (Mem.apart_type HOwP.out ((O10.out.alloc (.cells #[.int .i64 x1, .int .i64 x2] 33)).kept HGwP.out (Mem.apart_type O10.out O12.out (by decide))) (by decide)))
              simpa [Mem.arrs_append, Mem.arrs_one] using h
            · rw [HREF.out, Mt.refK_1 hF2 hF1]; simp [Mt.refG, Mt.refP]
            · exact HOK.out.2.2.1
            · have h := HOK.out.2.1; simpa using h
            · exact ((HBwP.out.alloc HBwP.out.size _).grown HGwC.out (by have := HBwP.out.size; simp; omega) (fun k hk => (HLwC.out k hk).1))
          case measure => simp [intOf]; omega
        · go_region_held3 (fun w' => Below wr.heap.size wr w' ∧ w'.cell? ⟨w.heap.size + 1, 0, none⟩ = some (.int .i64 b2) ∧ w'.cell? ⟨w.heap.size + 1, 1, none⟩ = some (.int .i64 r2) ∧ w'.cell? (ad.add (k * 2)) = some (.int .i64 x1) ∧ w'.cell? ⟨(ad.add (k * 2)).block, (ad.add (k * 2)).off + 1, none⟩ = some (.int .i64 x2))
            (refine ⟨?_, ?_, ?_, ?_, ?_⟩ <;> first | exact Below.drew (Below.refl _ _) | exact hbf | assumption | go_keep)
            (first
              | (go_at_call_of 33 (Value.agg #[.int .i64 b2, .int .i64 r2])
                 (with_reducible refine (HF2.out _ (by exact Mem.arr_drew HQ.out)).mono ?_)
                 rintro e w3 ⟨rfl, hb3⟩
                 have hbf : Below wr.heap.size wr w3 := (Below.drew (Below.refl _ _)).trans hb3
                 have hbz : Below w2.heap.size w2 w3 := HBR.out.trans (hbf.mono HBR.out.size)
                 have e0w3 := below_cell hbz k0 n3
                 have e1w3 := below_cell hbz k1 n3
                 have e2w3 := below_cell hbz k2 n2
                 have e3w3 := below_cell hbz k3 n2
                 have y0w3 := (hbz.cell (by rw [Tr.block_add]; omega)).trans z0
                 have y1w3 := (hbz.cell (by show (ad.add (k * 2)).block < _; rw [Tr.block_add]; omega)).trans z1))
          have HBF3 := Lib.hid hbf
          have hsz3 := hbf.size
          clear hbz hb3 HF2 hbf
          go_wp2_with fail
          go_region_held3 (fun w' => Below w3.heap.size w3 w' ∧ w'.cell? ⟨w.heap.size, 0, none⟩ = some (.int .i64 b) ∧ w'.cell? ⟨w.heap.size, 1, none⟩ = some (.int .i64 r) ∧ w'.cell? (ad.add (k * 2)) = some (.int .i64 x1) ∧ w'.cell? ⟨(ad.add (k * 2)).block, (ad.add (k * 2)).off + 1, none⟩ = some (.int .i64 x2))
            (refine ⟨?_, ?_, ?_, ?_, ?_⟩ <;> first | exact Below.drew (Below.refl _ _) | exact hbf | assumption | go_keep)
            (first
              | (go_at_call_of 33 (Value.agg #[.int .i64 b, .int .i64 r])
                 (with_reducible refine (HF1.out _ (by exact Mem.arr_drew (HG.out.below HBF3.out |>.of_lt HBF3.out.size))).mono ?_)
                 rintro e w5 ⟨rfl, hb3⟩
                 have hbf : Below w3.heap.size w3 w5 := (Below.drew (Below.refl _ _)).trans hb3
                 have hbz : Below w2.heap.size w2 w5 := (HBR.out.trans (HBF3.out.mono HBR.out.size)).trans (hbf.mono (HBR.out.trans (HBF3.out.mono HBR.out.size)).size)
                 have e0w5 := below_cell hbz k0 n3
                 have e1w5 := below_cell hbz k1 n3
                 have e2w5 := below_cell hbz k2 n2
                 have e3w5 := below_cell hbz k3 n2
                 have y0w5 := (hbz.cell (by rw [Tr.block_add]; omega)).trans z0
                 have y1w5 := (hbz.cell (by show (ad.add (k * 2)).block < _; rw [Tr.block_add]; omega)).trans z1))
          have HBF := Lib.hid (HBF3.out.trans (hbf.mono HBF3.out.size))
          have hsz5 := hbf.size
          have hszW := HBF.out.size
          have O10 := Lib.hid (Mem.own_below H10.out HBF.out)
          have O11 := Lib.hid (Mem.own_below H11.out HBF.out)
          have O12 := Lib.hid (Mem.own_below H12.out HBF.out)
          have HBW : Hid (Below w2.heap.size w2 w5) := Lib.hid (HBR.out.trans (HBF.out.mono HBR.out.size))
          clear hbz hb3 hbf HF1
          go_wp2_with (first | (at_builtin; refine Mem.wpList_append _ rfl (.tmp 53) (.tmp 58) _ rfl w2.heap.size 33 ia _ 2 16 Try.underlying50 IA.out.1 IA.out.2.1 IA.out.2.2.1 IA.out.2.2.2 rfl (by omega) _ q.length (Mem.arrs q) rfl (O12.out.alloc _) _ (some ⟨w5.heap.size, 0, none⟩) 1 1 [.int .i64 x1, .int .i64 x2] rfl rfl (Mem.Row.new _ _ _) (Mem.arrs_oneCell [(x1, x2)]) (by unfold maxLen; omega) (by omega) (by simp; omega) ?_; intro vP wP hown hg hat hlt; have HOwP := Lib.hid hown; have HGwP := Lib.hid hg; have HTwP := Lib.hid hat; have HLwP := Lib.hid hlt; have HBwP := Lib.hid ((HBW.out.alloc HBW.out.size (.cells #[.int .i64 x1, .int .i64 x2] 33)).grown hg (by simp; omega) (fun k hk => (hlt k hk).1)); clear hown hg hat hlt; have y0wP := (HBwP.out.cell (by rw [Tr.block_add]; omega)).trans z0; have y1wP := (HBwP.out.cell (by show (ad.add (k * 2)).block < _; rw [Tr.block_add]; omega)).trans z1; have szwP := HGwP.out.size; simp only [World.size_alloc] at szwP; ) | (at_builtin; refine Mem.wpList_append _ rfl (.tmp 62) (.tmp 67) _ rfl w2.heap.size 33 ia _ 2 16 Try.underlying50 IA.out.1 IA.out.2.1 IA.out.2.2.1 IA.out.2.2.2 rfl (by omega) _ g.length (Mem.arrs g) rfl (((O11.out.alloc (.cells #[.int .i64 x1, .int .i64 x2] 33)).kept HGwP.out HAP.out).alloc _) _ (some ⟨wP.heap.size, 0, none⟩) 1 1 [.int .i64 x1, .int .i64 x2] rfl rfl (Mem.Row.new _ _ _) (Mem.arrs_oneCell [(x1, x2)]) (by unfold maxLen; omega) (by omega) (by simp; omega) ?_; intro vG wG hown hg hat hlt; have HOwG := Lib.hid hown; have HGwG := Lib.hid hg; have HTwG := Lib.hid hat; have HLwG := Lib.hid hlt; have HBwG := Lib.hid ((HBwP.out.alloc HBwP.out.size (.cells #[.int .i64 x1, .int .i64 x2] 33)).grown hg (by simp; omega) (fun k hk => (hlt k hk).1)); clear hown hg hat hlt; have y0wG := (HBwG.out.cell (by rw [Tr.block_add]; omega)).trans z0; have y1wG := (HBwG.out.cell (by show (ad.add (k * 2)).block < _; rw [Tr.block_add]; omega)).trans z1; have szwG := HGwG.out.size; simp only [World.size_alloc] at szwG; ) | (at_builtin; refine Mem.wpList_append _ rfl (.tmp 69) (.tmp 71) _ rfl w2.heap.size 3 ii _ 1 8 Try.underlying53 II.out.1 II.out.2.1 II.out.2.2.1 II.out.2.2.2 rfl (by omega) _ k (Mem.ints pre) rfl (((((O10.out.alloc (.cells #[.int .i64 x1, .int .i64 x2] 33)).kept HGwP.out (Mem.apart_type O10.out O12.out (by decide))).alloc (.cells #[.int .i64 x1, .int .i64 x2] 33)).kept HGwG.out (Mem.apart_type O10.out O11.out (by decide))).alloc _) _ (some ⟨wG.heap.size, 0, none⟩) 1 1 [.int .i64 0] rfl rfl (Mem.Row.new _ _ _) (Mem.ints_oneCell [0]) (by unfold maxLen; omega) (by omega) (by simp; omega) ?_; intro vC wC hown hg hat hlt; have HOwC := Lib.hid hown; have HGwC := Lib.hid hg; have HTwC := Lib.hid hat; have HLwC := Lib.hid hlt; clear hown hg hat hlt))
          go_roundw
          case rel =>
            refine ⟨k + 1, by omega, by go_num, ⟨pre ++ [0], (g ++ [(x1, x2)]), (q ++ [(x1, x2)]), by rw [Mem.ints_snoc]; exact HOwC.out, ?_, ?_, (Mem.Apart.symm ((Mem.Apart.symm (HAP.out.grown (O11.out.alloc (.cells #[.int .i64 x1, .int .i64 x2] 33)) HTwP.out)).grown (HOwP.out.alloc (.cells #[.int .i64 x1, .int .i64 x2] 33)) HTwG.out)), ?_, ?_, ?_, by first | omega | (simp; omega), by first | omega | (simp; omega)⟩, ?_⟩
            · have h := ((HOwG.out.alloc (.cells #[.int .i64 0] 3)).kept HGwC.out (Mem.apart_type HOwG.out ((((O10.out.alloc (.cells #[.int .i64 x1, .int .i64 x2] 33)).kept HGwP.out (Mem.apart_type O10.out O12.out (by decide))).alloc (.cells #[.int .i64 x1, .int .i64 x2] 33)).kept HGwG.out (Mem.apart_type O10.out O11.out (by decide))) (by decide)))
              simpa [Mem.arrs_append, Mem.arrs_one] using h
            · have h := ((((HOwP.out.alloc (.cells #[.int .i64 x1, .int .i64 x2] 33)).kept HGwG.out (Mem.Apart.symm (HAP.out.grown (O11.out.alloc (.cells #[.int .i64 x1, .int .i64 x2] 33)) HTwP.out))).alloc (.cells #[.int .i64 0] 3)).kept HGwC.out (Mem.apart_type ((HOwP.out.alloc (.cells #[.int .i64 x1, .int .i64 x2] 33)).kept HGwG.out (Mem.Apart.symm (HAP.out.grown (O11.out.alloc (.cells #[.int .i64 x1, .int .i64 x2] 33)) HTwP.out))) ((((O10.out.alloc (.cells #[.int .i64 x1, .int .i64 x2] 33)).kept HGwP.out (Mem.apart_type O10.out O12.out (by decide))).alloc (.cells #[.int .i64 x1, .int .i64 x2] 33)).kept HGwG.out (Mem.apart_type O10.out O11.out (by decide))) (by decide)))
              simpa [Mem.arrs_append, Mem.arrs_one] using h
            · rw [HREF.out, Mt.refK_0 hF2 hF1]; simp [Mt.refG, Mt.refP]
            · have h := HOK.out.1; simpa using h
            · have h := HOK.out.2.1; simpa using h
            · exact ((HBwG.out.alloc HBwG.out.size _).grown HGwC.out (by have := HBwG.out.size; simp; omega) (fun k hk => (HLwC.out k hk).1))
          case measure => simp [intOf]; omega
    · have hkl : k = l.length := by omega
      subst hkl
      have e0 : Mt.refFrom b r b2 r2 g q (l.drop l.length) = [] := by rw [List.drop_eq_nil_of_le (Nat.le_refl _)]; rfl
      have HREF : Hid (Mt.refFrom b r b2 r2 [] [] l = pre) := by apply Lib.hid; rw [href, e0]; exact List.append_nil _
      have H10 := Lib.hid w10
      have HBR := Lib.hid hbr
      clear w10 w11 w12 hap href hg hq hbr e0
      go_wp2_with fail
      go_ret2
      refine ⟨⟨_, rfl, ?_⟩, HB2.out.trans (HBR.out.mono HB2.out.size)⟩
      rw [HREF.out]
      exact H10.out.mono HB2.out.size
end MtW
end Go.Proofs.Ytgpknoakkkkapaa
