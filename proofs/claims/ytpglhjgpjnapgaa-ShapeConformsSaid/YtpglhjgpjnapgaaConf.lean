/- Drafts: the conforming part of the trace. -/
import Derived.Test.YtpglhjgpjnapgaaDraft
import Derived.Test.YtpglhjgpjnapgaaFitW
import Derived.Test.YtpglhjgpjnapgaaDrB
import Derived.Deep.DeepCutAuto
namespace Go.Proofs.Ytpglhjgpjnapgaa
set_option linter.unusedSimpArgs false
set_option linter.unusedVariables false
open Go.RowKit
namespace Dr
def confFrom (b r : Int) : List (Int × Int) → List (Int × Int) → List (Int × Int)
  | g, [] => g
  | g, x :: t => confFrom b r (if Fits.fits b r (g ++ [x]) then g ++ [x] else g) t
def conf (b r : Int) (l : List (Int × Int)) : List (Int × Int) := confFrom b r [] l
theorem conf_step {b r : Int} {g l : List (Int × Int)} {k : Nat} {x : Int × Int} (hx : l[k]? = some x) : confFrom b r g (l.drop k) = confFrom b r (if Fits.fits b r (g ++ [x]) then g ++ [x] else g) (l.drop (k + 1)) := by
  obtain ⟨hk, rfl⟩ := List.getElem?_eq_some_iff.1 hx
  rw [List.drop_eq_getElem_cons hk]; rfl
theorem confFrom_ok {b r t : Int} (l : List (Int × Int)) : ∀ g, Tr.okFrom t (g ++ l) = true → Fits.fits b r g = true → Tr.okFrom t (confFrom b r g l) = true ∧ Fits.fits b r (confFrom b r g l) = true ∧ (confFrom b r g l).length ≤ g.length + l.length := by
  induction l with
  | nil => intro g h hf; exact ⟨by simpa [confFrom] using h, hf, by simp [confFrom]⟩
  | cons x l ih =>
    intro g h hf
    unfold confFrom
    by_cases hc : Fits.fits b r (g ++ [x]) = true
    · rw [if_pos hc]
      have := ih (g ++ [x]) (by simpa using h) hc
      refine ⟨this.1, this.2.1, ?_⟩
      have h3 := this.2.2
      simp only [List.length_append, List.length_cons, List.length_nil] at h3 ⊢; omega
    · rw [if_neg hc]
      have := ih g (Tr.okFrom_skip h) hf
      refine ⟨this.1, this.2.1, ?_⟩
      have h3 := this.2.2
      simp only [List.length_cons] at h3 ⊢; omega
theorem confFrom_mem {b r : Int} {p : Int × Int → Prop} (l : List (Int × Int)) : ∀ g, (∀ x ∈ g, p x) → (∀ x ∈ l, p x) → ∀ x ∈ confFrom b r g l, p x := by
  induction l with
  | nil => intro g hg _; exact hg
  | cons x l ih =>
    intro g hg hl
    unfold confFrom
    refine ih _ ?_ (fun y hy => hl y (List.mem_cons_of_mem _ hy))
    split
    · intro y hy
      rcases List.mem_append.1 hy with h | h
      · exact hg y h
      · simp at h; subst h; exact hl _ (List.mem_cons_self ..)
    · exact hg
theorem conf_ok {b r : Int} {l : List (Int × Int)} (h : Tr.ok l = true) : Tr.ok (conf b r l) = true ∧ Fits.fits b r (conf b r l) = true := by
  unfold Tr.ok at h ⊢
  rw [Bool.and_eq_true, decide_eq_true_iff] at h ⊢
  have := confFrom_ok (b := b) (r := r) l [] (by simpa using h.2) rfl
  unfold conf
  refine ⟨⟨?_, this.1⟩, this.2.1⟩
  have h3 := this.2.2
  simp at h3; omega
end Dr
namespace DrW
open MtW
set_option maxRecDepth 100000 in
set_option maxHeartbeats 4000000 in
theorem Conforming_own (x y : Nat) (hx : x < 4294967296) (hy : y < 4294967296) (G : Option Addr) (gs : List Int) (cg : Nat) (S : Option Addr) (ss : List Int) (cs : Nat) (b r : Int) (hb0 : 1 + (x : Int) % 1048576 = b) (hr0 : 1 + (y : Int) % 2097152 = r) (w : World) (hG : Mem.Row w w.heap.size G (Mem.nums .u16 gs)) (hS : Mem.Row w w.heap.size S (Mem.nums .u16 ss)) (bG : ∀ n ∈ gs, 0 ≤ n ∧ n ≤ 65535) (bS : ∀ n ∈ ss, 0 ≤ n ∧ n ≤ 65535) (lG : gs.length ≤ maxLen) (lS : ss.length ≤ maxLen) :
    Calls Try.prog 16 #[.agg #[.int .u32 x, .int .u32 y, .slice G gs.length cg, .slice S ss.length cs]] w fun e w' => (∃ A cap, e = .returned (.slice A (Dr.conf b r (Dr.trace gs ss)).length cap) ∧ Tr.Arr w' w'.heap.size A (Dr.conf b r (Dr.trace gs ss)) ∧ ∀ ad, A = some ad → w.heap.size ≤ ad.block) ∧ Below w.heap.size w w' := by
  have b1 : 1 ≤ b ∧ b ≤ 1048576 := by omega
  have r1 : 1 ≤ r ∧ r ≤ 2097152 := by omega
  have cB := Bucket_any x y hx hy (.slice G gs.length cg) (.slice S ss.length cs)
  rw [hb0, hr0] at cB
  have CB := Lib.hid cB
  have CT := Lib.hid (fun W hG hS => Trace_any x y G gs cg S ss cs W hG hS bG bS lG lS)
  have hok := Dr.trace_ok bG bS
  have hof : Tr.okFrom 0 (Dr.trace gs ss) = true := by unfold Tr.ok at hok; rw [Bool.and_eq_true] at hok; exact hok.2
  have HOK := Lib.hid hof
  have h30 : (Dr.trace gs ss).length ≤ 30 := by rw [Dr.trace_length]; omega
  have HG := Lib.hid hG
  have HS := Lib.hid hS
  obtain ⟨ia, ha0, ha1, ha2, ha3⟩ := info_parts Mem.arr_info
  have IA := Lib.hid (And.intro ha0 (And.intro ha1 (And.intro ha2 ha3)))
  clear cB hG hS bG bS lG lS hb0 hr0 hok hof ha0 ha1 ha2 ha3
  generalize Dr.trace gs ss = l at *
  go_enter Try.func16, Try.ntmps16
  go_upto_region 2 with fail
  obtain ⟨W0, hW0⟩ : ∃ W0, w.alloc (.cells #[.int .u32 x, .int .u32 y, .slice G gs.length cg, .slice S ss.length cs] 27) = W0 := ⟨_, rfl⟩
  have d0 : W0.cell? ⟨w.heap.size, 0, none⟩ = some (.int .u32 x) := by rw [← hW0]; simp [go_sem]
  have d1 : W0.cell? ⟨w.heap.size, 1, none⟩ = some (.int .u32 y) := by rw [← hW0]; simp [go_sem]
  have d2 : W0.cell? ⟨w.heap.size, 2, none⟩ = some (.slice G gs.length cg) := by rw [← hW0]; simp [go_sem]
  have d3 : W0.cell? ⟨w.heap.size, 3, none⟩ = some (.slice S ss.length cs) := by rw [← hW0]; simp [go_sem]
  have z0 : w.heap.size < W0.heap.size := by rw [← hW0]; simp
  have HW : Hid (Below w.heap.size w W0) := by rw [← hW0]; exact Lib.hid ((Below.refl _ _).alloc (Nat.le_refl _) _)
  rw [hW0]
  have HG0 := Lib.hid ((HG.out.below HW.out).of_lt HW.out.size)
  have HS0 := Lib.hid ((HS.out.below HW.out).of_lt HW.out.size)
  have HSx : Hid (∀ w', Below W0.heap.size W0 w' → (Below W0.heap.size W0 w' ∧ w'.cell? ⟨w.heap.size, 0, none⟩ = some (.int .u32 x) ∧ w'.cell? ⟨w.heap.size, 1, none⟩ = some (.int .u32 y) ∧ w'.cell? ⟨w.heap.size, 2, none⟩ = some (.slice G gs.length cg) ∧ w'.cell? ⟨w.heap.size, 3, none⟩ = some (.slice S ss.length cs))) := Lib.hid (fun w' h => ⟨h, below_cell h d0 z0, below_cell h d1 z0, below_cell h d2 z0, below_cell h d3 z0⟩)
  clear hW0 HG HS d0 d1 d2 d3
  go_cut [4, 5] (fun s4 s5 wx => ∃ (g4 : Nat) (A : Option Addr) (cap : Nat), s4 = .pointer (some ⟨g4, 0, none⟩) ∧ s5 = .slice A l.length cap ∧ g4 < wx.heap.size ∧ wx.cell? ⟨g4, 0, none⟩ = some (.int .i64 b) ∧ wx.cell? ⟨g4, 1, none⟩ = some (.int .i64 r) ∧ Tr.Arr wx wx.heap.size A l ∧ Below W0.heap.size W0 wx)
  case first =>
    go_region_held3 (fun w' => Below W0.heap.size W0 w' ∧ w'.cell? ⟨w.heap.size, 0, none⟩ = some (.int .u32 x) ∧ w'.cell? ⟨w.heap.size, 1, none⟩ = some (.int .u32 y) ∧ w'.cell? ⟨w.heap.size, 2, none⟩ = some (.slice G gs.length cg) ∧ w'.cell? ⟨w.heap.size, 3, none⟩ = some (.slice S ss.length cs))
      ((refine HSx.out _ ?_; first | assumption | (repeat' (first | (with_reducible exact Below.refl _ _) | (with_reducible refine Below.alloc ?_ ?_ _) | (with_reducible refine Below.setCell ?_ ?_ _) | (with_reducible refine Below.drew ?_) | (with_reducible assumption) | omega | (simp; done) | (simp; omega)))))
      (first
        | (go_at_call_of 8 (Value.agg #[.int .u32 x, .int .u32 y, .slice G gs.length cg, .slice S ss.length cs]); go_split_ands; refine (CB.out _).mono ?_; rintro e wB ⟨rfl, hrB⟩; have hbB := carry2 (w := W0) (by assumption) hrB; have sB := hbB.size; obtain ⟨hcB, hzB⟩ := bcell hrB; have rB := hrB.size; try simp only [World.size_alloc, World.size_drew] at rB; try (have ltB : W0.heap.size < wB.heap.size := by omega))
        | (go_at_call_of 28 (Value.agg #[.int .u32 x, .int .u32 y, .slice G gs.length cg, .slice S ss.length cs]); go_split_ands; refine (CT.out _ (Mem.Row.of_lt (HG0.out.below (by assumption)) (by first | (simp; done) | (simp; omega) | omega)) (Mem.Row.of_lt (HS0.out.below (by assumption)) (by first | (simp; done) | (simp; omega) | omega))).mono ?_; rintro e wT ⟨⟨vT, rfl, hoT⟩, hrT⟩; obtain ⟨_, AT, capT, rfl, _⟩ := Mem.own_arr hoT; have hbT := carry2 (w := W0) (by assumption) hrT; have sT := hbT.size; obtain ⟨hcT, hzT⟩ := bcell hrT; have rT := hrT.size; try simp only [World.size_alloc, World.size_drew] at rT))
    all_goals
      go_wp2_with fail
      go_meet
      first
      | exact ⟨wT.heap.size, AT, capT, rfl, rfl, by simp, by simp [go_sem], by simp [go_sem], Mem.arr_own (hoT.alloc _), hbT.alloc sT _⟩
      | (have t0 : wT.cell? ⟨wB.heap.size, 0, none⟩ = some (.int .i64 0) := by rw [hcT _ _ (by simp)]; simp [go_sem]
         have t1 : wT.cell? ⟨wB.heap.size, 1, none⟩ = some (.int .i64 0) := by rw [hcT _ _ (by simp)]; simp [go_sem]
         exact ⟨wB.heap.size, AT, capT, rfl, rfl, by simp [World.setCell]; omega, (World.cell?_setCell_other _ _ _ _ (by simp)).trans (World.cell?_setCell_same _ _ _ t0), World.cell?_setCell_same _ _ _ ((World.cell?_setCell_other _ _ _ _ (by simp)).trans t1), Mem.arr_own (ownsRow_setCell_below (ownsRow_setCell_below hoT (by simp) _) (by simp) _), (hbT.setCell (p := ⟨wB.heap.size, 0, none⟩) sB _).setCell (p := ⟨wB.heap.size, 1, none⟩) sB _⟩)
      | (have t0 : wT.cell? ⟨W0.heap.size, 0, none⟩ = some (.int .i64 0) := by rw [hcT _ _ (by omega), hcB _ _ (by simp)]; simp [go_sem]
         have t1 : wT.cell? ⟨W0.heap.size, 1, none⟩ = some (.int .i64 0) := by rw [hcT _ _ (by omega), hcB _ _ (by simp)]; simp [go_sem]
         exact ⟨W0.heap.size, AT, capT, rfl, rfl, by simp [World.setCell]; omega, (World.cell?_setCell_other _ _ _ _ (by simp)).trans (World.cell?_setCell_same _ _ _ t0), World.cell?_setCell_same _ _ _ ((World.cell?_setCell_other _ _ _ _ (by simp)).trans t1), Mem.arr_own (ownsRow_setCell_below (ownsRow_setCell_below hoT (by show W0.heap.size < _; omega) _) (by show W0.heap.size < _; omega) _), (hbT.setCell (p := ⟨W0.heap.size, 0, none⟩) (Nat.le_refl _) _).setCell (p := ⟨W0.heap.size, 1, none⟩) (Nat.le_refl _) _⟩)
  case rest =>
    obtain ⟨g4, A, cap, rfl, rfl, hg4, k0, k1, hA, hbc⟩ := hcut
    obtain ⟨W1, rfl⟩ : ∃ W1 : World, W1 = wc := ⟨_, rfl⟩
    have HA := Lib.hid hA
    have HWW := Lib.hid (HW.out.trans (hbc.mono HW.out.size))
    have lw := HWW.out.size
    clear hA hbc HSx CB CT
    go_wp2_with fail
    go_loopw [3, 6] (fun v i wr => ∃ (k : Nat) (g : List (Int × Int)) (A1 : Option Addr) (c1 : Nat), k ≤ l.length ∧ i = .int .i64 k ∧ v = .slice A1 g.length c1 ∧ Tr.Arr wr wr.heap.size A1 g ∧ (∀ ad, A1 = some ad → w.heap.size ≤ ad.block) ∧ Dr.conf b r l = Dr.confFrom b r g (l.drop k) ∧ Tr.okFrom 0 (g ++ l.drop k) = true ∧ g.length ≤ k ∧ Below W1.heap.size W1 wr) (fun _ i _ => l.length - (intOf i).toNat)
    case atStart => exact ⟨0, [], none, 0, by omega, rfl, rfl, (fun i x hx => by simp at hx), (fun ad h => by cases h), rfl, HOK.out, Nat.le_refl _, Below.refl _ _⟩
    case round =>
      obtain ⟨k, g, A1, c1, hk, rfl, rfl, hg, hN1, hcf, hokg, lg, hbr⟩ := hrel
      have HN1 := Lib.hid hN1
      clear hN1
      by_cases hlt : k < l.length
      · obtain ⟨z, hx⟩ : ∃ x, l[k]? = some x := ⟨l[k], List.getElem?_eq_getElem hlt⟩
        have hd : l.drop k = z :: l.drop (k + 1) := by
          obtain ⟨hk', rfl⟩ := List.getElem?_eq_some_iff.1 hx
          exact List.drop_eq_getElem_cons hk'
        rw [hd] at hokg
        have hs := Dr.conf_step (b := b) (r := r) (g := g) hx
        have hg1 : Tr.okFrom 0 (g ++ [z]) = true := Tr.okFrom_prefix (b := l.drop (k + 1)) (by simpa using hokg)
        obtain ⟨x1, x2⟩ := z
        obtain ⟨ad, rfl, hbk, hc0, hc1⟩ := (HA.out.below hbr) k (x1, x2) hx
        have HX := Lib.hid (And.intro (hcf.trans hs) (And.intro hokg (Tr.okFrom_skip hokg)))
        have HBR := Lib.hid hbr
        have HG1 := Lib.hid hg1
        have lr := hbr.size
        have q0 := below_cell hbr k0 hg4
        have q1 := below_cell hbr k1 hg4
        have i0 : (0 : Int) ≤ (k : Int) := by omega
        have i1 : (k : Int) < (l.length : Int) := by omega
        go_upto_region 6 with fail
        obtain ⟨X, rfl⟩ : ∃ X : World, X = wr := ⟨_, rfl⟩
        have HR : Hid (Mem.Row X X.heap.size A1 (Mem.arrs g)) := Lib.hid (Mem.arr_row hg)
        have HSx : Hid (∀ w', Below X.heap.size X w' → (Below X.heap.size X w' ∧ w'.cell? (ad.add (k * 2)) = some (.int .i64 x1) ∧ w'.cell? ⟨(ad.add (k * 2)).block, (ad.add (k * 2)).off + 1, none⟩ = some (.int .i64 x2))) := Lib.hid (fun w' h => ⟨h, (h.cell (by rw [Tr.block_add]; omega)).trans hc0, (h.cell (by show (ad.add (k * 2)).block < _; rw [Tr.block_add]; omega)).trans hc1⟩)
        clear hg hcf hokg hbr hs hd hx hg1
        go_cut [7] (fun s7 wx => ∃ (A2 : Option Addr) (cap2 : Nat), s7 = .slice A2 (g ++ [(x1, x2)]).length cap2 ∧ Tr.Arr wx wx.heap.size A2 (g ++ [(x1, x2)]) ∧ (∀ ad, A2 = some ad → X.heap.size ≤ ad.block) ∧ Below X.heap.size X wx)
        case first =>
          go_region_held3 (fun w' => Below X.heap.size X w' ∧ w'.cell? (ad.add (k * 2)) = some (.int .i64 x1) ∧ w'.cell? ⟨(ad.add (k * 2)).block, (ad.add (k * 2)).off + 1, none⟩ = some (.int .i64 x2))
            ((refine HSx.out _ ?_; first | assumption | exact HBW.out | (repeat' (first | (with_reducible exact Below.refl _ _) | (with_reducible refine Below.alloc ?_ ?_ _) | (with_reducible refine Below.setCell ?_ ?_ _) | (with_reducible refine Below.drew ?_) | (with_reducible assumption) | omega | (simp; done) | (simp; omega)))))
            (first
              | (refine Mem.step_append _ (by rfl) (.tmp 18) (.tmp 19) _ (by rfl) X.heap.size 31 ia _ 2 16 Try.underlying46 IA.out.1 IA.out.2.1 IA.out.2.2.1 IA.out.2.2.2 rfl (by omega) (.slice (some ⟨X.heap.size, 0, none⟩) 0 0) 0 [] (by rfl) ((Mem.own_lit_at X X.heap.size 31 2 _ rfl (by omega)).drew) X.heap.size A1 g.length c1 (Mem.arrs g) (by rfl) (Mem.arrs_length g) (HR.out.below (Below.drew ((Below.refl X.heap.size X).alloc (by simp; try omega) (.cells #[] 31)))) (Mem.arrs_oneCell g) (by unfold maxLen; omega) (by omega) (by simp; try omega) ?_
                 intro v1_1 w1_1 hown1 hg1 hat1 hlt1
                 have HO1 := Lib.hid hown1
                 have HBW : Hid (Below X.heap.size X w1_1) := Lib.hid (Below.grown (Below.drew ((Below.refl X.heap.size X).alloc (by simp; try omega) (.cells #[] 31))) hg1 (by simp; try omega) (fun k hk => (hlt1 k hk).1))
                 have hbw := HBW.out
                 have hbws := hbw.size
                 clear hown1 hg1 hat1 hlt1)
              | (refine Mem.step_append _ (by rfl) (.tmp 18) (.tmp 19) _ (by rfl) X.heap.size 31 ia _ 2 16 Try.underlying46 IA.out.1 IA.out.2.1 IA.out.2.2.1 IA.out.2.2.2 rfl (by omega) (.slice (some ⟨X.heap.size, 0, none⟩) 0 0) 0 [] (by rfl) (((Mem.own_lit_at X X.heap.size 31 2 _ rfl (by omega)).alloc (.cells #[.int .i64 x1, .int .i64 x2] 31)).drew) X.heap.size A1 g.length c1 (Mem.arrs g) (by rfl) (Mem.arrs_length g) (HR.out.below (Below.drew (((Below.refl X.heap.size X).alloc (by simp; try omega) (.cells #[] 31)).alloc (by simp; try omega) (.cells #[.int .i64 x1, .int .i64 x2] 31)))) (Mem.arrs_oneCell g) (by unfold maxLen; omega) (by omega) (by simp; try omega) ?_
                 intro v1_1 w1_1 hown1 hg1 hat1 hlt1
                 have HO1 := Lib.hid hown1
                 have HBW : Hid (Below X.heap.size X w1_1) := Lib.hid (Below.grown (Below.drew (((Below.refl X.heap.size X).alloc (by simp; try omega) (.cells #[] 31)).alloc (by simp; try omega) (.cells #[.int .i64 x1, .int .i64 x2] 31))) hg1 (by simp; try omega) (fun k hk => (hlt1 k hk).1))
                 have hbw := HBW.out
                 have hbws := hbw.size
                 have HX1 : Hid (Mem.Row w1_1 w1_1.heap.size (some ⟨X.heap.size + 1, 0, none⟩) [.int .i64 x1, .int .i64 x2]) := Lib.hid ((Mem.Row.grown (w := ((X.alloc (.cells #[] 31)).alloc (.cells #[.int .i64 x1, .int .i64 x2] 31)).drew) (Mem.Row.new_at (X.alloc (.cells #[] 31)) #[.int .i64 x1, .int .i64 x2] 31 (X.heap.size + 1) (by simp)) hg1 (by simp) (by rintro ad ⟨⟩ he; have := he.symm; simp [Value.ownBlock] at this)).of_lt (by have := hg1.size; simp at this ⊢; omega))
                 clear hown1 hg1 hat1 hlt1)
              | (refine Mem.step_append _ (by rfl) (.tmp 18) (.tmp 19) _ (by rfl) X.heap.size 31 ia _ 2 16 Try.underlying46 IA.out.1 IA.out.2.1 IA.out.2.2.1 IA.out.2.2.2 rfl (by omega) (.slice (some ⟨X.heap.size + 1, 0, none⟩) 0 0) 0 [] (by rfl) ((Mem.own_lit_at (X.alloc (.cells #[.int .i64 x1, .int .i64 x2] 31)) X.heap.size 31 2 _ (by simp) (by omega)).drew) X.heap.size A1 g.length c1 (Mem.arrs g) (by rfl) (Mem.arrs_length g) (HR.out.below (Below.drew (((Below.refl X.heap.size X).alloc (by simp; try omega) (.cells #[.int .i64 x1, .int .i64 x2] 31)).alloc (by simp; try omega) (.cells #[] 31)))) (Mem.arrs_oneCell g) (by unfold maxLen; omega) (by omega) (by simp; try omega) ?_
                 intro v1_1 w1_1 hown1 hg1 hat1 hlt1
                 have HO1 := Lib.hid hown1
                 have HBW : Hid (Below X.heap.size X w1_1) := Lib.hid (Below.grown (Below.drew (((Below.refl X.heap.size X).alloc (by simp; try omega) (.cells #[.int .i64 x1, .int .i64 x2] 31)).alloc (by simp; try omega) (.cells #[] 31))) hg1 (by simp; try omega) (fun k hk => (hlt1 k hk).1))
                 have hbw := HBW.out
                 have hbws := hbw.size
                 have HX1 : Hid (Mem.Row w1_1 w1_1.heap.size (some ⟨X.heap.size, 0, none⟩) [.int .i64 x1, .int .i64 x2]) := Lib.hid ((Mem.Row.grown (w := ((X.alloc (.cells #[.int .i64 x1, .int .i64 x2] 31)).alloc (.cells #[] 31)).drew) ((Mem.Row.new_at X #[.int .i64 x1, .int .i64 x2] 31 (X.heap.size) rfl).keep fun p hp => World.cell?_alloc_lt _ _ p (by simp at hp ⊢; omega)) hg1 (by simp) (by rintro ad ⟨⟩ he; have := he.symm; simp [Value.ownBlock] at this)).of_lt (by have := hg1.size; simp at this ⊢; omega))
                 clear hown1 hg1 hat1 hlt1)
              | (refine Mem.step_append _ (by rfl) (.tmp 20) (.tmp 25) _ (by rfl) X.heap.size 31 ia _ 2 16 Try.underlying46 IA.out.1 IA.out.2.1 IA.out.2.2.1 IA.out.2.2.2 rfl (by omega) v1_1 (0 + g.length) ([] ++ Mem.arrs g) (by rfl) (HO1.out.alloc _) _ (some ⟨w1_1.heap.size, 0, none⟩) 1 1 [.int .i64 x1, .int .i64 x2] (by rfl) rfl (Mem.Row.new _ _ _) (Mem.arrs_oneCell [(x1, x2)]) (by unfold maxLen; omega) (by omega) (by have := HBW.out.size; simp; try omega) ?_
                 intro v2_1 w2_1 hown2 hg2 hat2 hlt2
                 have hbw2 : Hid (Below X.heap.size X w2_1) := Lib.hid (Below.grown (HBW.out.alloc HBW.out.size _) hg2 (by have := HBW.out.size; simp; try omega) (fun k hk => (hlt2 k hk).1))
                 clear HBW
                 have HBW := hbw2
                 have hbw3 := HBW.out
                 have hbws3 := hbw3.size
                 clear hbw2
                 have ea : ([] ++ Mem.arrs g ++ [.int .i64 x1, .int .i64 x2]) = Mem.arrs (g ++ [(x1, x2)]) := by rw [Mem.arrs_append, Mem.arrs_one, List.nil_append]
                 rw [ea] at hown2
                 obtain ⟨_, A2, cap2, rfl, hA2, hN2⟩ := Mem.own_arr2 hown2
                 have HA2 := Lib.hid hA2
                 have HN2 := Lib.hid hN2
                 clear hown2 hg2 hat2 hlt2 ea hA2 hN2)
              | (refine Mem.step_append _ (by rfl) (.tmp 20) (.tmp 25) _ (by rfl) X.heap.size 31 ia _ 2 16 Try.underlying46 IA.out.1 IA.out.2.1 IA.out.2.2.1 IA.out.2.2.2 rfl (by omega) v1_1 (0 + g.length) ([] ++ Mem.arrs g) (by rfl) (HO1.out) _ (some ⟨X.heap.size, 0, none⟩) 1 1 [.int .i64 x1, .int .i64 x2] (by rfl) rfl (HX1.out) (Mem.arrs_oneCell [(x1, x2)]) (by unfold maxLen; omega) (by omega) (by have := HBW.out.size; simp; try omega) ?_
                 intro v2_1 w2_1 hown2 hg2 hat2 hlt2
                 have hbw2 : Hid (Below X.heap.size X w2_1) := Lib.hid (Below.grown (HBW.out) hg2 (by have := HBW.out.size; simp; try omega) (fun k hk => (hlt2 k hk).1))
                 clear HBW
                 have HBW := hbw2
                 have hbw3 := HBW.out
                 have hbws3 := hbw3.size
                 clear hbw2
                 have ea : ([] ++ Mem.arrs g ++ [.int .i64 x1, .int .i64 x2]) = Mem.arrs (g ++ [(x1, x2)]) := by rw [Mem.arrs_append, Mem.arrs_one, List.nil_append]
                 rw [ea] at hown2
                 obtain ⟨_, A2, cap2, rfl, hA2, hN2⟩ := Mem.own_arr2 hown2
                 have HA2 := Lib.hid hA2
                 have HN2 := Lib.hid hN2
                 clear hown2 hg2 hat2 hlt2 ea hA2 hN2)
              | (refine Mem.step_append _ (by rfl) (.tmp 20) (.tmp 25) _ (by rfl) X.heap.size 31 ia _ 2 16 Try.underlying46 IA.out.1 IA.out.2.1 IA.out.2.2.1 IA.out.2.2.2 rfl (by omega) v1_1 (0 + g.length) ([] ++ Mem.arrs g) (by rfl) (HO1.out) _ (some ⟨X.heap.size + 1, 0, none⟩) 1 1 [.int .i64 x1, .int .i64 x2] (by rfl) rfl (HX1.out) (Mem.arrs_oneCell [(x1, x2)]) (by unfold maxLen; omega) (by omega) (by have := HBW.out.size; simp; try omega) ?_
                 intro v2_1 w2_1 hown2 hg2 hat2 hlt2
                 have hbw2 : Hid (Below X.heap.size X w2_1) := Lib.hid (Below.grown (HBW.out) hg2 (by have := HBW.out.size; simp; try omega) (fun k hk => (hlt2 k hk).1))
                 clear HBW
                 have HBW := hbw2
                 have hbw3 := HBW.out
                 have hbws3 := hbw3.size
                 clear hbw2
                 have ea : ([] ++ Mem.arrs g ++ [.int .i64 x1, .int .i64 x2]) = Mem.arrs (g ++ [(x1, x2)]) := by rw [Mem.arrs_append, Mem.arrs_one, List.nil_append]
                 rw [ea] at hown2
                 obtain ⟨_, A2, cap2, rfl, hA2, hN2⟩ := Mem.own_arr2 hown2
                 have HA2 := Lib.hid hA2
                 have HN2 := Lib.hid hN2
                 clear hown2 hg2 hat2 hlt2 ea hA2 hN2))
          all_goals
            go_wp2_with fail
            go_meet
            exact ⟨A2, cap2, by simp, HA2.out, HN2.out, HBW.out⟩
        case rest =>
          obtain ⟨A2, c2, rfl, hA2, hN2, hby⟩ := hcut
          obtain ⟨Y, rfl⟩ : ∃ Y : World, Y = wc := ⟨_, rfl⟩
          have ly := hby.size
          have HN2 : Hid (∀ ad, A2 = some ad → w.heap.size ≤ ad.block) := Lib.hid (fun ad h => by have := hN2 ad h; omega)
          clear hN2
          have HA2 := Lib.hid hA2
          have HYX := Lib.hid hby
          have HBY := Lib.hid (HBR.out.trans (hby.mono lr))
          have q0' := below_cell hby q0 (by omega)
          have q1' := below_cell hby q1 (by omega)
          have FT := Fits_at b r A2 (g ++ [(x1, x2)]) (g.length + 1) c2 Y (by simp) hA2 (by simp; omega) b1.1 b1.2 r1.1 r1.2 HG1.out
          cases hF : Fits.fits b r (g ++ [(x1, x2)])
          all_goals
            rw [hF] at FT
            have HFT := Lib.hid FT
            have hX := HX.out.1
            rw [hF] at hX
            have HX1 := Lib.hid hX
            clear FT hby hA2 HSx hX hc0 hc1 q0 q1
            go_wp2_with fail
            with_reducible refine HFT.out.mono ?_
            rintro e w9 ⟨rfl, hb9⟩
            have HB9 := Lib.hid (HBY.out.trans (hb9.mono HBY.out.size))
            have HA9 := Lib.hid (Tr.Arr.of_lt (HA2.out.below hb9) hb9.size)
            have HR9 : Hid (Tr.Arr w9 w9.heap.size A1 g) := Lib.hid (Tr.Arr.of_lt (((Mem.row_arr HR.out).below (HYX.out)).below (hb9.mono (by omega))) (by have := hb9.size; omega))
            clear hb9
            go_wp2_with fail
            go_roundw
            case rel =>
              first
              | exact ⟨k + 1, g, A1, c1, by omega, by go_num, rfl, HR9.out, HN1.out, (by simpa using HX1.out), HX.out.2.2, by omega, HB9.out⟩
              | exact ⟨k + 1, g ++ [(x1, x2)], A2, c2, by omega, by go_num, by simp, HA9.out, HN2.out, (by simpa using HX1.out), by simpa using HX.out.2.1, by simp; omega, HB9.out⟩
            case measure => simp [intOf]; omega
      · have hcf2 : Dr.conf b r l = g := by rw [hcf, List.drop_eq_nil_of_le (by omega)]; rfl
        have HC := Lib.hid hcf2
        have HBR := Lib.hid (HWW.out.trans (hbr.mono lw))
        have HG := Lib.hid hg
        clear hcf hokg hbr hcf2 hg
        go_wp2_with fail
        go_ret
        exact ⟨⟨A1, c1, by rw [HC.out]; rfl, by rw [HC.out]; exact HG.out, HN1.out⟩, HBR.out⟩
theorem Conforming_any (x y : Nat) (hx : x < 4294967296) (hy : y < 4294967296) (G : Option Addr) (gs : List Int) (cg : Nat) (S : Option Addr) (ss : List Int) (cs : Nat) (b r : Int) (hb0 : 1 + (x : Int) % 1048576 = b) (hr0 : 1 + (y : Int) % 2097152 = r) (w : World) (hG : Mem.Row w w.heap.size G (Mem.nums .u16 gs)) (hS : Mem.Row w w.heap.size S (Mem.nums .u16 ss)) (bG : ∀ n ∈ gs, 0 ≤ n ∧ n ≤ 65535) (bS : ∀ n ∈ ss, 0 ≤ n ∧ n ≤ 65535) (lG : gs.length ≤ maxLen) (lS : ss.length ≤ maxLen) :
    Calls Try.prog 16 #[.agg #[.int .u32 x, .int .u32 y, .slice G gs.length cg, .slice S ss.length cs]] w fun e w' => (∃ A cap, e = .returned (.slice A (Dr.conf b r (Dr.trace gs ss)).length cap) ∧ Tr.Arr w' w'.heap.size A (Dr.conf b r (Dr.trace gs ss))) ∧ Below w.heap.size w w' :=
  (Conforming_own x y hx hy G gs cg S ss cs b r hb0 hr0 w hG hS bG bS lG lS).mono fun e w' ⟨⟨A, cap, h1, h2, _⟩, h3⟩ => ⟨⟨A, cap, h1, h2⟩, h3⟩
theorem Trace_own (x y : Int) (G : Option Addr) (gs : List Int) (cg : Nat) (S : Option Addr) (ss : List Int) (cs : Nat) (w : World) (hG : Mem.Row w w.heap.size G (Mem.nums .u16 gs)) (hS : Mem.Row w w.heap.size S (Mem.nums .u16 ss)) (bG : ∀ n ∈ gs, 0 ≤ n ∧ n ≤ 65535) (bS : ∀ n ∈ ss, 0 ≤ n ∧ n ≤ 65535) (lG : gs.length ≤ maxLen) (lS : ss.length ≤ maxLen) :
    Calls Try.prog 28 #[.agg #[.int .u32 x, .int .u32 y, .slice G gs.length cg, .slice S ss.length cs]] w fun e w' => (∃ A cap, e = .returned (.slice A (Dr.trace gs ss).length cap) ∧ Tr.Arr w' w'.heap.size A (Dr.trace gs ss) ∧ ∀ ad, A = some ad → w.heap.size ≤ ad.block) ∧ Below w.heap.size w w' :=
  (Trace_any x y G gs cg S ss cs w hG hS bG bS lG lS).mono fun e w' ⟨⟨v, h1, h2⟩, h3⟩ => by
    obtain ⟨_, A, cap, rfl, h4, h5⟩ := Mem.own_arr2 h2
    exact ⟨⟨A, cap, h1, h4, h5⟩, h3⟩
end DrW
end Go.Proofs.Ytpglhjgpjnapgaa
