/- The reference's fits and Run. -/
import Derived.Test.YtgpknoakkkkapaaMtT
namespace Go.Proofs.Ytgpknoakkkkapaa
set_option linter.unusedSimpArgs false
set_option linter.unusedVariables false
open Go.RowKit
namespace MtW
set_option maxHeartbeats 2000000 in
theorem fits_any (b r : Int) (A : Option Addr) (l : List (Int × Int)) (cap : Nat) (x1 x2 : Int) (w : World) (hA : Tr.Arr w w.heap.size A l) (hl : l.length ≤ 500) (b1 : 1 ≤ b) (b2 : b ≤ 1048576) (r1 : 1 ≤ r) (r2 : r ≤ 2097152) (hok : Tr.okFrom 0 (l ++ [(x1, x2)]) = true) :
    Calls Try.prog 33 #[.agg #[.int .i64 b, .int .i64 r], .slice A l.length cap, .agg #[.int .i64 x1, .int .i64 x2]] w fun e w' => e = .returned (.bool (Fits.fits b r (l ++ [(x1, x2)]))) ∧ Below w.heap.size w w' := by
  obtain ⟨i0, hi0, hz0, hz1, hz2⟩ := info_parts Mem.arr_info
  have II := Lib.hid (And.intro hi0 (And.intro hz0 (And.intro hz1 hz2)))
  have HA := Lib.hid hA
  have HOK := Lib.hid hok
  clear hi0 hz0 hz1 hz2 hA hok
  go_enter Try.func33, Try.ntmps33
  go_wp2_with fail
  obtain ⟨W0, hW0⟩ : ∃ W0, (w.alloc (.cells #[.int .i64 b, .int .i64 r] 23)).alloc (.cells #[.int .i64 x1, .int .i64 x2] 33) = W0 := ⟨_, rfl⟩
  have k0 : W0.cell? ⟨w.heap.size, 0, none⟩ = some (.int .i64 b) := by rw [← hW0]; simp [go_sem]
  have k1 : W0.cell? ⟨w.heap.size, 1, none⟩ = some (.int .i64 r) := by rw [← hW0]; simp [go_sem]
  have k2 : W0.cell? ⟨w.heap.size + 1, 0, none⟩ = some (.int .i64 x1) := by rw [← hW0]; simp [go_sem]
  have k3 : W0.cell? ⟨w.heap.size + 1, 1, none⟩ = some (.int .i64 x2) := by rw [← hW0]; simp [go_sem]
  have kz : w.heap.size + 1 < W0.heap.size := by rw [← hW0]; simp
  have HW : Hid (Below w.heap.size w W0) := by rw [← hW0]; apply Lib.hid; (repeat' (first | (with_reducible exact Below.refl _ _) | (with_reducible refine Below.alloc ?_ ?_ _) | (with_reducible refine Below.setCell ?_ ?_ _) | (with_reducible refine Below.drew ?_) | (with_reducible assumption) | omega | (simp; done) | (simp; omega)))
  rw [hW0]
  clear hW0
  have HK := Lib.hid (And.intro k0 (And.intro k1 (And.intro k2 k3)))
  have HR : Hid (Mem.Row W0 W0.heap.size A (Mem.arrs l)) := Lib.hid ((Mem.arr_row (HA.out.below HW.out)).of_lt (by omega))
  go_region_held3 (fun w' => w'.cell? ⟨w.heap.size, 0, none⟩ = some (.int .i64 b) ∧ w'.cell? ⟨w.heap.size, 1, none⟩ = some (.int .i64 r) ∧ w'.cell? ⟨w.heap.size + 1, 0, none⟩ = some (.int .i64 x1) ∧ w'.cell? ⟨w.heap.size + 1, 1, none⟩ = some (.int .i64 x2))
    (first | go_keep | exact ⟨below_cell HBW.out HK.out.1 (by omega), below_cell HBW.out HK.out.2.1 (by omega), below_cell HBW.out HK.out.2.2.1 (by omega), below_cell HBW.out HK.out.2.2.2 (by omega)⟩)
    (first
      | (refine Mem.step_append _ (by rfl) (.tmp 8) (.tmp 9) _ (by rfl) W0.heap.size 33 i0 _ 2 16 Try.underlying50 II.out.1 II.out.2.1 II.out.2.2.1 II.out.2.2.2 rfl (by omega) (.slice (some ⟨W0.heap.size, 0, none⟩) 0 0) 0 [] (by rfl) ((Mem.own_lit_at W0 W0.heap.size 33 2 _ rfl (by omega)).drew) W0.heap.size A l.length cap (Mem.arrs l) (by rfl) (Mem.arrs_length l) (HR.out.below (Below.drew ((Below.refl W0.heap.size W0).alloc (by simp; try omega) (.cells #[] 33)))) (Mem.arrs_oneCell l) (by unfold maxLen; omega) (by omega) (by simp; try omega) ?_
         intro v1 w1 hown1 hg1 hat1 hlt1
         have HO1 := Lib.hid hown1
         have HBW : Hid (Below W0.heap.size W0 w1) := Lib.hid (Below.grown (Below.drew ((Below.refl W0.heap.size W0).alloc (by simp; try omega) (.cells #[] 33))) hg1 (by simp; try omega) (fun k hk => (hlt1 k hk).1))
         clear hown1 hg1 hat1 hlt1)
      | (refine Mem.step_append _ (by rfl) (.tmp 8) (.tmp 9) _ (by rfl) W0.heap.size 33 i0 _ 2 16 Try.underlying50 II.out.1 II.out.2.1 II.out.2.2.1 II.out.2.2.2 rfl (by omega) (.slice (some ⟨W0.heap.size, 0, none⟩) 0 0) 0 [] (by rfl) (((Mem.own_lit_at W0 W0.heap.size 33 2 _ rfl (by omega)).alloc (.cells #[.int .i64 x1, .int .i64 x2] 33)).drew) W0.heap.size A l.length cap (Mem.arrs l) (by rfl) (Mem.arrs_length l) (HR.out.below (Below.drew (((Below.refl W0.heap.size W0).alloc (by simp; try omega) (.cells #[] 33)).alloc (by simp; try omega) (.cells #[.int .i64 x1, .int .i64 x2] 33)))) (Mem.arrs_oneCell l) (by unfold maxLen; omega) (by omega) (by simp; try omega) ?_
         intro v1 w1 hown1 hg1 hat1 hlt1
         have HO1 := Lib.hid hown1
         have HBW : Hid (Below W0.heap.size W0 w1) := Lib.hid (Below.grown (Below.drew (((Below.refl W0.heap.size W0).alloc (by simp; try omega) (.cells #[] 33)).alloc (by simp; try omega) (.cells #[.int .i64 x1, .int .i64 x2] 33))) hg1 (by simp; try omega) (fun k hk => (hlt1 k hk).1))
         have HX1 : Hid (Mem.Row w1 w1.heap.size (some ⟨W0.heap.size + 1, 0, none⟩) [.int .i64 x1, .int .i64 x2]) := Lib.hid ((Mem.Row.grown (w := ((W0.alloc (.cells #[] 33)).alloc (.cells #[.int .i64 x1, .int .i64 x2] 33)).drew) (Mem.Row.new_at (W0.alloc (.cells #[] 33)) #[.int .i64 x1, .int .i64 x2] 33 (W0.heap.size + 1) (by simp)) hg1 (by simp) (by rintro ad ⟨⟩ he; have := he.symm; simp [Value.ownBlock] at this)).of_lt (by have := hg1.size; simp at this ⊢; omega))
         clear hown1 hg1 hat1 hlt1)
      | (refine Mem.step_append _ (by rfl) (.tmp 8) (.tmp 9) _ (by rfl) W0.heap.size 33 i0 _ 2 16 Try.underlying50 II.out.1 II.out.2.1 II.out.2.2.1 II.out.2.2.2 rfl (by omega) (.slice (some ⟨W0.heap.size + 1, 0, none⟩) 0 0) 0 [] (by rfl) ((Mem.own_lit_at (W0.alloc (.cells #[.int .i64 x1, .int .i64 x2] 33)) W0.heap.size 33 2 _ (by simp) (by omega)).drew) W0.heap.size A l.length cap (Mem.arrs l) (by rfl) (Mem.arrs_length l) (HR.out.below (Below.drew (((Below.refl W0.heap.size W0).alloc (by simp; try omega) (.cells #[.int .i64 x1, .int .i64 x2] 33)).alloc (by simp; try omega) (.cells #[] 33)))) (Mem.arrs_oneCell l) (by unfold maxLen; omega) (by omega) (by simp; try omega) ?_
         intro v1 w1 hown1 hg1 hat1 hlt1
         have HO1 := Lib.hid hown1
         have HBW : Hid (Below W0.heap.size W0 w1) := Lib.hid (Below.grown (Below.drew (((Below.refl W0.heap.size W0).alloc (by simp; try omega) (.cells #[.int .i64 x1, .int .i64 x2] 33)).alloc (by simp; try omega) (.cells #[] 33))) hg1 (by simp; try omega) (fun k hk => (hlt1 k hk).1))
         have HX1 : Hid (Mem.Row w1 w1.heap.size (some ⟨W0.heap.size, 0, none⟩) [.int .i64 x1, .int .i64 x2]) := Lib.hid ((Mem.Row.grown (w := ((W0.alloc (.cells #[.int .i64 x1, .int .i64 x2] 33)).alloc (.cells #[] 33)).drew) ((Mem.Row.new W0 #[.int .i64 x1, .int .i64 x2] 33).keep fun p hp => World.cell?_alloc_lt _ _ p (by simp at hp ⊢; omega)) hg1 (by simp) (by rintro ad ⟨⟩ he; have := he.symm; simp [Value.ownBlock] at this)).of_lt (by have := hg1.size; simp at this ⊢; omega))
         clear hown1 hg1 hat1 hlt1)
      | (refine Mem.step_append _ (by rfl) (.tmp 8) (.tmp 9) _ (by rfl) W0.heap.size 33 i0 _ 2 16 Try.underlying50 II.out.1 II.out.2.1 II.out.2.2.1 II.out.2.2.2 rfl (by omega) (.slice (some ⟨W0.heap.size, 0, none⟩) 0 0) 0 [] (by rfl) (((Mem.own_lit_at W0 W0.heap.size 33 2 _ rfl (by omega)).alloc (.cells #[.int .i64 x1, .int .i64 x2] 33)).drew.drew) W0.heap.size A l.length cap (Mem.arrs l) (by rfl) (Mem.arrs_length l) (HR.out.below (Below.drew Below.drew (((Below.refl W0.heap.size W0).alloc (by simp; try omega) (.cells #[] 33)).alloc (by simp; try omega) (.cells #[.int .i64 x1, .int .i64 x2] 33)))) (Mem.arrs_oneCell l) (by unfold maxLen; omega) (by omega) (by simp; try omega) ?_
         intro v1 w1 hown1 hg1 hat1 hlt1
         have HO1 := Lib.hid hown1
         have HBW : Hid (Below W0.heap.size W0 w1) := Lib.hid (Below.grown (Below.drew Below.drew (((Below.refl W0.heap.size W0).alloc (by simp; try omega) (.cells #[] 33)).alloc (by simp; try omega) (.cells #[.int .i64 x1, .int .i64 x2] 33))) hg1 (by simp; try omega) (fun k hk => (hlt1 k hk).1))
         have HX1 : Hid (Mem.Row w1 w1.heap.size (some ⟨W0.heap.size + 1, 0, none⟩) [.int .i64 x1, .int .i64 x2]) := Lib.hid ((Mem.Row.grown (w := ((W0.alloc (.cells #[] 33)).alloc (.cells #[.int .i64 x1, .int .i64 x2] 33)).drew.drew) (Mem.Row.new_at (W0.alloc (.cells #[] 33)) #[.int .i64 x1, .int .i64 x2] 33 (W0.heap.size + 1) (by simp)) hg1 (by simp) (by rintro ad ⟨⟩ he; have := he.symm; simp [Value.ownBlock] at this)).of_lt (by have := hg1.size; simp at this ⊢; omega))
         clear hown1 hg1 hat1 hlt1)
      | (refine Mem.step_append _ (by rfl) (.tmp 8) (.tmp 9) _ (by rfl) W0.heap.size 33 i0 _ 2 16 Try.underlying50 II.out.1 II.out.2.1 II.out.2.2.1 II.out.2.2.2 rfl (by omega) (.slice (some ⟨W0.heap.size + 1, 0, none⟩) 0 0) 0 [] (by rfl) ((Mem.own_lit_at (W0.alloc (.cells #[.int .i64 x1, .int .i64 x2] 33)) W0.heap.size 33 2 _ (by simp) (by omega)).drew.drew) W0.heap.size A l.length cap (Mem.arrs l) (by rfl) (Mem.arrs_length l) (HR.out.below (Below.drew Below.drew (((Below.refl W0.heap.size W0).alloc (by simp; try omega) (.cells #[.int .i64 x1, .int .i64 x2] 33)).alloc (by simp; try omega) (.cells #[] 33)))) (Mem.arrs_oneCell l) (by unfold maxLen; omega) (by omega) (by simp; try omega) ?_
         intro v1 w1 hown1 hg1 hat1 hlt1
         have HO1 := Lib.hid hown1
         have HBW : Hid (Below W0.heap.size W0 w1) := Lib.hid (Below.grown (Below.drew Below.drew (((Below.refl W0.heap.size W0).alloc (by simp; try omega) (.cells #[.int .i64 x1, .int .i64 x2] 33)).alloc (by simp; try omega) (.cells #[] 33))) hg1 (by simp; try omega) (fun k hk => (hlt1 k hk).1))
         have HX1 : Hid (Mem.Row w1 w1.heap.size (some ⟨W0.heap.size, 0, none⟩) [.int .i64 x1, .int .i64 x2]) := Lib.hid ((Mem.Row.grown (w := ((W0.alloc (.cells #[.int .i64 x1, .int .i64 x2] 33)).alloc (.cells #[] 33)).drew.drew) ((Mem.Row.new W0 #[.int .i64 x1, .int .i64 x2] 33).keep fun p hp => World.cell?_alloc_lt _ _ p (by simp at hp ⊢; omega)) hg1 (by simp) (by rintro ad ⟨⟩ he; have := he.symm; simp [Value.ownBlock] at this)).of_lt (by have := hg1.size; simp at this ⊢; omega))
         clear hown1 hg1 hat1 hlt1)
      | (refine Mem.step_append _ (by rfl) (.tmp 10) (.tmp 12) _ (by rfl) W0.heap.size 33 i0 _ 2 16 Try.underlying50 II.out.1 II.out.2.1 II.out.2.2.1 II.out.2.2.2 rfl (by omega) v1 (0 + l.length) ([] ++ Mem.arrs l) (by rfl) (HO1.out.alloc _) _ (some ⟨w1.heap.size, 0, none⟩) 1 1 [.int .i64 x1, .int .i64 x2] (by rfl) rfl (Mem.Row.new _ _ _) (Mem.arrs_oneCell [(x1, x2)]) (by unfold maxLen; omega) (by omega) (by have := HBW.out.size; simp; try omega) ?_
         intro v2 w2 hown2 hg2 hat2 hlt2
         have hbw2 : Hid (Below W0.heap.size W0 w2) := Lib.hid (Below.grown (HBW.out.alloc HBW.out.size _) hg2 (by have := HBW.out.size; simp; try omega) (fun k hk => (hlt2 k hk).1))
         clear HBW
         have HBW := hbw2
         clear hbw2
         have ea : ([] ++ Mem.arrs l ++ [.int .i64 x1, .int .i64 x2]) = Mem.arrs (l ++ [(x1, x2)]) := by rw [Mem.arrs_append, Mem.arrs_one, List.nil_append]
         rw [ea] at hown2
         obtain ⟨_, A2, cap2, rfl, hA2⟩ := Mem.own_arr hown2
         have HA2 := Lib.hid hA2
         clear hown2 hg2 hat2 hlt2 ea hA2)
      | (refine Mem.step_append _ (by rfl) (.tmp 10) (.tmp 12) _ (by rfl) W0.heap.size 33 i0 _ 2 16 Try.underlying50 II.out.1 II.out.2.1 II.out.2.2.1 II.out.2.2.2 rfl (by omega) v1 (0 + l.length) ([] ++ Mem.arrs l) (by rfl) (HO1.out) _ (some ⟨W0.heap.size, 0, none⟩) 1 1 [.int .i64 x1, .int .i64 x2] (by rfl) rfl (HX1.out) (Mem.arrs_oneCell [(x1, x2)]) (by unfold maxLen; omega) (by omega) (by have := HBW.out.size; simp; try omega) ?_
         intro v2 w2 hown2 hg2 hat2 hlt2
         have hbw2 : Hid (Below W0.heap.size W0 w2) := Lib.hid (Below.grown (HBW.out) hg2 (by have := HBW.out.size; simp; try omega) (fun k hk => (hlt2 k hk).1))
         clear HBW
         have HBW := hbw2
         clear hbw2
         have ea : ([] ++ Mem.arrs l ++ [.int .i64 x1, .int .i64 x2]) = Mem.arrs (l ++ [(x1, x2)]) := by rw [Mem.arrs_append, Mem.arrs_one, List.nil_append]
         rw [ea] at hown2
         obtain ⟨_, A2, cap2, rfl, hA2⟩ := Mem.own_arr hown2
         have HA2 := Lib.hid hA2
         clear hown2 hg2 hat2 hlt2 ea hA2)
      | (refine Mem.step_append _ (by rfl) (.tmp 10) (.tmp 12) _ (by rfl) W0.heap.size 33 i0 _ 2 16 Try.underlying50 II.out.1 II.out.2.1 II.out.2.2.1 II.out.2.2.2 rfl (by omega) v1 (0 + l.length) ([] ++ Mem.arrs l) (by rfl) (HO1.out) _ (some ⟨W0.heap.size + 1, 0, none⟩) 1 1 [.int .i64 x1, .int .i64 x2] (by rfl) rfl (HX1.out) (Mem.arrs_oneCell [(x1, x2)]) (by unfold maxLen; omega) (by omega) (by have := HBW.out.size; simp; try omega) ?_
         intro v2 w2 hown2 hg2 hat2 hlt2
         have hbw2 : Hid (Below W0.heap.size W0 w2) := Lib.hid (Below.grown (HBW.out) hg2 (by have := HBW.out.size; simp; try omega) (fun k hk => (hlt2 k hk).1))
         clear HBW
         have HBW := hbw2
         clear hbw2
         have ea : ([] ++ Mem.arrs l ++ [.int .i64 x1, .int .i64 x2]) = Mem.arrs (l ++ [(x1, x2)]) := by rw [Mem.arrs_append, Mem.arrs_one, List.nil_append]
         rw [ea] at hown2
         obtain ⟨_, A2, cap2, rfl, hA2⟩ := Mem.own_arr hown2
         have HA2 := Lib.hid hA2
         clear hown2 hg2 hat2 hlt2 ea hA2)
      | (go_at_call_of 35 (Value.agg #[.int .i64 b, .int .i64 r])
         (with_reducible refine (Fits_at b r A2 (l ++ [(x1, x2)]) (l.length + 1) cap2 _ (by simp) HA2.out (by simp; omega) b1 b2 r1 r2 HOK.out).mono ?_)
         rintro e w3 ⟨rfl, hb3⟩
         have hbw2 : Hid (Below W0.heap.size W0 w3) := Lib.hid (HBW.out.trans (hb3.mono HBW.out.size))
         clear HBW
         have HBW := hbw2
         clear hbw2 hb3))
  all_goals
    go_wp2_with fail
    go_ret
    exact ⟨rfl, HW.out.trans (HBW.out.mono (by omega))⟩
end MtW
end Go.Proofs.Ytgpknoakkkkapaa
