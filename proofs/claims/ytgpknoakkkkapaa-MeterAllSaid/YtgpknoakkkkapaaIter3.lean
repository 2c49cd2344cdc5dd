/- Conforms decides by all intervals. -/
import Derived.Test.YtgpknoakkkkapaaIter2
namespace Go.Proofs.Ytgpknoakkkkapaa
set_option linter.unusedSimpArgs false
set_option linter.unusedVariables false
open Go.RowKit Go.Shelf
namespace Fits
theorem inner_append (b r a0 : Int) (l m : List (Int × Int)) : ∀ s, inner b r a0 s (l ++ m) = (inner b r a0 s l && inner b r a0 (s + tot l) m) := by
  induction l with
  | nil => intro s; simp [inner, tot]
  | cons x l ih => intro s; simp only [List.cons_append, inner, ih, Bool.and_assoc, tot, Int.add_assoc]
theorem fits_prefix {b r : Int} {l m : List (Int × Int)} (h : fits b r (l ++ m) = true) : fits b r l = true := by
  induction l with
  | nil => rfl
  | cons x l ih =>
    have h' : (inner b r x.1 0 ((x :: l) ++ m) && fits b r (l ++ m)) = true := h
    rw [inner_append, Bool.and_eq_true, Bool.and_eq_true] at h'
    show (inner b r x.1 0 (x :: l) && fits b r l) = true
    rw [h'.1.1, ih h'.2]; rfl
theorem lev_fits {b r : Int} (hr : 0 ≤ r) (l : List (Int × Int)) : ∀ (t : Int) (g : List (Int × Int)), Tr.okFrom t l = true → fits b r g = true → ((∀ v ∈ It.lev b r (b * 1048576 - dem r t g) t l, 0 ≤ v) ↔ fits b r (g ++ l) = true) := by
  induction l with
  | nil => intro t g _ hg; simp [It.lev, hg]
  | cons x l ih =>
    intro t g hok hg
    unfold Tr.okFrom at hok
    rw [Bool.and_eq_true] at hok
    obtain ⟨h1, h2⟩ := hok
    unfold Tr.stepOk at h1
    rw [Bool.and_eq_true, decide_eq_true_iff, decide_eq_true_iff] at h1
    obtain ⟨⟨x1, x2⟩, x3, x4⟩ := h1
    have hd := dem_late hr x1 g
    have hs := dem_snoc r g x (by omega)
    have hf := fits_snoc b r g x
    have e : min (b * 1048576) (b * 1048576 - dem r t g + r * (x.1 - t)) - x.2 * 1048576 = b * 1048576 - dem r x.1 (g ++ [x]) := by rw [hs, hd]; omega
    unfold It.lev
    rw [e]
    have ea : g ++ x :: l = (g ++ [x]) ++ l := by simp
    rw [ea]
    by_cases hc : dem r x.1 g + x.2 * 1048576 ≤ b * 1048576
    · have hg2 : fits b r (g ++ [x]) = true := by rw [hf, hg, decide_eq_true hc]; rfl
      rw [← ih x.1 (g ++ [x]) h2 hg2]
      constructor
      · intro h v hv; exact h v (List.mem_cons_of_mem _ hv)
      · intro h v hv
        rcases List.mem_cons.1 hv with rfl | hv
        · rw [hs]; omega
        · exact h v hv
    · have hg2 : fits b r (g ++ [x]) = false := by rw [hf, hg, decide_eq_false hc]; rfl
      constructor
      · intro h
        have := h _ (List.mem_cons_self ..)
        rw [hs] at this; omega
      · intro h
        rw [fits_prefix h] at hg2; cases hg2
theorem levs_fits {b r : Int} (hr : 0 ≤ r) {l : List (Int × Int)} (hok : Tr.okFrom 0 l = true) : (∀ v ∈ It.levs b r l, 0 ≤ v) ↔ fits b r l = true := by
  have h := lev_fits (b := b) hr l 0 [] hok rfl
  simpa [It.levs, dem] using h
end Fits
namespace ItW
theorem Conforms_good (b r : Int) (A : Option Addr) (l : List (Int × Int)) (cap : Nat) (b1 : 1 ≤ b) (b2 : b ≤ 1048576) (r1 : 1 ≤ r) (r2 : r ≤ 2097152) (hok : Tr.ok l = true) (w : World) (hA : Tr.Arr w w.heap.size A l) :
    Calls Try.prog 34 #[.agg #[.int .i64 b, .int .i64 r], .slice A l.length cap] w fun e w' => e = .returned (.tuple #[.bool (Fits.fits b r l), .int .i64 0]) ∧ Below w.heap.size w w' := by
  have hof : Tr.okFrom 0 l = true := by unfold Tr.ok at hok; rw [Bool.and_eq_true] at hok; exact hok.2
  have hlf := Fits.levs_fits (b := b) (r := r) (by omega) hof
  have F := fun W hA => First_good b r A l cap b1 b2 r1 r2 hok W hA
  have HF := Lib.hid F
  have HA := Lib.hid hA
  clear F hA hof hok
  generalize Fits.fits b r l = fv at *
  generalize It.levs b r l = lv at *
  have HL := Lib.hid hlf
  clear hlf
  go_enter Try.func34, Try.ntmps34
  go_wp2_with fail
  refine (HF.out _ ((HA.out.below ((Below.refl _ _).alloc (Nat.le_refl _) _)).of_lt (by simp))).mono ?_
  rintro e w1 ⟨⟨k, rfl, hk⟩, hb⟩
  have HB : Hid (Below w.heap.size w w1) := Lib.hid (((Below.refl _ _).alloc (Nat.le_refl _) _).trans (hb.mono (by simp)))
  have hd : decide (k < 0) = fv := by
    rw [Bool.eq_iff_iff, decide_eq_true_iff, hk, HL.out]
  have HD := Lib.hid hd
  clear hb hk hd
  go_wp2_with fail
  go_ret2
  exact ⟨by rw [HD.out]; rfl, HB.out⟩
theorem conforms_good (b r : Int) (A : Option Addr) (l : List (Int × Int)) (n cap : Nat) (hn : l.length = n) (b1 : 1 ≤ b) (b2 : b ≤ 1048576) (r1 : 1 ≤ r) (r2 : r ≤ 2097152) (hok : Tr.ok l = true) (w : World) (hA : Tr.Arr w w.heap.size A l) :
    Calls Try.prog 24 #[.agg #[.int .i64 b, .int .i64 r], .slice A n cap] w fun e w' => e = .returned (.bool (Fits.fits b r l)) ∧ Below w.heap.size w w' := by
  subst hn
  have F := fun W hA => Conforms_good b r A l cap b1 b2 r1 r2 hok W hA
  have HF := Lib.hid F
  have HA := Lib.hid hA
  clear F hA hok
  generalize Fits.fits b r l = fv at *
  go_enter Try.func24, Try.ntmps24
  go_wp2_with fail
  refine (HF.out _ ((HA.out.below ((Below.refl _ _).alloc (Nat.le_refl _) _)).of_lt (by simp))).mono ?_
  rintro e w1 ⟨rfl, hb⟩
  have HB : Hid (Below w.heap.size w w1) := Lib.hid (((Below.refl _ _).alloc (Nat.le_refl _) _).trans (hb.mono (by simp)))
  clear hb
  cases fv
  all_goals
    go_wp2_with fail
    go_ret
    exact ⟨rfl, HB.out⟩
end ItW
end Go.Proofs.Ytgpknoakkkkapaa
