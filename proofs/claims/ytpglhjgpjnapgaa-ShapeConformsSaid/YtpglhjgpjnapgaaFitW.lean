/- The reference's RightTrace and Fits. -/
import Derived.Test.YtpglhjgpjnapgaaFit
import Derived.Test.YtpglhjgpjnapgaaMem
import Derived.Deep.QuietTactic
import Derived.BigQuiet
namespace Go.Proofs.Ytpglhjgpjnapgaa
set_option linter.unusedSimpArgs false
set_option linter.unusedVariables false
open Go.RowKit
namespace MtW
theorem rd_bound {r d : Int} (r1 : 1 ≤ r) (r2 : r ≤ 2097152) (d1 : -1099511627776 ≤ d) (d2 : d ≤ 1099511627776) : -2305843009213693952 ≤ r * d ∧ r * d ≤ 2305843009213693952 := by
  have a := Int.mul_le_mul_of_nonneg_left d2 (show 0 ≤ r by omega)
  have b := Int.mul_le_mul_of_nonneg_left d1 (show 0 ≤ r by omega)
  omega
set_option maxHeartbeats 2000000 in
theorem Fits_any (b r : Int) (A : Option Addr) (l : List (Int × Int)) (cap : Nat) (w : World) (hA : Tr.Arr w w.heap.size A l) (hl : l.length ≤ 1000) (b1 : 1 ≤ b) (b2 : b ≤ 1048576) (r1 : 1 ≤ r) (r2 : r ≤ 2097152) (hok : Tr.okFrom 0 l = true) :
    Calls Try.prog 29 #[.agg #[.int .i64 b, .int .i64 r], .slice A l.length cap] w fun e w' => e = .returned (.bool (Fits.fits b r l)) ∧ Below w.heap.size w w' := by
  have HA : Hid (Tr.Arr (w.alloc (.cells #[.int .i64 b, .int .i64 r] 23)) (w.alloc (.cells #[.int .i64 b, .int .i64 r] 23)).heap.size A l) := (hA.below ((Below.refl _ _).alloc (Nat.le_refl _) _)).of_lt (by simp)
  have HOK := Lib.hid hok
  clear hA hok
  go_enter Try.func29, Try.ntmps29
  go_wp2_with fail
  obtain ⟨W0, hW0⟩ : ∃ W0, w.alloc (.cells #[.int .i64 b, .int .i64 r] 23) = W0 := ⟨_, rfl⟩
  have k0 : W0.cell? ⟨w.heap.size, 0, none⟩ = some (.int .i64 b) := by rw [← hW0]; simp [go_sem]
  have k1 : W0.cell? ⟨w.heap.size, 1, none⟩ = some (.int .i64 r) := by rw [← hW0]; simp [go_sem]
  have kz : w.heap.size < W0.heap.size := by rw [← hW0]; simp
  have HW : Hid (Below w.heap.size w W0) := by rw [← hW0]; exact Lib.hid ((Below.refl _ _).alloc (Nat.le_refl _) _)
  rw [hW0] at HA ⊢
  clear hW0
  go_loopw [5] (fun i wr => ∃ k : Nat, k ≤ l.length ∧ i = .int .i64 k ∧ Fits.fits b r l = Fits.fits b r (l.drop k) ∧ Below W0.heap.size W0 wr) (fun i _ => l.length - (intOf i).toNat)
  case atStart => exact ⟨0, by omega, rfl, rfl, Below.refl _ _⟩
  case round =>
    obtain ⟨k, hk, rfl, he, hb⟩ := hrel
    by_cases hlt : k < l.length
    · obtain ⟨x, hx⟩ : ∃ x, l[k]? = some x := ⟨l[k], List.getElem?_eq_getElem hlt⟩
      have HE := Lib.hid he
      have HB := Lib.hid hb
      have HX := Lib.hid hx
      clear he hb hx
      obtain ⟨x1, x2, x3, x4⟩ := Tr.okFrom_at HOK.out (Int.le_refl _) HX.out
      go_wp2_with fail
      obtain ⟨W1, hW1⟩ : ∃ W1, wr = W1 := ⟨_, rfl⟩
      rw [hW1] at HB ⊢
      clear hW1
      go_loopw [6, 7] (fun s j wr2 => ∃ (m : Nat) (sum : Int), m ≤ l.length ∧ j = .int .i64 m ∧ s = .int .i64 sum ∧ 0 ≤ sum ∧ sum ≤ m * 1048576 ∧ Fits.inner b r x.1 0 (l.drop k) = Fits.inner b r x.1 sum (l.drop m) ∧ Below W0.heap.size W0 wr2) (fun _ j _ => l.length - (intOf j).toNat)
      case atStart => exact ⟨k, 0, by omega, rfl, rfl, by omega, by omega, rfl, HB.out⟩
      case round =>
        obtain ⟨m, sum, hm, rfl, rfl, s0, s1, hin, hb2⟩ := hrel
        obtain ⟨ad0, rfl, hbk0, hd0, hd1⟩ := (HA.out.below hb2) k x HX.out
        have e0 := (hb2.cell (p := ⟨w.heap.size, 0, none⟩) kz).trans k0
        have e1 := (hb2.cell (p := ⟨w.heap.size, 1, none⟩) kz).trans k1
        have HI := Lib.hid hin
        have HB2 := Lib.hid hb2
        clear hin
        by_cases hlt2 : m < l.length
        · obtain ⟨y, hy⟩ : ∃ y, l[m]? = some y := ⟨l[m], List.getElem?_eq_getElem hlt2⟩
          obtain ⟨ad, had, hbk, hc0, hc1⟩ := (HA.out.below hb2) m y hy
          injection had with had
          subst had
          obtain ⟨y1, y2, y3, y4⟩ := Tr.okFrom_at HOK.out (Int.le_refl _) hy
          have hs := Fits.inner_step (b := b) (r := r) (a0 := x.1) (s := sum) hy
          have HI2 := Lib.hid (HI.out.trans hs)
          have hd := rd_bound (d := y.1 - x.1) r1 r2 (by omega) (by omega)
          have q1 : IntKind.i64.wrap (sum + y.2) = sum + y.2 := IntWalk.i64_in _ (by omega)
          have q2 : IntKind.i64.wrap (sum + y.2 - b) = sum + y.2 - b := IntWalk.i64_in _ (by omega)
          have q3 : IntKind.i64.wrap ((sum + y.2 - b) * 1048576) = (sum + y.2 - b) * 1048576 := IntWalk.i64_in _ (by omega)
          have q4 : IntKind.i64.wrap (y.1 - x.1) = y.1 - x.1 := IntWalk.i64_in _ (by omega)
          have q5 : IntKind.i64.wrap (r * (y.1 - x.1)) = r * (y.1 - x.1) := IntWalk.i64_in _ (by omega)
          clear hs hy hb2
          by_cases hfit : (sum + y.2 - b) * 1048576 ≤ r * (y.1 - x.1)
          · have HF : Hid (Fits.inner b r x.1 0 (l.drop k) = Fits.inner b r x.1 (sum + y.2) (l.drop (m + 1))) := by apply Lib.hid; rw [HI2.out, decide_eq_true hfit, Bool.true_and]
            go_wp2_with fail
            go_quiet (fail)
            go_wp2_with fail
            go_roundw
            case rel => exact ⟨m + 1, _, by omega, by go_num, rfl, by omega, by omega, HF.out, belowN HB2.out _⟩
            case measure => simp [intOf]; omega
          · have HF : Hid (Fits.fits b r l = false) := by apply Lib.hid; rw [HE.out, Fits.fits_step HX.out, HI2.out, decide_eq_false hfit, Bool.false_and, Bool.false_and]
            go_wp2_with fail
            go_quiet (fail)
            go_wp2_with fail
            go_ret
            exact ⟨ret_bool HF.out.symm, HW.out.trans ((belowN HB2.out _).mono (by omega))⟩
        · have HF : Hid (Fits.fits b r l = Fits.fits b r (l.drop (k + 1))) := by
            apply Lib.hid
            rw [HE.out, Fits.fits_step HX.out, HI.out, List.drop_eq_nil_of_le (show l.length ≤ m by omega)]
            rfl
          go_wp2_with fail
          go_roundw
          case rel => exact ⟨k + 1, by omega, by go_num, HF.out, HB2.out⟩
          case measure => simp [intOf]; omega
    · have HE : Hid (Fits.fits b r l = true) := by rw [he, List.drop_eq_nil_of_le (by omega)]; rfl
      have HB := Lib.hid hb
      clear he hb
      go_wp2_with fail
      go_ret
      exact ⟨ret_bool HE.out.symm, HW.out.trans (HB.out.mono (by omega))⟩
theorem Fits_at (b r : Int) (A : Option Addr) (l : List (Int × Int)) (n cap : Nat) (w : World) (hn : l.length = n) (hA : Tr.Arr w w.heap.size A l) (hl : l.length ≤ 1000) (b1 : 1 ≤ b) (b2 : b ≤ 1048576) (r1 : 1 ≤ r) (r2 : r ≤ 2097152) (hok : Tr.okFrom 0 l = true) :
    Calls Try.prog 29 #[.agg #[.int .i64 b, .int .i64 r], .slice A n cap] w fun e w' => e = .returned (.bool (Fits.fits b r l)) ∧ Below w.heap.size w w' := hn ▸ Fits_any b r A l cap w hA hl b1 b2 r1 r2 hok
end MtW
end Go.Proofs.Ytpglhjgpjnapgaa
