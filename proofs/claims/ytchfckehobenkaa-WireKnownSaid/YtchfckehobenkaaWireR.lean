/- Packages wire and its reference: what each function returns. -/
import Derived.Test.YtchfckehobenkaaWireW
import Derived.Test.YtchfckehobenkaaWireA
import Derived.Laws.BitsAllLaws
namespace Go.Proofs.Ytchfckehobenkaa
open Go.RowKit
namespace WireW
theorem ofInt64 (n : Int) : (BitVec.ofInt 64 n).toNat = (n % 18446744073709551616).toNat := by
  rw [BitVec.toNat_ofInt]; rfl
theorem and255 (n : Int) : bits BinOp.and IntKind.i64 n 255 = n % 256 := by
  show IntKind.i64.wrap ((BitVec.ofInt 64 n &&& BitVec.ofInt 64 255).toNat : Int) = _
  rw [BitVec.toNat_and, ofInt64, ofInt64, show ((255 : Int) % 18446744073709551616).toNat = 255 from rfl, nat_mask8, IntKind.wrap_i64]
  omega
theorem or_shift (n b : Int) (h1 : -36028797018963968 ≤ n) (h2 : n < 36028797018963968) (h3 : 0 ≤ b) (h4 : b < 256) : bits BinOp.or IntKind.i64 (n * 256) b = 256 * n + b := by
  show IntKind.i64.wrap ((BitVec.ofInt 64 (n * 256) ||| BitVec.ofInt 64 b).toNat : Int) = _
  rw [BitVec.toNat_or, ofInt64, ofInt64]
  have e : ((n * 256 % 18446744073709551616).toNat ||| (b % 18446744073709551616).toNat) = (n * 256 % 18446744073709551616).toNat + (b % 18446744073709551616).toNat :=
    nat_join 8 _ _ (by omega) (by omega)
  rw [e, IntKind.wrap_i64]
  omega
theorem conv_one {P : Program} (src dst e : TypeId) (hs : P.underlying src = some (.slice e)) (he : P.underlying e = some (.int .u8)) (hd : P.underlying dst = some .string) (W : World) (t : TypeId) (cap : Nat) (a : Int) :
    (convert src dst (.slice (some ⟨W.heap.size, 0, none⟩) 1 cap)).run P (W.alloc (.cells #[.int .u8 a] t)) = .ok (.string (strOfNums [a])) (W.alloc (.cells #[.int .u8 a] t)) :=
  run_convert_bytes_arg _ src e hs he W.heap.size 0 1 cap [a] rfl (fun i hi => by
    rw [World.cell?_alloc_mark]
    match i, hi with
    | 0, _ => rfl) dst hd

theorem ref_power (k : Nat) (hk : k ≤ 7) (w : World) :
    Calls Try.prog 25 #[.int .i64 k] w fun e w' => e = .returned (.int .i64 (Wire.pw k)) ∧ w = w' := by
  go_enter Try.func25, Try.ntmps25
  go_wp2_with fail
  go_loop [3, 4] (fun n i => ∃ j : Nat, j ≤ k ∧ i = .int .i64 j ∧ n = .int .i64 (Wire.pw j)) (fun _ i => k - (intOf i).toNat)
  case atStart => exact ⟨0, by omega, rfl, rfl⟩
  case round =>
    obtain ⟨j, hj, rfl, rfl⟩ := hrel
    have h1 := Wire.pw_pos j
    by_cases hlt : j < k
    · have h2 := Wire.pw_le (k := j + 1) (by omega)
      have HP : Hid (Wire.pw (j + 1) = 256 * Wire.pw j) := rfl
      have h3 : Wire.pw j ≤ 281474976710656 := by rw [HP.out] at h2; omega
      clear h2
      generalize Wire.pw j = p at *
      go_wp2_with fail
      go_round
      case rel => exact ⟨j + 1, by omega, by go_num, int_eq (by rw [HP.out]; omega)⟩
      case measure => simp [intOf]; omega
    · obtain rfl : j = k := by omega
      go_wp2_with fail
      go_ret
      exact ⟨rfl, rfl⟩

set_option maxHeartbeats 400000 in
theorem ref_digits (n : Int) (h1 : -9223372036854775808 ≤ n) (h2 : n ≤ 9223372036854775807) (k : Nat) (hk : k ≤ 8) (w : World) :
    Calls Try.prog 26 #[.int .i64 n, .int .i64 k] w fun e w' => e = .returned (.string (S (Wire.digs n k))) ∧ Below w.heap.size w w' := by
  have ha := and255
  have hc := conv_one (P := Try.prog) 50 9 5 Try.underlying50 Try.underlying5 Try.underlying9
  have hz := strOfNums_size
  go_enter Try.func26, Try.ntmps26
  go_wp2_with fail
  go_loopw [0, 5, 6, 7] (fun m s i d wr => ∃ j : Nat, j ≤ k ∧ i = .int .i64 j ∧ m = .int .i64 (Wire.sh n j) ∧ s = .string (S (Wire.digs n j)) ∧ Below w.heap.size w wr) (fun _ _ i _ _ => k - (intOf i).toNat)
  case atStart => exact ⟨0, by omega, rfl, rfl, rfl, Below.refl _ _⟩
  case round =>
    obtain ⟨j, hj, rfl, rfl, rfl, hb⟩ := hrel
    have hr := Wire.sh_le n j h1 h2
    have hl : (S (Wire.digs n j)).size = j := by rw [S_size, Wire.digs_length]
    by_cases hlt : j < k
    · have HS : Hid (Wire.sh n (j + 1) = Wire.sh n j / 256) := rfl
      have HD : Hid (strOfNums [Wire.sh n j % 256] ++ S (Wire.digs n j) = S (Wire.digs n (j + 1))) := by
        show _ = _
        rw [Wire.digs_cons, strOfNums_S, S_append]; rfl
      generalize Wire.sh n j = m at *
      generalize S (Wire.digs n j) = sd at *
      go_wp2_with fail
      go_roundw
      case rel => exact ⟨j + 1, by omega, by go_num, int_eq HS.out.symm, str_eq HD.out, hb.alloc hb.size _⟩
      case measure => simp [intOf]; omega
    · obtain rfl : j = k := by omega
      go_wp2_with fail
      go_ret
      exact ⟨rfl, hb⟩

theorem ref_has (s : ByteArray) (hs : s.size ≤ maxLen) (a k : Int) (ha : 0 ≤ a) (hk : 0 ≤ k) (ha2 : a ≤ 9223372036854775807) (hk2 : k ≤ 9223372036854775807) (w : World) :
    Calls Try.prog 27 #[.string s, .int .i64 a, .int .i64 k] w fun e w' => e = .returned (.bool (Wire.has s.size a k)) ∧ w = w' := by
  unfold maxLen at hs
  by_cases h1 : a ≤ (s.size : Int)
  · by_cases h2 : k ≤ (s.size : Int) - a
    · have e : Wire.has s.size a k = true := by unfold Wire.has; simp [h1, h2]
      have E := Lib.hid e
      clear e
      go_enter Try.func27, Try.ntmps27
      go_wp2_with fail
      go_ret
      exact ⟨ret_bool (by rw [E.out]), rfl⟩
    · have e : Wire.has s.size a k = false := by unfold Wire.has; simp; omega
      have E := Lib.hid e
      clear e
      go_enter Try.func27, Try.ntmps27
      go_wp2_with fail
      go_ret
      exact ⟨ret_bool (by rw [E.out]), rfl⟩
  · have e : Wire.has s.size a k = false := by unfold Wire.has; simp; omega
    have E := Lib.hid e
    clear e
    go_enter Try.func27, Try.ntmps27
    go_wp2_with fail
    go_ret
    exact ⟨ret_bool (by rw [E.out]), rfl⟩
end WireW
end Go.Proofs.Ytchfckehobenkaa
