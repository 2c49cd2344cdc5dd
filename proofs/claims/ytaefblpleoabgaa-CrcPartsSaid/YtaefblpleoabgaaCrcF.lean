/- The reference's Flip: what it returns. -/
import Derived.Test.YtaefblpleoabgaaCrcR
import Derived.BigQuiet
import Derived.BigRegion
import Derived.StillTailTactics
namespace Go.Proofs.Ytaefblpleoabgaa
open Go.RowKit
namespace CrcW
/-- Block g begins with the octets l; none of them is frozen. -/
def Octs (w : World) (g : Nat) (l : List UInt8) : Prop :=
  g < w.heap.size ∧ ∀ j (h : j < l.length), w.cell? ⟨g, j, none⟩ = some (.int .u8 ((l[j]).toNat : Nat)) ∧ w.frozen? ⟨g, j, none⟩ = false

theorem Octs.conv {P : Program} {src dst e : TypeId} {w : World} {g : Nat} {l : List UInt8} (h : Octs w g l) (hs : P.underlying src = some (.slice e)) (he : P.underlying e = some (.int .u8)) (hd : P.underlying dst = some .string)
    (n cap : Nat) (hn : n = l.length) : (convert src dst (.slice (some ⟨g, 0, none⟩) n cap)).run P w = .ok (.string (S l)) w := by
  subst hn
  refine run_convert_bytes_back w src dst e _ cap l hs he hd (fun j hj => ?_)
  have e : (⟨g, 0, none⟩ : Addr).add j = ⟨g, j, none⟩ := by unfold Addr.add; split <;> simp_all
  rw [e]; exact (h.2 j hj).1
theorem Octs.new (w : World) (s : ByteArray) (cap : Nat) (t : TypeId) : Octs ((w.alloc (.cells (bytesRow s cap) t ((bytesRow s cap).size, (bytesRow s cap).size + 1))).drew) w.heap.size s.data.toList := by
  refine ⟨by simp, fun j hj => ?_⟩
  have hj' : j < s.data.size := by simpa using hj
  constructor
  · show (w.alloc _).cell? _ = _
    rw [World.cell?_alloc_mark, bytesRow_at s cap j hj']; rfl
  · show (w.alloc _).frozen? _ = _
    rw [World.frozen?_alloc_mark]
    have : j < (bytesRow s cap).size := by
      have := (Array.getElem?_eq_some_iff.1 (bytesRow_at s cap j hj')).1; exact this
    simp; omega
theorem Octs.set {w : World} {g i : Nat} {l : List UInt8} (h : Octs w g l) (b : UInt8) : Octs (w.setCell ⟨g, i, none⟩ (.int .u8 (b.toNat : Nat))) g (l.set i b) := by
  refine ⟨by simpa [World.setCell] using h.1, fun j hj => ?_⟩
  have hj' : j < l.length := by simpa using hj
  obtain ⟨hc, hf⟩ := h.2 j hj'
  refine ⟨?_, by rw [← hf]; exact World.frozen?_setCell ..⟩
  by_cases e : i = j
  · subst e
    rw [World.cell?_setCell_same (w := w) (h := hc)]; simp
  · rw [World.cell?_setCell_other w _ _ _ (fun h => e (by injection h)), hc]
    simp [List.getElem_set_ne e]
theorem flip_byte (l : List UInt8) (i : Nat) (hj : i / 8 < l.length) (b : Nat) (hb : (l[i / 8]).toNat = b) :
    ((l.getD (i / 8) 0) ^^^ UInt8.ofNat (2 ^ (i % 8))).toNat = b ^^^ 2 ^ (i % 8) := by
  have hp : 2 ^ (i % 8) < 256 := by
    have : 2 ^ (i % 8) ≤ 2 ^ 7 := Nat.pow_le_pow_right (by omega) (by omega)
    omega
  rw [UInt8.toNat_xor, Crc.ofNat_toNat hp, ← hb]; simp [hj]

theorem pat_bit (pat k : Nat) (hp : pat < 4294967296) : (bits BinOp.and IntKind.u32 ((pat : Int) / 2 ^ k) 1 = 1) ↔ pat / 2 ^ k % 2 = 1 := by
  have h1 : pat / 2 ^ k ≤ pat := Nat.div_le_self _ _
  have h2 : ((pat / 2 ^ k : Nat) : Int) = (pat : Int) / 2 ^ k := by simp
  have h3 := u32_and_nat (pat / 2 ^ k) 1 (by omega) (by omega)
  rw [nat_mask1] at h3
  rw [← h2, show (1 : Int) = ((1 : Nat) : Int) from rfl, h3]; omega
theorem shl_byte (i b : Nat) (hb : b < 256) : bits BinOp.xor IntKind.u8 (b : Int) (2 ^ (i % 8) % 256) = ((b ^^^ 2 ^ (i % 8) : Nat) : Int) := by
  have hp : 2 ^ (i % 8) < 256 := by
    have : 2 ^ (i % 8) ≤ 2 ^ 7 := Nat.pow_le_pow_right (by omega) (by omega)
    omega
  have e : ((2 : Int) ^ (i % 8) % 256) = ((2 ^ (i % 8) : Nat) : Int) := by
    have : ((2 ^ (i % 8) : Nat) : Int) = (2 : Int) ^ (i % 8) := by simp
    rw [← this]; generalize 2 ^ (i % 8) = y at *; omega
  rw [e]; exact u8_xor_nat b _ hb hp
theorem Octs.step {w : World} {g at_ pat k b : Nat} {l : List UInt8} (h : Octs w g (Crc.flips l at_ pat k)) (hj : (at_ + k) / 8 < (Crc.flips l at_ pat k).length) (hb : ((Crc.flips l at_ pat k)[(at_ + k) / 8]).toNat = b)
    (hk : pat / 2 ^ k % 2 = 1) (hin : at_ + k < 8 * l.length) :
    Octs ((w.setCell ⟨g, (at_ + k) / 8, none⟩ (.int .u8 (bits BinOp.xor IntKind.u8 (b : Int) (2 ^ ((at_ + k) % 8) % 256)))).drew) g (Crc.flips l at_ pat (k + 1)) := by
  have hbl : b < 256 := by rw [← hb]; exact Crc.byte_lt _
  rw [shl_byte _ _ hbl, ← flip_byte _ _ hj b hb, Crc.flips, if_pos ⟨hk, hin⟩]
  exact Octs.set h _
theorem Octs.stay {w : World} {g at_ pat k : Nat} {l : List UInt8} (h : Octs w g (Crc.flips l at_ pat k)) (hk : ¬ (pat / 2 ^ k % 2 = 1 ∧ at_ + k < 8 * l.length)) : Octs w g (Crc.flips l at_ pat (k + 1)) := by
  rw [Crc.flips, if_neg hk]; exact h
set_option maxHeartbeats 400000 in
theorem ref_Flip (s : ByteArray) (hs : s.size ≤ 1000000) (at_ pat : Nat) (ha : at_ < 1000000000) (hp : pat < 4294967296) (w : World) :
    Calls Try.prog 21 #[.string s, .int .i64 at_, .int .u32 pat] w fun e w' => e = .returned (.string (S (Crc.flip s.data.toList at_ pat))) ∧ Below w.heap.size w w' := by
  have hcv := fun W => run_bytes_of_string (P := Try.prog) W 9 37 5 s Try.underlying9 Try.underlying37 Try.underlying5
  go_enter Try.func21, Try.ntmps21
  go_wp2_with fail
  go_loopw [8] (fun i wr => ∃ k : Nat, k ≤ 32 ∧ i = .int .i64 k ∧ Octs wr w.heap.size (Crc.flips s.data.toList at_ pat k) ∧ Below w.heap.size w wr) (fun i _ => 32 - (intOf i).toNat)
  case atStart => exact ⟨0, by omega, rfl, Octs.new _ _ _ _, ((Below.refl _ _).alloc (Nat.le_refl _) _).drew⟩
  case round =>
    obtain ⟨k, hk, rfl, ho, hb⟩ := hrel
    by_cases hlt : k < 32
    · by_cases hin : at_ + k < 8 * s.size
      · have hj : (at_ + k) / 8 < (Crc.flips s.data.toList at_ pat k).length := by rw [Crc.flips_length, size_list]; omega
        obtain ⟨hc, hf⟩ := ho.2 _ hj
        have hbl : ((Crc.flips s.data.toList at_ pat k)[(at_ + k) / 8]).toNat < 256 := Crc.byte_lt _
        generalize hbb : ((Crc.flips s.data.toList at_ pat k)[(at_ + k) / 8]).toNat = b at *
        have HB := Lib.hid hbb
        clear hbb
        go_wp2_with fail
        · go_region
          go_wp2
          go_roundw
          case rel => exact ⟨k + 1, by omega, by go_num, Octs.step ho hj HB.out ((pat_bit _ _ hp).1 (by assumption)) (by rw [size_list]; exact hin), (hb.setCell (Nat.le_refl _) _).drew⟩
          case measure => simp [intOf]; omega
        · go_roundw
          case rel => exact ⟨k + 1, by omega, by go_num, Octs.stay ho (fun h => absurd ((pat_bit _ _ hp).2 h.1) (by assumption)), hb⟩
          case measure => simp [intOf]; omega
      · have hn : ¬ (pat / 2 ^ k % 2 = 1 ∧ at_ + k < 8 * s.data.toList.length) := by rw [size_list]; exact fun h => hin h.2
        have HN := Lib.hid hn
        clear hn
        go_wp2_with fail
        all_goals
          go_roundw
          case rel => exact ⟨k + 1, by omega, by go_num, Octs.stay ho HN.out, hb⟩
          case measure => simp [intOf]; omega
    · obtain rfl : k = 32 := by omega
      have hcb := fun cap => ho.conv (P := Try.prog) (src := 37) (dst := 9) (e := 5) Try.underlying37 Try.underlying5 Try.underlying9 s.size cap (by rw [Crc.flips_length, size_list])
      go_wp2_with fail
      go_ret
      exact ⟨rfl, hb⟩
end CrcW
end Go.Proofs.Ytaefblpleoabgaa
