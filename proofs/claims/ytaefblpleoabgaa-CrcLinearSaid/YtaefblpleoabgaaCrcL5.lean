/- CrcLinear: the walk of the law. -/
import Derived.Test.YtaefblpleoabgaaCrcK
import Derived.Test.YtaefblpleoabgaaCrcB
import Derived.Test.YtaefblpleoabgaaCrcF
import Derived.Test.YtaefblpleoabgaaCrcL4
import Derived.Deep.RegionHeld3
import Derived.BigQuiet
import Derived.BigRegion
import Derived.Deep.DeepCutAuto
import Derived.Deep.OwnRows
import Derived.Laws.MakeOwn
import Derived.LoopN
namespace Go.Proofs.Ytaefblpleoabgaa
open Go.RowKit
namespace CrcW
theorem run_make_rowN {P : Program} (t e : TypeId) (i : TypeInfo) (z : Value) (ht : P.underlying t = some (.slice e)) (hi : P.info? e = some i) (hz : i.zero = some z)
    (kl kc : IntKind) (n c : Nat) (hnc : n ≤ c) (hbytes : i.bytes * c ≤ 281474976710656) (h63 : c ≤ 9223372036854775807) (w : World) :
    (Instr.makeSlice t (.int kl (n : Int)) (.int kc (c : Int))).run P w = .ok (.slice (some ⟨w.heap.size, 0, none⟩) n c) (w.alloc (.cells (madeCells z.cells (c * i.size)) e)) := by
  have hb : (i.bytes : Int) * (c : Int) ≤ 281474976710656 := by
    have h : ((i.bytes * c : Nat) : Int) ≤ 281474976710656 := by omega
    rwa [Int.natCast_mul] at h
  have hr := run_make (P := P) w t e i z ht hi hz kl kc n c (by omega) (by omega) hb (by omega)
  simp only [Int.toNat_natCast] at hr
  exact hr
theorem info_u8 : (Try.prog.info? 5).map (fun i => (i.zero, i.size, i.bytes)) = some (some (.int .u8 0), 1, 1) := by kernel_rfl
def xv (a b c : ByteArray) (k j : Nat) : Value := if j < k then .int .u8 ((a.data.toList.getD j 0 ^^^ b.data.toList.getD j 0 ^^^ c.data.toList.getD j 0).toNat : Nat) else .int .u8 0
theorem getD_byte (a : ByteArray) (j : Nat) (h : j < a.size) : a.data.toList.getD j 0 = a[j] := by
  have h' : j < a.data.toList.length := by rw [size_list]; exact h
  rw [List.getD_eq_getElem?_getD, List.getElem?_eq_getElem h']; rfl
theorem xor_bytes (a b c : ByteArray) (j : Nat) (ha : j < a.size) (hb : j < b.size) (hc : j < c.size) :
    bits BinOp.xor IntKind.u8 (bits BinOp.xor IntKind.u8 ((a[j].toNat : Nat) : Int) ((b[j].toNat : Nat) : Int)) ((c[j].toNat : Nat) : Int) = ((a.data.toList.getD j 0 ^^^ b.data.toList.getD j 0 ^^^ c.data.toList.getD j 0).toNat : Nat) := by
  rw [getD_byte a j ha, getD_byte b j hb, getD_byte c j hc, u8_xor_nat _ _ (Crc.byte_lt _) (Crc.byte_lt _), u8_xor_nat _ _ (by rw [← UInt8.toNat_xor]; exact Crc.byte_lt _) (Crc.byte_lt _), UInt8.toNat_xor, UInt8.toNat_xor]
theorem Octs.of_row {W : World} {g t n : Nat} {a b c : ByteArray} (h : W.rowIs g t n (xv a b c n)) (ha : n ≤ a.size) (hb : n ≤ b.size) (hc : n ≤ c.size) :
    Octs W g (Crc.xor3 (a.data.toList.take n) (b.data.toList.take n) (c.data.toList.take n)) := by
  have la : (a.data.toList.take n).length = n := by rw [List.length_take, size_list]; omega
  have lb : (b.data.toList.take n).length = n := by rw [List.length_take, size_list]; omega
  have lc : (c.data.toList.take n).length = n := by rw [List.length_take, size_list]; omega
  refine ⟨h.lt, fun j hj => ?_⟩
  rw [Crc.xor3_length _ _ _ (by omega) (by omega), la] at hj
  have hx := Crc.xor3_get (a.data.toList.take n) (b.data.toList.take n) (c.data.toList.take n) j (by omega) (by omega) (by omega)
  have hd : ∀ l : List UInt8, (l.take n).getD j 0 = l.getD j 0 := fun l => by
    rw [List.getD_eq_getElem?_getD, List.getD_eq_getElem?_getD, List.getElem?_take, if_pos hj]
  rw [hd, hd, hd] at hx
  refine ⟨?_, h.frozen j⟩
  rw [h.cell hj]
  unfold xv
  rw [if_pos hj]
  have he := (List.getElem?_eq_some_iff.1 hx).2
  rw [he]
theorem Octs.keep {w1 w' : World} {g : Nat} {X : List UInt8} (h : Octs w1 g X) (hb : Below w1.heap.size w1 w') : Octs w' g X :=
  ⟨Nat.lt_of_lt_of_le h.1 hb.size, fun j hj => ⟨(hb.cell (p := ⟨g, j, none⟩) h.1).trans (h.2 j hj).1, (hb.frozen (p := ⟨g, j, none⟩) h.1).trans (h.2 j hj).2⟩⟩
theorem carryQ {P : Program} {f : FuncId} {args : Array Value} {w w1 : World} {v : Ending} {g : Nat} {X : List UInt8} {C : World → Prop} (hC : ∀ W, Octs W g X → C W) (hq : Below w.heap.size w w1 ∧ Octs w1 g X ∧ C w1)
    (h : Calls P f args w1 fun e w' => e = v ∧ Below w1.heap.size w1 w') : Calls P f args w1 fun e w' => e = v ∧ Below w.heap.size w w' ∧ Octs w' g X ∧ C w' :=
  h.mono fun _ _ ⟨a, b⟩ => ⟨a, hq.1.trans (b.mono hq.1.size), hq.2.1.keep b, hC _ (hq.2.1.keep b)⟩
set_option maxHeartbeats 2000000 in
theorem law_Linear (a b c : ByteArray) (ha : a.size ≤ maxLen) (hb0 : b.size ≤ maxLen) (hc : c.size ≤ maxLen) (w : World) :
    Calls Try.prog 7 #[.string a, .string b, .string c] w fun e w' => e = .returned (.bool true) ∧ Below w.heap.size w w' := by
  unfold maxLen at ha hb0 hc
  obtain ⟨i0, hi, hz0, hz1, hz2⟩ := info_parts info_u8
  have hb := Below.refl w.heap.size w
  go_enter Try.func7, Try.ntmps7
  go_wp2_with fail
  refine (carry hb (works_any _)).mono ?_
  clear hb
  rintro e w1 ⟨rfl, hb⟩
  go_upto_region 3 with fail
  go_cut [7] (fun s7 wx => wx = w1 ∧ ∃ n : Nat, s7 = .int .i64 n ∧ n ≤ a.size ∧ n ≤ b.size ∧ n ≤ c.size ∧ n ≤ 100)
  case first =>
    go_wp2_with fail
    all_goals
      go_meet
      first
        | (refine ⟨rfl, a.size, rfl, ?_, ?_, ?_, ?_⟩ <;> omega)
        | (refine ⟨rfl, b.size, rfl, ?_, ?_, ?_, ?_⟩ <;> omega)
        | (refine ⟨rfl, c.size, rfl, ?_, ?_, ?_, ?_⟩ <;> omega)
        | (refine ⟨rfl, 100, rfl, ?_, ?_, ?_, ?_⟩ <;> omega)
  case rest =>
    obtain ⟨rfl, n, rfl, na, nb, nc, n1⟩ := hcut
    have hmk := fun W => run_make_rowN (P := Try.prog) 37 5 i0 (.int .u8 0) Try.underlying37 hi hz0 .i64 .i64 n n (Nat.le_refl _) (by rw [hz2]; omega) (by omega) W
    rw [hz1, Nat.mul_one] at hmk
    have hwl := hb.size
    go_wp2_with fail
    go_loopw [9] (fun i wr => ∃ k : Nat, k ≤ n ∧ i = .int .i64 k ∧ wr.rowIs wc.heap.size 5 n (xv a b c k) ∧ Below w.heap.size w wr) (fun i _ => n - (intOf i).toNat)
    case atStart => exact ⟨0, Nat.zero_le _, rfl, (World.rowIs_made wc (.int .u8 0) n 5).congr (fun i _ => by unfold xv; rw [if_neg (by omega)]), hb.alloc hb.size _⟩
    case round =>
      obtain ⟨k, hk, rfl, hr, hbr⟩ := hrel
      by_cases hlt : k < n
      · have ka : k < a.size := by omega
        have kb : k < b.size := by omega
        have kc : k < c.size := by omega
        have hcell := hr.cell (i := k) hlt
        have hfz := hr.frozen k
        have HX := Lib.hid (xor_bytes a b c k ka kb kc)
        have HR := Lib.hid hr
        clear hr hmk
        generalize xv a b c k k = old at *
        go_wp2_with fail
        go_region
        go_wp2
        go_roundw
        case rel =>
          refine ⟨k + 1, by omega, by go_num, ?_, (hbr.setCell (by exact hwl) _).drew⟩
          rw [HX.out]
          refine World.rowIs.drew ((HR.out.set k _).congr (fun i hi => ?_))
          unfold xv
          by_cases e : i = k
          · subst e; rw [if_pos rfl, if_pos (by omega)]
          · rw [if_neg e]
            by_cases e2 : i < k
            · rw [if_pos e2, if_pos (by omega)]
            · rw [if_neg e2, if_neg (by omega)]
        case measure => simp [intOf]; omega
      · obtain rfl : k = n := by omega
        have ho := Octs.of_row hr na nb nc
        have la : (a.data.toList.take k).length = k := by rw [List.length_take, size_list]; omega
        have lb : (b.data.toList.take k).length = k := by rw [List.length_take, size_list]; omega
        have lc : (c.data.toList.take k).length = k := by rw [List.length_take, size_list]; omega
        have lx : (Crc.xor3 (a.data.toList.take k) (b.data.toList.take k) (c.data.toList.take k)).length = k := by rw [Crc.xor3_length _ _ _ (by omega) (by omega), la]
        have hlin := Crc.crc_linear (a.data.toList.take k) (b.data.toList.take k) (c.data.toList.take k) (by omega) (by omega)
        have hcv : ∀ W, Octs W wc.heap.size (Crc.xor3 (a.data.toList.take k) (b.data.toList.take k) (c.data.toList.take k)) → (convert 37 9 (.slice (some ⟨wc.heap.size, 0, none⟩) k k)).run Try.prog W = .ok (.string (S (Crc.xor3 (a.data.toList.take k) (b.data.toList.take k) (c.data.toList.take k)))) W :=
          fun W h => h.conv (P := Try.prog) Try.underlying37 Try.underlying5 Try.underlying9 k k lx.symm
        have c1 := fun W => Of_any (S (Crc.xor3 (a.data.toList.take k) (b.data.toList.take k) (c.data.toList.take k))) (le_max (k := 100) (by rw [S_size, lx]; exact n1) (by omega)) W
        have c2 := fun W => Of_any (a.extract 0 k) (le_max (k := 100) (by rw [ByteArray.size_extract]; omega) (by omega)) W
        have c3 := fun W => Of_any (b.extract 0 k) (le_max (k := 100) (by rw [ByteArray.size_extract]; omega) (by omega)) W
        have c4 := fun W => Of_any (c.extract 0 k) (le_max (k := 100) (by rw [ByteArray.size_extract]; omega) (by omega)) W
        have s1 : ∀ W, (Instr.slice 9 (.string a) none (some (.int .i64 (k : Int))) none).run Try.prog W = .ok (.string (a.extract 0 k)) W := fun W => by
          rw [run_slice_string_to_if W 9 a .i64 _ Try.underlying9, if_pos ⟨by omega, by omega⟩]; rfl
        have s2 : ∀ W, (Instr.slice 9 (.string b) none (some (.int .i64 (k : Int))) none).run Try.prog W = .ok (.string (b.extract 0 k)) W := fun W => by
          rw [run_slice_string_to_if W 9 b .i64 _ Try.underlying9, if_pos ⟨by omega, by omega⟩]; rfl
        have s3 : ∀ W, (Instr.slice 9 (.string c) none (some (.int .i64 (k : Int))) none).run Try.prog W = .ok (.string (c.extract 0 k)) W := fun W => by
          rw [run_slice_string_to_if W 9 c .i64 _ Try.underlying9, if_pos ⟨by omega, by omega⟩]; rfl
        simp only [S_data] at c1
        simp only [extract_zero] at c2 c3 c4
        have pl := Crc.crc_lt (a.data.toList.take k)
        have ql := Crc.crc_lt (b.data.toList.take k)
        have rl := Crc.crc_lt (c.data.toList.take k)
        rw [hlin] at c1
        clear hlin la lb lc lx hr hmk
        generalize Crc.crc (a.data.toList.take k) = p at *
        generalize Crc.crc (b.data.toList.take k) = q at *
        generalize Crc.crc (c.data.toList.take k) = r at *
        generalize Crc.xor3 (a.data.toList.take k) (b.data.toList.take k) (c.data.toList.take k) = X at *
        have x1 : bits BinOp.xor IntKind.u32 (p : Int) (q : Int) = ((p ^^^ q : Nat) : Int) := u32_xor_nat p q pl ql
        have x2 : bits BinOp.xor IntKind.u32 ((p ^^^ q : Nat) : Int) (r : Int) = ((p ^^^ q ^^^ r : Nat) : Int) := u32_xor_nat _ r (Crc.xor_lt pl ql) rl
        generalize p ^^^ q ^^^ r = pqr at *
        generalize p ^^^ q = pq at *
        have C1 := Lib.hid c1
        have C2 := Lib.hid c2
        have C3 := Lib.hid c3
        have C4 := Lib.hid c4
        clear c1 c2 c3 c4
        generalize a.extract 0 k = a' at *
        generalize b.extract 0 k = b' at *
        generalize c.extract 0 k = c' at *
        generalize hx' : S X = x' at *
        have HS := Lib.hid hx'
        clear hx'
        generalize wc.heap.size = g at *
        have hq : Below w.heap.size w wr.drew ∧ Octs wr.drew g X ∧ (convert 37 9 (.slice (some ⟨g, 0, none⟩) k k)).run Try.prog wr.drew = .ok (.string x') wr.drew := ⟨hbr.drew, ho, hcv _ ho⟩
        have HCV := Lib.hid hcv
        clear hcv ho
        go_wp2_with fail
        go_region_held3 (fun w' => Below w.heap.size w w' ∧ Octs w' g X ∧ (convert 37 9 (.slice (some ⟨g, 0, none⟩) k k)).run Try.prog w' = .ok (.string x') w') (assumption) (first | (go_at_call_of 10 (Value.string x'); refine (carryQ HCV.out (by assumption) (C1.out _)).mono ?_; rintro e w2 ⟨rfl, hb2⟩) | (go_at_call_of 10 (Value.string a'); refine (carryQ HCV.out (by assumption) (C2.out _)).mono ?_; rintro e w2 ⟨rfl, hb2⟩) | (go_at_call_of 10 (Value.string b'); refine (carryQ HCV.out (by assumption) (C3.out _)).mono ?_; rintro e w2 ⟨rfl, hb2⟩) | (go_at_call_of 10 (Value.string c'); refine (carryQ HCV.out (by assumption) (C4.out _)).mono ?_; rintro e w2 ⟨rfl, hb2⟩))
        all_goals
          go_wp2
          go_ret
          exact ⟨rfl, hb2.1⟩
end CrcW
end Go.Proofs.Ytaefblpleoabgaa
