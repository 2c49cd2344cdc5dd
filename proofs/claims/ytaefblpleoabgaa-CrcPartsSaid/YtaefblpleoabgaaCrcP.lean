/- The program's CRC functions: what they return. -/
import Derived.Test.YtaefblpleoabgaaCrcT
import Derived.Test.YtaefblpleoabgaaWireP4
import Derived.StillTailTactics
import Derived.BigQuiet
namespace Go.Proofs.Ytaefblpleoabgaa
open Go.RowKit
namespace CrcW
/-- The register's block: the register, then the table. -/
def regv (c : Nat) (i : Nat) : Value := if i = 0 then .int .u32 (c : Nat) else tabv (i - 1)

set_option maxRecDepth 100000 in
set_option maxHeartbeats 400000 in
theorem feed_any (g c b : Nat) (hc : c < 4294967296) (hb : b < 256) (w : World) (hr : w.rowIs g 43 257 (regv c)) :
    Calls Try.prog 27 #[.pointer (some ⟨g, 0, none⟩), .int .u8 b] w fun e w' => e = .returned (.tuple #[]) ∧ w' = (w.setCell ⟨g, 0, none⟩ (.int .u32 (Crc.MN 8 (c ^^^ b) : Nat))).drew := by
  have hd : (c % 256) ^^^ b < 256 := Nat.xor_lt_two_pow (n := 8) (Nat.mod_lt _ (by omega)) hb
  have hx : bits BinOp.xor IntKind.u8 ((c : Int) % 256) (b : Int) = (((c % 256) ^^^ b : Nat) : Int) := u8_xor_nat (c % 256) b (Nat.mod_lt _ (by omega)) hb
  have h0 : w.cell? ⟨g, 0, none⟩ = some (.int .u32 (c : Nat)) := hr.cell (i := 0) (by omega)
  have hf : w.frozen? ⟨g, 0, none⟩ = false := hr.frozen 0
  have h1 : w.cell? ⟨g, 1 + ((c % 256) ^^^ b), none⟩ = some (.int .u32 (Crc.MN 8 ((c % 256) ^^^ b) : Nat)) := by
    rw [hr.cell (i := 1 + ((c % 256) ^^^ b)) (by omega)]
    unfold regv tabv; rw [if_neg (by omega), show 1 + (c % 256 ^^^ b) - 1 = (c % 256 ^^^ b) from by omega]
  have hm : bits BinOp.xor IntKind.u32 ((c : Int) / 256) ((Crc.MN 8 ((c % 256) ^^^ b) : Nat) : Int) = ((Crc.MN 8 (c ^^^ b) : Nat) : Int) := by
    rw [← Crc.table_step c b]
    exact u32_xor_nat (c / 256) _ (by omega) (Crc.MN_lt 8 (by omega))
  have HM := Lib.hid hm
  clear hm hr
  generalize Crc.MN 8 ((c % 256) ^^^ b) = t at *
  generalize (c % 256) ^^^ b = d at *
  go_enter Try.func27, Try.ntmps27
  go_wp2_with fail
  go_region
  go_wp2
  rw [HM.out]
  go_end0
  exact ⟨rfl, rfl⟩

def Z257 : Array Value := Array.replicate 257 (.int .u32 0)
theorem Z257_size : Z257.size = 257 := by simp [Z257]
theorem info43 : (Try.prog.info? 43).map (fun i => (i.zero, i.size)) = some (some (.agg Z257), 257) := by kernel_rfl
def REG (x : Int) : Array Value := #[.int .u32 x] ++ TAB
theorem REG_size (x : Int) : (REG x).size = 257 := by unfold REG; rw [Array.size_append, TAB_size]; rfl
theorem REG_one (x : Int) : (REG x).all (·.oneCell') = true := by unfold REG; rw [Array.all_append, TAB_one]; simp [Value.oneCell']
set_option maxRecDepth 100000 in
theorem REG_at (c : Nat) (i : Nat) (h : i < 257) : (REG c)[i]? = some (regv c i) := by
  unfold REG regv
  by_cases h0 : i = 0
  · subst h0; rw [if_pos rfl, Array.getElem?_append_left (by simp)]; simp
  · rw [if_neg h0, Array.getElem?_append_right (by simp; omega)]
    show TAB[i - 1]? = _
    exact TAB_at (i - 1) (by omega)
set_option maxRecDepth 100000 in
theorem built_reg (x : Int) : Try.prog.built 43 [(0, .int .u32 x), (1, .agg TAB)] = some (REG x) := by kernel_rfl
theorem wpList_build_at {P : Program} {ops : Array Oper} {rest : List Oper} {o : Oper} {a : Act} {w : World} {Q : Exit → Act → World → Prop} (hg : o.guard = none) (t : TypeId) (parts : Array (Nat × Operand)) (ho : o.op = .build t parts)
    (cells : Array Value) (hc : P.built t (parts.map fun (i, x) => (i, a.eval x)).toList = some cells) (h : wpList P ops Q rest (a.put o.dst (.agg cells)) w) : wpList P ops Q (o :: rest) a w :=
  wpList_build hg t parts ho (by rw [hc]; rfl) (by rw [hc]; exact h)

set_option maxRecDepth 100000 in
set_option maxHeartbeats 400000 in
theorem Extend_any (c : Nat) (hc : c < 4294967296) (s : ByteArray) (hs : s.size ≤ maxLen) (w : World) :
    Calls Try.prog 12 #[.int .u32 c, .string s] w fun e w' => e = .returned (.int .u32 (Crc.ext c s.data.toList : Nat)) ∧ Below w.heap.size w w' := by
  unfold maxLen at hs
  have hn := not32 c hc
  obtain ⟨hz, hi⟩ := zero_of_info info43
  have HI := Lib.hid hi
  clear hi
  go_enter Try.func12, Try.ntmps12
  go_wp2_with fail
  refine (table_any _).mono ?_
  rintro e w1 ⟨rfl, hb1⟩
  clear hn
  have hbu := built_reg (((c ^^^ Crc.F : Nat)) : Int)
  have HBU := Lib.hid hbu
  clear hbu
  have hc0 : c ^^^ Crc.F < 4294967296 := Crc.xor_lt hc Crc.F_lt
  go_wp2_with (refine wpList_build_at rfl 43 _ rfl (REG ((c ^^^ Crc.F : Nat) : Int)) ?hbb (stop ?_))
  case hbb => simpa using HBU.out
  refine Stopped.mk ?_
  have hR1 := REG_size ((c ^^^ Crc.F : Nat) : Int)
  have hR2 := REG_one ((c ^^^ Crc.F : Nat) : Int)
  have hR3 : ∀ i, i < 257 → (REG ((c ^^^ Crc.F : Nat) : Int))[i]? = some (regv (c ^^^ Crc.F) i) := fun i hi => REG_at _ i hi
  have HR := Lib.hid (And.intro hR1 (And.intro hR2 hR3))
  clear hR1 hR2 hR3 HBU
  generalize REG ((c ^^^ Crc.F : Nat) : Int) = R at *
  go_wp2_with (refine wpList_store_row rfl 43 _ _ rfl w1.heap.size R rfl rfl 43 Z257 ?h1 ?h2 ?h3 ?h4 (stop ?_))
  case h1 => exact heap_alloc_last w1 _
  case h2 => rw [HR.out.1]; exact HI.out
  case h3 => rw [HR.out.1, Z257_size]
  case h4 => exact HR.out.2.1
  rw [World.setRow_alloc_new]
  have hrow := World.rowIs_alloc w1 R 43 (regv (c ^^^ Crc.F)) (fun i hi => HR.out.2.2 i (by rw [HR.out.1] at hi; exact hi))
  rw [HR.out.1] at hrow
  have hb2 : Below w.heap.size w (w1.alloc (.cells R 43)) := hb1.alloc hb1.size _
  have HW := Lib.hid (And.intro hrow hb2)
  clear hrow hb2
  have hwl := hb1.size
  generalize w1.alloc (.cells R 43) = w2 at *
  generalize hg : w1.heap.size = g at *
  clear hg hb1 HR HI hz
  refine Stopped.mk ?_
  go_wp2_with fail
  go_loopw [7, 15] (fun a i wr => ∃ k : Nat, k ≤ s.size ∧ i = .int .i64 k ∧ wr.rowIs g 43 257 (regv (Crc.reg (c ^^^ Crc.F) (s.data.toList.take k))) ∧ Below w.heap.size w wr) (fun a i _ => s.size - (intOf i).toNat)
  case atStart => exact ⟨0, by omega, rfl, by rw [List.take_zero, Crc.reg_nil]; exact HW.out.1, HW.out.2⟩
  case round =>
    obtain ⟨k, hk, rfl, hr, hb⟩ := hrel
    have hR := Crc.reg_lt hc0 (s.data.toList.take k)
    by_cases hlt : k < s.size
    · have HK : Hid (Crc.reg (c ^^^ Crc.F) (s.data.toList.take (k + 1)) = Crc.MN 8 (Crc.reg (c ^^^ Crc.F) (s.data.toList.take k) ^^^ s[k].toNat)) := by
        show _ = _
        rw [take_snoc s k hlt, Crc.reg_snoc]
      generalize Crc.reg (c ^^^ Crc.F) (s.data.toList.take k) = c0 at *
      have HR := Lib.hid hr
      clear hr
      go_wp2_with (go_at_call 27; refine (feed_any g c0 _ hR (Crc.byte_lt _) _ HR.out).mono ?_; rintro e w' ⟨rfl, rfl⟩)
      go_roundw
      case rel =>
        refine ⟨k + 1, by omega, by go_num, ?_, (hb.setCell hwl _).drew⟩
        rw [HK.out]
        refine World.rowIs.drew ((HR.out.set 0 _).congr (fun i hi => ?_))
        unfold regv
        by_cases e : i = 0
        · rw [if_pos e, if_pos e]
        · rw [if_neg e, if_neg e, if_neg e]
      case measure => simp [intOf]; omega
    · have h0 : wr.cell? ⟨g, 0, none⟩ = some (.int .u32 (Crc.reg (c ^^^ Crc.F) (s.data.toList.take k) : Nat)) := hr.cell (i := 0) (by omega)
      clear hr
      have hn := not32 _ hR
      go_wp2_with fail
      go_ret
      refine ⟨ret_int ?_, hb⟩
      rw [List.take_of_length_le (by rw [size_list]; omega)]; rfl
end CrcW
end Go.Proofs.Ytaefblpleoabgaa
