/- crc.table: what it returns. -/
import Derived.Test.YtaefblpleoabgaaCrcR
import Derived.Deep.OwnRows
import Derived.Deep.WholeRow
namespace Go.Proofs.Ytaefblpleoabgaa
open Go.RowKit
namespace CrcW
def Z256 : Array Value := Array.replicate 256 (.int .u32 0)
def tabv (j : Nat) : Value := .int .u32 (Crc.MN 8 j : Nat)
def TAB : Array Value := Array.ofFn (n := 256) (fun j => tabv j.val)
theorem Z256_size : Z256.size = 256 := by simp [Z256]
theorem TAB_size : TAB.size = 256 := by simp [TAB]
theorem TAB_at (j : Nat) (h : j < 256) : TAB[j]? = some (tabv j) := by
  unfold TAB; rw [Array.getElem?_ofFn, dif_pos h]
theorem TAB_eq {c : Array Value} (hs : c.size = 256) (h : ∀ i, i < 256 → c[i]? = some (tabv i)) : c = TAB := by
  apply Array.ext_getElem?
  intro i
  by_cases hi : i < 256
  · rw [h i hi, TAB_at i hi]
  · rw [Array.getElem?_eq_none (by omega), Array.getElem?_eq_none (by rw [TAB_size]; omega)]
theorem TAB_one : TAB.all (·.oneCell') = true := by
  rw [Array.all_eq_true]
  intro i hi
  have h := TAB_at i (by rw [← TAB_size]; exact hi)
  rw [Array.getElem?_eq_getElem hi, Option.some_inj] at h
  rw [h]; rfl
theorem info40 : (Try.prog.info? 40).map (fun i => (i.zero, i.size)) = some (some (.agg Z256), 256) := by kernel_rfl
theorem odd (c : Nat) (hc : c < 4294967296) : bits BinOp.and IntKind.u32 (c : Int) 1 = ((c % 2 : Nat) : Int) := by
  have h := u32_and_nat c 1 hc (by omega)
  rw [nat_mask1] at h; exact h
theorem M_yes (c : Nat) (hc : c < 4294967296) (h : c % 2 = 1) : bits BinOp.xor IntKind.u32 ((c : Int) / 2) 3988292384 = ((Crc.M c : Nat) : Int) := by
  unfold Crc.M; rw [if_pos h]
  exact u32_xor_nat (c / 2) 3988292384 (by omega) (by omega)
theorem M_no (c : Nat) (h : ¬ c % 2 = 1) : ((c : Int) / 2) = ((Crc.M c : Nat) : Int) := by
  unfold Crc.M; rw [if_neg h]; omega
def part (k : Nat) (j : Nat) : Value := if j < k then tabv j else .int .u32 0

set_option maxHeartbeats 400000 in
set_option maxRecDepth 100000 in
theorem table_any (w : World) :
    Calls Try.prog 26 #[] w fun e w' => e = .returned (.agg TAB) ∧ Below w.heap.size w w' := by
  obtain ⟨hz, hi⟩ := zero_of_info info40
  have HI := Lib.hid hi
  clear hi
  go_enter Try.func26, Try.ntmps26
  go_wp2_with fail
  go_loopw [1, 2, 3, 4, 9] (fun i c o n m wr => ∃ k : Nat, k ≤ 256 ∧ n = .int .i64 k ∧ wr.rowIs w.heap.size 40 256 (part k) ∧ Below w.heap.size w wr) (fun i c o n m _ => 256 - (intOf n).toNat)
  case atStart => 
    refine ⟨0, by omega, rfl, ?_, (Below.refl _ _).alloc (Nat.le_refl _) _⟩
    have h := World.rowIs_alloc w Z256 40 (part 0) (fun i hi => by
      rw [Z256_size] at hi
      unfold Z256 part; rw [if_neg (by omega), Array.getElem?_replicate, if_pos hi])
    rw [Z256_size] at h; exact h
  case round =>
    obtain ⟨k, hk, rfl, hr, hb⟩ := hrel
    have HR := Lib.hid hr
    clear hr hz
    by_cases hlt : k < 256
    · go_wp2_with fail
      go_loop [2, 3, 9] (fun c o m => ∃ j : Nat, j ≤ 8 ∧ m = .int .i64 j ∧ c = .int .u32 (Crc.MN j k : Nat)) (fun c o m => 8 - (intOf m).toNat)
      case atStart => exact ⟨0, by omega, rfl, int_eq (by show _ = ((k : Nat) : Int); omega)⟩
      case round =>
        obtain ⟨j, hj, rfl, rfl⟩ := hrel
        have hc := Crc.MN_lt j (c := k) (by omega)
        by_cases hj8 : j < 8
        · have HJ : Hid (Crc.MN (j + 1) k = Crc.M (Crc.MN j k)) := rfl
          generalize Crc.MN j k = c at *
          have ho := odd c hc
          by_cases h2 : c % 2 = 1
          · rw [h2] at ho
            go_wp2_with fail
            go_round
            case rel => exact ⟨j + 1, by omega, by go_num, int_eq (by rw [HJ.out]; exact M_yes c hc h2)⟩
            case measure => simp [intOf]; omega
          · have h0 : c % 2 = 0 := by omega
            rw [h0] at ho
            go_wp2_with fail
            go_round
            case rel => exact ⟨j + 1, by omega, by go_num, int_eq (by rw [HJ.out]; exact M_no c h2)⟩
            case measure => simp [intOf]; omega
        · obtain rfl : j = 8 := by omega
          have hcell := HR.out.cell (i := k) hlt
          have hfz := HR.out.frozen k
          go_wp2_with fail
          go_roundw
          case rel =>
            refine ⟨k + 1, by omega, by go_num, ?_, hb.setCell (Nat.le_refl _) _⟩
            refine (HR.out.set k _).congr (fun i hi => ?_)
            unfold part tabv
            by_cases e : i = k
            · subst e; rw [if_pos rfl, if_pos (by omega)]
            · rw [if_neg e]
              by_cases e2 : i < k
              · rw [if_pos e2, if_pos (by omega)]
              · rw [if_neg e2, if_neg (by omega)]
          case measure => simp [intOf]; omega
    · obtain rfl : k = 256 := by omega
      obtain ⟨cs, hg, hn, hc⟩ := HR.out
      obtain rfl : cs = TAB := TAB_eq hn (fun i hi => by rw [hc i hi]; unfold part; rw [if_pos hi])
      clear hn hc HR
      have hself := setRow_self wr w.heap.size TAB 40 (0, 0) hg
      have HG := Lib.hid hg
      clear hg
      go_wp2_with (first | (refine wpList_load_row rfl 40 _ rfl w.heap.size rfl 40 TAB (0, 0) _ HG.out Try.underlying40 rfl (by rw [TAB_size]; exact HI.out) ?_) | (refine wpList_store_row rfl 40 _ _ rfl w.heap.size TAB rfl rfl 40 TAB HG.out (by rw [TAB_size]; exact HI.out) rfl TAB_one ?_))
      rw [hself]
      exact bodyPost_ret (v := .agg TAB) (results_cell_row Try.results26 _ _ w.heap.size 40 TAB (0, 0) _ rfl HG.out Try.underlying40 rfl (by rw [TAB_size]; exact HI.out)) rfl ⟨rfl, hb⟩
end CrcW
end Go.Proofs.Ytaefblpleoabgaa
