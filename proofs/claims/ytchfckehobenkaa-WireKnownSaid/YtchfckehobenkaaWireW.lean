/- The walks of package wire: what each function returns. (Printed by wip/gen/wire.py.) -/
import Derived.Test.YtchfckehobenkaaKit
import Derived.Test.YtchfckehobenkaaWireA
import Derived.LoopN
namespace Go.Proofs.Ytchfckehobenkaa
open Go.RowKit
namespace WireW
set_option maxHeartbeats 400000 in
theorem digits_any (n : Int) (w : World) :
    Calls Try.prog 29 #[.int .i64 n] w fun e w' => e = .returned (.agg #[.int .u8 (n / 72057594037927936 % 256), .int .u8 (n / 281474976710656 % 256), .int .u8 (n / 1099511627776 % 256), .int .u8 (n / 4294967296 % 256), .int .u8 (n / 16777216 % 256), .int .u8 (n / 65536 % 256), .int .u8 (n / 256 % 256), .int .u8 (n % 256)]) ∧ Below w.heap.size w w' := by
  go_enter Try.func29, Try.ntmps29
  go_wp2_with fail
  refine wp_loop_rounds 9 ?_
  iterate 9 (rw [rounds_succ]; go_wp2)
  exact bodyPost_ret (v := .agg #[.int .u8 (n / 72057594037927936 % 256), .int .u8 (n / 281474976710656 % 256), .int .u8 (n / 1099511627776 % 256), .int .u8 (n / 4294967296 % 256), .int .u8 (n / 16777216 % 256), .int .u8 (n / 65536 % 256), .int .u8 (n / 256 % 256), .int .u8 (n % 256)]) (by simp [results, Try.results29, go_sem]) rfl ⟨rfl, (Below.refl _ _).alloc (Nat.le_refl _) _⟩

/-- string(d[8-k:]) where d is a new array of eight octets. -/
theorem conv_tail {P : Program} (src dst e : TypeId) (hs : P.underlying src = some (.slice e)) (he : P.underlying e = some (.int .u8)) (hd : P.underlying dst = some .string) (W : World) (t : TypeId) (off n cap : Nat) (ho : off + n = 8) (a b c d e' f g h : Int) :
    (convert src dst (.slice (some ⟨W.heap.size, off, none⟩) n cap)).run P (W.alloc (.cells #[.int .u8 a, .int .u8 b, .int .u8 c, .int .u8 d, .int .u8 e', .int .u8 f, .int .u8 g, .int .u8 h] t)) =
      .ok (.string (strOfNums ([a, b, c, d, e', f, g, h].drop off))) (W.alloc (.cells #[.int .u8 a, .int .u8 b, .int .u8 c, .int .u8 d, .int .u8 e', .int .u8 f, .int .u8 g, .int .u8 h] t)) := by
  refine run_convert_bytes_arg _ src e hs he W.heap.size off n cap ([a, b, c, d, e', f, g, h].drop off) (by simp; omega) (fun i hi => ?_) dst hd
  rw [World.cell?_alloc_mark]
  have : ([a, b, c, d, e', f, g, h].drop off).getD i 0 = [a, b, c, d, e', f, g, h].getD (off + i) 0 := by simp [List.getD]
  rw [this]
  have hlt : off + i < 8 := by omega
  generalize off + i = j at *
  match j, hlt with
  | 0, _ => rfl
  | 1, _ => rfl
  | 2, _ => rfl
  | 3, _ => rfl
  | 4, _ => rfl
  | 5, _ => rfl
  | 6, _ => rfl
  | 7, _ => rfl

theorem digs_1 (n : Int) : strOfNums [n % 256] = S (Wire.digs n 1) := by
  rw [strOfNums_S]
  simp only [Wire.digs, List.nil_append, List.map_cons, List.map_nil]
theorem digs_2 (n : Int) : strOfNums [n / 256 % 256, n % 256] = S (Wire.digs n 2) := by
  rw [strOfNums_S]
  simp only [Wire.digs, List.nil_append, List.cons_append, List.map_cons, List.map_nil]
theorem digs_3 (n : Int) : strOfNums [n / 65536 % 256, n / 256 % 256, n % 256] = S (Wire.digs n 3) := by
  have e2 : n / 65536 = n / 256 / 256 := by omega
  rw [strOfNums_S]
  simp only [Wire.digs, List.nil_append, List.cons_append, List.map_cons, List.map_nil, e2]
theorem digs_4 (n : Int) : strOfNums [n / 16777216 % 256, n / 65536 % 256, n / 256 % 256, n % 256] = S (Wire.digs n 4) := by
  have e2 : n / 65536 = n / 256 / 256 := by omega
  have e3 : n / 16777216 = n / 256 / 256 / 256 := by omega
  rw [strOfNums_S]
  simp only [Wire.digs, List.nil_append, List.cons_append, List.map_cons, List.map_nil, e2, e3]
theorem digs_5 (n : Int) : strOfNums [n / 4294967296 % 256, n / 16777216 % 256, n / 65536 % 256, n / 256 % 256, n % 256] = S (Wire.digs n 5) := by
  have e2 : n / 65536 = n / 256 / 256 := by omega
  have e3 : n / 16777216 = n / 256 / 256 / 256 := by omega
  have e4 : n / 4294967296 = n / 256 / 256 / 256 / 256 := by omega
  rw [strOfNums_S]
  simp only [Wire.digs, List.nil_append, List.cons_append, List.map_cons, List.map_nil, e2, e3, e4]
theorem digs_6 (n : Int) : strOfNums [n / 1099511627776 % 256, n / 4294967296 % 256, n / 16777216 % 256, n / 65536 % 256, n / 256 % 256, n % 256] = S (Wire.digs n 6) := by
  have e2 : n / 65536 = n / 256 / 256 := by omega
  have e3 : n / 16777216 = n / 256 / 256 / 256 := by omega
  have e4 : n / 4294967296 = n / 256 / 256 / 256 / 256 := by omega
  have e5 : n / 1099511627776 = n / 256 / 256 / 256 / 256 / 256 := by omega
  rw [strOfNums_S]
  simp only [Wire.digs, List.nil_append, List.cons_append, List.map_cons, List.map_nil, e2, e3, e4, e5]
theorem digs_7 (n : Int) : strOfNums [n / 281474976710656 % 256, n / 1099511627776 % 256, n / 4294967296 % 256, n / 16777216 % 256, n / 65536 % 256, n / 256 % 256, n % 256] = S (Wire.digs n 7) := by
  have e2 : n / 65536 = n / 256 / 256 := by omega
  have e3 : n / 16777216 = n / 256 / 256 / 256 := by omega
  have e4 : n / 4294967296 = n / 256 / 256 / 256 / 256 := by omega
  have e5 : n / 1099511627776 = n / 256 / 256 / 256 / 256 / 256 := by omega
  have e6 : n / 281474976710656 = n / 256 / 256 / 256 / 256 / 256 / 256 := by omega
  rw [strOfNums_S]
  simp only [Wire.digs, List.nil_append, List.cons_append, List.map_cons, List.map_nil, e2, e3, e4, e5, e6]
theorem digs_8 (n : Int) : strOfNums [n / 72057594037927936 % 256, n / 281474976710656 % 256, n / 1099511627776 % 256, n / 4294967296 % 256, n / 16777216 % 256, n / 65536 % 256, n / 256 % 256, n % 256] = S (Wire.digs n 8) := by
  have e2 : n / 65536 = n / 256 / 256 := by omega
  have e3 : n / 16777216 = n / 256 / 256 / 256 := by omega
  have e4 : n / 4294967296 = n / 256 / 256 / 256 / 256 := by omega
  have e5 : n / 1099511627776 = n / 256 / 256 / 256 / 256 / 256 := by omega
  have e6 : n / 281474976710656 = n / 256 / 256 / 256 / 256 / 256 / 256 := by omega
  have e7 : n / 72057594037927936 = n / 256 / 256 / 256 / 256 / 256 / 256 / 256 := by omega
  rw [strOfNums_S]
  simp only [Wire.digs, List.nil_append, List.cons_append, List.map_cons, List.map_nil, e2, e3, e4, e5, e6, e7]
end WireW
end Go.Proofs.Ytchfckehobenkaa
