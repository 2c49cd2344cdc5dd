/- Small lemmas for the walks: strings as lists of octets, conversions, worlds. -/
import Derived.Test.YtoglmfpmeajbeaaRows
import Derived.WalkKit
import Derived.WalkSpells
import Derived.WalkLawsBesides
import Derived.Laws.BytesArg
import Derived.Lib.Hide
import Derived.Lib.Strings
import Derived.BigCall
import Derived.BigGuard
import Derived.BigQuiet
import Derived.BigRegion
namespace Go.Proofs.Ytoglmfpmeajbeaa
set_option linter.unusedSimpArgs false
set_option linter.unusedVariables false
open Go.RowKit

theorem int_eq {k : IntKind} {a b : Int} (h : a = b) : Value.int k a = Value.int k b := by rw [h]
theorem bool_eq {a b : Bool} (h : a = b) : Value.bool a = Value.bool b := by rw [h]
theorem str_eq {a b : ByteArray} (h : a = b) : Value.string a = Value.string b := by rw [h]
theorem ret_int {k : IntKind} {a b : Int} (h : a = b) : Ending.returned (.int k a) = .returned (.int k b) := by rw [h]
theorem ret_bool {a b : Bool} (h : a = b) : Ending.returned (.bool a) = .returned (.bool b) := by rw [h]
theorem ret_str {a b : ByteArray} (h : a = b) : Ending.returned (.string a) = .returned (.string b) := by rw [h]

/-- A goal that the walk does not see: it stops there. -/
structure Stopped (p : Prop) : Prop where
  go : p
theorem stop {p : Prop} (h : Stopped p) : p := h.go

/-- The string of a list of octets. -/
def S (l : List UInt8) : ByteArray := ⟨l.toArray⟩
theorem S_list (s : ByteArray) : S s.data.toList = s := by simp [S]
theorem S_data (l : List UInt8) : (S l).data.toList = l := by simp [S]
theorem S_size (l : List UInt8) : (S l).size = l.length := by simp [S, ByteArray.size]
theorem S_append (a b : List UInt8) : S a ++ S b = S (a ++ b) := by
  apply ByteArray.ext; rw [ByteArray.data_append]; simp [S]
theorem S_inj {a b : List UInt8} : S a = S b ↔ a = b := ⟨fun h => by rw [← S_data a, h, S_data], fun h => by rw [h]⟩
theorem size_list (s : ByteArray) : s.data.toList.length = s.size := by rw [Array.length_toList]; rfl
theorem list_append (a b : ByteArray) : (a ++ b).data.toList = a.data.toList ++ b.data.toList := by rw [ByteArray.data_append, Array.toList_append]
theorem take_snoc (s : ByteArray) (k : Nat) (h : k < s.size) : s.data.toList.take (k + 1) = s.data.toList.take k ++ [s[k]] := by
  rw [List.take_succ_eq_append_getElem (by simpa using h)]; rfl

theorem bcell {W w1 : World} (hb : Below W.heap.size W w1) : (∀ b o, b < W.heap.size → w1.cell? ⟨b, o, none⟩ = W.cell? ⟨b, o, none⟩) ∧ (∀ b o, b < W.heap.size → w1.frozen? ⟨b, o, none⟩ = W.frozen? ⟨b, o, none⟩) :=
  ⟨fun b o h => hb.cell (p := ⟨b, o, none⟩) h, fun b o h => hb.frozen (p := ⟨b, o, none⟩) h⟩

theorem lts {a n : Nat} (h : a < n) : a ≤ n ∧ a ≤ n + 1 ∧ a ≤ n + 1 + 1 ∧ a ≤ n + 1 + 1 + 1 ∧ a < n + 1 ∧ a < n + 1 + 1 ∧ a < n + 1 + 1 + 1 := by omega
/-- A contract behind other calls. -/
theorem carry {P : Program} {f : FuncId} {args : Array Value} {w w1 : World} {v : Ending} (hb : Below w.heap.size w w1) (h : Calls P f args w1 fun e w' => e = v ∧ Below w1.heap.size w1 w') :
    Calls P f args w1 fun e w' => e = v ∧ Below w.heap.size w w' := h.mono fun _ _ ⟨a, b⟩ => ⟨a, hb.trans (b.mono hb.size)⟩
theorem carry0 {P : Program} {f : FuncId} {args : Array Value} {w w1 : World} {v : Ending} (hb : Below w.heap.size w w1) (h : Calls P f args w1 fun e w' => e = v ∧ w1 = w') :
    Calls P f args w1 fun e w' => e = v ∧ Below w.heap.size w w' := h.mono fun _ _ ⟨a, b⟩ => ⟨a, b ▸ hb⟩

section
variable {P : Program} (src dst e : TypeId)
/-- string(b) where b is a new row of four octets. -/
theorem conv_four (hs : P.underlying src = some (.slice e)) (he : P.underlying e = some (.int .u8)) (hd : P.underlying dst = some .string) (W : World) (t : TypeId) (cap : Nat) (a b c d : Int) :
    (convert src dst (.slice (some ⟨W.heap.size, 0, none⟩) 4 cap)).run P (W.alloc (.cells #[.int .u8 a, .int .u8 b, .int .u8 c, .int .u8 d] t)) =
      .ok (.string (strOfNums [a, b, c, d])) (W.alloc (.cells #[.int .u8 a, .int .u8 b, .int .u8 c, .int .u8 d] t)) :=
  run_convert_bytes_arg _ src e hs he W.heap.size 0 4 cap [a, b, c, d] rfl (fun i hi => by
    rw [World.cell?_alloc_mark]
    match i, hi with
    | 0, _ => rfl
    | 1, _ => rfl
    | 2, _ => rfl
    | 3, _ => rfl) dst hd
end
theorem strOfNums_S (xs : List Int) : strOfNums xs = S (xs.map fun n => UInt8.ofNat n.toNat) := rfl
end Go.Proofs.Ytoglmfpmeajbeaa
