/- WireKnown: the walk of the law. (Printed by wip/gen/wirek.py.) -/
import Derived.Test.YtchfckehobenkaaWireL1
import Derived.LoopN
namespace Go.Proofs.Ytchfckehobenkaa
open Go.RowKit
namespace WireKn
open WireW
set_option maxRecDepth 100000
theorem c0_Put (w : World) : Calls Try.prog 8 #[.string ⟨#[]⟩, .int .i64 255, .int .i64 1] w fun e w' => e = .returned (.tuple #[.string ⟨#[255]⟩, .int .i64 0]) ∧ Below w.heap.size w w' := Put_eq ⟨#[]⟩ ⟨#[255]⟩ 0 (lit_le [] (by decide)) 255 1 (by omega) (by omega) (by decide +kernel) (by decide +kernel) w
theorem c1_Put (w : World) : Calls Try.prog 8 #[.string ⟨#[]⟩, .int .i64 256, .int .i64 1] w fun e w' => e = .returned (.tuple #[.string ⟨#[]⟩, .int .i64 6]) ∧ Below w.heap.size w w' := Put_eq ⟨#[]⟩ ⟨#[]⟩ 6 (lit_le [] (by decide)) 256 1 (by omega) (by omega) (by decide +kernel) (by decide +kernel) w
theorem c2_PutS (w : World) : Calls Try.prog 10 #[.string ⟨#[]⟩, .int .i64 128, .int .i64 1] w fun e w' => e = .returned (.tuple #[.string ⟨#[]⟩, .int .i64 6]) ∧ Below w.heap.size w w' := PutSigned_eq ⟨#[]⟩ ⟨#[]⟩ 6 (lit_le [] (by decide)) 128 1 (by omega) (by omega) (by decide +kernel) (by decide +kernel) w
theorem c3_PutS (w : World) : Calls Try.prog 10 #[.string ⟨#[]⟩, .int .i64 (-129), .int .i64 1] w fun e w' => e = .returned (.tuple #[.string ⟨#[]⟩, .int .i64 6]) ∧ Below w.heap.size w w' := PutSigned_eq ⟨#[]⟩ ⟨#[]⟩ 6 (lit_le [] (by decide)) (-129) 1 (by omega) (by omega) (by decide +kernel) (by decide +kernel) w
theorem c4_gets (w : World) : Calls Try.prog 19 #[.string ⟨#[255]⟩, .int .i64 0, .int .i64 1, .int .i64 255] w fun e w' => e = .returned (.bool true) ∧ w = w' := gets_yes ⟨#[255]⟩ (lit_le [255] (by decide)) 0 1 255 (by omega) (by omega) (by omega) (by omega) (by decide +kernel) (by decide +kernel) w
theorem c5_sgn (w : World) : Calls Try.prog 21 #[.int .i64 (-1), .int .i64 1, .string ⟨#[255]⟩] w fun e w' => e = .returned (.bool true) ∧ Below w.heap.size w w' := signed_yes (-1) 1 ⟨#[255]⟩ (lit_le [255] (by decide)) (by omega) (by omega) (by omega) (by omega) (by decide +kernel) (by decide +kernel) (by decide +kernel) (by decide +kernel) w
theorem c6_Put (w : World) : Calls Try.prog 8 #[.string ⟨#[]⟩, .int .i64 65535, .int .i64 2] w fun e w' => e = .returned (.tuple #[.string ⟨#[255, 255]⟩, .int .i64 0]) ∧ Below w.heap.size w w' := Put_eq ⟨#[]⟩ ⟨#[255, 255]⟩ 0 (lit_le [] (by decide)) 65535 2 (by omega) (by omega) (by decide +kernel) (by decide +kernel) w
theorem c7_Put (w : World) : Calls Try.prog 8 #[.string ⟨#[]⟩, .int .i64 65536, .int .i64 2] w fun e w' => e = .returned (.tuple #[.string ⟨#[]⟩, .int .i64 6]) ∧ Below w.heap.size w w' := Put_eq ⟨#[]⟩ ⟨#[]⟩ 6 (lit_le [] (by decide)) 65536 2 (by omega) (by omega) (by decide +kernel) (by decide +kernel) w
theorem c8_PutS (w : World) : Calls Try.prog 10 #[.string ⟨#[]⟩, .int .i64 32768, .int .i64 2] w fun e w' => e = .returned (.tuple #[.string ⟨#[]⟩, .int .i64 6]) ∧ Below w.heap.size w w' := PutSigned_eq ⟨#[]⟩ ⟨#[]⟩ 6 (lit_le [] (by decide)) 32768 2 (by omega) (by omega) (by decide +kernel) (by decide +kernel) w
theorem c9_PutS (w : World) : Calls Try.prog 10 #[.string ⟨#[]⟩, .int .i64 (-32769), .int .i64 2] w fun e w' => e = .returned (.tuple #[.string ⟨#[]⟩, .int .i64 6]) ∧ Below w.heap.size w w' := PutSigned_eq ⟨#[]⟩ ⟨#[]⟩ 6 (lit_le [] (by decide)) (-32769) 2 (by omega) (by omega) (by decide +kernel) (by decide +kernel) w
theorem c10_gets (w : World) : Calls Try.prog 19 #[.string ⟨#[255, 255]⟩, .int .i64 0, .int .i64 2, .int .i64 65535] w fun e w' => e = .returned (.bool true) ∧ w = w' := gets_yes ⟨#[255, 255]⟩ (lit_le [255, 255] (by decide)) 0 2 65535 (by omega) (by omega) (by omega) (by omega) (by decide +kernel) (by decide +kernel) w
theorem c11_sgn (w : World) : Calls Try.prog 21 #[.int .i64 (-1), .int .i64 2, .string ⟨#[255, 255]⟩] w fun e w' => e = .returned (.bool true) ∧ Below w.heap.size w w' := signed_yes (-1) 2 ⟨#[255, 255]⟩ (lit_le [255, 255] (by decide)) (by omega) (by omega) (by omega) (by omega) (by decide +kernel) (by decide +kernel) (by decide +kernel) (by decide +kernel) w
theorem c12_Put (w : World) : Calls Try.prog 8 #[.string ⟨#[]⟩, .int .i64 16777215, .int .i64 3] w fun e w' => e = .returned (.tuple #[.string ⟨#[255, 255, 255]⟩, .int .i64 0]) ∧ Below w.heap.size w w' := Put_eq ⟨#[]⟩ ⟨#[255, 255, 255]⟩ 0 (lit_le [] (by decide)) 16777215 3 (by omega) (by omega) (by decide +kernel) (by decide +kernel) w
theorem c13_Put (w : World) : Calls Try.prog 8 #[.string ⟨#[]⟩, .int .i64 16777216, .int .i64 3] w fun e w' => e = .returned (.tuple #[.string ⟨#[]⟩, .int .i64 6]) ∧ Below w.heap.size w w' := Put_eq ⟨#[]⟩ ⟨#[]⟩ 6 (lit_le [] (by decide)) 16777216 3 (by omega) (by omega) (by decide +kernel) (by decide +kernel) w
theorem c14_PutS (w : World) : Calls Try.prog 10 #[.string ⟨#[]⟩, .int .i64 8388608, .int .i64 3] w fun e w' => e = .returned (.tuple #[.string ⟨#[]⟩, .int .i64 6]) ∧ Below w.heap.size w w' := PutSigned_eq ⟨#[]⟩ ⟨#[]⟩ 6 (lit_le [] (by decide)) 8388608 3 (by omega) (by omega) (by decide +kernel) (by decide +kernel) w
theorem c15_PutS (w : World) : Calls Try.prog 10 #[.string ⟨#[]⟩, .int .i64 (-8388609), .int .i64 3] w fun e w' => e = .returned (.tuple #[.string ⟨#[]⟩, .int .i64 6]) ∧ Below w.heap.size w w' := PutSigned_eq ⟨#[]⟩ ⟨#[]⟩ 6 (lit_le [] (by decide)) (-8388609) 3 (by omega) (by omega) (by decide +kernel) (by decide +kernel) w
theorem c16_gets (w : World) : Calls Try.prog 19 #[.string ⟨#[255, 255, 255]⟩, .int .i64 0, .int .i64 3, .int .i64 16777215] w fun e w' => e = .returned (.bool true) ∧ w = w' := gets_yes ⟨#[255, 255, 255]⟩ (lit_le [255, 255, 255] (by decide)) 0 3 16777215 (by omega) (by omega) (by omega) (by omega) (by decide +kernel) (by decide +kernel) w
theorem c17_sgn (w : World) : Calls Try.prog 21 #[.int .i64 (-1), .int .i64 3, .string ⟨#[255, 255, 255]⟩] w fun e w' => e = .returned (.bool true) ∧ Below w.heap.size w w' := signed_yes (-1) 3 ⟨#[255, 255, 255]⟩ (lit_le [255, 255, 255] (by decide)) (by omega) (by omega) (by omega) (by omega) (by decide +kernel) (by decide +kernel) (by decide +kernel) (by decide +kernel) w
theorem c18_Put (w : World) : Calls Try.prog 8 #[.string ⟨#[]⟩, .int .i64 4294967295, .int .i64 4] w fun e w' => e = .returned (.tuple #[.string ⟨#[255, 255, 255, 255]⟩, .int .i64 0]) ∧ Below w.heap.size w w' := Put_eq ⟨#[]⟩ ⟨#[255, 255, 255, 255]⟩ 0 (lit_le [] (by decide)) 4294967295 4 (by omega) (by omega) (by decide +kernel) (by decide +kernel) w
theorem c19_Put (w : World) : Calls Try.prog 8 #[.string ⟨#[]⟩, .int .i64 4294967296, .int .i64 4] w fun e w' => e = .returned (.tuple #[.string ⟨#[]⟩, .int .i64 6]) ∧ Below w.heap.size w w' := Put_eq ⟨#[]⟩ ⟨#[]⟩ 6 (lit_le [] (by decide)) 4294967296 4 (by omega) (by omega) (by decide +kernel) (by decide +kernel) w
theorem c20_PutS (w : World) : Calls Try.prog 10 #[.string ⟨#[]⟩, .int .i64 2147483648, .int .i64 4] w fun e w' => e = .returned (.tuple #[.string ⟨#[]⟩, .int .i64 6]) ∧ Below w.heap.size w w' := PutSigned_eq ⟨#[]⟩ ⟨#[]⟩ 6 (lit_le [] (by decide)) 2147483648 4 (by omega) (by omega) (by decide +kernel) (by decide +kernel) w
theorem c21_PutS (w : World) : Calls Try.prog 10 #[.string ⟨#[]⟩, .int .i64 (-2147483649), .int .i64 4] w fun e w' => e = .returned (.tuple #[.string ⟨#[]⟩, .int .i64 6]) ∧ Below w.heap.size w w' := PutSigned_eq ⟨#[]⟩ ⟨#[]⟩ 6 (lit_le [] (by decide)) (-2147483649) 4 (by omega) (by omega) (by decide +kernel) (by decide +kernel) w
theorem c22_gets (w : World) : Calls Try.prog 19 #[.string ⟨#[255, 255, 255, 255]⟩, .int .i64 0, .int .i64 4, .int .i64 4294967295] w fun e w' => e = .returned (.bool true) ∧ w = w' := gets_yes ⟨#[255, 255, 255, 255]⟩ (lit_le [255, 255, 255, 255] (by decide)) 0 4 4294967295 (by omega) (by omega) (by omega) (by omega) (by decide +kernel) (by decide +kernel) w
theorem c23_sgn (w : World) : Calls Try.prog 21 #[.int .i64 (-1), .int .i64 4, .string ⟨#[255, 255, 255, 255]⟩] w fun e w' => e = .returned (.bool true) ∧ Below w.heap.size w w' := signed_yes (-1) 4 ⟨#[255, 255, 255, 255]⟩ (lit_le [255, 255, 255, 255] (by decide)) (by omega) (by omega) (by omega) (by omega) (by decide +kernel) (by decide +kernel) (by decide +kernel) (by decide +kernel) w
theorem c24_Put (w : World) : Calls Try.prog 8 #[.string ⟨#[]⟩, .int .i64 1099511627775, .int .i64 5] w fun e w' => e = .returned (.tuple #[.string ⟨#[255, 255, 255, 255, 255]⟩, .int .i64 0]) ∧ Below w.heap.size w w' := Put_eq ⟨#[]⟩ ⟨#[255, 255, 255, 255, 255]⟩ 0 (lit_le [] (by decide)) 1099511627775 5 (by omega) (by omega) (by decide +kernel) (by decide +kernel) w
theorem c25_Put (w : World) : Calls Try.prog 8 #[.string ⟨#[]⟩, .int .i64 1099511627776, .int .i64 5] w fun e w' => e = .returned (.tuple #[.string ⟨#[]⟩, .int .i64 6]) ∧ Below w.heap.size w w' := Put_eq ⟨#[]⟩ ⟨#[]⟩ 6 (lit_le [] (by decide)) 1099511627776 5 (by omega) (by omega) (by decide +kernel) (by decide +kernel) w
theorem c26_PutS (w : World) : Calls Try.prog 10 #[.string ⟨#[]⟩, .int .i64 549755813888, .int .i64 5] w fun e w' => e = .returned (.tuple #[.string ⟨#[]⟩, .int .i64 6]) ∧ Below w.heap.size w w' := PutSigned_eq ⟨#[]⟩ ⟨#[]⟩ 6 (lit_le [] (by decide)) 549755813888 5 (by omega) (by omega) (by decide +kernel) (by decide +kernel) w
theorem c27_PutS (w : World) : Calls Try.prog 10 #[.string ⟨#[]⟩, .int .i64 (-549755813889), .int .i64 5] w fun e w' => e = .returned (.tuple #[.string ⟨#[]⟩, .int .i64 6]) ∧ Below w.heap.size w w' := PutSigned_eq ⟨#[]⟩ ⟨#[]⟩ 6 (lit_le [] (by decide)) (-549755813889) 5 (by omega) (by omega) (by decide +kernel) (by decide +kernel) w
theorem c28_gets (w : World) : Calls Try.prog 19 #[.string ⟨#[255, 255, 255, 255, 255]⟩, .int .i64 0, .int .i64 5, .int .i64 1099511627775] w fun e w' => e = .returned (.bool true) ∧ w = w' := gets_yes ⟨#[255, 255, 255, 255, 255]⟩ (lit_le [255, 255, 255, 255, 255] (by decide)) 0 5 1099511627775 (by omega) (by omega) (by omega) (by omega) (by decide +kernel) (by decide +kernel) w
theorem c29_sgn (w : World) : Calls Try.prog 21 #[.int .i64 (-1), .int .i64 5, .string ⟨#[255, 255, 255, 255, 255]⟩] w fun e w' => e = .returned (.bool true) ∧ Below w.heap.size w w' := signed_yes (-1) 5 ⟨#[255, 255, 255, 255, 255]⟩ (lit_le [255, 255, 255, 255, 255] (by decide)) (by omega) (by omega) (by omega) (by omega) (by decide +kernel) (by decide +kernel) (by decide +kernel) (by decide +kernel) w
theorem c30_Put (w : World) : Calls Try.prog 8 #[.string ⟨#[]⟩, .int .i64 281474976710655, .int .i64 6] w fun e w' => e = .returned (.tuple #[.string ⟨#[255, 255, 255, 255, 255, 255]⟩, .int .i64 0]) ∧ Below w.heap.size w w' := Put_eq ⟨#[]⟩ ⟨#[255, 255, 255, 255, 255, 255]⟩ 0 (lit_le [] (by decide)) 281474976710655 6 (by omega) (by omega) (by decide +kernel) (by decide +kernel) w
theorem c31_Put (w : World) : Calls Try.prog 8 #[.string ⟨#[]⟩, .int .i64 281474976710656, .int .i64 6] w fun e w' => e = .returned (.tuple #[.string ⟨#[]⟩, .int .i64 6]) ∧ Below w.heap.size w w' := Put_eq ⟨#[]⟩ ⟨#[]⟩ 6 (lit_le [] (by decide)) 281474976710656 6 (by omega) (by omega) (by decide +kernel) (by decide +kernel) w
theorem c32_PutS (w : World) : Calls Try.prog 10 #[.string ⟨#[]⟩, .int .i64 140737488355328, .int .i64 6] w fun e w' => e = .returned (.tuple #[.string ⟨#[]⟩, .int .i64 6]) ∧ Below w.heap.size w w' := PutSigned_eq ⟨#[]⟩ ⟨#[]⟩ 6 (lit_le [] (by decide)) 140737488355328 6 (by omega) (by omega) (by decide +kernel) (by decide +kernel) w
theorem c33_PutS (w : World) : Calls Try.prog 10 #[.string ⟨#[]⟩, .int .i64 (-140737488355329), .int .i64 6] w fun e w' => e = .returned (.tuple #[.string ⟨#[]⟩, .int .i64 6]) ∧ Below w.heap.size w w' := PutSigned_eq ⟨#[]⟩ ⟨#[]⟩ 6 (lit_le [] (by decide)) (-140737488355329) 6 (by omega) (by omega) (by decide +kernel) (by decide +kernel) w
theorem c34_gets (w : World) : Calls Try.prog 19 #[.string ⟨#[255, 255, 255, 255, 255, 255]⟩, .int .i64 0, .int .i64 6, .int .i64 281474976710655] w fun e w' => e = .returned (.bool true) ∧ w = w' := gets_yes ⟨#[255, 255, 255, 255, 255, 255]⟩ (lit_le [255, 255, 255, 255, 255, 255] (by decide)) 0 6 281474976710655 (by omega) (by omega) (by omega) (by omega) (by decide +kernel) (by decide +kernel) w
theorem c35_sgn (w : World) : Calls Try.prog 21 #[.int .i64 (-1), .int .i64 6, .string ⟨#[255, 255, 255, 255, 255, 255]⟩] w fun e w' => e = .returned (.bool true) ∧ Below w.heap.size w w' := signed_yes (-1) 6 ⟨#[255, 255, 255, 255, 255, 255]⟩ (lit_le [255, 255, 255, 255, 255, 255] (by decide)) (by omega) (by omega) (by omega) (by omega) (by decide +kernel) (by decide +kernel) (by decide +kernel) (by decide +kernel) w
theorem c36_Put (w : World) : Calls Try.prog 8 #[.string ⟨#[]⟩, .int .i64 72057594037927935, .int .i64 7] w fun e w' => e = .returned (.tuple #[.string ⟨#[255, 255, 255, 255, 255, 255, 255]⟩, .int .i64 0]) ∧ Below w.heap.size w w' := Put_eq ⟨#[]⟩ ⟨#[255, 255, 255, 255, 255, 255, 255]⟩ 0 (lit_le [] (by decide)) 72057594037927935 7 (by omega) (by omega) (by decide +kernel) (by decide +kernel) w
theorem c37_Put (w : World) : Calls Try.prog 8 #[.string ⟨#[]⟩, .int .i64 72057594037927936, .int .i64 7] w fun e w' => e = .returned (.tuple #[.string ⟨#[]⟩, .int .i64 6]) ∧ Below w.heap.size w w' := Put_eq ⟨#[]⟩ ⟨#[]⟩ 6 (lit_le [] (by decide)) 72057594037927936 7 (by omega) (by omega) (by decide +kernel) (by decide +kernel) w
theorem c38_PutS (w : World) : Calls Try.prog 10 #[.string ⟨#[]⟩, .int .i64 36028797018963968, .int .i64 7] w fun e w' => e = .returned (.tuple #[.string ⟨#[]⟩, .int .i64 6]) ∧ Below w.heap.size w w' := PutSigned_eq ⟨#[]⟩ ⟨#[]⟩ 6 (lit_le [] (by decide)) 36028797018963968 7 (by omega) (by omega) (by decide +kernel) (by decide +kernel) w
theorem c39_PutS (w : World) : Calls Try.prog 10 #[.string ⟨#[]⟩, .int .i64 (-36028797018963969), .int .i64 7] w fun e w' => e = .returned (.tuple #[.string ⟨#[]⟩, .int .i64 6]) ∧ Below w.heap.size w w' := PutSigned_eq ⟨#[]⟩ ⟨#[]⟩ 6 (lit_le [] (by decide)) (-36028797018963969) 7 (by omega) (by omega) (by decide +kernel) (by decide +kernel) w
theorem c40_gets (w : World) : Calls Try.prog 19 #[.string ⟨#[255, 255, 255, 255, 255, 255, 255]⟩, .int .i64 0, .int .i64 7, .int .i64 72057594037927935] w fun e w' => e = .returned (.bool true) ∧ w = w' := gets_yes ⟨#[255, 255, 255, 255, 255, 255, 255]⟩ (lit_le [255, 255, 255, 255, 255, 255, 255] (by decide)) 0 7 72057594037927935 (by omega) (by omega) (by omega) (by omega) (by decide +kernel) (by decide +kernel) w
theorem c41_sgn (w : World) : Calls Try.prog 21 #[.int .i64 (-1), .int .i64 7, .string ⟨#[255, 255, 255, 255, 255, 255, 255]⟩] w fun e w' => e = .returned (.bool true) ∧ Below w.heap.size w w' := signed_yes (-1) 7 ⟨#[255, 255, 255, 255, 255, 255, 255]⟩ (lit_le [255, 255, 255, 255, 255, 255, 255] (by decide)) (by omega) (by omega) (by omega) (by omega) (by decide +kernel) (by decide +kernel) (by decide +kernel) (by decide +kernel) w
theorem c42_Put (w : World) : Calls Try.prog 8 #[.string ⟨#[]⟩, .int .i64 (-1), .int .i64 0] w fun e w' => e = .returned (.tuple #[.string ⟨#[]⟩, .int .i64 2]) ∧ Below w.heap.size w w' := Put_eq ⟨#[]⟩ ⟨#[]⟩ 2 (lit_le [] (by decide)) (-1) 0 (by omega) (by omega) (by decide +kernel) (by decide +kernel) w
theorem c43_Put (w : World) : Calls Try.prog 8 #[.string ⟨#[]⟩, .int .i64 0, .int .i64 8] w fun e w' => e = .returned (.tuple #[.string ⟨#[]⟩, .int .i64 2]) ∧ Below w.heap.size w w' := Put_eq ⟨#[]⟩ ⟨#[]⟩ 2 (lit_le [] (by decide)) 0 8 (by omega) (by omega) (by decide +kernel) (by decide +kernel) w
theorem c44_PutS (w : World) : Calls Try.prog 10 #[.string ⟨#[]⟩, .int .i64 0, .int .i64 9] w fun e w' => e = .returned (.tuple #[.string ⟨#[]⟩, .int .i64 2]) ∧ Below w.heap.size w w' := PutSigned_eq ⟨#[]⟩ ⟨#[]⟩ 2 (lit_le [] (by decide)) 0 9 (by omega) (by omega) (by decide +kernel) (by decide +kernel) w
theorem c45_GetS (w : World) : Calls Try.prog 15 #[.string ⟨#[]⟩, .int .i64 0, .int .i64 9] w fun e w' => e = .returned (.tuple #[.int .i64 0, .int .i64 2]) ∧ w = w' := GetSigned_eq ⟨#[]⟩ 0 2 (lit_le [] (by decide)) 0 9 (by omega) (by omega) (by omega) (by omega) (by decide +kernel) (by decide +kernel) w
theorem c46_GetS (w : World) : Calls Try.prog 15 #[.string ⟨#[]⟩, .int .i64 (-1), .int .i64 1] w fun e w' => e = .returned (.tuple #[.int .i64 0, .int .i64 2]) ∧ w = w' := GetSigned_eq ⟨#[]⟩ 0 2 (lit_le [] (by decide)) (-1) 1 (by omega) (by omega) (by omega) (by omega) (by decide +kernel) (by decide +kernel) w
theorem c47_sgn (w : World) : Calls Try.prog 21 #[.int .i64 (-9223372036854775808), .int .i64 8, .string ⟨#[128, 0, 0, 0, 0, 0, 0, 0]⟩] w fun e w' => e = .returned (.bool true) ∧ Below w.heap.size w w' := signed_yes (-9223372036854775808) 8 ⟨#[128, 0, 0, 0, 0, 0, 0, 0]⟩ (lit_le [128, 0, 0, 0, 0, 0, 0, 0] (by decide)) (by omega) (by omega) (by omega) (by omega) (by decide +kernel) (by decide +kernel) (by decide +kernel) (by decide +kernel) w
theorem c48_sgn (w : World) : Calls Try.prog 21 #[.int .i64 9223372036854775807, .int .i64 8, .string ⟨#[127, 255, 255, 255, 255, 255, 255, 255]⟩] w fun e w' => e = .returned (.bool true) ∧ Below w.heap.size w w' := signed_yes 9223372036854775807 8 ⟨#[127, 255, 255, 255, 255, 255, 255, 255]⟩ (lit_le [127, 255, 255, 255, 255, 255, 255, 255] (by decide)) (by omega) (by omega) (by omega) (by omega) (by decide +kernel) (by decide +kernel) (by decide +kernel) (by decide +kernel) w
theorem c49_puts (w : World) : Calls Try.prog 22 #[.string ⟨#[]⟩, .int .i64 0, .int .i64 7, .string ⟨#[0, 0, 0, 0, 0, 0, 0]⟩] w fun e w' => e = .returned (.bool true) ∧ Below w.heap.size w w' := puts_yes ⟨#[]⟩ ⟨#[0, 0, 0, 0, 0, 0, 0]⟩ (lit_le [] (by decide)) 0 7 (by omega) (by omega) (by decide +kernel) (by decide +kernel) w
theorem c50_ref (w : World) : Calls Try.prog 23 #[.string ⟨#[]⟩, .int .i64 4611686018427387904, .int .i64 7, .int .i64 5] w fun e w' => e = .returned (.bool true) ∧ w = w' := refused_yes ⟨#[]⟩ (lit_le [] (by decide)) 4611686018427387904 7 5 (by omega) (by omega) (by omega) (by omega) (by decide +kernel) (by decide +kernel) w
theorem c51_fld (w : World) : Calls Try.prog 20 #[.string ⟨#[]⟩, .int .i64 0, .int .i64 4611686018427387904, .string ⟨#[]⟩, .int .i64 5] w fun e w' => e = .returned (.bool true) ∧ w = w' := field_yes ⟨#[]⟩ ⟨#[]⟩ (lit_le [] (by decide)) 0 4611686018427387904 5 (by omega) (by omega) (by omega) (by omega) (by decide +kernel) (by decide +kernel) w
theorem c52_fld (w : World) : Calls Try.prog 20 #[.string ⟨#[97, 98]⟩, .int .i64 3, .int .i64 0, .string ⟨#[]⟩, .int .i64 5] w fun e w' => e = .returned (.bool true) ∧ w = w' := field_yes ⟨#[97, 98]⟩ ⟨#[]⟩ (lit_le [97, 98] (by decide)) 3 0 5 (by omega) (by omega) (by omega) (by omega) (by decide +kernel) (by decide +kernel) w
theorem c53_fld (w : World) : Calls Try.prog 20 #[.string ⟨#[97, 98]⟩, .int .i64 (-1), .int .i64 0, .string ⟨#[]⟩, .int .i64 2] w fun e w' => e = .returned (.bool true) ∧ w = w' := field_yes ⟨#[97, 98]⟩ ⟨#[]⟩ (lit_le [97, 98] (by decide)) (-1) 0 2 (by omega) (by omega) (by omega) (by omega) (by decide +kernel) (by decide +kernel) w
theorem c54_fld (w : World) : Calls Try.prog 20 #[.string ⟨#[97, 98]⟩, .int .i64 0, .int .i64 (-1), .string ⟨#[]⟩, .int .i64 2] w fun e w' => e = .returned (.bool true) ∧ w = w' := field_yes ⟨#[97, 98]⟩ ⟨#[]⟩ (lit_le [97, 98] (by decide)) 0 (-1) 2 (by omega) (by omega) (by omega) (by omega) (by decide +kernel) (by decide +kernel) w
theorem c55_fld (w : World) : Calls Try.prog 20 #[.string ⟨#[97, 98]⟩, .int .i64 2, .int .i64 0, .string ⟨#[]⟩, .int .i64 0] w fun e w' => e = .returned (.bool true) ∧ w = w' := field_yes ⟨#[97, 98]⟩ ⟨#[]⟩ (lit_le [97, 98] (by decide)) 2 0 0 (by omega) (by omega) (by omega) (by omega) (by decide +kernel) (by decide +kernel) w
set_option maxHeartbeats 8000000 in
theorem law_Known (w : World) : Calls Try.prog 7 #[] w fun e w' => e = .returned (.bool true) ∧ Below w.heap.size w w' := by
  have hb := Below.refl w.heap.size w
  go_enter Try.func7, Try.ntmps7
  go_wp2_with fail
  refine wp_loop_rounds 8 ?_
  rw [rounds_succ]
  go_wp2_with fail
  refine (carry hb (c0_Put _)).mono ?_
  clear hb
  rintro e w1 ⟨rfl, hb⟩
  go_wp2_with fail
  refine (carry hb (c1_Put _)).mono ?_
  clear hb
  rintro e w1 ⟨rfl, hb⟩
  go_wp2_with fail
  refine (carry hb (c2_PutS _)).mono ?_
  clear hb
  rintro e w1 ⟨rfl, hb⟩
  go_wp2_with fail
  refine (carry hb (c3_PutS _)).mono ?_
  clear hb
  rintro e w1 ⟨rfl, hb⟩
  go_wp2_with fail
  refine (carry0 hb (c4_gets _)).mono ?_
  clear hb
  rintro e w1 ⟨rfl, hb⟩
  go_wp2_with fail
  refine (carry hb (c5_sgn _)).mono ?_
  clear hb
  rintro e w1 ⟨rfl, hb⟩
  go_wp2_with fail
  rw [rounds_succ]
  go_wp2_with fail
  refine (carry hb (c6_Put _)).mono ?_
  clear hb
  rintro e w1 ⟨rfl, hb⟩
  go_wp2_with fail
  refine (carry hb (c7_Put _)).mono ?_
  clear hb
  rintro e w1 ⟨rfl, hb⟩
  go_wp2_with fail
  refine (carry hb (c8_PutS _)).mono ?_
  clear hb
  rintro e w1 ⟨rfl, hb⟩
  go_wp2_with fail
  refine (carry hb (c9_PutS _)).mono ?_
  clear hb
  rintro e w1 ⟨rfl, hb⟩
  go_wp2_with fail
  refine (carry0 hb (c10_gets _)).mono ?_
  clear hb
  rintro e w1 ⟨rfl, hb⟩
  go_wp2_with fail
  refine (carry hb (c11_sgn _)).mono ?_
  clear hb
  rintro e w1 ⟨rfl, hb⟩
  go_wp2_with fail
  rw [rounds_succ]
  go_wp2_with fail
  refine (carry hb (c12_Put _)).mono ?_
  clear hb
  rintro e w1 ⟨rfl, hb⟩
  go_wp2_with fail
  refine (carry hb (c13_Put _)).mono ?_
  clear hb
  rintro e w1 ⟨rfl, hb⟩
  go_wp2_with fail
  refine (carry hb (c14_PutS _)).mono ?_
  clear hb
  rintro e w1 ⟨rfl, hb⟩
  go_wp2_with fail
  refine (carry hb (c15_PutS _)).mono ?_
  clear hb
  rintro e w1 ⟨rfl, hb⟩
  go_wp2_with fail
  refine (carry0 hb (c16_gets _)).mono ?_
  clear hb
  rintro e w1 ⟨rfl, hb⟩
  go_wp2_with fail
  refine (carry hb (c17_sgn _)).mono ?_
  clear hb
  rintro e w1 ⟨rfl, hb⟩
  go_wp2_with fail
  rw [rounds_succ]
  go_wp2_with fail
  refine (carry hb (c18_Put _)).mono ?_
  clear hb
  rintro e w1 ⟨rfl, hb⟩
  go_wp2_with fail
  refine (carry hb (c19_Put _)).mono ?_
  clear hb
  rintro e w1 ⟨rfl, hb⟩
  go_wp2_with fail
  refine (carry hb (c20_PutS _)).mono ?_
  clear hb
  rintro e w1 ⟨rfl, hb⟩
  go_wp2_with fail
  refine (carry hb (c21_PutS _)).mono ?_
  clear hb
  rintro e w1 ⟨rfl, hb⟩
  go_wp2_with fail
  refine (carry0 hb (c22_gets _)).mono ?_
  clear hb
  rintro e w1 ⟨rfl, hb⟩
  go_wp2_with fail
  refine (carry hb (c23_sgn _)).mono ?_
  clear hb
  rintro e w1 ⟨rfl, hb⟩
  go_wp2_with fail
  rw [rounds_succ]
  go_wp2_with fail
  refine (carry hb (c24_Put _)).mono ?_
  clear hb
  rintro e w1 ⟨rfl, hb⟩
  go_wp2_with fail
  refine (carry hb (c25_Put _)).mono ?_
  clear hb
  rintro e w1 ⟨rfl, hb⟩
  go_wp2_with fail
  refine (carry hb (c26_PutS _)).mono ?_
  clear hb
  rintro e w1 ⟨rfl, hb⟩
  go_wp2_with fail
  refine (carry hb (c27_PutS _)).mono ?_
  clear hb
  rintro e w1 ⟨rfl, hb⟩
  go_wp2_with fail
  refine (carry0 hb (c28_gets _)).mono ?_
  clear hb
  rintro e w1 ⟨rfl, hb⟩
  go_wp2_with fail
  refine (carry hb (c29_sgn _)).mono ?_
  clear hb
  rintro e w1 ⟨rfl, hb⟩
  go_wp2_with fail
  rw [rounds_succ]
  go_wp2_with fail
  refine (carry hb (c30_Put _)).mono ?_
  clear hb
  rintro e w1 ⟨rfl, hb⟩
  go_wp2_with fail
  refine (carry hb (c31_Put _)).mono ?_
  clear hb
  rintro e w1 ⟨rfl, hb⟩
  go_wp2_with fail
  refine (carry hb (c32_PutS _)).mono ?_
  clear hb
  rintro e w1 ⟨rfl, hb⟩
  go_wp2_with fail
  refine (carry hb (c33_PutS _)).mono ?_
  clear hb
  rintro e w1 ⟨rfl, hb⟩
  go_wp2_with fail
  refine (carry0 hb (c34_gets _)).mono ?_
  clear hb
  rintro e w1 ⟨rfl, hb⟩
  go_wp2_with fail
  refine (carry hb (c35_sgn _)).mono ?_
  clear hb
  rintro e w1 ⟨rfl, hb⟩
  go_wp2_with fail
  rw [rounds_succ]
  go_wp2_with fail
  refine (carry hb (c36_Put _)).mono ?_
  clear hb
  rintro e w1 ⟨rfl, hb⟩
  go_wp2_with fail
  refine (carry hb (c37_Put _)).mono ?_
  clear hb
  rintro e w1 ⟨rfl, hb⟩
  go_wp2_with fail
  refine (carry hb (c38_PutS _)).mono ?_
  clear hb
  rintro e w1 ⟨rfl, hb⟩
  go_wp2_with fail
  refine (carry hb (c39_PutS _)).mono ?_
  clear hb
  rintro e w1 ⟨rfl, hb⟩
  go_wp2_with fail
  refine (carry0 hb (c40_gets _)).mono ?_
  clear hb
  rintro e w1 ⟨rfl, hb⟩
  go_wp2_with fail
  refine (carry hb (c41_sgn _)).mono ?_
  clear hb
  rintro e w1 ⟨rfl, hb⟩
  go_wp2_with fail
  rw [rounds_succ]
  go_wp2_with fail
  refine (carry hb (c42_Put _)).mono ?_
  clear hb
  rintro e w1 ⟨rfl, hb⟩
  go_wp2_with fail
  refine (carry hb (c43_Put _)).mono ?_
  clear hb
  rintro e w1 ⟨rfl, hb⟩
  go_wp2_with fail
  refine (carry hb (c44_PutS _)).mono ?_
  clear hb
  rintro e w1 ⟨rfl, hb⟩
  go_wp2_with fail
  refine (carry0 hb (c45_GetS _)).mono ?_
  clear hb
  rintro e w1 ⟨rfl, hb⟩
  go_wp2_with fail
  refine (carry0 hb (c46_GetS _)).mono ?_
  clear hb
  rintro e w1 ⟨rfl, hb⟩
  go_wp2_with fail
  refine (carry hb (works_any _)).mono ?_
  clear hb
  rintro e w1 ⟨rfl, hb⟩
  go_wp2_with fail
  refine (carry hb (c47_sgn _)).mono ?_
  clear hb
  rintro e w1 ⟨rfl, hb⟩
  go_wp2_with fail
  refine (carry hb (c48_sgn _)).mono ?_
  clear hb
  rintro e w1 ⟨rfl, hb⟩
  go_wp2_with fail
  refine (carry hb (c49_puts _)).mono ?_
  clear hb
  rintro e w1 ⟨rfl, hb⟩
  go_wp2_with fail
  refine (carry0 hb (c50_ref _)).mono ?_
  clear hb
  rintro e w1 ⟨rfl, hb⟩
  go_wp2_with fail
  refine (carry0 hb (c51_fld _)).mono ?_
  clear hb
  rintro e w1 ⟨rfl, hb⟩
  go_wp2_with fail
  refine (carry0 hb (c52_fld _)).mono ?_
  clear hb
  rintro e w1 ⟨rfl, hb⟩
  go_wp2_with fail
  refine (carry0 hb (c53_fld _)).mono ?_
  clear hb
  rintro e w1 ⟨rfl, hb⟩
  go_wp2_with fail
  refine (carry0 hb (c54_fld _)).mono ?_
  clear hb
  rintro e w1 ⟨rfl, hb⟩
  go_wp2_with fail
  refine (carry0 hb (c55_fld _)).mono ?_
  clear hb
  rintro e w1 ⟨rfl, hb⟩
  go_wp2_with fail
  go_ret
  exact ⟨rfl, hb⟩
end WireKn
end Go.Proofs.Ytchfckehobenkaa
