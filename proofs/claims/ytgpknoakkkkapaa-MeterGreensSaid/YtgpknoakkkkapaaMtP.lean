/- Meters: the draft's buckets; near. -/
import Derived.Test.YtgpknoakkkkapaaMtN
import Derived.Test.YtgpknoakkkkapaaDrB
namespace Go.Proofs.Ytgpknoakkkkapaa
set_option linter.unusedSimpArgs false
set_option linter.unusedVariables false
open Go.RowKit
namespace MtW
theorem Pair_eq (x y : Nat) (hx : x < 4294967296) (hy : y < 4294967296) (g s : Value) (n m : Nat) (hn : n < 65536) (hm : m < 4294967296) (b r : Int) (hb0 : 1 + (x : Int) % 1048576 = b) (hr0 : 1 + (y : Int) % 2097152 = r) (w : World) :
    Calls Try.prog 9 #[.agg #[.int .u32 x, .int .u32 y, g, s], .int .u16 n, .int .u32 m] w fun e w' => e = .returned (.tuple #[.agg #[.int .i64 b, .int .i64 r], .agg #[.int .i64 (1 + (n : Int)), .int .i64 (min 2097152 (r + (m : Int) % 524288))]]) ∧ Below w.heap.size w w' := by
  have c1 := Bucket_any x y hx hy g s
  rw [hb0, hr0] at c1
  have C1 := Lib.hid c1
  have b1 : 1 ≤ b ∧ b ≤ 1048576 := by omega
  have b2 : 1 ≤ r ∧ r ≤ 2097152 := by omega
  clear c1 hb0 hr0
  go_enter Try.func9, Try.ntmps9
  go_wp2_with fail
  refine (C1.out _).mono ?_
  rintro e w1 ⟨rfl, hb⟩
  obtain ⟨hc, hz⟩ := bcell hb
  have hsz := hb.size
  simp at hsz
  have n0 : w.heap.size < w1.heap.size := by omega
  have n1 : w.heap.size + 1 < w1.heap.size := by omega
  have n2 : w.heap.size + 1 + 1 < w1.heap.size := by omega
  have HB := Lib.hid hb
  clear hb hsz
  go_wp2_with fail
  have q1 : IntKind.i64.wrap (1 + (n : Int)) = 1 + (n : Int) := IntWalk.i64_in _ (by omega)
  have q2 : IntKind.i64.wrap (r + (m : Int) % 524288) = r + (m : Int) % 524288 := IntWalk.i64_in _ (by omega)
  have q3 : (m : Int).tmod 524288 = (m : Int) % 524288 := Int.tmod_eq_emod_of_nonneg (by omega)
  go_region
  go_wp2_with fail
  exact bodyPost_ret (v := .tuple #[.agg #[.int .i64 b, .int .i64 r], .agg #[.int .i64 (1 + (n : Int)), .int .i64 (min 2097152 (r + (m : Int) % 524288))]]) (by simp [results, Try.results9, go_sem, hc, n1, n2]) rfl ⟨rfl, by
    have hb := Below.trans (a := w) (by (repeat' (first | (with_reducible exact Below.refl _ _) | (with_reducible refine Below.alloc ?_ ?_ _) | (with_reducible refine Below.setCell ?_ ?_ _) | (with_reducible refine Below.drew ?_) | (with_reducible assumption) | omega | (simp; done) | (simp; omega)))) (HB.out.mono (B' := w.heap.size) (by simp; omega))
    (repeat' (first | (with_reducible exact Below.refl _ _) | (with_reducible refine Below.alloc ?_ ?_ _) | (with_reducible refine Below.setCell ?_ ?_ _) | (with_reducible refine Below.drew ?_) | (with_reducible assumption) | omega | (simp; done) | (simp; omega)))⟩
end MtW
end Go.Proofs.Ytgpknoakkkkapaa
