/- Run with an error; both Runs return the same. -/
import Derived.Test.YtgpknoakkkkapaaMtV
import Derived.Test.YtgpknoakkkkapaaMtX
namespace Go.Proofs.Ytgpknoakkkkapaa
set_option linter.unusedSimpArgs false
set_option linter.unusedVariables false
open Go.RowKit
namespace MtW
theorem Run_new (b r b2 r2 : Int) (A : Option Addr) (l : List (Int × Int)) (cap : Nat) (hn : Mt.newE b r b2 r2 ≠ 0) (w : World) :
    Calls Try.prog 19 #[.agg #[.int .i64 b, .int .i64 r], .agg #[.int .i64 b2, .int .i64 r2], .slice A l.length cap] w fun e w' => e = .returned (.tuple #[.slice none 0 0, .int .i64 (Mt.newE b r b2 r2)]) ∧ Below w.heap.size w w' := by
  have c1 := New_any b r b2 r2
  generalize Mt.newE b r b2 r2 = ne at *
  generalize Mt.newT ne b = x1 at *
  generalize Mt.newT ne b2 = x2 at *
  have C1 := Lib.hid c1
  have h1 : (ne == 0) = false := beq_eq_false_iff_ne.2 hn
  have h2 : (ne != 0) = true := by rw [bne_iff_ne]; exact hn
  clear c1
  go_enter Try.func19, Try.ntmps19
  go_wp2_with fail
  refine (C1.out _).mono ?_
  rintro e w1 ⟨rfl, hb⟩
  have hb0 : Below w.heap.size w w1 := Below.trans (by (repeat' (first | (with_reducible exact Below.refl _ _) | (with_reducible refine Below.alloc ?_ ?_ _) | (with_reducible refine Below.setCell ?_ ?_ _) | (with_reducible refine Below.drew ?_) | (with_reducible assumption) | omega | (simp; done) | (simp; omega)))) (hb.mono (by simp; omega))
  clear hb C1
  go_wp2_with fail
  go_ret2
  exact ⟨rfl, hb0.alloc hb0.size _⟩
theorem Run_trace (b r b2 r2 : Int) (A : Option Addr) (l : List (Int × Int)) (cap : Nat) (w : World) (hA : Tr.Arr w w.heap.size A l) (hl : l.length ≤ 100000) (hn : Mt.newE b r b2 r2 = 0) (ht : Tr.ok l = false) :
    Calls Try.prog 19 #[.agg #[.int .i64 b, .int .i64 r], .agg #[.int .i64 b2, .int .i64 r2], .slice A l.length cap] w fun e w' => e = .returned (.tuple #[.slice none 0 0, .int .i64 131]) ∧ Below w.heap.size w w' := by
  have c1 := New_any b r b2 r2
  rw [hn] at c1
  generalize Mt.newT 0 b = x1 at *
  generalize Mt.newT 0 b2 = x2 at *
  have C1 := Lib.hid c1
  have c2 := fun W hA => BkW.CheckTrace_any A l cap W hA hl
  have hc : Tr.chk l = 131 := by unfold Tr.chk; rw [ht]; rfl
  rw [hc] at c2
  have C2 := Lib.hid c2
  have HA := Lib.hid hA
  clear c1 c2 hn ht hA hc
  go_enter Try.func19, Try.ntmps19
  go_wp2_with fail
  refine (C1.out _).mono ?_
  rintro e w1 ⟨rfl, hb⟩
  have HB1 : Hid (Below w.heap.size w w1) := Lib.hid (Below.trans (by (repeat' (first | (with_reducible exact Below.refl _ _) | (with_reducible refine Below.alloc ?_ ?_ _) | (with_reducible refine Below.setCell ?_ ?_ _) | (with_reducible refine Below.drew ?_) | (with_reducible assumption) | omega | (simp; done) | (simp; omega)))) (hb.mono (by simp; omega)))
  clear hb C1
  go_wp2_with fail
  refine (C2.out _ ?_).mono ?_
  · exact Tr.Arr.of_lt (Tr.Arr.below HA.out (Below.alloc HB1.out HB1.out.size _)) (Below.alloc HB1.out HB1.out.size _).size
  rintro e w2 ⟨rfl, hb⟩
  have HB2 : Hid (Below w.heap.size w w2) := Lib.hid (Below.trans (Below.alloc HB1.out HB1.out.size _) (hb.mono (Below.alloc HB1.out HB1.out.size _).size))
  clear hb C2
  go_wp2_with fail
  go_ret2
  exact ⟨rfl, HB2.out⟩
theorem ref_Run_new (b r b2 r2 : Int) (A : Option Addr) (l : List (Int × Int)) (cap : Nat) (hn : Mt.newE b r b2 r2 ≠ 0) (w : World) :
    Calls Try.prog 20 #[.agg #[.int .i64 b, .int .i64 r], .agg #[.int .i64 b2, .int .i64 r2], .slice A l.length cap] w fun e w' => e = .returned (.tuple #[.slice none 0 0, .int .i64 (Mt.newE b r b2 r2)]) ∧ Below w.heap.size w w' := by
  have c1 := ref_New b r b2 r2
  generalize Mt.newE b r b2 r2 = ne at *
  generalize Mt.newT ne b = x1 at *
  generalize Mt.newT ne b2 = x2 at *
  have C1 := Lib.hid c1
  have h1 : (ne == 0) = false := beq_eq_false_iff_ne.2 hn
  have h2 : (ne != 0) = true := by rw [bne_iff_ne]; exact hn
  clear c1
  go_enter Try.func20, Try.ntmps20
  go_wp2_with fail
  refine (C1.out _).mono ?_
  rintro e w1 ⟨rfl, hb⟩
  have hb0 : Below w.heap.size w w1 := Below.trans (by (repeat' (first | (with_reducible exact Below.refl _ _) | (with_reducible refine Below.alloc ?_ ?_ _) | (with_reducible refine Below.setCell ?_ ?_ _) | (with_reducible refine Below.drew ?_) | (with_reducible assumption) | omega | (simp; done) | (simp; omega)))) (hb.mono (by simp; omega))
  clear hb C1
  go_wp2_with fail
  go_ret2
  exact ⟨rfl, hb0.alloc hb0.size _⟩
theorem ref_Run_trace (b r b2 r2 : Int) (A : Option Addr) (l : List (Int × Int)) (cap : Nat) (w : World) (hA : Tr.Arr w w.heap.size A l) (hl : l.length ≤ 100000) (hn : Mt.newE b r b2 r2 = 0) (ht : Tr.ok l = false) :
    Calls Try.prog 20 #[.agg #[.int .i64 b, .int .i64 r], .agg #[.int .i64 b2, .int .i64 r2], .slice A l.length cap] w fun e w' => e = .returned (.tuple #[.slice none 0 0, .int .i64 131]) ∧ Below w.heap.size w w' := by
  have c1 := ref_New b r b2 r2
  rw [hn] at c1
  generalize Mt.newT 0 b = x1 at *
  generalize Mt.newT 0 b2 = x2 at *
  have C1 := Lib.hid c1
  have c2 := fun W hA => RightTrace_any A l cap W hA hl
  rw [ht] at c2
  have C2 := Lib.hid c2
  have HA := Lib.hid hA
  clear c1 c2 hn ht hA
  go_enter Try.func20, Try.ntmps20
  go_wp2_with fail
  refine (C1.out _).mono ?_
  rintro e w1 ⟨rfl, hb⟩
  have HB1 : Hid (Below w.heap.size w w1) := Lib.hid (Below.trans (by (repeat' (first | (with_reducible exact Below.refl _ _) | (with_reducible refine Below.alloc ?_ ?_ _) | (with_reducible refine Below.setCell ?_ ?_ _) | (with_reducible refine Below.drew ?_) | (with_reducible assumption) | omega | (simp; done) | (simp; omega)))) (hb.mono (by simp; omega)))
  clear hb C1
  go_wp2_with fail
  refine (C2.out _ ?_).mono ?_
  · exact Tr.Arr.of_lt (Tr.Arr.below HA.out (Below.alloc HB1.out HB1.out.size _)) (Below.alloc HB1.out HB1.out.size _).size
  rintro e w2 ⟨rfl, hb⟩
  have HB2 : Hid (Below w.heap.size w w2) := Lib.hid (Below.trans (Below.alloc HB1.out HB1.out.size _) (hb.mono (Below.alloc HB1.out HB1.out.size _).size))
  clear hb C2
  go_wp2_with fail
  go_ret2
  exact ⟨rfl, HB2.out⟩
/-- Both Runs return the same colors and the same error. -/
theorem Run_both (b r b2 r2 : Int) (l : List (Int × Int)) (hl : l.length ≤ 100000) : ∃ (L : List Int) (E : Int), L.length ≤ 100000 ∧
    (∀ (A : Option Addr) (cap : Nat) (w : World), Tr.Arr w w.heap.size A l → Calls Try.prog 19 #[.agg #[.int .i64 b, .int .i64 r], .agg #[.int .i64 b2, .int .i64 r2], .slice A l.length cap] w fun e w' => (∃ v, e = .returned (.tuple #[v, .int .i64 E]) ∧ w'.ownsRow w.heap.size 3 1 v L.length (Mem.ints L)) ∧ Below w.heap.size w w') ∧
    (∀ (A : Option Addr) (cap : Nat) (w : World), Tr.Arr w w.heap.size A l → Calls Try.prog 20 #[.agg #[.int .i64 b, .int .i64 r], .agg #[.int .i64 b2, .int .i64 r2], .slice A l.length cap] w fun e w' => (∃ v, e = .returned (.tuple #[v, .int .i64 E]) ∧ w'.ownsRow w.heap.size 3 1 v L.length (Mem.ints L)) ∧ Below w.heap.size w w') := by
  by_cases hn : Mt.newE b r b2 r2 = 0
  · cases ht : Tr.ok l
    · exact ⟨[], 131, by simp, fun A cap w hA => (Run_trace b r b2 r2 A l cap w hA hl hn ht).mono fun e w' ⟨h1, h2⟩ => ⟨⟨_, h1, World.ownsRow_nil _ _ _ _⟩, h2⟩, fun A cap w hA => (ref_Run_trace b r b2 r2 A l cap w hA hl hn ht).mono fun e w' ⟨h1, h2⟩ => ⟨⟨_, h1, World.ownsRow_nil _ _ _ _⟩, h2⟩⟩
    · have hc : Tr.chk l = 0 := by unfold Tr.chk; rw [ht]; rfl
      have hof := Tr.chk_ok hc
      obtain ⟨o1, o2, _⟩ := Mt.new_zero hn
      have hr := Mt.run_ref (b := b) (b2 := b2) (show 0 ≤ r by omega) (show 0 ≤ r2 by omega) l hof
      have hlen := Mt.run_length b r b2 r2 l
      refine ⟨Mt.run b r b2 r2 l, 0, by omega, fun A cap w hA => (Run_good b r b2 r2 A l cap w hA hl hn hc).mono fun e w' ⟨⟨v, h1, h3⟩, h2⟩ => ⟨⟨v, h1, by rw [hlen]; exact h3⟩, h2⟩, fun A cap w hA => (ref_Run_good b r b2 r2 A l cap w hA hl hn ht).mono fun e w' ⟨⟨v, h1, h3⟩, h2⟩ => ⟨⟨v, h1, by rw [hlen, hr]; exact h3⟩, h2⟩⟩
  · exact ⟨[], _, by simp, fun A cap w hA => (Run_new b r b2 r2 A l cap hn w).mono fun e w' ⟨h1, h2⟩ => ⟨⟨_, h1, World.ownsRow_nil _ _ _ _⟩, h2⟩, fun A cap w hA => (ref_Run_new b r b2 r2 A l cap hn w).mono fun e w' ⟨h1, h2⟩ => ⟨⟨_, h1, World.ownsRow_nil _ _ _ _⟩, h2⟩⟩
end MtW
end Go.Proofs.Ytgpknoakkkkapaa
