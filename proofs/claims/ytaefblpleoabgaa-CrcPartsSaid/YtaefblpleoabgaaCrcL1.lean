/- CrcSums: the walk of the law. -/
import Derived.Test.YtaefblpleoabgaaCrcK
namespace Go.Proofs.Ytaefblpleoabgaa
open Go.RowKit
namespace CrcW
theorem le_max {n k : Nat} (h : n ≤ k) (hk : k ≤ 1000000000) : n ≤ maxLen := by unfold maxLen; omega
set_option maxHeartbeats 1000000 in
theorem law_Sums (s : ByteArray) (hs : s.size ≤ maxLen) (c : Nat) (hc : c < 4294967296) (w : World) :
    Calls Try.prog 3 #[.string s, .int .u32 c] w fun e w' => e = .returned (.bool true) ∧ Below w.heap.size w w' := by
  unfold maxLen at hs
  have hb := Below.refl w.heap.size w
  go_enter Try.func3, Try.ntmps3
  go_wp2_with fail
  · have ht : (s.extract 0 100).size ≤ 100 := by rw [ByteArray.size_extract]; omega
    generalize s.extract 0 100 = t at *
    refine (carry hb (Of_any t (le_max ht (by omega)) _)).mono ?_
    clear hb
    rintro e w1 ⟨rfl, hb⟩
    go_wp2_with fail
    refine (carry0 hb (ref_Of t (le_max ht (by omega)) _)).mono ?_
    clear hb
    rintro e w1 ⟨rfl, hb⟩
    go_wp2_with fail
    refine (carry hb (Extend_any c hc t (le_max ht (by omega)) _)).mono ?_
    clear hb
    rintro e w1 ⟨rfl, hb⟩
    go_wp2_with fail
    refine (carry0 hb (ref_Extend c hc t (le_max ht (by omega)) _)).mono ?_
    clear hb
    rintro e w1 ⟨rfl, hb⟩
    go_wp2_with fail
    refine (carry hb (Octets_any c hc _)).mono ?_
    clear hb
    rintro e w1 ⟨rfl, hb⟩
    go_wp2_with fail
    refine (carry hb (ref_Octets c hc _)).mono ?_
    clear hb
    rintro e w1 ⟨rfl, hb⟩
    go_wp2_with fail
    refine (carry hb (Seal_any t (le_max (k := 104) (by omega) (by omega)) _)).mono ?_
    clear hb
    rintro e w1 ⟨rfl, hb⟩
    go_wp2_with fail
    refine (carry hb (ref_Seal t (le_max (k := 104) (by omega) (by omega)) _)).mono ?_
    clear hb
    rintro e w1 ⟨rfl, hb⟩
    go_wp2_with fail
    refine (carry hb (Mark_any t (le_max (k := 104) (by omega) (by omega)) _)).mono ?_
    clear hb
    rintro e w1 ⟨rfl, hb⟩
    go_wp2_with fail
    refine (carry hb (ref_Mark t (le_max (k := 104) (by omega) (by omega)) _)).mono ?_
    clear hb
    rintro e w1 ⟨rfl, hb⟩
    go_wp2_with fail
    refine (carry hb (works_any _)).mono ?_
    clear hb
    rintro e w1 ⟨rfl, hb⟩
    go_wp2_with fail
    go_ret
    exact ⟨rfl, hb⟩
  · have ht : s.size ≤ 100 := by omega
    generalize s = t at *
    refine (carry hb (Of_any t (le_max ht (by omega)) _)).mono ?_
    clear hb
    rintro e w1 ⟨rfl, hb⟩
    go_wp2_with fail
    refine (carry0 hb (ref_Of t (le_max ht (by omega)) _)).mono ?_
    clear hb
    rintro e w1 ⟨rfl, hb⟩
    go_wp2_with fail
    refine (carry hb (Extend_any c hc t (le_max ht (by omega)) _)).mono ?_
    clear hb
    rintro e w1 ⟨rfl, hb⟩
    go_wp2_with fail
    refine (carry0 hb (ref_Extend c hc t (le_max ht (by omega)) _)).mono ?_
    clear hb
    rintro e w1 ⟨rfl, hb⟩
    go_wp2_with fail
    refine (carry hb (Octets_any c hc _)).mono ?_
    clear hb
    rintro e w1 ⟨rfl, hb⟩
    go_wp2_with fail
    refine (carry hb (ref_Octets c hc _)).mono ?_
    clear hb
    rintro e w1 ⟨rfl, hb⟩
    go_wp2_with fail
    refine (carry hb (Seal_any t (le_max (k := 104) (by omega) (by omega)) _)).mono ?_
    clear hb
    rintro e w1 ⟨rfl, hb⟩
    go_wp2_with fail
    refine (carry hb (ref_Seal t (le_max (k := 104) (by omega) (by omega)) _)).mono ?_
    clear hb
    rintro e w1 ⟨rfl, hb⟩
    go_wp2_with fail
    refine (carry hb (Mark_any t (le_max (k := 104) (by omega) (by omega)) _)).mono ?_
    clear hb
    rintro e w1 ⟨rfl, hb⟩
    go_wp2_with fail
    refine (carry hb (ref_Mark t (le_max (k := 104) (by omega) (by omega)) _)).mono ?_
    clear hb
    rintro e w1 ⟨rfl, hb⟩
    go_wp2_with fail
    refine (carry hb (works_any _)).mono ?_
    clear hb
    rintro e w1 ⟨rfl, hb⟩
    go_wp2_with fail
    go_ret
    exact ⟨rfl, hb⟩
end CrcW
end Go.Proofs.Ytaefblpleoabgaa
