/- WireBack: the walk of the law. -/
import Derived.Test.YtchfckehobenkaaWireL1
import Derived.Test.YtchfckehobenkaaWireB
import Derived.BigRegion
namespace Go.Proofs.Ytchfckehobenkaa
open Go.RowKit
namespace WireW
theorem put_in {s : List UInt8} {m k : Int} {K : Nat} (hk : k = K) (k1 : 1 ≤ K) (k2 : K ≤ 7) (h1 : 0 ≤ m) (h2 : m < Wire.pw K) : Wire.putE m k = 0 ∧ Wire.putL s m k = s ++ Wire.digs m K := by
  subst hk
  have e : Wire.putE m K = 0 := by
    unfold Wire.putE; rw [if_neg (by omega), if_neg (by rw [Int.toNat_natCast]; omega)]
  exact ⟨e, by unfold Wire.putL; rw [if_pos e, Int.toNat_natCast]⟩
theorem putS_in {s : List UInt8} {m k : Int} {K : Nat} (hk : k = K) (k1 : 1 ≤ K) (k2 : K ≤ 8) (h1 : -(Wire.pw K / 2) ≤ m) (h2 : m < Wire.pw K / 2) : Wire.putSE m k = 0 ∧ Wire.putSL s m k = s ++ Wire.digs m K := by
  subst hk
  have e : Wire.putSE m K = 0 := by
    unfold Wire.putSE; rw [if_neg (by omega), if_neg (by rw [Int.toNat_natCast]; omega)]
  exact ⟨e, by unfold Wire.putSL; rw [if_pos e, Int.toNat_natCast]⟩
theorem has_in {len a k : Int} (h : a + k ≤ len) (h2 : 0 ≤ k) : Wire.has len a k = true := by
  unfold Wire.has; rw [decide_eq_true (by omega), decide_eq_true (by omega)]; rfl
theorem get_in {s b : List UInt8} {m a k n : Int} {K : Nat} (hn : n = s.length + K + b.length) (ha : a = s.length) (hk : k = K) (k1 : 1 ≤ K) (k2 : K ≤ 7) (h1 : 0 ≤ m) (h2 : m < Wire.pw K) : Wire.getE n a k = 0 ∧ Wire.getN (s ++ Wire.digs m K ++ b) a k = m := by
  subst hk ha hn
  have e : ∀ n : Int, n = s.length + K + b.length → Wire.getE n s.length K = 0 := fun n hn => by
    unfold Wire.getE; rw [if_neg (by omega), has_in (by omega) (by omega)]; rfl
  refine ⟨e _ rfl, ?_⟩
  unfold Wire.getN
  rw [if_pos (e _ (by simp [Wire.digs_length]; omega)), Wire.fld_mid' _ _ _ _ _ (by omega) (by rw [Wire.digs_length]), Wire.num_digs h1 h2]
theorem getS_in {s b : List UInt8} {m a k n : Int} {K : Nat} (hn : n = s.length + K + b.length) (ha : a = s.length) (hk : k = K) (k1 : 1 ≤ K) (k2 : K ≤ 8) (h1 : -(Wire.pw K / 2) ≤ m) (h2 : m < Wire.pw K / 2) : Wire.getSE n a k = 0 ∧ Wire.getSN (s ++ Wire.digs m K ++ b) a k = m := by
  subst hk ha hn
  have e : ∀ n : Int, n = s.length + K + b.length → Wire.getSE n s.length K = 0 := fun n hn => by
    unfold Wire.getSE; rw [if_neg (by omega), has_in (by omega) (by omega)]; rfl
  refine ⟨e _ rfl, ?_⟩
  obtain ⟨K', rfl⟩ : ∃ K', K = K' + 1 := ⟨K - 1, by omega⟩
  unfold Wire.getSN
  rw [if_pos (e _ (by simp [Wire.digs_length]; omega)), Wire.fld_mid' _ _ _ _ _ (by omega) (by rw [Wire.digs_length]), Wire.numS_digs h1 h2]
theorem fld_in {s d b : List UInt8} {a k n : Int} (hn : n = s.length + d.length + b.length) (ha : a = s.length) (hk : k = d.length) : Wire.fieldE n a k = 0 ∧ Wire.fieldL (s ++ d ++ b) a k = d := by
  subst hk ha hn
  have e : ∀ n : Int, n = s.length + d.length + b.length → Wire.fieldE n s.length d.length = 0 := fun n hn => by
    unfold Wire.fieldE; rw [if_neg (by omega), has_in (by omega) (by omega)]; rfl
  refine ⟨e _ rfl, ?_⟩
  unfold Wire.fieldL
  rw [if_pos (e _ (by simp; omega)), Wire.fld_mid' _ _ _ _ _ (by omega) (by omega)]
/-- What the law calls, closed, at one number of octets. -/
structure Back (s b t u v tb ub vb d : ByteArray) (n m sm k : Int) : Prop where
  s1 : s.size ≤ 1000
  c1 : ∀ W, Calls Try.prog 8 #[.string s, .int .i64 m, .int .i64 k] W fun e w' => e = .returned (.tuple #[.string t, .int .i64 0]) ∧ Below W.heap.size W w'
  c2 : ∀ W, Calls Try.prog 10 #[.string s, .int .i64 n, .int .i64 8] W fun e w' => e = .returned (.tuple #[.string u, .int .i64 0]) ∧ Below W.heap.size W w'
  c3 : ∀ W, Calls Try.prog 10 #[.string s, .int .i64 sm, .int .i64 k] W fun e w' => e = .returned (.tuple #[.string v, .int .i64 0]) ∧ Below W.heap.size W w'
  c4 : ∀ W, Calls Try.prog 15 #[.string ub, .int .i64 s.size, .int .i64 8] W fun e w' => e = .returned (.tuple #[.int .i64 n, .int .i64 0]) ∧ W = w'
  c5 : ∀ W, Calls Try.prog 15 #[.string vb, .int .i64 s.size, .int .i64 k] W fun e w' => e = .returned (.tuple #[.int .i64 sm, .int .i64 0]) ∧ W = w'
  c6 : ∀ W, Calls Try.prog 19 #[.string tb, .int .i64 s.size, .int .i64 k, .int .i64 m] W fun e w' => e = .returned (.bool true) ∧ W = w'
  c7 : ∀ W, Calls Try.prog 20 #[.string tb, .int .i64 s.size, .int .i64 k, .string d, .int .i64 0] W fun e w' => e = .returned (.bool true) ∧ W = w'
  c8 : ∀ W, Calls Try.prog 20 #[.string tb, .int .i64 0, .int .i64 s.size, .string s, .int .i64 0] W fun e w' => e = .returned (.bool true) ∧ W = w'
  lt : (t.size : Int) = s.size + k
  lu : (u.size : Int) = s.size + 8
  lv : (v.size : Int) = s.size + k
  et : t ++ b = tb
  eu : u ++ b = ub
  ev : v ++ b = vb
  ed : t.extract s.size t.size = d
theorem back (s b : ByteArray) (hs : s.size ≤ 20) (hb : b.size ≤ 20) (n m sm : Int) (K : Nat) (k1 : 1 ≤ K) (k2 : K ≤ 7) (n1 : -9223372036854775808 ≤ n) (n2 : n ≤ 9223372036854775807) (h1 : 0 ≤ m) (h2 : m < Wire.pw K) (h3 : -(Wire.pw K / 2) ≤ sm) (h4 : sm < Wire.pw K / 2) :
    ∃ t u v tb ub vb d, Back s b t u v tb ub vb d n m sm K := by
  have hp := Wire.pw_le k2
  have hp1 := Wire.pw_pos K
  have e8 : Wire.pw 8 = 18446744073709551616 := by decide
  have P := put_in (s := s.data.toList) (m := m) (k := K) rfl k1 k2 h1 h2
  have Q := putS_in (s := s.data.toList) (m := n) (k := 8) (K := 8) rfl (by omega) (by omega) (by rw [e8]; omega) (by rw [e8]; omega)
  have R := putS_in (s := s.data.toList) (m := sm) (k := K) rfl k1 (by omega) h3 h4
  have L := size_list s
  have L' := size_list b
  have dl : ∀ a j, (Wire.digs a j).length = j := Wire.digs_length
  have app : ∀ l, S (s.data.toList ++ l) ++ b = S (s.data.toList ++ l ++ b.data.toList) := fun l => by
    conv => lhs; rw [← S_list b]
    rw [S_append]
  have sz : ∀ a j, j ≤ 8 → (S (s.data.toList ++ Wire.digs a j ++ b.data.toList)).size ≤ 1000 := fun a j hj => by
    rw [S_size, List.length_append, List.length_append, dl, L, L']; omega
  have szi : ∀ a j, ((S (s.data.toList ++ Wire.digs a j ++ b.data.toList)).size : Int) = s.data.toList.length + j + b.data.toList.length := fun a j => by
    rw [S_size, List.length_append, List.length_append, dl]; omega
  have F := fld_in (s := s.data.toList) (d := Wire.digs m K) (b := b.data.toList) (a := s.size) (k := K) (n := (S (s.data.toList ++ Wire.digs m K ++ b.data.toList)).size) (by rw [szi, dl]) (by rw [L]) (by rw [dl])
  have G : Wire.fieldE (S (s.data.toList ++ Wire.digs m K ++ b.data.toList)).size 0 s.size = 0 ∧ Wire.fieldL (s.data.toList ++ Wire.digs m K ++ b.data.toList) 0 s.size = s.data.toList := by
    have := fld_in (s := []) (d := s.data.toList) (b := Wire.digs m K ++ b.data.toList) (a := 0) (k := s.size) (n := (S (s.data.toList ++ Wire.digs m K ++ b.data.toList)).size) (by rw [szi, List.length_append, dl]; simp; omega) rfl (by rw [L])
    simpa [List.append_assoc] using this
  refine ⟨S (s.data.toList ++ Wire.digs m K), S (s.data.toList ++ Wire.digs n 8), S (s.data.toList ++ Wire.digs sm K), S (s.data.toList ++ Wire.digs m K ++ b.data.toList), S (s.data.toList ++ Wire.digs n 8 ++ b.data.toList), S (s.data.toList ++ Wire.digs sm K ++ b.data.toList), S (Wire.digs m K), ?_⟩
  have g1 := get_in (s := s.data.toList) (b := b.data.toList) (m := m) (a := s.size) (k := K) (n := (S (s.data.toList ++ Wire.digs m K ++ b.data.toList)).size) (szi _ _) (by rw [L]) rfl k1 k2 h1 h2
  have g2 := getS_in (s := s.data.toList) (b := b.data.toList) (m := n) (a := s.size) (k := 8) (K := 8) (n := (S (s.data.toList ++ Wire.digs n 8 ++ b.data.toList)).size) (szi _ _) (by rw [L]) rfl (by omega) (by omega) (by rw [e8]; omega) (by rw [e8]; omega)
  have g3 := getS_in (s := s.data.toList) (b := b.data.toList) (m := sm) (a := s.size) (k := K) (n := (S (s.data.toList ++ Wire.digs sm K ++ b.data.toList)).size) (szi _ _) (by rw [L]) rfl k1 (by omega) h3 h4
  exact {
    s1 := by omega
    c1 := fun W => Put_eq s _ 0 (by omega) m K (by omega) (by omega) (by rw [S_data]; exact P.2) P.1 W
    c2 := fun W => PutSigned_eq s _ 0 (by omega) n 8 (by omega) (by omega) (by rw [S_data]; exact Q.2) Q.1 W
    c3 := fun W => PutSigned_eq s _ 0 (by omega) sm K (by omega) (by omega) (by rw [S_data]; exact R.2) R.1 W
    c4 := fun W => GetSigned_eq _ n 0 (sz _ _ (by omega)) s.size 8 (by omega) (by omega) (by omega) (by omega) (by rw [S_data]; exact g2.2) g2.1 W
    c5 := fun W => GetSigned_eq _ sm 0 (sz _ _ (by omega)) s.size K (by omega) (by omega) (by omega) (by omega) (by rw [S_data]; exact g3.2) g3.1 W
    c6 := fun W => gets_yes _ (sz _ _ (by omega)) s.size K m (by omega) (by omega) (by omega) (by omega) (by rw [S_data]; exact g1.2) g1.1 W
    c7 := fun W => field_yes _ _ (sz _ _ (by omega)) s.size K 0 (by omega) (by omega) (by omega) (by omega) (by rw [S_data, S_data]; exact F.2) F.1 W
    c8 := fun W => field_yes _ _ (sz _ _ (by omega)) 0 s.size 0 (by omega) (by omega) (by omega) (by omega) (by rw [S_data]; exact G.2) G.1 W
    lt := by rw [S_size, List.length_append, dl, L]; omega
    lu := by rw [S_size, List.length_append, dl, L]; omega
    lv := by rw [S_size, List.length_append, dl, L]; omega
    et := app _
    eu := app _
    ev := app _
    ed := by
      apply ByteArray.ext
      rw [ByteArray.data_extract, S_size, ← L]
      show (List.toArray _).extract _ _ = List.toArray _
      rw [List.extract_toArray]
      simp [dl]
      exact List.take_of_length_le (by rw [dl]; omega) }
end WireW
end Go.Proofs.Ytchfckehobenkaa
