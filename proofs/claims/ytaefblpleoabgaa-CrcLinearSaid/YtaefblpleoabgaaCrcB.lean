/- Plain mathematics of the CRC: bursts, pairs, linearity. -/
import Derived.Test.YtaefblpleoabgaaCrcA
namespace Go.Proofs.Ytaefblpleoabgaa
namespace Crc
theorem flip_length (l : List UInt8) (k pat : Nat) : (flip l k pat).length = l.length := flips_length l k pat 32
theorem reg_flip {l : List UInt8} {k pat : Nat} (hp : pat < 4294967296) (hk : k ≤ 8 * l.length) :
    reg F (flip l k pat) = reg F l ^^^ MN (8 * l.length - k) (pat % 2 ^ (8 * l.length - k)) := by
  rw [reg_eq, reg_eq, flip_length, num_flip hp hk, ← Nat.xor_assoc, MN_xor, MN_mul hk]
theorem burst {l : List UInt8} {k pat : Nat} (hp : pat < 4294967296) (hk : k ≤ 8 * l.length) (h : reg F (flip l k pat) = reg F l) : flip l k pat = l := by
  rw [reg_flip hp hk] at h
  have h1 : MN (8 * l.length - k) (pat % 2 ^ (8 * l.length - k)) = 0 := by
    have := congrArg (fun x => reg F l ^^^ x) h
    simp only [xor_cancel, Nat.xor_self] at this
    exact this
  have h2 := MN_eq_zero (Nat.lt_of_le_of_lt (Nat.mod_le _ _) hp) h1
  apply num_inj (flip_length _ _ _)
  rw [num_flip hp hk, h2, Nat.mul_zero, Nat.xor_zero]
theorem burst_good {l : List UInt8} {k pat : Nat} (hp : pat < 4294967296) (hk : k ≤ 8 * l.length) (hg : good l = true) (hne : flip l k pat ≠ l) : good (flip l k pat) = false := by
  rw [Bool.eq_false_iff]; intro h
  exact hne (burst hp hk (((good_iff _).1 h).2.trans ((good_iff _).1 hg).2.symm))
theorem burst_marked {l : List UInt8} {k pat : Nat} (hp : pat < 4294967296) (hk : k ≤ 8 * l.length) (hg : marked l = true) (hne : flip l k pat ≠ l) : marked (flip l k pat) = false := by
  rw [Bool.eq_false_iff]; intro h
  exact hne (burst hp hk (((marked_iff _).1 h).2.trans ((marked_iff _).1 hg).2.symm))
/-- The first n values from c on are not 1. -/
def orbit : Nat → Nat → Bool
  | 0, _ => true
  | n + 1, c => (c != 1) && orbit n (M c)
theorem orbit_ne (n : Nat) : ∀ c, orbit n c = true → ∀ j, j < n → MN j c ≠ 1 := by
  induction n with
  | zero => intro c _ j hj; omega
  | succ n ih =>
    intro c h j hj
    rw [orbit, Bool.and_eq_true] at h
    cases j with
    | zero => simpa [MN] using h.1
    | succ j => rw [MN_succ']; exact ih _ h.2 j (by omega)
set_option maxRecDepth 100000 in
theorem orbit_1700 : orbit 1700 (M 1) = true := by decide +kernel
theorem period {j : Nat} (h1 : 1 ≤ j) (h2 : j ≤ 1700) : MN j 1 ≠ 1 := by
  obtain ⟨i, rfl⟩ : ∃ i, j = i + 1 := ⟨j - 1, by omega⟩
  rw [MN_succ']; exact orbit_ne 1700 _ orbit_1700 i (by omega)
theorem one_mod {n : Nat} (h : 1 ≤ n) : 1 % 2 ^ n = 1 := by
  apply Nat.mod_eq_of_lt
  have : 2 ^ 1 ≤ 2 ^ n := Nat.pow_le_pow_right (by omega) h
  omega
theorem reg_flip_one {l : List UInt8} {k : Nat} (hk : k < 8 * l.length) : reg F (flip l k 1) = reg F l ^^^ MN (8 * l.length - k) 1 := by
  rw [reg_flip (by omega) (by omega), one_mod (by omega)]
theorem single {l : List UInt8} {k : Nat} (hk : k < 8 * l.length) (hg : good l = true) : good (flip l k 1) = false := by
  rw [Bool.eq_false_iff]; intro h
  have h1 := ((good_iff _).1 h).2.trans ((good_iff _).1 hg).2.symm
  rw [reg_flip_one hk] at h1
  have h2 := congrArg (fun x => reg F l ^^^ x) h1
  simp only [xor_cancel, Nat.xor_self] at h2
  have := MN_eq_zero (by omega) h2
  omega
theorem pair_same {l : List UInt8} {a : Nat} (ha : a < 8 * l.length) : flip (flip l a 1) a 1 = l := by
  apply num_inj (by rw [flip_length, flip_length])
  rw [num_flip (by omega) (by rw [flip_length]; omega), num_flip (by omega) (by omega), flip_length, Nat.xor_assoc, Nat.xor_self, Nat.xor_zero]
theorem pair_ne {m a b : Nat} (hm : m ≤ 1700) (hb : b < m) (hab : a < b) : MN (m - a) 1 ≠ MN (m - b) 1 := by
  intro h
  have e : m - a = (m - b) + (b - a) := by omega
  rw [e, MN_add] at h
  exact period (by omega) (by omega) (MN_inj (MN_lt _ (by omega)) (by omega) h)
theorem pair {l : List UInt8} {a b : Nat} (hl : l.length ≤ 204) (ha : a < 8 * l.length) (hb : b < 8 * l.length) (hg : good l = true) : good (flip (flip l a 1) b 1) = decide (a = b) := by
  by_cases e : a = b
  · subst e; rw [pair_same ha, hg]; simp
  · rw [decide_eq_false e, Bool.eq_false_iff]; intro h
    have h1 := ((good_iff _).1 h).2.trans ((good_iff _).1 hg).2.symm
    rw [reg_flip_one (by rw [flip_length]; exact hb), reg_flip_one ha, flip_length, Nat.xor_assoc] at h1
    have h2 := congrArg (fun x => reg F l ^^^ x) h1
    simp only [xor_cancel, Nat.xor_self] at h2
    have h3 := xor_eq_zero h2
    rcases Nat.lt_or_gt_of_ne e with h4 | h4
    · exact pair_ne (by omega) hb h4 h3
    · exact pair_ne (by omega) ha h4 h3.symm

def xor3 : List UInt8 → List UInt8 → List UInt8 → List UInt8
  | a :: as, b :: bs, c :: cs => (a ^^^ b ^^^ c) :: xor3 as bs cs
  | _, _, _ => []
theorem mul_xor (x y : Nat) : 256 * (x ^^^ y) = (256 * x) ^^^ (256 * y) := by
  have h : ∀ z : Nat, 256 * z = z <<< 8 := fun z => by rw [Nat.shiftLeft_eq]; omega
  rw [h, h, h, Nat.shiftLeft_xor_distrib]
theorem num_xor3 : ∀ (a b c : List UInt8), a.length = b.length → a.length = c.length → num (xor3 a b c) = num a ^^^ num b ^^^ num c
  | [], [], [], _, _ => by simp [xor3, num]
  | a :: as, b :: bs, c :: cs, h1, h2 => by
    have ih := num_xor3 as bs cs (by simpa using h1) (by simpa using h2)
    rw [xor3, num, num, num, num, ih, add_eq_xor _ (byte_lt _), add_eq_xor _ (byte_lt _), add_eq_xor _ (byte_lt _), add_eq_xor _ (byte_lt _), mul_xor, mul_xor, UInt8.toNat_xor, UInt8.toNat_xor]
    generalize a.toNat = p; generalize b.toNat = q; generalize c.toNat = r
    generalize 256 * num as = x; generalize 256 * num bs = y; generalize 256 * num cs = z
    apply Nat.eq_of_testBit_eq; intro i
    simp only [Nat.testBit_xor]
    generalize p.testBit i = p'; generalize q.testBit i = q'; generalize r.testBit i = r'; generalize x.testBit i = x'; generalize y.testBit i = y'; generalize z.testBit i = z'
    revert p' q' r' x' y' z'; decide
  | [], _ :: _, _, h, _ => by simp at h
  | _ :: _, [], _, h, _ => by simp at h
  | [], [], _ :: _, _, h => by simp at h
  | _ :: _, _ :: _, [], _, h => by simp at h
theorem xor3_length : ∀ (a b c : List UInt8), a.length = b.length → a.length = c.length → (xor3 a b c).length = a.length
  | [], [], [], _, _ => rfl
  | _ :: as, _ :: bs, _ :: cs, h1, h2 => by rw [xor3, List.length_cons, List.length_cons, xor3_length as bs cs (by simpa using h1) (by simpa using h2)]
  | [], _ :: _, _, h, _ => by simp at h
  | _ :: _, [], _, h, _ => by simp at h
  | [], [], _ :: _, _, h => by simp at h
  | _ :: _, _ :: _, [], _, h => by simp at h
theorem crc_linear (a b c : List UInt8) (h1 : a.length = b.length) (h2 : a.length = c.length) : crc (xor3 a b c) = crc a ^^^ crc b ^^^ crc c := by
  unfold crc ext
  rw [Nat.zero_xor, reg_eq, reg_eq, reg_eq, reg_eq, xor3_length a b c h1 h2, num_xor3 a b c h1 h2, ← h1, ← h2]
  generalize 8 * a.length = n
  rw [MN_xor, MN_xor, MN_xor, MN_xor, MN_xor, MN_xor]
  generalize MN n F = f; generalize MN n (num a) = x; generalize MN n (num b) = y; generalize MN n (num c) = z
  generalize F = g
  apply Nat.eq_of_testBit_eq; intro i
  simp only [Nat.testBit_xor]
  generalize f.testBit i = p'; generalize g.testBit i = q'; generalize x.testBit i = x'; generalize y.testBit i = y'; generalize z.testBit i = z'
  revert p' q' x' y' z'; decide
theorem xor3_get : ∀ (a b c : List UInt8) (i : Nat), i < a.length → a.length = b.length → a.length = c.length → (xor3 a b c)[i]? = some (a.getD i 0 ^^^ b.getD i 0 ^^^ c.getD i 0)
  | a :: as, b :: bs, c :: cs, 0, _, _, _ => rfl
  | a :: as, b :: bs, c :: cs, i + 1, h, h1, h2 => by
    rw [xor3, List.getElem?_cons_succ, xor3_get as bs cs i (by simpa using h) (by simpa using h1) (by simpa using h2)]; rfl
  | [], _, _, _, h, _, _ => by simp at h
  | _ :: _, [], _, _, _, h, _ => by simp at h
  | _ :: _, _ :: _, [], _, _, _, h => by simp at h
theorem crc_seal (l : List UInt8) : crc (seald l) = 558161692 := by
  have h := ((good_iff _).1 (good_seal l)).2
  unfold crc ext
  rw [Nat.zero_xor, h]; decide
end Crc
end Go.Proofs.Ytaefblpleoabgaa
