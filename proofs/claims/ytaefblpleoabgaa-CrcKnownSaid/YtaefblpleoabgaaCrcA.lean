/- Plain mathematics of the CRC-32 register: no program in sight. -/
namespace Go.Proofs.Ytaefblpleoabgaa
namespace Crc

def P : Nat := 3988292384
def M (c : Nat) : Nat := if c % 2 = 1 then (c / 2) ^^^ P else c / 2
def MN : Nat → Nat → Nat
  | 0, c => c
  | n + 1, c => M (MN n c)

theorem xor_left_comm (a b c : Nat) : a ^^^ (b ^^^ c) = b ^^^ (a ^^^ c) := by
  rw [← Nat.xor_assoc, Nat.xor_comm a b, Nat.xor_assoc]
theorem xor_cancel (a b : Nat) : a ^^^ (a ^^^ b) = b := by rw [← Nat.xor_assoc, Nat.xor_self, Nat.zero_xor]
theorem xor_eq_zero {a b : Nat} (h : a ^^^ b = 0) : a = b := by
  have := xor_cancel a b
  rw [h, Nat.xor_zero] at this; exact this
theorem xor_mod2 (a b : Nat) : (a ^^^ b) % 2 = (a % 2) ^^^ (b % 2) := by
  have := @Nat.xor_mod_two_pow a b 1
  simpa using this
theorem xor_lt {a b : Nat} (ha : a < 4294967296) (hb : b < 4294967296) : a ^^^ b < 4294967296 := Nat.xor_lt_two_pow (n := 32) ha hb

theorem M_lt {c : Nat} (h : c < 4294967296) : M c < 4294967296 := by
  unfold M P; split
  · exact xor_lt (by omega) (by omega)
  · omega
theorem M_zero : M 0 = 0 := rfl
theorem M_xor (a b : Nat) : M (a ^^^ b) = M a ^^^ M b := by
  unfold M
  rw [xor_mod2, Nat.xor_div_two]
  rcases Nat.mod_two_eq_zero_or_one a with ha | ha <;> rcases Nat.mod_two_eq_zero_or_one b with hb | hb <;> simp [ha, hb]
  · rw [Nat.xor_assoc]
  · rw [Nat.xor_assoc, Nat.xor_assoc, Nat.xor_comm P]
  · rw [Nat.xor_assoc (a / 2), xor_left_comm P, Nat.xor_self, Nat.xor_zero]
theorem M_eq_zero {c : Nat} (h : c < 4294967296) (h0 : M c = 0) : c = 0 := by
  unfold M at h0
  split at h0
  · have hc : c / 2 = P := xor_eq_zero h0
    unfold P at hc; omega
  · omega
theorem MN_lt (n : Nat) {c : Nat} (h : c < 4294967296) : MN n c < 4294967296 := by
  induction n with
  | zero => exact h
  | succ n ih => exact M_lt ih
theorem MN_zero (n : Nat) : MN n 0 = 0 := by
  induction n with
  | zero => rfl
  | succ n ih => rw [MN, ih, M_zero]
theorem MN_xor (n a b : Nat) : MN n (a ^^^ b) = MN n a ^^^ MN n b := by
  induction n with
  | zero => rfl
  | succ n ih => rw [MN, MN, MN, ih, M_xor]
theorem MN_eq_zero {n c : Nat} (h : c < 4294967296) (h0 : MN n c = 0) : c = 0 := by
  induction n with
  | zero => exact h0
  | succ n ih => exact ih (M_eq_zero (MN_lt n h) h0)
theorem MN_inj {n a b : Nat} (ha : a < 4294967296) (hb : b < 4294967296) (h : MN n a = MN n b) : a = b := by
  apply xor_eq_zero
  apply MN_eq_zero (n := n) (xor_lt ha hb)
  rw [MN_xor, h, Nat.xor_self]
theorem MN_add (m n c : Nat) : MN (m + n) c = MN m (MN n c) := by
  induction m with
  | zero => simp [MN]
  | succ m ih => rw [Nat.succ_add, MN, MN, ih]
theorem MN_succ' (n c : Nat) : MN (n + 1) c = MN n (M c) := by rw [MN_add n 1]; rfl

/-- One round of the bitwise loop: bit j of x. -/
def rnd (x j c : Nat) : Nat := if (c ^^^ (x / 2 ^ j)) % 2 = 1 then (c / 2) ^^^ P else c / 2
def inner (x : Nat) : Nat → Nat → Nat
  | 0, c => c
  | j + 1, c => rnd x j (inner x j c)
theorem rnd_lt {x j c : Nat} (h : c < 4294967296) : rnd x j c < 4294967296 := by
  unfold rnd P; split
  · exact xor_lt (by omega) (by omega)
  · omega
theorem inner_lt (x j : Nat) {c : Nat} (h : c < 4294967296) : inner x j c < 4294967296 := by
  induction j with
  | zero => exact h
  | succ j ih => exact rnd_lt ih
theorem inner_eq (x j c : Nat) : inner x j c ^^^ (x / 2 ^ j) = MN j (c ^^^ x) := by
  induction j with
  | zero => simp [inner, MN]
  | succ j ih =>
    have e : x / 2 ^ (j + 1) = x / 2 ^ j / 2 := by rw [Nat.pow_succ, Nat.div_div_eq_div_mul]
    rw [MN, ← ih, inner, e]
    generalize inner x j c = d
    unfold rnd M
    generalize x / 2 ^ j = y
    rw [Nat.xor_div_two]
    split
    · rw [Nat.xor_assoc, Nat.xor_comm P, Nat.xor_assoc]
    · rfl
theorem inner_8 {x : Nat} (c : Nat) (hx : x < 256) : inner x 8 c = MN 8 (c ^^^ x) := by
  have e := inner_eq x 8 c
  have z : x / 2 ^ 8 = 0 := Nat.div_eq_of_lt hx
  rw [z, Nat.xor_zero] at e
  exact e

/-- The register over a string. -/
def reg (c : Nat) (l : List UInt8) : Nat := l.foldl (fun c b => MN 8 (c ^^^ b.toNat)) c
theorem reg_nil (c : Nat) : reg c [] = c := by simp only [reg, List.foldl_nil]
theorem reg_cons (c : Nat) (b : UInt8) (l : List UInt8) : reg c (b :: l) = reg (MN 8 (c ^^^ b.toNat)) l := by simp only [reg, List.foldl_cons]
theorem reg_append (c : Nat) (a b : List UInt8) : reg c (a ++ b) = reg (reg c a) b := by simp only [reg, List.foldl_append]
theorem byte_lt (b : UInt8) : b.toNat < 256 := b.toNat_lt
theorem reg_lt {c : Nat} (h : c < 4294967296) (l : List UInt8) : reg c l < 4294967296 := by
  induction l generalizing c with
  | nil => exact h
  | cons b l ih =>
    have := byte_lt b
    exact ih (MN_lt 8 (xor_lt h (by omega)))
theorem reg_snoc (c : Nat) (l : List UInt8) (b : UInt8) : reg c (l ++ [b]) = MN 8 (reg c l ^^^ b.toNat) := by rw [reg_append, reg_cons, reg_nil]

/-- The number of a string: the first octet is the least. -/
def num : List UInt8 → Nat
  | [] => 0
  | b :: l => b.toNat + 256 * num l
theorem num_lt (l : List UInt8) : num l < 256 ^ l.length := by
  induction l with
  | nil => simp [num]
  | cons b l ih =>
    have := byte_lt b
    rw [num, List.length_cons, Nat.pow_succ]; omega
theorem num_append (a b : List UInt8) : num (a ++ b) = num a + 256 ^ a.length * num b := by
  induction a with
  | nil => simp [num]
  | cons x a ih =>
    rw [List.cons_append, num, ih, num, List.length_cons, Nat.pow_succ, Nat.mul_add, Nat.mul_comm (256 ^ a.length) 256, Nat.mul_assoc]; omega
theorem num_inj {a b : List UInt8} (hl : a.length = b.length) (h : num a = num b) : a = b := by
  induction a generalizing b with
  | nil => cases b with
    | nil => rfl
    | cons y b => simp at hl
  | cons x a ih => cases b with
    | nil => simp at hl
    | cons y b =>
      have hx := byte_lt x; have hy := byte_lt y
      rw [num, num] at h
      have h1 : x.toNat = y.toNat := by omega
      have h2 : num a = num b := by omega
      rw [UInt8.toNat_inj.mp h1, ih (by simpa using hl) h2]

theorem M_two (x : Nat) : M (2 * x) = x := by unfold M; rw [if_neg (by omega)]; omega
theorem MN_pow (k x : Nat) : MN k (2 ^ k * x) = x := by
  induction k with
  | zero => simp [MN]
  | succ k ih => rw [MN_succ', Nat.pow_succ, Nat.mul_comm (2 ^ k) 2, Nat.mul_assoc, M_two, ih]
theorem MN_mul {n k : Nat} (h : k ≤ n) (x : Nat) : MN n (2 ^ k * x) = MN (n - k) x := by
  have : n = (n - k) + k := by omega
  rw [this, MN_add, MN_pow]; congr 1; omega
theorem add_eq_xor {b : Nat} (n : Nat) (h : b < 256) : b + 256 * n = b ^^^ (256 * n) := by
  have h1 : 256 * n = n <<< 8 := by rw [Nat.shiftLeft_eq]; omega
  have h2 : b ^^^ n <<< 8 = n <<< 8 + b := by
    rw [Nat.shiftLeft_add_eq_or_of_lt (by omega)]
    apply Nat.eq_of_testBit_eq
    intro i
    rw [Nat.testBit_xor, Nat.testBit_or, Nat.testBit_shiftLeft]
    by_cases hi : i < 8
    · have : decide (i ≥ 8) = false := by simp; omega
      simp [this]
    · have hb : b.testBit i = false := Nat.testBit_lt_two_pow (Nat.lt_of_lt_of_le h (by
        have : 2 ^ 8 ≤ 2 ^ i := Nat.pow_le_pow_right (by omega) (by omega)
        simpa using this))
      simp [hb]
  rw [h1, h2]; omega
theorem MN8_byte {b : Nat} (c n : Nat) (h : b < 256) : MN 8 (c ^^^ (b + 256 * n)) = MN 8 (c ^^^ b) ^^^ n := by
  have := MN_pow 8 n
  rw [add_eq_xor n h, ← Nat.xor_assoc, MN_xor, this]
theorem reg_eq (c : Nat) (l : List UInt8) : reg c l = MN (8 * l.length) (c ^^^ num l) := by
  induction l generalizing c with
  | nil => simp [reg, MN, num]
  | cons b l ih =>
    rw [reg_cons, ih, List.length_cons, Nat.mul_succ, MN_add, num, MN8_byte _ _ (byte_lt b)]

/-- The octet step by the table. -/
theorem table_step (c b : Nat) : (c / 256) ^^^ MN 8 ((c % 256) ^^^ b) = MN 8 (c ^^^ b) := by
  have h1 : c = (c % 256) ^^^ (256 * (c / 256)) := by rw [← add_eq_xor _ (Nat.mod_lt _ (by omega))]; omega
  have h2 := MN_pow 8 (c / 256)
  have h3 : MN 8 (c ^^^ b) = MN 8 ((c % 256 ^^^ b) ^^^ (2 ^ 8 * (c / 256))) := by
    congr 1
    conv => lhs; rw [h1]
    rw [Nat.xor_assoc, Nat.xor_comm (256 * (c / 256)), ← Nat.xor_assoc]
  rw [h3, MN_xor 8 (c % 256 ^^^ b), h2, Nat.xor_comm]

def F : Nat := 4294967295
def ext (c : Nat) (l : List UInt8) : Nat := reg (c ^^^ F) l ^^^ F
def crc (l : List UInt8) : Nat := ext 0 l
def octets (c : Nat) : List UInt8 := [UInt8.ofNat (c % 256), UInt8.ofNat (c / 256 % 256), UInt8.ofNat (c / 65536 % 256), UInt8.ofNat (c / 16777216 % 256)]
def MK : Nat := 4294901760
def seald (l : List UInt8) : List UInt8 := l ++ octets (crc l)
def mark (l : List UInt8) : List UInt8 := l ++ octets (crc l ^^^ MK)
def ends (l : List UInt8) (m : Nat) : Bool := decide (4 ≤ l.length) && (l.drop (l.length - 4) == octets (crc (l.take (l.length - 4)) ^^^ m))
def good (l : List UInt8) : Bool := ends l 0
def marked (l : List UInt8) : Bool := ends l MK

theorem F_lt : F < 4294967296 := by decide
theorem MK_lt : MK < 4294967296 := by decide
theorem ext_lt {c : Nat} (h : c < 4294967296) (l : List UInt8) : ext c l < 4294967296 := xor_lt (reg_lt (xor_lt h F_lt) l) F_lt
theorem crc_lt (l : List UInt8) : crc l < 4294967296 := ext_lt (by decide) l
theorem octets_length (c : Nat) : (octets c).length = 4 := rfl
theorem ofNat_toNat {n : Nat} (h : n < 256) : (UInt8.ofNat n).toNat = n := by simp [UInt8.toNat_ofNat', Nat.mod_eq_of_lt h]
theorem num_octets {c : Nat} (h : c < 4294967296) : num (octets c) = c := by
  simp only [octets, num]
  rw [ofNat_toNat (by omega), ofNat_toNat (by omega), ofNat_toNat (by omega), ofNat_toNat (by omega)]; omega
theorem eq_octets {d : List UInt8} {e : Nat} (hd : d.length = 4) (he : e < 4294967296) : d = octets e ↔ num d = e :=
  ⟨fun h => by rw [h, num_octets he], fun h => num_inj (by rw [hd, octets_length]) (by rw [h, num_octets he])⟩
theorem num4_lt {d : List UInt8} (hd : d.length = 4) : num d < 4294967296 := by have := num_lt d; rw [hd] at this; simpa using this
theorem ext_append (c : Nat) (a b : List UInt8) : ext c (a ++ b) = ext (ext c a) b := by
  unfold ext; rw [reg_append, Nat.xor_assoc, Nat.xor_self, Nat.xor_zero]
theorem ext_nil (c : Nat) : ext c [] = c := by unfold ext; rw [reg_nil, Nat.xor_assoc, Nat.xor_self, Nat.xor_zero]

def RG : Nat := MN 32 F
def RM : Nat := MN 32 65535
theorem ends_iff (l : List UInt8) {m : Nat} (hm : m < 4294967296) : ends l m = true ↔ 4 ≤ l.length ∧ reg F l = MN 32 (F ^^^ m) := by
  unfold ends
  rw [Bool.and_eq_true, decide_eq_true_iff]
  refine and_congr_right fun h4 => ?_
  have hs : l = l.take (l.length - 4) ++ l.drop (l.length - 4) := (List.take_append_drop _ _).symm
  have hd : (l.drop (l.length - 4)).length = 4 := by rw [List.length_drop]; omega
  generalize l.take (l.length - 4) = a at *
  generalize l.drop (l.length - 4) = d at *
  rw [beq_iff_eq, eq_octets hd (xor_lt (crc_lt a) hm), hs, reg_append, reg_eq _ d, hd]
  have e : crc a ^^^ m = reg F a ^^^ (F ^^^ m) := by
    unfold crc ext; rw [Nat.zero_xor, Nat.xor_assoc]
  rw [e]
  have hr := reg_lt F_lt a
  constructor
  · intro h; rw [h, xor_cancel]
  · intro h
    have := MN_inj (xor_lt hr (num4_lt hd)) (xor_lt F_lt hm) h
    rw [← this, xor_cancel]
theorem good_iff (l : List UInt8) : good l = true ↔ 4 ≤ l.length ∧ reg F l = RG := ends_iff l (by decide)
theorem marked_iff (l : List UInt8) : marked l = true ↔ 4 ≤ l.length ∧ reg F l = RM := ends_iff l MK_lt
theorem RG_ne_RM : RG ≠ RM := by decide
theorem ends_seal (l : List UInt8) {m : Nat} : ends (l ++ octets (crc l ^^^ m)) m = true := by
  unfold ends
  simp [octets_length]
theorem good_seal (l : List UInt8) : good (seald l) = true := by
  have := ends_seal l (m := 0); rw [Nat.xor_zero] at this; exact this
theorem marked_mark (l : List UInt8) : marked (mark l) = true := ends_seal l
theorem not_good_mark (l : List UInt8) : good (mark l) = false := by
  rw [Bool.eq_false_iff]; intro h
  exact RG_ne_RM ((good_iff _).1 h |>.2.symm.trans ((marked_iff _).1 (marked_mark l)).2)
theorem not_marked_seal (l : List UInt8) : marked (seald l) = false := by
  rw [Bool.eq_false_iff]; intro h
  exact RG_ne_RM (((good_iff _).1 (good_seal l)).2.symm.trans ((marked_iff _).1 h).2)
theorem good_eq {l : List UInt8} (h : 4 ≤ l.length) : (seald (l.take (l.length - 4)) == l) = good l := by
  rw [Bool.eq_iff_iff, beq_iff_eq]
  unfold good ends seald
  rw [Bool.and_eq_true, decide_eq_true_iff, beq_iff_eq, Nat.xor_zero]
  constructor
  · intro e
    refine ⟨h, ?_⟩
    have := congrArg (List.drop (l.length - 4)) e
    rw [List.drop_append_of_le_length (by simp), List.drop_eq_nil_of_le (by simp)] at this
    simpa using this.symm
  · rintro ⟨_, e⟩
    rw [← e, List.take_append_drop]
theorem marked_eq {l : List UInt8} (h : 4 ≤ l.length) : (mark (l.take (l.length - 4)) == l) = marked l := by
  rw [Bool.eq_iff_iff, beq_iff_eq]
  unfold marked ends mark
  rw [Bool.and_eq_true, decide_eq_true_iff, beq_iff_eq]
  constructor
  · intro e
    refine ⟨h, ?_⟩
    have := congrArg (List.drop (l.length - 4)) e
    rw [List.drop_append_of_le_length (by simp), List.drop_eq_nil_of_le (by simp)] at this
    simpa using this.symm
  · rintro ⟨_, e⟩
    rw [← e, List.take_append_drop]
theorem good_short {l : List UInt8} (h : ¬ 4 ≤ l.length) : good l = false := by unfold good ends; simp [h]
theorem marked_short {l : List UInt8} (h : ¬ 4 ≤ l.length) : marked l = false := by unfold marked ends; simp [h]

/-- One bit of a string changed. -/
def flip1 (l : List UInt8) (i : Nat) : List UInt8 := l.set (i / 8) ((l.getD (i / 8) 0) ^^^ UInt8.ofNat (2 ^ (i % 8)))
def flips (l : List UInt8) (at_ pat : Nat) : Nat → List UInt8
  | 0 => l
  | k + 1 => if pat / 2 ^ k % 2 = 1 ∧ at_ + k < 8 * l.length then flip1 (flips l at_ pat k) (at_ + k) else flips l at_ pat k
def flip (l : List UInt8) (at_ pat : Nat) : List UInt8 := flips l at_ pat 32
theorem flip1_length (l : List UInt8) (i : Nat) : (flip1 l i).length = l.length := by unfold flip1; rw [List.length_set]
theorem flips_length (l : List UInt8) (at_ pat k : Nat) : (flips l at_ pat k).length = l.length := by
  induction k with
  | zero => rfl
  | succ k ih => rw [flips]; split <;> simp [flip1_length, ih]
theorem num_bit (l : List UInt8) (i : Nat) : (num l).testBit i = ((l.getD (i / 8) 0).toNat).testBit (i % 8) := by
  induction l generalizing i with
  | nil => simp [num]
  | cons b l ih =>
    have hb := byte_lt b
    rw [num, add_eq_xor _ hb, Nat.testBit_xor]
    have e : 256 * num l = num l <<< 8 := by rw [Nat.shiftLeft_eq]; omega
    rw [e, Nat.testBit_shiftLeft]
    by_cases h : i < 8
    · have h1 : decide (i ≥ 8) = false := by simp; omega
      have h2 : i / 8 = 0 := by omega
      have h3 : i % 8 = i := by omega
      rw [h1, h2, h3]; simp
    · have h1 : decide (i ≥ 8) = true := by simp; omega
      have h2 : i / 8 = (i - 8) / 8 + 1 := by omega
      have h3 : i % 8 = (i - 8) % 8 := by omega
      have hz : b.toNat.testBit i = false := Nat.testBit_lt_two_pow (Nat.lt_of_lt_of_le hb (by
        have : 2 ^ 8 ≤ 2 ^ i := Nat.pow_le_pow_right (by omega) (by omega)
        simpa using this))
      rw [h1, h2, h3, hz, ih]; simp
theorem num_flip1 {l : List UInt8} {i : Nat} (h : i < 8 * l.length) : num (flip1 l i) = num l ^^^ 2 ^ i := by
  apply Nat.eq_of_testBit_eq
  intro j
  rw [Nat.testBit_xor, num_bit, num_bit, Nat.testBit_two_pow]
  unfold flip1
  by_cases e : j / 8 = i / 8
  · have hj : i / 8 < l.length := by omega
    rw [e, List.getD_eq_getElem?_getD, List.getElem?_set_self hj]
    show ((l.getD (i / 8) 0) ^^^ UInt8.ofNat (2 ^ (i % 8))).toNat.testBit (j % 8) = _
    have hp : 2 ^ (i % 8) < 256 := by
      have : 2 ^ (i % 8) ≤ 2 ^ 7 := Nat.pow_le_pow_right (by omega) (by omega)
      omega
    rw [UInt8.toNat_xor, ofNat_toNat hp, Nat.testBit_xor, Nat.testBit_two_pow]
    congr 1
    rw [Bool.eq_iff_iff, decide_eq_true_iff, decide_eq_true_iff]; omega
  · have hne : decide (i = j) = false := by simp; omega
    rw [hne, List.getD_eq_getElem?_getD, List.getElem?_set_ne (by omega), ← List.getD_eq_getElem?_getD]; simp
theorem num_flips (l : List UInt8) (at_ pat k i : Nat) :
    (num (flips l at_ pat k)).testBit i = ((num l).testBit i ^^ (decide (at_ ≤ i ∧ i < at_ + k ∧ i < 8 * l.length) && pat.testBit (i - at_))) := by
  induction k with
  | zero => 
    have : decide (at_ ≤ i ∧ i < at_ + 0 ∧ i < 8 * l.length) = false := by simp; omega
    rw [this]; simp [flips]
  | succ k ih =>
    rw [flips]
    have hb : (pat / 2 ^ k % 2 = 1) ↔ pat.testBit k = true := by rw [Nat.testBit_eq_decide_div_mod_eq, decide_eq_true_iff]
    split
    · rename_i h
      rw [num_flip1 (by rw [flips_length]; exact h.2), Nat.testBit_xor, ih, Nat.testBit_two_pow]
      by_cases e : at_ + k = i
      · have h1 : decide (at_ ≤ i ∧ i < at_ + k ∧ i < 8 * l.length) = false := by simp; omega
        have h2 : decide (at_ ≤ i ∧ i < at_ + (k + 1) ∧ i < 8 * l.length) = true := by simp; omega
        have h3 : i - at_ = k := by omega
        rw [h1, h2, h3, hb.1 h.1]; simp [e]
      · have h1 : decide (at_ ≤ i ∧ i < at_ + k ∧ i < 8 * l.length) = decide (at_ ≤ i ∧ i < at_ + (k + 1) ∧ i < 8 * l.length) := by
          rw [Bool.eq_iff_iff, decide_eq_true_iff, decide_eq_true_iff]; omega
        rw [h1]; simp [e]
    · rename_i h
      rw [ih]
      congr 1
      by_cases e : at_ + k = i
      · by_cases h8 : i < 8 * l.length
        · have h3 : i - at_ = k := by omega
          have h4 : pat.testBit k = false := by
            rw [Bool.eq_false_iff]; intro hh
            exact h ⟨hb.2 hh, by omega⟩
          rw [h3, h4]; simp
        · have h1 : decide (at_ ≤ i ∧ i < at_ + k ∧ i < 8 * l.length) = false := by simp; omega
          have h2 : decide (at_ ≤ i ∧ i < at_ + (k + 1) ∧ i < 8 * l.length) = false := by simp; omega
          rw [h1, h2]
      · have h1 : decide (at_ ≤ i ∧ i < at_ + k ∧ i < 8 * l.length) = decide (at_ ≤ i ∧ i < at_ + (k + 1) ∧ i < 8 * l.length) := by
          rw [Bool.eq_iff_iff, decide_eq_true_iff, decide_eq_true_iff]; omega
        rw [h1]
/-- The number of a flipped string. -/
theorem num_flip {l : List UInt8} {at_ pat : Nat} (hp : pat < 4294967296) (ha : at_ ≤ 8 * l.length) :
    num (flip l at_ pat) = num l ^^^ (2 ^ at_ * (pat % 2 ^ (8 * l.length - at_))) := by
  apply Nat.eq_of_testBit_eq
  intro i
  unfold flip
  rw [num_flips, Nat.testBit_xor]
  congr 1
  rw [Nat.mul_comm (2 ^ at_), ← Nat.shiftLeft_eq, Nat.testBit_shiftLeft, Nat.testBit_mod_two_pow]
  by_cases h1 : at_ ≤ i
  · by_cases h2 : i < at_ + 32
    · rw [Bool.eq_iff_iff]; simp [h1, h2]; omega
    · have hz : pat.testBit (i - at_) = false := Nat.testBit_lt_two_pow (Nat.lt_of_lt_of_le hp (by
        have : 2 ^ 32 ≤ 2 ^ (i - at_) := Nat.pow_le_pow_right (by omega) (by omega)
        simpa using this))
      rw [hz]; simp
  · have e1 : decide (at_ ≤ i ∧ i < at_ + 32 ∧ i < 8 * l.length) = false := by simp; omega
    have e2 : decide (i ≥ at_) = false := by simp; omega
    rw [e1, e2]; simp
end Crc
end Go.Proofs.Ytaefblpleoabgaa
