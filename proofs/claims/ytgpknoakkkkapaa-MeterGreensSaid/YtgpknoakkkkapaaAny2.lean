/- Two chains append(append([]T{}, l...), x) in one drawn region: the invariant. -/
import Derived.Test.YtgpknoakkkkapaaAny
namespace Go.Proofs.Ytgpknoakkkkapaa
set_option linter.unusedSimpArgs false
set_option linter.unusedVariables false
open Go.RowKit
namespace AnyW
def upd {α : Type} (κ : Nat → α) (i : Nat) (c : α) : Nat → α := fun j => if j = i then c else κ j
theorem upd_self {α : Type} (κ : Nat → α) (i : Nat) (c : α) : upd κ i c i = c := if_pos rfl
theorem upd_ne {α : Type} (κ : Nat → α) (c : α) {i j : Nat} (h : j ≠ i) : upd κ i c j = κ j := if_neg h
/-- A row of one's own in a block of this colour. -/
def Held (κ : Nat → Nat) (B c : Nat) (e : TypeId) (w : World) (v : Value) (n : Nat) (xs : List Value) : Prop := w.ownsRow B e 2 v n xs ∧ ∀ k, v.ownBlock = some k → κ k = c
section
variable {κ : Nat → Nat} {B c d n : Nat} {e : TypeId} {w w' : World} {v u : Value} {xs : List Value}
theorem Held.upd (h : Held κ B c e w v n xs) (d : Nat) : Held (upd κ w.heap.size d) B c e w v n xs := ⟨h.1, fun k hk => by
  have := (h.1.lt k hk).2
  rw [upd_ne _ _ (by omega)]
  exact h.2 k hk⟩
theorem Held.alloc (h : Held κ B c e w v n xs) (d : Nat) (o : Obj) : Held (AnyW.upd κ w.heap.size d) B c e (w.alloc o) v n xs := ⟨h.1.alloc o, (h.upd d).2⟩
theorem Held.grown (h : Held κ B c e w v n xs) (d : Nat) (hg : w.grownBy w' u.ownBlock) (hu : ∀ k, u.ownBlock = some k → κ k = d) (hcd : c ≠ d) : Held (AnyW.upd κ w.heap.size d) B c e w' v n xs := by
  refine ⟨h.1.kept hg ?_, (h.upd d).2⟩
  cases hv : v.ownBlock with
  | none => exact .inl rfl
  | some k =>
    refine .inr fun he => hcd ?_
    rw [← h.2 k hv, hu k he.symm]
theorem Held.app {n' : Nat} {xs' : List Value} (h : Held κ B c e w u n xs) (ho : w'.ownsRow B e 2 v n' xs') (hv : v.ownBlock = u.ownBlock ∨ v.ownBlock = some w.heap.size) : Held (AnyW.upd κ w.heap.size c) B c e w' v n' xs' := by
  refine ⟨ho, fun k hk => ?_⟩
  rcases hv with hv | hv
  · exact (h.upd c).2 k (by rw [← hv]; exact hk)
  · rw [hv] at hk
    injection hk with hk
    rw [← hk, upd_self]
theorem Held.new (κ : Nat → Nat) (w : World) (hB : B ≤ w.heap.size) (cs : Array Value) (hn : n ≤ maxLen) (hs : cs.size = n * 2) : Held (AnyW.upd κ w.heap.size c) B c e (w.alloc (.cells cs e)) (.slice (some ⟨w.heap.size, 0, none⟩) n n) n cs.toList :=
  ⟨World.ownsRow_lit w cs n hB hn hs, fun k hk => by
    have : w.heap.size = k := by simpa [Value.ownBlock] using hk
    rw [← this, upd_self]⟩
end
section
variable (B : Nat) (e : TypeId) (l1 l2 : List (Int × Int)) (A1 A2 AL : Option Addr) (c1 c2 cL n i : Nat) (pt : Value) (x1 x2 : Int)
def F (D : Nat → Prop) (κ : Nat → Nat) (w : World) : Nat → Value → Prop
  | 0, v => ¬ D 2 → Held κ B 0 e w v 0 []
  | 1, v => v = .slice A1 l1.length c1
  | 2, v => ¬ D 8 → Held κ B 0 e w v l1.length (Mem.arrs l1)
  | 3, v => v = .slice AL n cL
  | 4, v => v = .int .i64 i
  | 5, v => v = pt
  | 6, v => v = .agg #[.int .i64 x1, .int .i64 x2]
  | 7, v => Held κ B 1 e w v 1 [.int .i64 x1, .int .i64 x2]
  | 8, v => Held κ B 0 e w v (l1.length + 1) (Mem.arrs (l1 ++ [(x1, x2)]))
  | 9, v => ¬ D 11 → Held κ B 2 e w v 0 []
  | 10, v => v = .slice A2 l2.length c2
  | 11, v => ¬ D 17 → Held κ B 2 e w v l2.length (Mem.arrs l2)
  | 12, v => v = .slice AL n cL
  | 13, v => v = .int .i64 i
  | 14, v => v = pt
  | 15, v => v = .agg #[.int .i64 x1, .int .i64 x2]
  | 16, v => Held κ B 3 e w v 1 [.int .i64 x1, .int .i64 x2]
  | 17, v => Held κ B 2 e w v (l2.length + 1) (Mem.arrs (l2 ++ [(x1, x2)]))
  | 18, v => Held κ B 0 e w v (l1.length + 1) (Mem.arrs (l1 ++ [(x1, x2)]))
  | 19, v => Held κ B 2 e w v (l2.length + 1) (Mem.arrs (l2 ++ [(x1, x2)]))
  | _, _ => True
def col : Nat → Nat
  | 0 => 0 | 2 => 0 | 8 => 0 | 18 => 0 | 7 => 1 | 9 => 2 | 11 => 2 | 17 => 2 | 19 => 2 | 16 => 3 | _ => 9
structure Data (X : World) (D : Nat → Prop) (x : Nat → Value) (κ : Nat → Nat) (w : World) : Prop where
  below : Below X.heap.size X w
  c8 : D 8 → D 2
  c17 : D 17 → D 11
  c18 : D 18 → D 8
  c19 : D 19 → D 17
  fact : ∀ j, D j → F B e l1 l2 A1 A2 AL c1 c2 cL n i pt x1 x2 D κ w j (x j)
variable {B e l1 l2 A1 A2 AL c1 c2 cL n i pt x1 x2} {X : World} {D : Nat → Prop} {x : Nat → Value} {κ : Nat → Nat} {w w' : World}
theorem F_more {D' : Nat → Prop} (hD : ∀ i, D i → D' i) {j : Nat} {v : Value} (h : F B e l1 l2 A1 A2 AL c1 c2 cL n i pt x1 x2 D κ w j v) : F B e l1 l2 A1 A2 AL c1 c2 cL n i pt x1 x2 D' κ w j v := by
  revert h
  unfold F
  split
  all_goals first
    | exact id
    | exact fun h hn => h fun hd => hn (hD _ hd)
    | (intro _; split <;> first | trivial | (exfalso; simp_all; done))
theorem F_alloc (c : Nat) (o : Obj) {j : Nat} {v : Value} (h : F B e l1 l2 A1 A2 AL c1 c2 cL n i pt x1 x2 D κ w j v) : F B e l1 l2 A1 A2 AL c1 c2 cL n i pt x1 x2 D (upd κ w.heap.size c) (w.alloc o) j v := by
  revert h
  unfold F
  split
  all_goals first
    | exact id
    | exact fun h hn => (h hn).alloc c o
    | exact fun h => Held.alloc h c o
    | (intro _; split <;> first | trivial | (exfalso; simp_all; done))
theorem F_grown (d : Nat) {u : Value} (hg : w.grownBy w' u.ownBlock) (hu : ∀ k, u.ownBlock = some k → κ k = d) {j : Nat} (hj : col j ≠ d) {v : Value} (h : F B e l1 l2 A1 A2 AL c1 c2 cL n i pt x1 x2 D κ w j v) : F B e l1 l2 A1 A2 AL c1 c2 cL n i pt x1 x2 D (upd κ w.heap.size d) w' j v := by
  revert h
  unfold F
  split
  all_goals first
    | exact id
    | exact fun h hn => (h hn).grown d hg hu hj
    | exact fun h => Held.grown h d hg hu hj
    | (intro _; split <;> first | trivial | (exfalso; simp_all; done))
/-- An operation that leaves the world alone. -/
theorem Data.pure (h : Data B e l1 l2 A1 A2 AL c1 c2 cL n i pt x1 x2 X D x κ w) (k : Nat) (v : Value) (hk : (k = 8 → D 2) ∧ (k = 17 → D 11) ∧ (k = 18 → D 8) ∧ (k = 19 → D 17))
    (hf : F B e l1 l2 A1 A2 AL c1 c2 cL n i pt x1 x2 (fun j => j = k ∨ D j) κ w k v) : Data B e l1 l2 A1 A2 AL c1 c2 cL n i pt x1 x2 X (fun j => j = k ∨ D j) (upd x k v) κ w where
  below := h.below
  c8 := fun hd => .inr (hd.elim (fun e => hk.1 e.symm) h.c8)
  c17 := fun hd => .inr (hd.elim (fun e => hk.2.1 e.symm) h.c17)
  c18 := fun hd => .inr (hd.elim (fun e => hk.2.2.1 e.symm) h.c18)
  c19 := fun hd => .inr (hd.elim (fun e => hk.2.2.2 e.symm) h.c19)
  fact := fun j hj => by
    by_cases hjk : j = k
    · subst hjk; rw [upd_self]; exact hf
    · rw [upd_ne _ _ hjk]
      exact F_more (fun _ => .inr) (h.fact j (hj.resolve_left hjk))
theorem Data.alloc (h : Data B e l1 l2 A1 A2 AL c1 c2 cL n i pt x1 x2 X D x κ w) (c : Nat) (o : Obj) : Data B e l1 l2 A1 A2 AL c1 c2 cL n i pt x1 x2 X D x (upd κ w.heap.size c) (w.alloc o) where
  below := h.below.alloc h.below.size o
  c8 := h.c8
  c17 := h.c17
  c18 := h.c18
  c19 := h.c19
  fact := fun j hj => F_alloc c o (h.fact j hj)
/-- An append. -/
theorem Data.app (h : Data B e l1 l2 A1 A2 AL c1 c2 cL n i pt x1 x2 X D x κ w) (k d : Nat) (hkd : (k = 2 ∧ d = 0) ∨ (k = 8 ∧ d = 0) ∨ (k = 11 ∧ d = 2) ∨ (k = 17 ∧ d = 2)) (hnk : ¬ D k) (hk : (k = 8 → D 2) ∧ (k = 17 → D 11))
    {u : Value} (hg : w.grownBy w' u.ownBlock) (hu : ∀ k, u.ownBlock = some k → κ k = d) (hb : Below X.heap.size X w') (v : Value)
    (hf : F B e l1 l2 A1 A2 AL c1 c2 cL n i pt x1 x2 (fun j => j = k ∨ D j) (upd κ w.heap.size d) w' k v) : Data B e l1 l2 A1 A2 AL c1 c2 cL n i pt x1 x2 X (fun j => j = k ∨ D j) (upd x k v) (upd κ w.heap.size d) w' where
  below := hb
  c8 := fun hd => .inr (hd.elim (fun e => hk.1 e.symm) h.c8)
  c17 := fun hd => .inr (hd.elim (fun e => hk.2 e.symm) h.c17)
  c18 := fun hd => hd.elim (fun e => by omega) fun h' => .inr (h.c18 h')
  c19 := fun hd => hd.elim (fun e => by omega) fun h' => .inr (h.c19 h')
  fact := fun j hj => by
    by_cases hjk : j = k
    · subst hjk; rw [upd_self]; exact hf
    · rw [upd_ne _ _ hjk]
      have hjd := hj.resolve_left hjk
      clear hj
      by_cases hc : col j = d
      · have c8 := h.c8
        have c17 := h.c17
        have c18 := h.c18
        have c19 := h.c19
        unfold col at hc
        rcases hkd with ⟨rfl, rfl⟩ | ⟨rfl, rfl⟩ | ⟨rfl, rfl⟩ | ⟨rfl, rfl⟩ <;> split at hc <;> first
          | (exfalso; omega)
          | exact (hjk rfl).elim
          | (exfalso; exact hnk hjd)
          | (exfalso; exact hnk (c8 hjd))
          | (exfalso; exact hnk (c18 hjd))
          | (exfalso; exact hnk (c8 (c18 hjd)))
          | (exfalso; exact hnk (c17 hjd))
          | (exfalso; exact hnk (c19 hjd))
          | (exfalso; exact hnk (c17 (c19 hjd)))
          | exact fun hn => (hn (Or.inl rfl)).elim
          | exact fun hn => (hn (Or.inr (hk.1 rfl))).elim
          | exact fun hn => (hn (Or.inr (hk.2 rfl))).elim
      · exact F_grown d hg hu hc (F_more (fun _ => .inr) (h.fact j hjd))
end
/-- One step for each operation. -/
def dep (o : Oper) : List Nat := (o.after.toList.filter (Region.binds .any)).map (·.on)
def All (D : Nat → Prop) : List Nat → Prop
  | [] => True
  | i :: l => D i ∧ All D l
theorem All_mem {D : Nat → Prop} : ∀ {l : List Nat}, (∀ i ∈ l, D i) → All D l
  | [], _ => trivial
  | i :: _, h => ⟨h i (by simp), All_mem fun j hj => h j (by simp [hj])⟩
def Steps (P : Program) (ops : Array Oper) (Q : Exit → Act → World → Prop) (I : (Nat → Prop) → Act → World → Prop) : Nat → List Oper → Prop
  | _, [] => True
  | i, o :: l => (∀ D a w, ¬ D i → All D (dep o) → I D a w → ∀ K : Act → World → Prop, (∀ a w, I (fun j => j = i ∨ D j) a w → K a w) → if Region.wanted o (yielded ops a.tmps) = true then Oper.wp P o a w K Q else K (a.put o.dst undef) w) ∧ Steps P ops Q I (i + 1) l
theorem Steps_at {P : Program} {ops : Array Oper} {Q : Exit → Act → World → Prop} {I : (Nat → Prop) → Act → World → Prop} : ∀ (l : List Oper) (b : Nat), Steps P ops Q I b l → ∀ i o, l[i]? = some o →
    (∀ D a w, ¬ D (b + i) → All D (dep o) → I D a w → ∀ K : Act → World → Prop, (∀ a w, I (fun j => j = b + i ∨ D j) a w → K a w) → if Region.wanted o (yielded ops a.tmps) = true then Oper.wp P o a w K Q else K (a.put o.dst undef) w)
  | [], _, _, i, o, h => by simp at h
  | o' :: l, b, hs, i, o, h => by
    cases i with
    | zero =>
      have : o' = o := by simpa using h
      subst this
      exact hs.1
    | succ i =>
      have := Steps_at l (b + 1) hs.2 i o (by simpa using h)
      rw [show b + 1 + i = b + (i + 1) by omega] at this
      exact this
def lexOk (ops : Array Oper) : Bool := ops.toList.zipIdx.all fun p => (dep p.1).all fun j => decide (j < p.2)
theorem wp_region_steps {P : Program} {ops : Array Oper} {Q : Exit → Act → World → Prop} {id : Nat} {a : Act} {w : World} (hm : P.follows .mixedOrders = true) (I : (Nat → Prop) → Act → World → Prop)
    (hlex : lexOk ops = true) (steps : Steps P ops Q I 0 ops.toList)
    (last : ∀ D a w, (∀ i, i < ops.size → D i) → I D a w → Q .normal a w) (hI : I (fun _ => False) a w.drew) : (Code.region id ops true).wp P Q a w := by
  refine wp_region_inv hm I ?_ ?_ last hI
  · intro i o ho e he hb
    unfold lexOk at hlex
    rw [List.all_eq_true] at hlex
    have h1 := hlex (o, i) (by rw [List.mk_mem_zipIdx_iff_getElem?]; simpa using ho)
    rw [List.all_eq_true] at h1
    have h2 := h1 e.on (by unfold dep; rw [List.mem_map]; exact ⟨e, List.mem_filter.2 ⟨by simpa using he, hb⟩, rfl⟩)
    simpa using h2
  · intro i o D a w ho hD hdep hI K hK
    have := Steps_at ops.toList 0 steps i o (by simpa using ho) D a w (by simpa using hD) (All_mem fun j hj => by
      unfold dep at hj
      rw [List.mem_map] at hj
      obtain ⟨e, he, rfl⟩ := hj
      rw [List.mem_filter] at he
      exact hdep e (by simpa using he.1) he.2) hI K
    rw [Nat.zero_add] at this
    exact this hK
/-- Some slots hold x 0, x 1, .. -/
def withs (a : Act) (x : Nat → Value) : Nat → List Nat → Act
  | _, [] => a
  | j, s :: l => (withs a x (j + 1) l).put (some s) (x j)
theorem withs_start (a : Act) (x : Nat → Value) : ∀ (l : List Nat) (j : Nat), (∀ i s, l[i]? = some s → x (j + i) = a.tmps.getD s undef) → withs a x j l = a
  | [], _, _ => rfl
  | s :: l, j, h => by
    have h0 := h 0 s rfl
    have ih := withs_start a x l (j + 1) fun i s' hi => by
      have := h (i + 1) s' (by simpa using hi)
      rw [show j + (i + 1) = j + 1 + i by omega] at this
      exact this
    unfold withs
    rw [ih]
    unfold Act.put
    have : a.tmps.setIfInBounds s (x j) = a.tmps := by
      rw [Nat.add_zero] at h0
      rw [h0]
      apply Array.ext_getElem?
      intro i
      rw [Array.getElem?_setIfInBounds]
      by_cases hi : s = i
      · subst hi
        by_cases hs : s < a.tmps.size
        · simp [hs, Array.getD_eq_getD_getElem?]
        · simp [hs]
      · rw [if_neg hi]
    simp only [this]
theorem All.get {D : Nat → Prop} : ∀ {l : List Nat}, All D l → ∀ i, l.contains i = true → D i
  | [], _, i, h => by simp at h
  | j :: l, hd, i, h => by
    rw [List.contains_cons, Bool.or_eq_true] at h
    rcases h with h | h
    · have : i = j := by simpa using h
      subst this
      exact hd.1
    · exact hd.2.get i h
theorem wp_region_from {P : Program} {ops : Array Oper} {Q : Exit → Act → World → Prop} {id : Nat} {a : Act} {w : World} (sl : List Nat) (hm : P.follows .mixedOrders = true) (J : (Nat → Prop) → (Nat → Value) → (Nat → Nat) → World → Prop)
    (hlex : lexOk ops = true) (steps : Steps P ops Q (fun D a' w => ∃ x κ, a' = withs a x 0 sl ∧ J D x κ w) 0 ops.toList)
    (start : ∀ x, J (fun _ => False) x (fun _ => 0) w.drew)
    (last : ∀ D w x κ, (∀ i, i < ops.size → D i) → J D x κ w → Q .normal (withs a x 0 sl) w) : (Code.region id ops true).wp P Q a w := by
  refine wp_region_steps hm _ hlex steps ?_ ⟨fun j => a.tmps.getD (sl.getD j 0) undef, fun _ => 0, (withs_start a _ sl 0 fun i s hi => ?_).symm, start _⟩
  · rintro D a' w hall ⟨x, κ, rfl, hJ⟩
    exact last D w x κ hall hJ
  · show a.tmps.getD (sl.getD (0 + i) 0) undef = _
    rw [Nat.zero_add, List.getD_eq_getElem?_getD, hi]
    rfl
theorem Data.start {B : Nat} {e : TypeId} {l1 l2 : List (Int × Int)} {A1 A2 AL : Option Addr} {c1 c2 cL n i : Nat} {pt : Value} {x1 x2 : Int} {X w : World} (x : Nat → Value) (κ : Nat → Nat) (h : Below X.heap.size X w) : Data B e l1 l2 A1 A2 AL c1 c2 cL n i pt x1 x2 X (fun _ => False) x κ w :=
  ⟨h, fun h => h.elim, fun h => h.elim, fun h => h.elim, fun h => h.elim, fun _ h => h.elim⟩
end AnyW
end Go.Proofs.Ytgpknoakkkkapaa
