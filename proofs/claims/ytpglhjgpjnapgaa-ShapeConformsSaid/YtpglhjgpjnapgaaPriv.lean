/- A range over a function that writes a variable of its own between two rounds. -/
import Derived.Test.YtpglhjgpjnapgaaIter
namespace Go.Proofs.Ytpglhjgpjnapgaa
set_option linter.unusedSimpArgs false
set_option linter.unusedVariables false
open Go.RowKit Go.Shelf
namespace It
/-- Nothing has turned but block p. -/
structure Upd (p : Nat) (A B : World) : Prop where
  os : B.os = A.os
  tape : B.tape = A.tape
  output : B.output = A.output
  size : A.heap.size ≤ B.heap.size
  block : ∀ k, k < A.heap.size → k ≠ p → B.heap[k]? = A.heap[k]?
theorem Upd.refl (p : Nat) (A : World) : Upd p A A := ⟨rfl, rfl, rfl, Nat.le_refl _, fun _ _ _ => rfl⟩
theorem Upd.trans {p : Nat} {A B C : World} (h : Upd p A B) (k : Upd p B C) : Upd p A C :=
  ⟨k.os.trans h.os, k.tape.trans h.tape, k.output.trans h.output, Nat.le_trans h.size k.size, fun i hi hp => (k.block i (Nat.lt_of_lt_of_le hi h.size) hp).trans (h.block i hi hp)⟩
theorem Upd.of_below {p : Nat} {A B : World} (h : Below A.heap.size A B) : Upd p A B := ⟨h.os, h.tape, h.output, h.size, fun k hk _ => h.block k hk⟩
theorem Upd.alloc {p : Nat} (A : World) (o : Obj) : Upd p A (A.alloc o) := Upd.of_below ((Below.refl _ _).alloc (Nat.le_refl _) _)
theorem Upd.set {p : Nat} (A : World) (i : Nat) (v : Value) : Upd p A (A.setCell ⟨p, i, none⟩ v) :=
  ⟨rfl, rfl, rfl, by simp [World.setCell], fun k _ hp => Below.heap_setCell A _ v k hp⟩
theorem Upd.below {p n : Nat} {W A B : World} (h : Upd p A B) (hb : Below n W A) (hn : n ≤ A.heap.size) (hp : n ≤ p) : Below n W B :=
  hb.trans ⟨h.os, h.tape, h.output, h.size, fun k hk => h.block k (by omega) (by omega)⟩
theorem Upd.cell {p : Nat} {A B : World} (h : Upd p A B) {a : Addr} (ha : a.block ≠ p) {v : Value} (hc : A.cell? a = some v) : B.cell? a = some v := by
  have hlt : a.block < A.heap.size := by
    obtain ⟨o, ho, _⟩ := cells_of_cell hc
    exact (Array.getElem?_eq_some_iff.1 ho).1
  exact (World.cell?_of_block (h.block _ hlt ha)).trans hc
theorem Upd.frozen {p : Nat} {A B : World} (h : Upd p A B) {a : Addr} (ha : a.block ≠ p) {v : Value} (hc : A.cell? a = some v) : B.frozen? a = A.frozen? a := by
  have hlt : a.block < A.heap.size := by
    obtain ⟨o, ho, _⟩ := cells_of_cell hc
    exact (Array.getElem?_eq_some_iff.1 ho).1
  exact World.frozen?_of_block (h.block _ hlt ha)
theorem Upd.obj {p k : Nat} {A B : World} {o : Obj} (h : Upd p A B) (hk : k ≠ p) (ho : A.heap[k]? = some o) : B.heap[k]? = some o :=
  (h.block k (Array.getElem?_eq_some_iff.1 ho).1 hk).trans ho
/-- The statement 'for x := range g', where g writes block p between two rounds; the body goes on or returns. -/
theorem range_priv {α : Type} {F : Fence} {n : Nat} {P : Program} {g : Operand} {ps : Array Tmp} {assign body : Code} {Q : Exit → Act → World → Prop} {a : Act} {w : World}
    (hro : F.round = none) (h1 : 1 ≤ n) {gf : Nat} {lb : Array Value} (hg : a.eval g = .func (.func gf) #[] lb) (hF : F.fn gf) (he : ∀ args w, (callFunc gf args).run P w = .ok (.enter gf args) w)
    {encs : α → Array Value} (hps : ∀ x, (encs x).size = ps.size) (p N : Nat) (hp : p < w.heap.size) {S Sp : List α → Prop} {Kp : World → World → Prop}
    (hKt : ∀ {A B C : World}, Kp A B → Kp B C → Kp A C) (hKb : ∀ (W : World) (o o' : Obj), W.heap[w.heap.size + 1]? = some o → Kp W (W.putObj (w.heap.size + 1) o'))
    (I Ix : List α → World → Prop) (G : List α → Prop) (hG : ∀ s A, I s A → G s) (hI : ∀ s A B, I s A → Upd p A B → I s B) (hIx : ∀ s A B, Ix s A → Upd p A B → Ix s B)
    (hIp : ∀ s A o o', I s A → A.heap[w.heap.size + 1]? = some (.loop o) → I s (A.putObj (w.heap.size + 1) o')) (hIxp : ∀ s A o o', Ix s A → A.heap[w.heap.size + 1]? = some (.loop o) → Ix s (A.putObj (w.heap.size + 1) o'))
    (h0 : I [] w) (a1 : α → Act)
    (hgen : ∀ (J Jx : List α → World → Prop) (W : World), Below w.heap.size w W → (∀ s A, J s A → G s) → (∀ s A B, J s A → Upd p A B → J s B) → (∀ s A B, Jx s A → Upd p A B → Jx s B) →
      (∀ pre x W1, J pre W1 → pre.length < N → YieldAt F (n - 1 - 1) P (w.heap.size + 1) (encs x) W1 fun e W' => (e = .returned (.bool true) ∧ J (pre ++ [x]) W' ∧ Kp W1 W') ∨ (e = .returned (.bool false) ∧ Jx (pre ++ [x]) W')) → J [] W →
      CallsIn F (n - 1) P gf (#[.func (.yield (w.heap.size + 1)) #[] #[]] ++ lb) W fun e W' => (∃ v, e = .returned v) ∧ ((∃ xs, S xs ∧ J xs W') ∨ (∃ pre, Sp pre ∧ Jx pre W')))
    (hassign : ∀ (x : α) (W : World) (K : Act → World → Prop), K (a1 x) W →
      assign.wpIn (F.inRound (w.heap.size + 1)) (n - 1 - 1) P (Exit.then K (fun _ _ _ => False)) { tmps := (ps.zip (encs x)).foldl (fun t (p, v) => t.setIfInBounds p v) a.tmps, defers := [] } W)
    (hbody : ∀ (pre : List α) (x : α) (W : World), I pre W → pre.length < N → w.heap.size + 1 < W.heap.size → body.wpIn (F.inRound (w.heap.size + 1)) (n - 1 - 1) P (ownPostK Kp I (fun c s W' => c = .ret ∧ Ix s W') (pre ++ [x]) W) (a1 x) W)
    (hdone : ∀ (xs : List α) (W : World), S xs → I xs W → W.heap[w.heap.size]? = some (.deferred (some [])) → Q .normal { a with defers := { target := .collected w.heap.size, args := #[] } :: a.defers } W)
    (hstop : ∀ (pre : List α) (W : World), Sp pre → Ix pre W → W.heap[w.heap.size]? = some (.deferred (some [])) → Code.ret.wpIn F n P Q { a with defers := { target := .collected w.heap.size, args := #[] } :: a.defers } W) :
    (Code.rangeFunc g ps assign body).wpIn F n P Q a w := by
  refine wpIn_rangeFunc fun fn hfn => ?_
  rw [hro]
  let R : LoopState → Option Code → Loop := fun st pe => { state := st, pending := pe, fn, tmps := a.tmps, params := ps, assign, body, defers := w.heap.size }
  obtain ⟨V, hV⟩ : ∃ V, (w.alloc (.deferred (some []))).alloc (.loop (R .ready none)) = V := ⟨_, rfl⟩
  have uV : Upd p w V := by rw [← hV]; exact (Upd.alloc _ _).trans (Upd.alloc _ _)
  have bV : Below w.heap.size w V := by rw [← hV]; exact ((Below.refl _ _).alloc (Nat.le_refl _) _).alloc (by simp) _
  have loopV : V.heap[w.heap.size + 1]? = some (.loop (R .ready none)) := by
    rw [← hV]
    have := World.alloc_heap_new (w.alloc (.deferred (some []))) (.loop (R .ready none))
    rwa [World.size_alloc] at this
  have defV : V.heap[w.heap.size]? = some (.deferred (some [])) := by
    rw [← hV]
    exact (Below.heap_alloc _ _ _ (by simp)).trans (World.alloc_heap_new w _)
  refine ⟨w.heap.size + 1, [{ target := .collected w.heap.size, args := #[] }], V, { target := .fn (.func gf) lb, args := #[.func (.yield (w.heap.size + 1)) #[] #[]] }, V, gf, #[.func (.yield (w.heap.size + 1)) #[] #[]] ++ lb, V, ?_, ?_, ?_, ?_, fun _ => h1, ?_⟩
  · rw [← hV]; exact run_enterLoop_outer _ _ _ _ _
  · simp only [resolve, hg]; simp [go_sem]
  · intro f' hf'
    simp [Target.leads] at hf'
    subst hf'
    exact hF
  · simp [invoke, go_sem, he]
  · have keep : ∀ {A B : World} {st : LoopState} {pe : Option Code}, A.heap[w.heap.size + 1]? = some (.loop (R st pe)) ∧ A.heap[w.heap.size]? = some (.deferred (some [])) → Upd p A B → B.heap[w.heap.size + 1]? = some (.loop (R st pe)) ∧ B.heap[w.heap.size]? = some (.deferred (some [])) :=
      fun h u => ⟨u.obj (by omega) h.1, u.obj (by omega) h.2⟩
    have put : ∀ {A : World} {o : Obj} (o' : Obj), A.heap[w.heap.size + 1]? = some o → A.heap[w.heap.size]? = some (.deferred (some [])) → (A.putObj (w.heap.size + 1) o').heap[w.heap.size + 1]? = some o' ∧ (A.putObj (w.heap.size + 1) o').heap[w.heap.size]? = some (.deferred (some [])) :=
      fun o' h1 h2 => ⟨World.putObj_heap_same (Array.getElem?_eq_some_iff.1 h1).1, (World.putObj_heap_other (by omega)).trans h2⟩
    have gen := hgen (fun s A => I s A ∧ A.heap[w.heap.size + 1]? = some (.loop (R .ready none)) ∧ A.heap[w.heap.size]? = some (.deferred (some [])))
      (fun s A => Ix s A ∧ A.heap[w.heap.size + 1]? = some (.loop (R .done (some .ret))) ∧ A.heap[w.heap.size]? = some (.deferred (some []))) V bV (fun s A h => hG s A h.1)
      (fun s A B h u => ⟨hI s A B h.1 u, keep h.2 u⟩) (fun s A B h u => ⟨hIx s A B h.1 u, keep h.2 u⟩) ?round ⟨hI _ _ _ h0 uV, loopV, defV⟩
    · refine gen.mono ?_
      rintro e A ⟨⟨v, rfl⟩, ⟨xs, hS, hi, hl, hd⟩ | ⟨pre, hS, hi, hl, hd⟩⟩
      · obtain ⟨p1, p2⟩ := put (.loop { R .ready none with state := .exhausted }) hl hd
        exact ⟨none, _, run_endLoop (P := P) hl (by show LoopState.ready ≠ _; simp), hdone xs _ hS (hIp _ _ _ _ hi hl) p2⟩
      · obtain ⟨p1, p2⟩ := put (.loop { R .done (some .ret) with state := .exhausted }) hl hd
        exact ⟨some .ret, _, run_endLoop (P := P) hl (by show LoopState.done ≠ _; simp), hstop pre _ hS (hIxp _ _ _ _ hi hl) p2⟩
    case round =>
      rintro pre x A ⟨hi, hl, hd⟩ hlen
      have hlt : w.heap.size + 1 < A.heap.size := (Array.getElem?_eq_some_iff.1 hl).1
      refine ⟨fn, _, assign, body, run_yield (P := P) (args := encs x) hl (hps x), roundIn_of_wpIn hfn (hassign x A _ ⟨_, run_beginRound hl rfl, ?_⟩)⟩
      obtain ⟨b1, b2⟩ := put (.loop { R .ready none with state := .busy }) hl hd
      obtain ⟨A', hA'⟩ : ∃ A', A.putObj (w.heap.size + 1) (.loop { R .ready none with state := .busy }) = A' := ⟨_, rfl⟩
      have kA : Kp A A' := by rw [← hA']; exact hKb _ _ _ hl
      have iA : I pre A' := by rw [← hA']; exact hIp _ _ _ _ hi hl
      have sA : w.heap.size + 1 < A'.heap.size := by rw [← hA']; simpa using hlt
      rw [hA'] at b1 b2
      show body.wpIn _ _ _ _ (a1 x) (A.putObj (w.heap.size + 1) (.loop { R .ready none with state := .busy }))
      rw [hA']
      refine wpIn_mono (hbody pre x A' iA hlen sA) ?_
      rintro (_ | _ | _ | _ | _ | _) a3 B hB
      case normal =>
        obtain ⟨ko, kp, ib⟩ := hB
        have l3 := ko.same _ _ b1 rfl
        have d3 := ko.same _ _ b2 rfl
        obtain ⟨c1, c2⟩ := put (.loop { R .ready none with state := .ready, pending := none }) l3 d3
        exact ⟨_, _, run_endRound (P := P) none l3, .inl ⟨rfl, ⟨hIp _ _ _ _ ib l3, c1, c2⟩, hKt (hKt kA kp) (hKb _ _ _ l3)⟩⟩
      case ret =>
        obtain ⟨ko, _, ib⟩ := hB
        have l3 := ko.same _ _ b1 rfl
        have d3 := ko.same _ _ b2 rfl
        obtain ⟨c1, c2⟩ := put (.loop { R .ready none with state := .done, pending := some .ret }) l3 d3
        exact ⟨_, _, run_endRound (P := P) (some .ret) l3, .inr ⟨rfl, hIxp _ _ _ _ ib l3, c1, c2⟩⟩
      case exit => exact absurd hB.2.1 (by simp)
      case goto => exact absurd hB.2.1 (by simp)
      case panic => exact hB.elim
      case outgrown => exact hB.elim
end It
end Go.Proofs.Ytpglhjgpjnapgaa
