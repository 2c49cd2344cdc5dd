/- Drafts: the trace. -/
import Derived.Test.YtoglmfpmeajbeaaMem
namespace Go.Proofs.Ytoglmfpmeajbeaa
set_option linter.unusedSimpArgs false
set_option linter.unusedVariables false
open Go.RowKit
namespace Dr
/-- The trace of gaps and sizes, from a time on. -/
def go : Int → List Int → List Int → List (Int × Int)
  | _, _, [] => []
  | t, gs, s :: ss => (t + gs.headD 0, 1 + s) :: go (t + gs.headD 0) gs.tail ss
def trace (gs ss : List Int) : List (Int × Int) := go 0 gs (ss.take 30)
theorem go_length (ss : List Int) : ∀ (t : Int) (gs : List Int), (go t gs ss).length = ss.length := by
  induction ss with
  | nil => intros; rfl
  | cons s ss ih => intro t gs; simp [go, ih]
theorem trace_length (gs ss : List Int) : (trace gs ss).length = min 30 ss.length := by unfold trace; rw [go_length, List.length_take]
theorem go_ok (ss : List Int) : ∀ (t : Int) (gs : List Int), (∀ n ∈ gs, 0 ≤ n ∧ n ≤ 65535) → (∀ n ∈ ss, 0 ≤ n ∧ n ≤ 65535) → 0 ≤ t → t + 65535 * ss.length ≤ 1099511627776 → Tr.okFrom t (go t gs ss) = true := by
  induction ss with
  | nil => intros; rfl
  | cons s ss ih =>
    intro t gs hg hs h0 h1
    have hgd : 0 ≤ gs.headD 0 ∧ gs.headD 0 ≤ 65535 := by
      cases gs with
      | nil => simp
      | cons g gs => exact hg g (by simp)
    have hs1 := hs s (by simp)
    simp only [List.length_cons] at h1
    have hl : (0 : Int) ≤ ss.length := by omega
    unfold go Tr.okFrom
    rw [Bool.and_eq_true]
    constructor
    · unfold Tr.stepOk
      rw [Bool.and_eq_true, decide_eq_true_iff, decide_eq_true_iff]
      simp only
      omega
    · refine ih _ _ (fun n hn => hg n (List.mem_of_mem_tail hn)) (fun n hn => hs n (by simp [hn])) (by omega) (by push_cast at h1 ⊢; omega)
theorem trace_ok {gs ss : List Int} (hg : ∀ n ∈ gs, 0 ≤ n ∧ n ≤ 65535) (hs : ∀ n ∈ ss, 0 ≤ n ∧ n ≤ 65535) : Tr.ok (trace gs ss) = true := by
  unfold Tr.ok
  rw [Bool.and_eq_true, decide_eq_true_iff]
  have hl := trace_length gs ss
  refine ⟨by omega, go_ok _ _ _ hg (fun n hn => hs n (List.mem_of_mem_take hn)) (Int.le_refl _) ?_⟩
  have : (ss.take 30).length ≤ 30 := by rw [List.length_take]; omega
  omega
theorem go_at (ss : List Int) : ∀ (t : Int) (gs : List Int), (∀ n ∈ gs, 0 ≤ n ∧ n ≤ 65535) → (∀ n ∈ ss, 0 ≤ n ∧ n ≤ 65535) → 0 ≤ t → ∀ x ∈ go t gs ss, 0 ≤ x.1 ∧ x.1 ≤ t + 65535 * ss.length ∧ 1 ≤ x.2 ∧ x.2 ≤ 65536 := by
  induction ss with
  | nil => intro t gs _ _ _ x hx; simp [go] at hx
  | cons s ss ih =>
    intro t gs hg hs h0 x hx
    have hgd : 0 ≤ gs.headD 0 ∧ gs.headD 0 ≤ 65535 := by
      cases gs with
      | nil => simp
      | cons g gs => exact hg g (by simp)
    have hs1 := hs s (by simp)
    simp only [List.length_cons]
    unfold go at hx
    rw [List.mem_cons] at hx
    rcases hx with rfl | hx
    · simp only
      have hl : (0 : Int) ≤ ss.length := by omega
      push_cast
      omega
    · have := ih _ _ (fun n hn => hg n (List.mem_of_mem_tail hn)) (fun n hn => hs n (by simp [hn])) (by omega) x hx
      push_cast
      omega
/-- The times and the sizes of a draft's trace are small. -/
theorem trace_at {gs ss : List Int} (hg : ∀ n ∈ gs, 0 ≤ n ∧ n ≤ 65535) (hs : ∀ n ∈ ss, 0 ≤ n ∧ n ≤ 65535) : ∀ x ∈ trace gs ss, 0 ≤ x.1 ∧ x.1 ≤ 1966050 ∧ 1 ≤ x.2 ∧ x.2 ≤ 65536 := fun x hx => by
  have h := go_at (ss.take 30) 0 gs hg (fun n hn => hs n (List.mem_of_mem_take hn)) (Int.le_refl _) x hx
  have : (ss.take 30).length ≤ 30 := by rw [List.length_take]; omega
  omega
theorem go_step {t : Int} {gs ss : List Int} {k : Nat} {s : Int} (hs : ss[k]? = some s) : go t (gs.drop k) (ss.drop k) = (t + (gs[k]?).getD 0, 1 + s) :: go (t + (gs[k]?).getD 0) (gs.drop (k + 1)) (ss.drop (k + 1)) := by
  obtain ⟨hk, rfl⟩ := List.getElem?_eq_some_iff.1 hs
  rw [List.drop_eq_getElem_cons hk]
  have e : (gs.drop k).headD 0 = (gs[k]?).getD 0 := by rw [List.headD_eq_head?_getD, List.head?_drop]
  have e2 : (gs.drop k).tail = gs.drop (k + 1) := by simp
  show (t + (gs.drop k).headD 0, _) :: go (t + (gs.drop k).headD 0) (gs.drop k).tail _ = _
  rw [e, e2]
end Dr
namespace DrW
set_option maxHeartbeats 2000000 in
theorem Trace_any (x y : Int) (G : Option Addr) (gs : List Int) (cg : Nat) (S : Option Addr) (ss : List Int) (cs : Nat) (w : World) (hG : Mem.Row w w.heap.size G (Mem.nums .u16 gs)) (hS : Mem.Row w w.heap.size S (Mem.nums .u16 ss)) (bG : ∀ n ∈ gs, 0 ≤ n ∧ n ≤ 65535) (bS : ∀ n ∈ ss, 0 ≤ n ∧ n ≤ 65535) (lG : gs.length ≤ maxLen) (lS : ss.length ≤ maxLen) :
    Calls Try.prog 28 #[.agg #[.int .u32 x, .int .u32 y, .slice G gs.length cg, .slice S ss.length cs]] w fun e w' => (∃ v, e = .returned v ∧ w'.ownsRow w.heap.size 49 2 v (Dr.trace gs ss).length (Mem.arrs (Dr.trace gs ss))) ∧ Below w.heap.size w w' := by
  obtain ⟨ia, ha0, ha1, ha2, ha3⟩ := info_parts Mem.arr_info
  have IA := Lib.hid (And.intro ha0 (And.intro ha1 (And.intro ha2 ha3)))
  have HG := Lib.hid hG
  have HS := Lib.hid hS
  have HBG := Lib.hid bG
  have HBS := Lib.hid bS
  have hlt := Dr.trace_length gs ss
  have HL := Lib.hid hlt
  clear ha0 ha1 ha2 ha3 hG hS bG bS hlt
  unfold maxLen at lG lS
  go_enter Try.func28, Try.ntmps28
  go_wp2_with fail
  obtain ⟨W0, hW0⟩ : ∃ W0, w.alloc (.cells #[.int .u32 x, .int .u32 y, .slice G gs.length cg, .slice S ss.length cs] 44) = W0 := ⟨_, rfl⟩
  have k2 : W0.cell? ⟨w.heap.size, 2, none⟩ = some (.slice G gs.length cg) := by rw [← hW0]; simp [go_sem]
  have k3 : W0.cell? ⟨w.heap.size, 3, none⟩ = some (.slice S ss.length cs) := by rw [← hW0]; simp [go_sem]
  have kz : w.heap.size < W0.heap.size := by rw [← hW0]; simp
  have HW : Hid (Below w.heap.size w W0) := by rw [← hW0]; exact Lib.hid ((Below.refl _ _).alloc (Nat.le_refl _) _)
  rw [hW0]
  clear hW0
  have HK := Lib.hid (And.intro k2 k3)
  have HG0 := Lib.hid (HG.out.below HW.out)
  have HS0 := Lib.hid (HS.out.below HW.out)
  clear k2 k3
  go_loopw [3, 4, 5] (fun v t i wr => ∃ (k : Nat) (at_ : Int) (pre : List (Int × Int)), k ≤ 30 ∧ k ≤ ss.length ∧ i = .int .i64 k ∧ t = .int .i64 at_ ∧ 0 ≤ at_ ∧ at_ ≤ 65535 * k ∧ wr.ownsRow W0.heap.size 49 2 v pre.length (Mem.arrs pre) ∧ pre.length = k ∧ Dr.trace gs ss = pre ++ Dr.go at_ (gs.drop k) ((ss.take 30).drop k) ∧ Below W0.heap.size W0 wr) (fun _ _ i _ => 30 - (intOf i).toNat)
  case atStart => exact ⟨0, 0, [], by omega, by omega, rfl, rfl, by omega, by omega, World.ownsRow_nil _ _ _ _, rfl, rfl, Below.refl _ _⟩
  case round =>
    obtain ⟨k, at_, pre, hk, hk2, rfl, rfl, t0, t1, hown, hpl, htr, hb⟩ := hrel
    have q2 := below_cell hb HK.out.1 kz
    have q3 := below_cell hb HK.out.2 kz
    have hsz := hb.size
    have HO := Lib.hid hown
    have HT := Lib.hid htr
    have HB := Lib.hid hb
    clear hown htr hb
    by_cases hlt : k < ss.length ∧ k < 30
    · obtain ⟨hlt1, hlt2⟩ := hlt
      obtain ⟨s, hs⟩ : ∃ s, ss[k]? = some s := ⟨ss[k], List.getElem?_eq_getElem hlt1⟩
      obtain ⟨sd, rfl, _, hsc⟩ := (HS0.out.below (HB.out.mono (by omega))).at_ hs
      have bs := HBS.out s (List.mem_of_getElem? hs)
      have hs' : (ss.take 30)[k]? = some s := by rw [List.getElem?_take, if_pos hlt2]; exact hs
      have HST := Lib.hid (HT.out.trans (by rw [Dr.go_step hs']))
      clear hs hs'
      by_cases hg : k < gs.length
      · obtain ⟨g, hgk⟩ : ∃ g, gs[k]? = some g := ⟨gs[k], List.getElem?_eq_getElem hg⟩
        obtain ⟨gd, rfl, _, hgc⟩ := (HG0.out.below (HB.out.mono (by omega))).at_ hgk
        have bg := HBG.out g (List.mem_of_getElem? hgk)
        have HST2 : Hid (Dr.trace gs ss = pre ++ (at_ + g, 1 + s) :: Dr.go (at_ + g) (gs.drop (k + 1)) ((ss.take 30).drop (k + 1))) := by apply Lib.hid; rw [HST.out, hgk]; rfl
        clear hgk
        go_wp2_with (at_builtin; refine Mem.wpList_append _ rfl (.tmp 30) (.tmp 40) _ rfl W0.heap.size 49 ia _ 2 16 Try.underlying45 IA.out.1 IA.out.2.1 IA.out.2.2.1 IA.out.2.2.2 rfl (by omega) _ pre.length (Mem.arrs pre) rfl (HO.out.alloc _) _ (some ⟨wr.heap.size, 0, none⟩) 1 1 [.int .i64 (at_ + g), .int .i64 (1 + s)] rfl rfl (Mem.Row.new _ _ _) (Mem.arrs_oneCell [(at_ + g, 1 + s)]) (by unfold maxLen; omega) (by omega) (by simp; omega) ?_; intro v1 w1 hown1 hg1 hat1 hlt1; have HO1 := Lib.hid hown1; have HG1 := Lib.hid hg1; have HL1 := Lib.hid hlt1; clear hown1 hg1 hat1 hlt1)
        go_roundw
        case rel => exact ⟨k + 1, at_ + g, pre ++ [(at_ + g, 1 + s)], by omega, by omega, by go_num, rfl, by omega, by push_cast; omega, by rw [Mem.arrs_append, Mem.arrs_one, List.length_append]; exact HO1.out, by rw [List.length_append, hpl]; rfl, by rw [HST2.out]; simp, (HB.out.alloc HB.out.size _).grown HG1.out (by simp; omega) (fun k hk => (HL1.out k hk).1)⟩
        case measure => simp [intOf]; omega
      · have HST2 : Hid (Dr.trace gs ss = pre ++ (at_, 1 + s) :: Dr.go at_ (gs.drop (k + 1)) ((ss.take 30).drop (k + 1))) := by apply Lib.hid; rw [HST.out, List.getElem?_eq_none (by omega)]; simp
        go_wp2_with (at_builtin; refine Mem.wpList_append _ rfl (.tmp 30) (.tmp 40) _ rfl W0.heap.size 49 ia _ 2 16 Try.underlying45 IA.out.1 IA.out.2.1 IA.out.2.2.1 IA.out.2.2.2 rfl (by omega) _ pre.length (Mem.arrs pre) rfl (HO.out.alloc _) _ (some ⟨wr.heap.size, 0, none⟩) 1 1 [.int .i64 at_, .int .i64 (1 + s)] rfl rfl (Mem.Row.new _ _ _) (Mem.arrs_oneCell [(at_, 1 + s)]) (by unfold maxLen; omega) (by omega) (by simp; omega) ?_; intro v1 w1 hown1 hg1 hat1 hlt1; have HO1 := Lib.hid hown1; have HG1 := Lib.hid hg1; have HL1 := Lib.hid hlt1; clear hown1 hg1 hat1 hlt1)
        go_roundw
        case rel => exact ⟨k + 1, at_, pre ++ [(at_, 1 + s)], by omega, by omega, by go_num, rfl, by omega, by push_cast; omega, by rw [Mem.arrs_append, Mem.arrs_one, List.length_append]; exact HO1.out, by rw [List.length_append, hpl]; rfl, by rw [HST2.out]; simp, (HB.out.alloc HB.out.size _).grown HG1.out (by simp; omega) (fun k hk => (HL1.out k hk).1)⟩
        case measure => simp [intOf]; omega
    · have HT2 : Hid (Dr.trace gs ss = pre) := by
        apply Lib.hid
        rw [HT.out, List.drop_eq_nil_of_le (show (ss.take 30).length ≤ k by rw [List.length_take]; omega)]; simp [Dr.go]
      by_cases h1 : k < ss.length
      all_goals
        go_wp2_with fail
        go_ret
        exact ⟨⟨_, rfl, by rw [HT2.out]; exact World.ownsRow.mono HO.out (by omega)⟩, HW.out.trans (HB.out.mono (by omega))⟩
end DrW
end Go.Proofs.Ytoglmfpmeajbeaa
