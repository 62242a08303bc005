/- Own text: a region of open order of which some operations, that only compute, come in whatever order between the others, which come one behind the other (part K). -/
import Derived.Test.YtdacnebhlgibhaaAwJ
set_option linter.unusedVariables false
set_option linter.unusedSimpArgs false
namespace Go.Aw
open Go

/-- Classes: 0 only computes, ahead of all that change anything; 1 only computes; 5 comes in its order. -/
def okM (ops : Array Oper) (n : Nat) (cs : List Nat) : Bool :=
  ((List.range ops.size).all fun i => match ops[i]? with
    | none => false
    | some o => o.dst.all (fun d => Nat.blt d n) &&
      ((o.looksAt ops).all fun t => (List.range ops.size).all fun k => !(dstOf ops k == some t) ||
        (Nat.blt k i && waits ops i k && (Nat.beq (cs.getD i 1) 5 || !(Nat.beq (cs.getD k 1) 5))) || (Nat.blt i k && Nat.beq (cs.getD k 1) 5 && ((bits ops).getD k 0).testBit i)) &&
      (List.range ops.size).all fun k => Nat.beq k i || o.dst.isNone || !(dstOf ops k == o.dst)) && edgesOk ops &&
  ((List.range ops.size).all fun j => match ops[j]? with | some o => Nat.beq ((bits ops).getD j 0) (bitsOf (bits ops) o) | none => false) &&
  ((List.range ops.size).all fun j => (List.range ops.size).all fun i => match cs.getD i 1, cs.getD j 1 with
    | 5, 5 => !(Nat.blt i j) || ((bits ops).getD j 0).testBit i
    | 0, 5 => ((bits ops).getD j 0).testBit i
    | _, _ => true)

structure ChkM (ops : Array Oper) (n : Nat) (cls : Nat → Nat) : Prop where
  dn : ∀ (i : Nat) (o : Oper), ops[i]? = some o → o.dst.all (fun d => Nat.blt d n) = true
  look : ∀ (i : Nat) (o : Oper) (t k : Nat), ops[i]? = some o → t ∈ o.looksAt ops → dstOf ops k = some t → (k < i ∧ waits ops i k = true ∧ (cls i ≠ 5 → cls k ≠ 5)) ∨ (i < k ∧ cls k = 5 ∧ ((bits ops).getD k 0).testBit i = true)
  dist : ∀ (i k d : Nat), dstOf ops i = some d → dstOf ops k = some d → i = k
  edge : ∀ (i : Nat) (o : Oper) (e : Edge), ops[i]? = some o → e ∈ o.after → binds e = true → e.on < i
  bit : ∀ (j : Nat) (o : Oper), ops[j]? = some o → (bits ops).getD j 0 = bitsOf (bits ops) o
  cc : ∀ (i j : Nat), i < j → j < ops.size → cls i = 5 → cls j = 5 → ((bits ops).getD j 0).testBit i = true
  c0 : ∀ (i j : Nat), i < ops.size → j < ops.size → cls i = 0 → cls j = 5 → ((bits ops).getD j 0).testBit i = true
theorem dst_lt {ops : Array Oper} {i d : Nat} (h : dstOf ops i = some d) : i < ops.size := by
  unfold dstOf at h
  cases ho : ops[i]? with
  | none => rw [ho] at h; cases h
  | some o => exact (Array.getElem?_eq_some_iff.1 ho).1
theorem ChkM.of {ops : Array Oper} {n : Nat} {cs : List Nat} (h : okM ops n cs = true) : ChkM ops n (fun i => cs.getD i 1) := by
  unfold okM edgesOk at h
  simp only [Bool.and_eq_true, List.all_eq_true, List.mem_range] at h
  obtain ⟨⟨⟨hp, he⟩, hb⟩, hc⟩ := h
  have lt : ∀ {i : Nat} {o : Oper}, ops[i]? = some o → i < ops.size := fun h => (Array.getElem?_eq_some_iff.1 h).1
  refine ⟨fun i o ho => ?_, fun i o t k ho ht hd => ?_, fun i k d hi hk => ?_, fun i o e ho hm hbi => ?_, fun j o ho => ?_, fun i j hij hj h1 h2 => ?_, fun i j hi hj h1 h2 => ?_⟩
  · have := hp i (lt ho)
    rw [ho] at this
    simp only [Bool.and_eq_true] at this
    exact this.1.1
  · have := hp i (lt ho)
    rw [ho] at this
    simp only [Bool.and_eq_true, List.all_eq_true, List.mem_range] at this
    have h2 := this.1.2 t ht k (dst_lt hd)
    simp only [hd, beq_self_eq_true, Bool.not_true, Bool.false_or, Bool.or_eq_true, Bool.and_eq_true, Nat.blt_eq] at h2
    rcases h2 with ⟨⟨h3, h4⟩, h5⟩ | ⟨⟨h3, h4⟩, h5⟩
    · refine .inl ⟨h3, h4, fun h6 h7 => ?_⟩
      rcases h5 with h5 | h5
      · exact h6 (Nat.eq_of_beq_eq_true h5)
      · have h8 : cs.getD k 1 = 5 := h7; rw [h8] at h5; simp at h5
    · exact .inr ⟨h3, Nat.eq_of_beq_eq_true h4, h5⟩
  · have h1 := hp i (dst_lt hi)
    cases ho : ops[i]? with
    | none => rw [ho] at h1; cases h1
    | some o =>
      rw [ho] at h1
      simp only [Bool.and_eq_true, List.all_eq_true, List.mem_range] at h1
      have h2 := h1.2 k (dst_lt hk)
      have hdo : o.dst = some d := by unfold dstOf at hi; rw [ho] at hi; exact hi
      rw [hdo, hk] at h2
      simp only [beq_self_eq_true, Bool.not_true, Bool.or_false, Bool.or_eq_true, Option.isNone_some, Bool.false_eq_true, or_false] at h2
      exact (Nat.eq_of_beq_eq_true h2).symm
  · have := he i (lt ho)
    rw [ho] at this
    simp only [Array.all_eq_true] at this
    obtain ⟨q, hq, rfl⟩ := Array.mem_iff_getElem.1 hm
    have h2 := this q hq
    rw [hbi] at h2
    simpa [Nat.blt_eq] using h2
  · have := hb j (lt ho)
    rw [ho] at this
    exact Nat.eq_of_beq_eq_true this
  · have := hc j hj i (by omega)
    simp only [h1, h2, Bool.or_eq_true, Bool.not_eq_true'] at this
    rcases this with h3 | h3
    · rw [← Bool.not_eq_true, Nat.blt_eq] at h3; omega
    · exact h3
  · have := hc j hj i hi
    simp only [h1, h2] at this
    exact this

/-- What only computes, in its order; the others are passed over. -/
inductive QSeq (P : Program) (ops : Array Oper) (n : Nat) (S : List Blk → Prop) (A : List Blk) : List Nat → List Oper → Env → Env → Prop
  | nil (v : Env) : QSeq P ops n S A [] [] v v
  | go0 (cs : List Nat) (o : Oper) (l : List Oper) (v v' : Env) (r : AV) (hw : Want ops n o v) (h : AOp P o n (restr (o.looksAt ops) v) A (fun r' A' => r' = r ∧ A' = A) (fun _ _ => False)) (k : QSeq P ops n S A cs l (st o.dst r v) v') : QSeq P ops n S A (0 :: cs) (o :: l) v v'
  | go1 (cs : List Nat) (o : Oper) (l : List Oper) (v v' : Env) (r : AV) (hw : Want ops n o v) (h : ∀ A0, S A0 → AOp P o n (restr (o.looksAt ops) v) A0 (fun r' A' => r' = r ∧ A' = A0) (fun _ _ => False)) (k : QSeq P ops n S A cs l (st o.dst r v) v') : QSeq P ops n S A (1 :: cs) (o :: l) v v'
  | no (c : Nat) (cs : List Nat) (o : Oper) (l : List Oper) (v v' : Env) (hc : c = 0 ∨ c = 1) (hw : Unwant ops n o v) (k : QSeq P ops n S A cs l (st o.dst (.sc undef) v) v') : QSeq P ops n S A (c :: cs) (o :: l) v v'
  | over (cs : List Nat) (o : Oper) (l : List Oper) (v v' : Env) (k : QSeq P ops n S A cs l v v') : QSeq P ops n S A (5 :: cs) (o :: l) v v'
def QSeqK (P : Program) (ops : Array Oper) (n : Nat) (S : List Blk → Prop) (A : List Blk) (cs : List Nat) (l : List Oper) (v : Env) (K : Env → Prop) : Prop := ∃ v', QSeq P ops n S A cs l v v' ∧ K v'
/-- The others, one behind the other. -/
inductive CSeq (P : Program) (ops : Array Oper) (n : Nat) (S : List Blk → Prop) (K : Env → List Blk → Prop) (E : AV → List Blk → Prop) : List Nat → List Oper → Env → List Blk → Prop
  | nil (v : Env) (A : List Blk) (h : K v A) : CSeq P ops n S K E [] [] v A
  | over (c : Nat) (cs : List Nat) (o : Oper) (l : List Oper) (v : Env) (A : List Blk) (hc : c ≠ 5) (k : CSeq P ops n S K E cs l v A) : CSeq P ops n S K E (c :: cs) (o :: l) v A
  | go (cs : List Nat) (o : Oper) (l : List Oper) (v : Env) (A : List Blk) (KK : AV → List Blk → Prop) (hw : Want ops n o v) (h : AOp P o n (restr (o.looksAt ops) v) A KK E) (hS : ∀ r A', KK r A' → S A') (k : ∀ r A', KK r A' → CSeq P ops n S K E cs l (st o.dst r v) A') : CSeq P ops n S K E (5 :: cs) (o :: l) v A
  | no (cs : List Nat) (o : Oper) (l : List Oper) (v : Env) (A : List Blk) (hw : Unwant ops n o v) (k : CSeq P ops n S K E cs l (st o.dst (.sc undef) v) A) : CSeq P ops n S K E (5 :: cs) (o :: l) v A

section
variable {P : Program} {ops : Array Oper} {n : Nat} {S : List Blk → Prop} {A : List Blk} {cs : List Nat} {o : Oper} {l : List Oper} {v : Env}
theorem q_nil {K : Env → Prop} (h : K v) : QSeqK P ops n S A [] [] v K := ⟨v, .nil v, h⟩
theorem q_over {K : Env → Prop} (k : QSeqK P ops n S A cs l v K) : QSeqK P ops n S A (5 :: cs) (o :: l) v K := by obtain ⟨v', h1, h2⟩ := k; exact ⟨v', .over cs o l v v' h1, h2⟩
theorem q_go0 {K : Env → Prop} (r : AV) (hg : o.guard = none) (h : AOp P o n (restr (o.looksAt ops) v) A (fun r' A' => r' = r ∧ A' = A) (fun _ _ => False)) (k : QSeqK P ops n S A cs l (st o.dst r v) K) : QSeqK P ops n S A (0 :: cs) (o :: l) v K := by
  obtain ⟨v', h1, h2⟩ := k; exact ⟨v', .go0 cs o l v v' r (.inl hg) h h1, h2⟩
theorem q_go1 {K : Env → Prop} (r : AV) (hg : o.guard = none) (h : ∀ A0, S A0 → AOp P o n (restr (o.looksAt ops) v) A0 (fun r' A' => r' = r ∧ A' = A0) (fun _ _ => False)) (k : QSeqK P ops n S A cs l (st o.dst r v) K) : QSeqK P ops n S A (1 :: cs) (o :: l) v K := by
  obtain ⟨v', h1, h2⟩ := k; exact ⟨v', .go1 cs o l v v' r (.inl hg) h h1, h2⟩
theorem q_guard0 {K : Env → Prop} (j : Nat) (want : Bool) (s : Nat) (t : Bool) (hg : o.guard = some (j, want)) (hs : gslot ops j = some s) (hsn : Nat.blt s n = true) (hv : lk s v = some (.sc (.bool t)))
    (h : t = want → ∃ r, AOp P o n (restr (o.looksAt ops) v) A (fun r' A' => r' = r ∧ A' = A) (fun _ _ => False) ∧ QSeqK P ops n S A cs l (st o.dst r v) K) (k : t = !want → QSeqK P ops n S A cs l (st o.dst (.sc undef) v) K) : QSeqK P ops n S A (0 :: cs) (o :: l) v K := by
  by_cases ht : t = want
  · obtain ⟨r, h0, v', h1, h2⟩ := h ht
    subst ht
    exact ⟨v', .go0 cs o l v v' r (.inr ⟨j, t, s, hg, hs, hsn, hv⟩) h0 h1, h2⟩
  · have ht' : t = !want := by cases t <;> cases want <;> simp_all
    obtain ⟨v', h1, h2⟩ := k ht'
    subst ht'
    exact ⟨v', .no 0 cs o l v v' (.inl rfl) ⟨j, want, s, hg, hs, hsn, .inl hv⟩ h1, h2⟩
theorem q_guard1 {K : Env → Prop} (j : Nat) (want : Bool) (s : Nat) (t : Bool) (hg : o.guard = some (j, want)) (hs : gslot ops j = some s) (hsn : Nat.blt s n = true) (hv : lk s v = some (.sc (.bool t)))
    (h : t = want → ∃ r, (∀ A0, S A0 → AOp P o n (restr (o.looksAt ops) v) A0 (fun r' A' => r' = r ∧ A' = A0) (fun _ _ => False)) ∧ QSeqK P ops n S A cs l (st o.dst r v) K) (k : t = !want → QSeqK P ops n S A cs l (st o.dst (.sc undef) v) K) : QSeqK P ops n S A (1 :: cs) (o :: l) v K := by
  by_cases ht : t = want
  · obtain ⟨r, h0, v', h1, h2⟩ := h ht
    subst ht
    exact ⟨v', .go1 cs o l v v' r (.inr ⟨j, t, s, hg, hs, hsn, hv⟩) h0 h1, h2⟩
  · have ht' : t = !want := by cases t <;> cases want <;> simp_all
    obtain ⟨v', h1, h2⟩ := k ht'
    subst ht'
    exact ⟨v', .no 1 cs o l v v' (.inr rfl) ⟨j, want, s, hg, hs, hsn, .inl hv⟩ h1, h2⟩
theorem q_guardU {K : Env → Prop} {c : Nat} (hc : c = 0 ∨ c = 1) (j : Nat) (want : Bool) (s : Nat) (hg : o.guard = some (j, want)) (hs : gslot ops j = some s) (hsn : Nat.blt s n = true) (hv : lk s v = some (.sc undef)) (k : QSeqK P ops n S A cs l (st o.dst (.sc undef) v) K) : QSeqK P ops n S A (c :: cs) (o :: l) v K := by
  obtain ⟨v', h1, h2⟩ := k
  exact ⟨v', .no c cs o l v v' hc ⟨j, want, s, hg, hs, hsn, .inr hv⟩ h1, h2⟩
theorem qg0 {K : Env → Prop} {v1 : Env} (r : AV) (h : AOp P o n v1 A (fun r' A' => r' = r ∧ A' = A) (fun _ _ => False)) (k : QSeqK P ops n S A cs l (st o.dst r v) K) :
    ∃ r, AOp P o n v1 A (fun r' A' => r' = r ∧ A' = A) (fun _ _ => False) ∧ QSeqK P ops n S A cs l (st o.dst r v) K := ⟨r, h, k⟩
theorem qg1 {K : Env → Prop} {v1 : Env} (r : AV) (h : ∀ A0, S A0 → AOp P o n v1 A0 (fun r' A' => r' = r ∧ A' = A0) (fun _ _ => False)) (k : QSeqK P ops n S A cs l (st o.dst r v) K) :
    ∃ r, (∀ A0, S A0 → AOp P o n v1 A0 (fun r' A' => r' = r ∧ A' = A0) (fun _ _ => False)) ∧ QSeqK P ops n S A cs l (st o.dst r v) K := ⟨r, h, k⟩
variable {K : Env → List Blk → Prop} {E : AV → List Blk → Prop}
theorem c_nil (h : K v A) : CSeq P ops n S K E [] [] v A := .nil v A h
theorem c_over {c : Nat} (hc : c ≠ 5) (k : CSeq P ops n S K E cs l v A) : CSeq P ops n S K E (c :: cs) (o :: l) v A := .over c cs o l v A hc k
theorem c_go (hg : o.guard = none) (h : AOp P o n (restr (o.looksAt ops) v) A (fun r A' => S A' ∧ CSeq P ops n S K E cs l (st o.dst r v) A') E) : CSeq P ops n S K E (5 :: cs) (o :: l) v A :=
  .go cs o l v A _ (.inl hg) h (fun _ _ h => h.1) (fun _ _ h => h.2)
theorem c_guard (j : Nat) (want : Bool) (s : Nat) (t : Bool) (hg : o.guard = some (j, want)) (hs : gslot ops j = some s) (hv : lk s v = some (.sc (.bool t))) (hsn : Nat.blt s n = true)
    (h : t = want → AOp P o n (restr (o.looksAt ops) v) A (fun r A' => S A' ∧ CSeq P ops n S K E cs l (st o.dst r v) A') E) (k : t = !want → CSeq P ops n S K E cs l (st o.dst (.sc undef) v) A) : CSeq P ops n S K E (5 :: cs) (o :: l) v A := by
  by_cases ht : t = want
  · subst ht
    exact .go cs o l v A _ (.inr ⟨j, t, s, hg, hs, hsn, hv⟩) (h rfl) (fun _ _ h => h.1) (fun _ _ h => h.2)
  · have ht' : t = !want := by cases t <;> cases want <;> simp_all
    subst ht'
    exact .no cs o l v A ⟨j, want, s, hg, hs, hsn, .inl hv⟩ (k rfl)
theorem c_guardU (j : Nat) (want : Bool) (s : Nat) (hg : o.guard = some (j, want)) (hs : gslot ops j = some s) (hv : lk s v = some (.sc undef)) (hsn : Nat.blt s n = true) (k : CSeq P ops n S K E cs l (st o.dst (.sc undef) v) A) : CSeq P ops n S K E (5 :: cs) (o :: l) v A :=
  .no cs o l v A ⟨j, want, s, hg, hs, hsn, .inr hv⟩ k
theorem c_weak {v' : Env} {A' : List Blk} (h : v' = v) (hA : A' = A) (k : CSeq P ops n S K E cs l v A) : CSeq P ops n S K E cs l v' A' := by subst h hA; exact k
end

/-- What only computes, by numbers. -/
def QStep (P : Program) (ops : Array Oper) (n : Nat) (S : List Blk → Prop) (A : List Blk) (c : Nat) (o : Oper) (v : Env) (r : AV) : Prop :=
  (Want ops n o v ∧ ((c = 0 ∧ AOp P o n (restr (o.looksAt ops) v) A (fun r' A' => r' = r ∧ A' = A) (fun _ _ => False)) ∨ (c = 1 ∧ ∀ A0, S A0 → AOp P o n (restr (o.looksAt ops) v) A0 (fun r' A' => r' = r ∧ A' = A0) (fun _ _ => False)))) ∨ (Unwant ops n o v ∧ r = .sc undef)
theorem QSeq.chain {P : Program} {ops : Array Oper} {n : Nat} {S : List Blk → Prop} {A : List Blk} {cs : List Nat} {l : List Oper} {v v' : Env} (h : QSeq P ops n S A cs l v v') :
    cs.length = l.length ∧ ∃ (ve : Nat → Env) (r : Nat → AV), ve 0 = v ∧ ve l.length = v' ∧ ∀ i, i < l.length → ∃ o, l[i]? = some o ∧ ((cs.getD i 1 = 5 ∧ ve (i + 1) = ve i) ∨ (cs.getD i 1 ≠ 5 ∧ ve (i + 1) = st o.dst (r i) (ve i) ∧ QStep P ops n S A (cs.getD i 1) o (ve i) (r i))) := by
  induction h with
  | nil v => exact ⟨rfl, fun _ => v, fun _ => .dd, rfl, rfl, fun i hi => by simp at hi⟩
  | go0 cs o l v v' r hw h k ih =>
    obtain ⟨hl, ve, r', h0, h1, h2⟩ := ih
    refine ⟨by simp [hl], fun i => match i with | 0 => v | i + 1 => ve i, fun i => match i with | 0 => r | i + 1 => r' i, rfl, by simpa using h1, fun i hi => ?_⟩
    cases i with
    | zero => exact ⟨o, rfl, .inr ⟨by simp, h0, .inl ⟨hw, .inl ⟨rfl, h⟩⟩⟩⟩
    | succ i => obtain ⟨o', k1, k2⟩ := h2 i (by simpa using hi); exact ⟨o', by simpa using k1, by simpa only [List.getD_cons_succ] using k2⟩
  | go1 cs o l v v' r hw h k ih =>
    obtain ⟨hl, ve, r', h0, h1, h2⟩ := ih
    refine ⟨by simp [hl], fun i => match i with | 0 => v | i + 1 => ve i, fun i => match i with | 0 => r | i + 1 => r' i, rfl, by simpa using h1, fun i hi => ?_⟩
    cases i with
    | zero => exact ⟨o, rfl, .inr ⟨by simp, h0, .inl ⟨hw, .inr ⟨rfl, h⟩⟩⟩⟩
    | succ i => obtain ⟨o', k1, k2⟩ := h2 i (by simpa using hi); exact ⟨o', by simpa using k1, by simpa only [List.getD_cons_succ] using k2⟩
  | no c cs o l v v' hc hw k ih =>
    obtain ⟨hl, ve, r', h0, h1, h2⟩ := ih
    refine ⟨by simp [hl], fun i => match i with | 0 => v | i + 1 => ve i, fun i => match i with | 0 => .sc undef | i + 1 => r' i, rfl, by simpa using h1, fun i hi => ?_⟩
    cases i with
    | zero => exact ⟨o, rfl, .inr ⟨by rcases hc with rfl | rfl <;> simp, h0, .inr ⟨hw, rfl⟩⟩⟩
    | succ i => obtain ⟨o', k1, k2⟩ := h2 i (by simpa using hi); exact ⟨o', by simpa using k1, by simpa only [List.getD_cons_succ] using k2⟩
  | over cs o l v v' k ih =>
    obtain ⟨hl, ve, r', h0, h1, h2⟩ := ih
    refine ⟨by simp [hl], fun i => match i with | 0 => v | i + 1 => ve i, fun i => match i with | 0 => .dd | i + 1 => r' i, rfl, by simpa using h1, fun i hi => ?_⟩
    cases i with
    | zero => exact ⟨o, rfl, .inl ⟨by simp, h0⟩⟩
    | succ i => obtain ⟨o', k1, k2⟩ := h2 i (by simpa using hi); exact ⟨o', by simpa using k1, by simpa only [List.getD_cons_succ] using k2⟩

/-- The chain of the others, past those that are passed over. -/
theorem CSeq.skip {P : Program} {ops : Array Oper} {n : Nat} {S : List Blk → Prop} {K : Env → List Blk → Prop} {E : AV → List Blk → Prop} {v : Env} {A : List Blk} : ∀ (d : Nat) {cs : List Nat} {l : List Oper}, CSeq P ops n S K E cs l v A → d ≤ l.length → (∀ i, i < d → cs.getD i 1 ≠ 5) → CSeq P ops n S K E (cs.drop d) (l.drop d) v A := by
  intro d
  induction d with
  | zero => intro cs l h _ _; simpa using h
  | succ d ih =>
    intro cs l h hd hc
    cases h with
    | nil v A h => simp at hd
    | over c cs o l v A hc' k => simpa using ih k (by simpa using hd) (fun i hi => by simpa using hc (i + 1) (by omega))
    | go cs o l v A KK hw h hS k => exact absurd (by simp) (hc 0 (by omega))
    | no cs o l v A hw k => exact absurd (by simp) (hc 0 (by omega))
def asB : Value → Option Bool | .bool b => some b | _ => none
theorem yielded_of {H : Hp} {n : Nat} {ops : Array Oper} {v : Env} {tm : Array Value} {jj s : Nat} {x : Value} (hn : tm.size = n) (h : ∀ t y, lk t v = some y → t = s → Rel H y (tm.getD t undef)) (h1 : gslot ops jj = some s) (h2 : Nat.blt s n = true) (h4 : lk s v = some (.sc x)) : yielded ops tm jj = asB x := by
  have h5 := h s _ h4 rfl
  have hsn' : s < tm.size := by rw [hn]; simpa [Nat.blt_eq] using h2
  have h6 : tm[s]? = some x := by
    rw [Array.getD_eq_getD_getElem?, Array.getElem?_eq_getElem hsn'] at h5
    simp only [Option.getD_some] at h5
    rw [Array.getElem?_eq_getElem hsn']
    generalize tm[s] = q at h5
    cases h5
    rfl
  unfold yielded
  have h7 : ((ops[jj]?).bind (·.dst)) = some s := h1
  rw [h7]
  simp only [Option.bind_some, h6]
  cases x <;> rfl
theorem gslot_look {ops : Array Oper} {o : Oper} {jj s : Nat} {want : Bool} (h1 : o.guard = some (jj, want)) (h2 : gslot ops jj = some s) : s ∈ o.looksAt ops := by
  unfold Oper.looksAt
  rw [h1]
  refine List.mem_append_right _ ?_
  unfold gslot at h2
  dsimp only
  rw [h2]
  simp

theorem bits_listedM {ops : Array Oper} {n : Nat} {cls : Nat → Nat} (c : ChkM ops n cls) {L : Array Bool} (hc : Cl ops L) : ∀ (k j : Nat) (o : Oper), j ≤ k → ops[j]? = some o → (∀ e ∈ o.after, binds e = true → L.getD e.on false = true) → ∀ i, ((bits ops).getD j 0).testBit i = true → L.getD i false = true := by
  intro k
  induction k with
  | zero =>
    intro j o hj ho hw i hi
    rw [c.bit j o ho] at hi
    unfold bitsOf at hi
    rw [← Array.foldl_toList] at hi
    rcases foldl_bits hi with h | ⟨e, he, hb, q⟩
    · simp at h
    · have := c.edge j o e ho (Array.mem_toList_iff.1 he) hb
      omega
  | succ k ih =>
    intro j o hj ho hw i hi
    rw [c.bit j o ho] at hi
    unfold bitsOf at hi
    rw [← Array.foldl_toList] at hi
    rcases foldl_bits hi with h | ⟨e, he, hb, q⟩
    · simp at h
    · have he' := Array.mem_toList_iff.1 he
      have hlt := c.edge j o e ho he' hb
      rcases q with rfl | q
      · exact hw e he' hb
      · have hjs : j < ops.size := (Array.getElem?_eq_some_iff.1 ho).1
        have ho2 : ops[e.on]? = some (ops[e.on]'(by omega)) := Array.getElem?_eq_getElem (by omega)
        exact ih e.on _ (by omega) ho2 (fun e2 h2 hb2 => hc e.on _ e2 ho2 (hw e he' hb) h2 hb2) i q
theorem ready_leastM {ops : Array Oper} {n : Nat} {cls : Nat → Nat} (c : ChkM ops n cls) {L : Array Bool} (hs : L.size = ops.size) {i : Nat} (hi : i < ops.size) (hf : L.getD i false = false) (hl : ∀ j, j < i → L.getD j false = true) : i ∈ Region.ready .any ops L := by
  refine List.mem_filter.2 ⟨List.mem_range.2 hi, ?_⟩
  have ho : ops[i]? = some ops[i] := Array.getElem?_eq_getElem hi
  simp only [Bool.and_eq_true]
  refine ⟨?_, ?_⟩
  · simp only [Array.getD_eq_getD_getElem?, Array.getElem?_eq_getElem (show i < L.size by omega), Option.getD_some, Bool.not_eq_true'] at hf ⊢
    exact hf
  · rw [ho]
    simp only [Option.map_some, Option.getD_some, Array.all_eq_true]
    intro q hq
    cases hb : Region.binds .any ops[i].after[q] with
    | false => rfl
    | true =>
      have hlt := c.edge i _ _ ho (Array.getElem_mem hq) hb
      simpa using hl _ hlt
theorem put_getD {n : Nat} {a : Act} (hn : a.tmps.size = n) {d : Option Nat} (hd : d.all (fun k => Nat.blt k n) = true) (u : Value) (s : Nat) : (a.put d u).tmps.getD s undef = if d = some s then u else a.tmps.getD s undef := by
  cases d with
  | none => simp [Act.put]
  | some d =>
    have hd' : d < a.tmps.size := by rw [hn]; simpa [Nat.blt_eq] using hd
    simp only [Act.put, Array.getD_eq_getD_getElem?, Array.getElem?_setIfInBounds, Option.some.injEq]
    split
    · rename_i h; subst h; simp [hd']
    · rfl

theorem aw_drawM {P : Program} {n id : Nat} {ops : Array Oper} {v : Env} {A : List Blk} {Q : Post} (S : List Blk → Prop) (hSA : S A) (cs : List Nat) (hmix : P.follows .mixedOrders = true) (hchk : okM ops n cs = true)
    (h : QSeqK P ops n S A cs ops.toList v (fun vm => CSeq P ops n S (fun v' A' => Q .nm v' A') (fun r A' => Q (.pn r) [] A') cs ops.toList vm A)) : AW P n (.region id ops true) v A Q := by
  have c := ChkM.of hchk
  obtain ⟨vm, hq, hC⟩ := h
  obtain ⟨hcl, ve, r, h0, hlast, hst0⟩ := hq.chain
  have hsz : ops.toList.length = ops.size := by simp
  rw [hsz] at hcl hlast hst0
  have hgd : ∀ i, i < ops.size → cs[i]? = some (cs.getD i 1) := fun i hi => by
    rw [List.getD_eq_getElem?_getD, List.getElem?_eq_getElem (by omega)]; rfl
  generalize hcls : (fun i => cs.getD i 1) = cls at c
  have hcls' : ∀ i, cs.getD i 1 = cls i := fun i => by rw [← hcls]
  have hst : ∀ i, i < ops.size → ∃ o, ops[i]? = some o ∧ ((cls i = 5 ∧ ve (i + 1) = ve i) ∨ (cls i ≠ 5 ∧ ve (i + 1) = st o.dst (r i) (ve i) ∧ QStep P ops n S A (cls i) o (ve i) (r i))) := fun i hi => by
    obtain ⟨o, ho, h⟩ := hst0 i hi
    rw [Array.getElem?_toList] at ho
    rw [hcls'] at h
    exact ⟨o, ho, h⟩
  have dsto : ∀ {i : Nat} {o : Oper}, ops[i]? = some o → dstOf ops i = o.dst := fun h => by unfold dstOf; rw [h]; rfl
  let dp : Nat → Option Nat := fun i => if cls i = 5 then none else dstOf ops i
  have hdp : ∀ i, cls i ≠ 5 → dp i = dstOf ops i := fun i h => if_neg h
  have hdp5 : ∀ i s, dp i = some s → cls i ≠ 5 ∧ dstOf ops i = some s := fun i s h => by
    by_cases h5 : cls i = 5
    · have : dp i = none := if_pos h5
      rw [this] at h; cases h
    · rw [hdp i h5] at h; exact ⟨h5, h⟩
  have hch : ∀ i, i < ops.size → ve (i + 1) = st (dp i) (r i) (ve i) := fun i hi => by
    obtain ⟨o, ho, ⟨h5, h⟩ | ⟨h5, h, _⟩⟩ := hst i hi
    · rw [h, show dp i = none from if_pos h5]; rfl
    · rw [h, hdp i h5, dsto ho]
  have hpv : ∀ d j s, j < ops.size → j + 1 + d ≤ ops.size → dp j = some s → lk s (ve (j + 1 + d)) = some (r j) := fun d => by
    induction d with
    | zero => intro j s hj _ hd; rw [Nat.add_zero, hch j hj, hd, lk_st, if_pos rfl]
    | succ d ih =>
      intro j s hj hjd hd
      rw [← Nat.add_assoc, hch (j + 1 + d) (by omega), lk_st, if_neg (fun e => by
        have := c.dist _ _ _ (hdp5 _ _ e).2 (hdp5 _ _ hd).2; omega)]
      exact ih j s hj (by omega) hd
  have hpvm : ∀ j s, j < ops.size → cls j ≠ 5 → dstOf ops j = some s → lk s vm = some (r j) := fun j s hj h5 hd => by
    have := hpv (ops.size - (j + 1)) j s hj (by omega) (by rw [hdp j h5]; exact hd)
    rwa [show j + 1 + (ops.size - (j + 1)) = ops.size by omega, hlast] at this
  intro H G W a s e R hr
  refine wp_region_any hmix ?_
  have main : ∀ (k : Nat) (L : Array Bool) (U : List Nat) (H1 : Hp) (W1 : World) (a1 : Act), U.Nodup → U.length = k → (∀ i, i ∈ U ↔ i < ops.size ∧ L.getD i false = false) → L.size = ops.size → Cl ops L →
      Sub H H1 → Same W W1 → a1.defers = a.defers → a1.tmps.size = n →
      (∃ q vc Ac, q ≤ ops.size ∧ CSeq P ops n S (fun v' A' => Q .nm v' A') (fun r A' => Q (.pn r) [] A') (cs.drop q) (ops.toList.drop q) vc Ac ∧ S Ac ∧ Sim H1 G Ac W1 ∧ (∀ i, i < ops.size → cls i = 5 → (L.getD i false = true ↔ i < q)) ∧ ((∀ i, i < ops.size → cls i = 5 → L.getD i false = false) → Ac = A) ∧
        (∀ j t, j < ops.size → cls j ≠ 5 → dstOf ops j = some t → lk t vc = some (r j)) ∧ (∀ t x, lk t vc = some x → (∀ i, i < ops.size → cls i ≠ 5 → L.getD i false = false → dstOf ops i ≠ some t) → Rel H1 x (a1.tmps.getD t undef))) →
      (∀ t x, lk t v = some x → (∀ i, i < ops.size → L.getD i false = true → dstOf ops i ≠ some t) → Rel H1 x (a1.tmps.getD t undef)) → wpAny P .any ops R k L a1 W1 := by
    intro k
    induction k with
    | zero =>
      intro L U H1 W1 a1 hU hUl hUm hs hc g1 g2 g4 g5 g6 g7
      obtain ⟨q, vc, Ac, hq1, hCq, hSc, g3, hqL, hA0, hp, henv⟩ := g6
      have hall : ∀ i, i < ops.size → L.getD i false = true := fun i hi => by
        cases hL : L.getD i false with
        | true => rfl
        | false =>
          have := (hUm i).2 ⟨hi, hL⟩
          rw [List.eq_nil_of_length_eq_zero hUl] at this
          cases this
      refine ⟨?_, ?_⟩
      · cases hrd : Region.ready .any ops L with
        | nil => rfl
        | cons i rr =>
          obtain ⟨o, ho, hf, _⟩ := ready_waits hs (i := i) (by rw [hrd]; exact List.mem_cons_self ..)
          have := hall i (Array.getElem?_eq_some_iff.1 ho).1
          rw [hf] at this; cases this
      · have hsk := CSeq.skip (ops.size - q) hCq (by simp) (fun i hi h5 => by
          rw [List.getD_eq_getElem?_getD, List.getElem?_drop, ← List.getD_eq_getElem?_getD, hcls'] at h5
          have := (hqL (q + i) (by omega) h5).1 (hall _ (by omega)); omega)
        rw [List.drop_drop, List.drop_drop, show q + (ops.size - q) = ops.size by omega, List.drop_of_length_le (by omega), List.drop_of_length_le (by simp)] at hsk
        cases hsk with
        | nil _ _ hk => exact hr H1 W1 a1 .nm _ vc Ac g1 g2 g3 ⟨g5, fun t x hx => henv t x hx (fun i hi _ hL => by rw [hall i hi] at hL; cases hL)⟩ g4 .nm hk
    | succ k ih =>
      intro L U H1 W1 a1 hU hUl hUm hs hc g1 g2 g4 g5 g6 g7
      obtain ⟨q, vc, Ac, hq1, hCq, hSc, g3, hqL, hA0, hp, henv⟩ := g6
      have hex : ∃ i, i < ops.size ∧ L.getD i false = false ∧ ∀ j, j < i → L.getD j false = true := by
        have key : ∀ m, (∀ i, i < m → L.getD i false = true) ∨ ∃ i, i < m ∧ L.getD i false = false ∧ ∀ j, j < i → L.getD j false = true := by
          intro m
          induction m with
          | zero => exact .inl fun i hi => by omega
          | succ m ihm =>
            rcases ihm with h | ⟨i, hi, h1, h2⟩
            · cases hL : L.getD m false with
              | true =>
                refine .inl fun i hi => ?_
                rcases Nat.lt_succ_iff_lt_or_eq.1 hi with hi | rfl
                · exact h i hi
                · exact hL
              | false => exact .inr ⟨m, by omega, hL, h⟩
            · exact .inr ⟨i, by omega, h1, h2⟩
        rcases key ops.size with h | h
        · cases U with
          | nil => simp at hUl
          | cons i U => have := (hUm i).1 (List.mem_cons_self ..); rw [h i this.1] at this; cases this.2
        · exact h
      obtain ⟨i0, hi0, hf0, hl0⟩ := hex
      refine ⟨fun hrd => ?_, fun j hj => ?_⟩
      · have := ready_leastM c hs hi0 hf0 hl0
        rw [hrd] at this; cases this
      · obtain ⟨o, ho, hf, hw⟩ := ready_waits hs hj
        have hjs := (Array.getElem?_eq_some_iff.1 ho).1
        have hLj : j < L.size := by omega
        have hjU : j ∈ U := (hUm j).2 ⟨hjs, hf⟩
        have hanc : ∀ i, ((bits ops).getD j 0).testBit i = true → L.getD i false = true := bits_listedM c hc j j o (Nat.le_refl _) ho hw
        have hlater : ∀ i, i < ops.size → ((bits ops).getD i 0).testBit j = true → L.getD i false = false := fun i his hb => by
          cases hL : L.getD i false with
          | false => rfl
          | true =>
            have hoi : ops[i]? = some ops[i] := Array.getElem?_eq_getElem his
            have := bits_listedM c hc i i _ (Nat.le_refl _) hoi (fun e he hbi => hc i _ e hoi hL he hbi) j hb
            rw [hf] at this; cases this
        have hwait : ∀ k', waits ops j k' = true → L.getD k' false = true := fun k' hk' => by
          unfold waits at hk'
          rw [ho] at hk'
          simp only [Array.any_eq_true, Bool.and_eq_true] at hk'
          obtain ⟨p, hp', hb, hon⟩ := hk'
          have := hw _ (Array.getElem_mem hp') hb
          rwa [Nat.eq_of_beq_eq_true hon] at this
        have hdn := c.dn j o ho
        -- the next state, as far as it is the same for both kinds
        have next : ∀ (H2 : Hp) (W2 : World) (u : Value), Sub H1 H2 → Same W1 W2 →
            (∃ q vc Ac, q ≤ ops.size ∧ CSeq P ops n S (fun v' A' => Q .nm v' A') (fun r A' => Q (.pn r) [] A') (cs.drop q) (ops.toList.drop q) vc Ac ∧ S Ac ∧ Sim H2 G Ac W2 ∧ (∀ i, i < ops.size → cls i = 5 → ((L.setIfInBounds j true).getD i false = true ↔ i < q)) ∧ ((∀ i, i < ops.size → cls i = 5 → (L.setIfInBounds j true).getD i false = false) → Ac = A) ∧
              (∀ j t, j < ops.size → cls j ≠ 5 → dstOf ops j = some t → lk t vc = some (r j)) ∧ (∀ t x, lk t vc = some x → (∀ i, i < ops.size → cls i ≠ 5 → (L.setIfInBounds j true).getD i false = false → dstOf ops i ≠ some t) → Rel H2 x ((a1.put o.dst u).tmps.getD t undef))) →
            wpAny P .any ops R k (L.setIfInBounds j true) (a1.put o.dst u) W2 := by
          intro H2 W2 u q1 q2 q3
          refine ih _ (U.erase j) H2 W2 _ (hU.erase j) (by rw [List.length_erase_of_mem hjU, hUl]; rfl) (fun i => ?_) (by simpa using hs) (fun p o2 e2 hp hlp he hb => ?_) (g1.trans q1) (g2.trans q2) ((put_defers ..).trans g4) (by cases hdd : o.dst <;> simp [Act.put, g5]) q3 (fun t x hx hno => ?_)
          · rw [hU.mem_erase_iff, hUm, getD_set hLj]
            constructor
            · rintro ⟨h1, h2, h3⟩; exact ⟨h2, by rw [if_neg (Ne.symm h1)]; exact h3⟩
            · rintro ⟨h1, h2⟩
              split at h2
              · cases h2
              · rename_i hne; exact ⟨Ne.symm hne, h1, h2⟩
          · rw [getD_set hLj] at hlp ⊢
            split
            · rfl
            · split at hlp
              · rename_i hjp
                subst hjp
                rw [ho] at hp
                cases hp
                exact hw e2 he hb
              · exact hc p o2 e2 hp hlp he hb
          · rw [put_getD g5 hdn, if_neg (fun e => hno j hjs (by rw [getD_set hLj, if_pos rfl]) (by rw [dsto ho]; exact e))]
            refine (g7 t x hx (fun i hi hL => hno i hi ?_)).mono q1
            rw [getD_set hLj]
            split
            · rfl
            · exact hL
        unfold wpOp
        rw [ho]
        simp only
        by_cases hj5 : cls j = 5
        · -- one of the others
          have hqj : q ≤ j := by
            rcases Nat.lt_or_ge j q with h | h
            · have := (hqL j hjs hj5).2 h; rw [hf] at this; cases this
            · exact h
          have hsk := CSeq.skip (j - q) hCq (by simp; omega) (fun i hi h5 => by
            rw [List.getD_eq_getElem?_getD, List.getElem?_drop, ← List.getD_eq_getElem?_getD, hcls'] at h5
            have := (hqL (q + i) (by omega) h5).1 (hanc _ (c.cc (q + i) j (by omega) hjs h5 hj5)); omega)
          rw [List.drop_drop, List.drop_drop, show q + (j - q) = j by omega] at hsk
          have hd1 : ops.toList.drop j = o :: ops.toList.drop (j + 1) := by
            rw [List.drop_eq_getElem_cons (by simpa using hjs)]
            have := (Array.getElem?_eq_some_iff.1 ho).2
            simp [this]
          have hd2 : cs.drop j = 5 :: cs.drop (j + 1) := by
            rw [List.drop_eq_getElem_cons (by omega)]
            have := hgd j hjs
            rw [List.getElem?_eq_getElem (by omega), hcls', hj5] at this
            rw [Option.some.inj this]
          rw [hd1, hd2] at hsk
          have look : ∀ t x, t ∈ o.looksAt ops → lk t vc = some x → Rel H1 x (a1.tmps.getD t undef) := fun t x ht hx => henv t x hx (fun i hi h5 hL hd => by
            rcases c.look j o t i ho ht hd with ⟨_, h1, _⟩ | ⟨_, h1, _⟩
            · rw [hwait i h1] at hL; cases hL
            · exact h5 h1)
          have qs : ∀ i, i < ops.size → cls i = 5 → ((L.setIfInBounds j true).getD i false = true ↔ i < j + 1) := fun i hi h5 => by
            rw [getD_set hLj]
            rcases Nat.lt_trichotomy i j with hij | hij | hij
            · rw [if_neg (by omega), hanc i (c.cc i j hij hjs h5 hj5)]; simp; omega
            · subst hij; simp
            · rw [if_neg (by omega), hlater i hi (c.cc j i hij hi hj5 h5)]; simp; omega
          have an : ∀ (Ac' : List Blk), (∀ i, i < ops.size → cls i = 5 → (L.setIfInBounds j true).getD i false = false) → Ac' = A := fun Ac' h => by
            have := h j hjs hj5
            rw [getD_set hLj, if_pos rfl] at this; cases this
          have pv' : ∀ (x : AV), ∀ j' t, j' < ops.size → cls j' ≠ 5 → dstOf ops j' = some t → lk t (st o.dst x vc) = some (r j') := fun x j' t h1 h2 h3 => by
            rw [lk_st, if_neg (fun e => by
              have := c.dist _ _ _ ((dsto ho).trans e) h3
              subst this; exact h2 hj5)]
            exact hp j' t h1 h2 h3
          have ev' : ∀ (H2 : Hp) (x : AV) (u : Value), Sub H1 H2 → Rel H2 x u → ∀ t y, lk t (st o.dst x vc) = some y → (∀ i, i < ops.size → cls i ≠ 5 → (L.setIfInBounds j true).getD i false = false → dstOf ops i ≠ some t) → Rel H2 y ((a1.put o.dst u).tmps.getD t undef) := fun H2 x u hs2 hx t y hy hno => by
            rw [lk_st] at hy
            rw [put_getD g5 hdn]
            split at hy
            · rename_i e; rw [if_pos e]; cases hy; exact hx
            · rename_i e
              rw [if_neg e]
              refine (henv t y hy (fun i hi h5 hL => hno i hi h5 ?_)).mono hs2
              rw [getD_set hLj, if_neg (by rintro rfl; exact h5 hj5)]; exact hL
          have yv : ∀ jj t want x, o.guard = some (jj, want) → gslot ops jj = some t → Nat.blt t n = true → lk t vc = some (.sc x) → yielded ops a1.tmps jj = asB x := fun jj t want x h1 h2 h3 h4 =>
            yielded_of (H := H1) g5 (fun t' y h5 h6 => by subst h6; exact look _ y (gslot_look h1 h2) h5) h2 h3 h4
          cases hsk with
          | over _ _ _ _ _ _ hc' _ => exact absurd rfl hc'
          | go _ _ _ _ _ KK hg hop hS hk =>
            have hwanted : Region.wanted o (yielded ops a1.tmps) = true := by
              rcases hg with hg | ⟨jj, want, s', h1, h2, h3, h4⟩
              · simp [Region.wanted, hg]
              · simp [Region.wanted, h1, yv jj s' want _ h1 h2 h3 h4, asB]
            rw [if_pos hwanted]
            refine .inl (hop H1 G W1 a1 g3 ⟨g5, fun t x hx => by obtain ⟨k1, k2⟩ := lk_restr hx; exact look t x k1 k2⟩ _ R (fun H2 W2 u r' A' q1 q2 q3 q4 q5 => ?_) (fun H2 W2 u r' A' q1 q2 q3 q4 q5 => ?_))
            · exact next H2 W2 u q1 q2 ⟨j + 1, _, A', hjs, hk r' A' q5, hS r' A' q5, q3, qs, an A', pv' r', ev' H2 r' u q1 q4⟩
            · exact hr H2 W2 a1 (.pn r') _ [] A' (g1.trans q1) (g2.trans q2) q3 ⟨g5, fun s x h => by cases h⟩ g4 (.pn r' u q4) q5
          | no _ _ _ _ _ hu hk =>
            obtain ⟨jj, want, s', h1, h2, h3, h4⟩ := hu
            have hwanted : Region.wanted o (yielded ops a1.tmps) = false := by
              rcases h4 with h4 | h4
              · simp [Region.wanted, h1, yv jj s' want _ h1 h2 h3 h4, asB]
              · simp [Region.wanted, h1, yv jj s' want _ h1 h2 h3 h4, asB, undef]
            rw [if_neg (by rw [hwanted]; simp)]
            exact next H1 W1 undef (Sub.refl _) (Same.refl _) ⟨j + 1, _, Ac, hjs, hk, hSc, g3, qs, an Ac, pv' _, ev' H1 _ undef (Sub.refl _) (.sc _)⟩
        · -- one that only computes
          obtain ⟨o', ho', ⟨h5, _⟩ | ⟨_, _, hP⟩⟩ := hst j hjs
          · exact absurd h5 hj5
          rw [ho] at ho'
          cases ho'
          have look : ∀ t x, t ∈ o.looksAt ops → lk t (ve j) = some x → Rel H1 x (a1.tmps.getD t undef) := fun t x ht hx => by
            rcases chain_lk h0 hch j (by omega) t x hx with ⟨k', hk', hd, rfl⟩ | ⟨hn, hx⟩
            · obtain ⟨h5, hd⟩ := hdp5 _ _ hd
              rcases c.look j o t k' ho ht hd with ⟨_, h1, _⟩ | ⟨h1, _⟩
              · refine henv t _ (hp k' t (by omega) h5 hd) (fun i hi _ hL hdi => ?_)
                have := c.dist _ _ _ hdi hd
                subst this
                rw [hwait i h1] at hL; cases hL
              · omega
            · refine g7 t x hx (fun i hi hL hd => ?_)
              rcases c.look j o t i ho ht hd with ⟨h1, _, h2⟩ | ⟨_, _, h1⟩
              · exact hn i h1 (by rw [hdp i (h2 hj5)]; exact hd)
              · rw [hlater i hi h1] at hL; cases hL
          have yv : ∀ jj t want x, o.guard = some (jj, want) → gslot ops jj = some t → Nat.blt t n = true → lk t (ve j) = some (.sc x) → yielded ops a1.tmps jj = asB x := fun jj t want x h1 h2 h3 h4 =>
            yielded_of (H := H1) g5 (fun t' y h5 h6 => by subst h6; exact look _ y (gslot_look h1 h2) h5) h2 h3 h4
          have stay : ∀ (H2 : Hp) (W2 : World) (u : Value), Sub H1 H2 → Sim H2 G Ac W2 → Rel H2 (r j) u → (∃ q vc Ac, q ≤ ops.size ∧ CSeq P ops n S (fun v' A' => Q .nm v' A') (fun r A' => Q (.pn r) [] A') (cs.drop q) (ops.toList.drop q) vc Ac ∧ S Ac ∧ Sim H2 G Ac W2 ∧ (∀ i, i < ops.size → cls i = 5 → ((L.setIfInBounds j true).getD i false = true ↔ i < q)) ∧ ((∀ i, i < ops.size → cls i = 5 → (L.setIfInBounds j true).getD i false = false) → Ac = A) ∧
              (∀ j t, j < ops.size → cls j ≠ 5 → dstOf ops j = some t → lk t vc = some (r j)) ∧ (∀ t x, lk t vc = some x → (∀ i, i < ops.size → cls i ≠ 5 → (L.setIfInBounds j true).getD i false = false → dstOf ops i ≠ some t) → Rel H2 x ((a1.put o.dst u).tmps.getD t undef))) := fun H2 W2 u q1 q3 q4 => by
            refine ⟨q, vc, Ac, hq1, hCq, hSc, q3, fun i hi h5 => ?_, fun h => hA0 (fun i hi h5 => ?_), hp, fun t x hx hno => ?_⟩
            · rw [getD_set hLj, if_neg (by rintro rfl; exact hj5 h5)]; exact hqL i hi h5
            · have := h i hi h5
              rwa [getD_set hLj, if_neg (by rintro rfl; exact hj5 h5)] at this
            · rw [put_getD g5 hdn]
              split
              · rename_i e
                have := hp j t hjs hj5 ((dsto ho).trans e)
                rw [hx] at this; cases this
                exact q4
              · rename_i e
                refine (henv t x hx (fun i hi h5 hL => ?_)).mono q1
                by_cases hij : j = i
                · subst hij; rw [dsto ho]; exact e
                · exact hno i hi h5 (by rw [getD_set hLj, if_neg hij]; exact hL)
          have env1 : EnvR H1 n (restr (o.looksAt ops) (ve j)) a1.tmps := ⟨g5, fun t x hx => by obtain ⟨k1, k2⟩ := lk_restr hx; exact look t x k1 k2⟩
          rcases hP with ⟨hg, hop⟩ | ⟨⟨jj, want, s', h1, h2, h3, h4⟩, hdd⟩
          · have hwanted : Region.wanted o (yielded ops a1.tmps) = true := by
              rcases hg with hg | ⟨jj, want, s', h1, h2, h3, h4⟩
              · simp [Region.wanted, hg]
              · simp [Region.wanted, h1, yv jj s' want _ h1 h2 h3 h4, asB]
            rw [if_pos hwanted]
            have hop' : AOp P o n (restr (o.looksAt ops) (ve j)) Ac (fun r' A' => r' = r j ∧ A' = Ac) (fun _ _ => False) := by
              rcases hop with ⟨hc0, hop⟩ | ⟨hc1, hop⟩
              · have : Ac = A := hA0 (fun i hi h5 => hlater i hi (c.c0 j i hjs hi hc0 h5))
                rw [this]; exact hop
              · exact hop Ac hSc
            refine .inl (hop' H1 G W1 a1 g3 env1 _ R (fun H2 W2 u r' A' q1 q2 q3 q4 q5 => ?_) (fun _ _ _ _ _ _ _ _ _ q => q.elim))
            obtain ⟨rfl, rfl⟩ := q5
            exact next H2 W2 u q1 q2 (stay H2 W2 u q1 q3 q4)
          · have hwanted : Region.wanted o (yielded ops a1.tmps) = false := by
              rcases h4 with h4 | h4
              · simp [Region.wanted, h1, yv jj s' want _ h1 h2 h3 h4, asB]
              · simp [Region.wanted, h1, yv jj s' want _ h1 h2 h3 h4, asB, undef]
            rw [if_neg (by rw [hwanted]; simp)]
            exact next H1 W1 undef (Sub.refl _) (Same.refl _) (stay H1 W1 undef (Sub.refl _) g3 (by rw [hdd]; exact .sc _))
  have hf : ∀ i, (Array.replicate ops.size false).getD i false = false := fun i => by
    simp only [Array.getD_eq_getD_getElem?, Array.getElem?_replicate]
    split <;> rfl
  refine main ops.size _ (List.range ops.size) H _ a List.nodup_range (by simp) (fun i => ?_) (by simp) (fun i o e2 ho hL => ?_) (Sub.refl H) ⟨rfl, rfl, rfl, Nat.le_refl _⟩ rfl e.1 ⟨0, vm, A, Nat.zero_le _, by simpa using hC, hSA, s.move fun _ _ => rfl, fun i hi h5 => ?_, fun _ => rfl, hpvm, fun t x hx hno => ?_⟩ (fun t x hx _ => e.2 t x hx)
  · rw [List.mem_range, hf]; simp
  · rw [hf] at hL; cases hL
  · rw [hf]; simp
  · rw [← hlast] at hx
    rcases chain_lk h0 hch ops.size (Nat.le_refl _) t x hx with ⟨j, hj, hd, rfl⟩ | ⟨hn, hx⟩
    · obtain ⟨h5, hd⟩ := hdp5 _ _ hd
      exact absurd hd (hno j hj h5 (hf j))
    · exact e.2 t x hx
theorem nil_im {A : List Blk} {cs : List AV} (H G : Hp) (W : World) (p : Value) (s : Sim H G A W) (h : Rel H (.im cs) p) : ∃ a, p = .pointer (some a) := by cases h; exact ⟨_, rfl⟩
theorem nil_sc {A : List Blk} {a : Addr} (H G : Hp) (W : World) (p : Value) (s : Sim H G A W) (h : Rel H (.sc (.pointer (some a))) p) : ∃ a, p = .pointer (some a) := ⟨a, rel_sc h⟩
theorem AOp.remE {P : Program} {o : Oper} {n : Nat} {v : Env} {A : List Blk} {K : AV → List Blk → Prop} {E : AV → List Blk → Prop} {ty ty' : TypeId} {x y : Operand} {k : IntKind} {a b : Int} (hop : o.op = .binOp .rem ty x y ty') (hx : ev v x = some (.sc (.int k a))) (hy : ev v y = some (.sc (.int k b))) (h0 : b ≠ 0) (ha : 0 ≤ a) (q : K (.sc (.int k (a % b))) A) : AOp P o n v A K E :=
  AOp.rem hop hx hy h0 (Int.tmod_eq_emod_of_nonneg ha) q
end Go.Aw
