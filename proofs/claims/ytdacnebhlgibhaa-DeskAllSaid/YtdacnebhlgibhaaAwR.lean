/- Own text: a region of open order of which the last changes come behind all that looks at what they change (part R). -/
import Derived.Test.YtdacnebhlgibhaaAwP
set_option linter.unusedVariables false
set_option linter.unusedSimpArgs false
namespace Go.Aw
open Go
/-- The classes of part C: 1 looks at no block of the call's own; 4 looks at what only the last changes (those of which fewer than Z operations come behind) turn. -/
def drawOkF (ops : Array Oper) (n m : Nat) (cs : List Nat) (Z : Nat) : Bool := (cs.all (fun c => Nat.ble c 4) && pureOk ops n m && edgesOk ops && tailOk ops (bits ops) m && Nat.ble m ops.size && clsOk (bits ops) cs m) &&
  (Nat.ble Z m && (List.range m).all fun j => (List.range m).all fun i => !(Nat.beq (cs.getD i 1) 4 && Nat.beq (cs.getD j 1) 3 && Nat.blt (m - (j + 1)) Z) || ((bits ops).getD j 0).testBit i)
theorem drawOkF_le {ops : Array Oper} {n m : Nat} {cs : List Nat} {Z : Nat} (h : drawOkF ops n m cs Z = true) : ∀ x ∈ cs, x ≤ 4 := by
  unfold drawOkF at h
  simp only [Bool.and_eq_true, List.all_eq_true, Nat.ble_eq] at h
  exact h.1.1.1.1.1.1
theorem drawOkF_fin {ops : Array Oper} {n m : Nat} {cs : List Nat} {Z : Nat} (h : drawOkF ops n m cs Z = true) : Z ≤ m ∧ ∀ i j, i < m → j < m → cs.getD i 1 = 4 → cs.getD j 1 = 3 → m - (j + 1) < Z → ((bits ops).getD j 0).testBit i = true := by
  unfold drawOkF at h
  obtain ⟨h1, h2⟩ := Bool.and_eq_true_iff.1 (Bool.and_eq_true_iff.1 h).2
  refine ⟨Nat.ble_eq.mp h1, fun i j hi hj e1 e2 e3 => ?_⟩
  simp only [List.all_eq_true, List.mem_range] at h2
  have := h2 j hj i hi
  rw [e1, e2] at this
  have hb : Nat.blt (m - (j + 1)) Z = true := by rw [Nat.blt_eq]; exact e3
  simpa [hb] using this

/-- One operation of the pure part that is carried out, by its class. -/
inductive PCoreF (P : Program) (n : Nat) (S : List Blk → Prop) : Nat → List (List Blk) → List Blk → Oper → Env → AV → List Blk → Prop
  | c0 (past : List (List Blk)) (A : List Blk) (o : Oper) (v : Env) (r : AV) (h : AOp P o n v A (fun r' A' => r' = r ∧ A' = A) (fun _ _ => False)) : PCoreF P n S 0 past A o v r A
  | c1 (past : List (List Blk)) (A : List Blk) (o : Oper) (v : Env) (r : AV) (h : ∀ A0, AOp P o n v A0 (fun r' A' => r' = r ∧ A' = A0) (fun _ _ => False)) : PCoreF P n S 1 past A o v r A
  | c4 (past : List (List Blk)) (A : List Blk) (o : Oper) (v : Env) (r : AV) (hS : S A) (h : ∀ A0, S A0 → AOp P o n v A0 (fun r' A' => r' = r ∧ A' = A0) (fun _ _ => False)) : PCoreF P n S 4 past A o v r A
  | c2 (past : List (List Blk)) (A : List Blk) (o : Oper) (v : Env) (r : AV) (h : AllA (A :: past) (fun A0 => AOp P o n v A0 (fun r' A' => r' = r ∧ A' = A0) (fun _ _ => False))) : PCoreF P n S 2 past A o v r A
  | c3 (past : List (List Blk)) (A : List Blk) (o : Oper) (v : Env) (r : AV) (A1 : List Blk) (h : AOp P o n v A (fun r' A' => r' = r ∧ A' = A1) (fun _ _ => False)) : PCoreF P n S 3 past A o v r A1

inductive PSeqF (P : Program) (ops : Array Oper) (n : Nat) (S : List Blk → Prop) (Z : Nat) : List Nat → List (List Blk) → List Blk → List Oper → Env → List Blk → Env → Prop
  | nil (cs : List Nat) (past : List (List Blk)) (A : List Blk) (v : Env) : PSeqF P ops n S Z cs past A [] v A v
  | go (c : Nat) (cs : List Nat) (past : List (List Blk)) (A A1 A' : List Blk) (o : Oper) (l : List Oper) (v v' : Env) (r : AV) (hw : Want ops n o v) (h : PCoreF P n S c past A o (restr (o.looksAt ops) v) r A1) (hZ : c = 3 → Z ≤ l.length → S A1) (k : PSeqF P ops n S Z cs (nextPast c past A) A1 l (st o.dst r v) A' v') : PSeqF P ops n S Z (c :: cs) past A (o :: l) v A' v'
  | no (c : Nat) (cs : List Nat) (past : List (List Blk)) (A A' : List Blk) (o : Oper) (l : List Oper) (v v' : Env) (hw : Unwant ops n o v) (k : PSeqF P ops n S Z cs (nextPast c past A) A l (st o.dst (.sc undef) v) A' v') : PSeqF P ops n S Z (c :: cs) past A (o :: l) v A' v'
def PSeqKF (P : Program) (ops : Array Oper) (n : Nat) (S : List Blk → Prop) (Z : Nat) (cs : List Nat) (past : List (List Blk)) (A : List Blk) (l : List Oper) (v : Env) (K : Env → List Blk → Prop) : Prop := ∃ A' v', PSeqF P ops n S Z cs past A l v A' v' ∧ K v' A'

section
variable {P : Program} {ops : Array Oper} {n : Nat} {S : List Blk → Prop} {Z : Nat} {cs : List Nat} {past : List (List Blk)} {A : List Blk} {o : Oper} {l : List Oper} {v : Env} {K : Env → List Blk → Prop}
theorem psf_nil (h : K v A) : PSeqKF P ops n S Z cs past A [] v K := ⟨A, v, .nil cs past A v, h⟩
theorem psf_cons {c : Nat} {A1 : List Blk} (r : AV) (hg : o.guard = none) (h : PCoreF P n S c past A o (restr (o.looksAt ops) v) r A1) (hZ : c = 3 → Z ≤ l.length → S A1) (k : PSeqKF P ops n S Z cs (nextPast c past A) A1 l (st o.dst r v) K) : PSeqKF P ops n S Z (c :: cs) past A (o :: l) v K := by
  obtain ⟨A', v', h1, h2⟩ := k
  exact ⟨A', v', .go c cs past A A1 A' o l v v' r (.inl hg) h hZ h1, h2⟩
theorem psf_guard {c : Nat} (j : Nat) (want : Bool) (s : Nat) (t : Bool) (hg : o.guard = some (j, want)) (hs : gslot ops j = some s) (hsn : Nat.blt s n = true) (hv : lk s v = some (.sc (.bool t)))
    (h : t = want → ∃ r A1, PCoreF P n S c past A o (restr (o.looksAt ops) v) r A1 ∧ (c = 3 → Z ≤ l.length → S A1) ∧ PSeqKF P ops n S Z cs (nextPast c past A) A1 l (st o.dst r v) K) (k : t = !want → PSeqKF P ops n S Z cs (nextPast c past A) A l (st o.dst (.sc undef) v) K) : PSeqKF P ops n S Z (c :: cs) past A (o :: l) v K := by
  by_cases ht : t = want
  · obtain ⟨r, A1, h0, hZ, A', v', h1, h2⟩ := h ht
    subst ht
    exact ⟨A', v', .go c cs past A A1 A' o l v v' r (.inr ⟨j, t, s, hg, hs, hsn, hv⟩) h0 hZ h1, h2⟩
  · have ht' : t = !want := by cases t <;> cases want <;> simp_all
    obtain ⟨A', v', h1, h2⟩ := k ht'
    subst ht'
    exact ⟨A', v', .no c cs past A A' o l v v' ⟨j, want, s, hg, hs, hsn, .inl hv⟩ h1, h2⟩
theorem psf_guardU {c : Nat} (j : Nat) (want : Bool) (s : Nat) (hg : o.guard = some (j, want)) (hs : gslot ops j = some s) (hsn : Nat.blt s n = true) (hv : lk s v = some (.sc undef))
    (k : PSeqKF P ops n S Z cs (nextPast c past A) A l (st o.dst (.sc undef) v) K) : PSeqKF P ops n S Z (c :: cs) past A (o :: l) v K := by
  obtain ⟨A', v', h1, h2⟩ := k
  exact ⟨A', v', .no c cs past A A' o l v v' ⟨j, want, s, hg, hs, hsn, .inr hv⟩ h1, h2⟩
theorem pfg {c : Nat} {v1 : Env} {A1 : List Blk} (r : AV) (h : PCoreF P n S c past A o v1 r A1) (hZ : c = 3 → Z ≤ l.length → S A1) (k : PSeqKF P ops n S Z cs (nextPast c past A) A1 l (st o.dst r v) K) :
    ∃ r A1, PCoreF P n S c past A o v1 r A1 ∧ (c = 3 → Z ≤ l.length → S A1) ∧ PSeqKF P ops n S Z cs (nextPast c past A) A1 l (st o.dst r v) K := ⟨r, A1, h, hZ, k⟩
theorem corf0 {r : AV} (h : AOp P o n v A (fun r' A' => r' = r ∧ A' = A) (fun _ _ => False)) : PCoreF P n S 0 past A o v r A := .c0 _ _ _ _ _ h
theorem corf4 {r : AV} (hS : S A) (h : ∀ A0, S A0 → AOp P o n v A0 (fun r' A' => r' = r ∧ A' = A0) (fun _ _ => False)) : PCoreF P n S 4 past A o v r A := .c4 _ _ _ _ _ hS h
theorem corf1 {r : AV} (h : ∀ A0, AOp P o n v A0 (fun r' A' => r' = r ∧ A' = A0) (fun _ _ => False)) : PCoreF P n S 1 past A o v r A := .c1 _ _ _ _ _ h
theorem corf2 {r : AV} (h : AllA (A :: past) (fun A0 => AOp P o n v A0 (fun r' A' => r' = r ∧ A' = A0) (fun _ _ => False))) : PCoreF P n S 2 past A o v r A := .c2 _ _ _ _ _ h
theorem corf3 {r : AV} {A1 : List Blk} (h : AOp P o n v A (fun r' A' => r' = r ∧ A' = A1) (fun _ _ => False)) : PCoreF P n S 3 past A o v r A1 := .c3 _ _ _ _ _ _ h
end

/-- The chain, by numbers. -/
def PStepCF (P : Program) (ops : Array Oper) (n : Nat) (S : List Blk → Prop) (past : List (List Blk)) (cls : Nat → Nat) (Ac : Nat → List Blk) (i : Nat) (o : Oper) (v : Env) (r : AV) : Prop :=
  (Want ops n o v ∧ ((cls i = 3 ∧ AOp P o n (restr (o.looksAt ops) v) (Ac i) (fun r' A' => r' = r ∧ A' = Ac (i + 1)) (fun _ _ => False)) ∨
    (cls i ≠ 3 ∧ Ac (i + 1) = Ac i ∧ ∀ A0, (cls i = 1 ∨ (cls i = 4 ∧ S A0) ∨ A0 = Ac i ∨ (cls i = 2 ∧ (A0 ∈ past ∨ ∃ c, c ≤ i ∧ A0 = Ac c))) → AOp P o n (restr (o.looksAt ops) v) A0 (fun r' A' => r' = r ∧ A' = A0) (fun _ _ => False)))) ∨
  (Unwant ops n o v ∧ r = .sc undef ∧ Ac (i + 1) = Ac i)
theorem PSeqF.chain {P : Program} {ops : Array Oper} {n : Nat} {S : List Blk → Prop} {Z : Nat} {cs : List Nat} {past : List (List Blk)} {A A' : List Blk} {l : List Oper} {v v' : Env} (h : PSeqF P ops n S Z cs past A l v A' v') (hSA : Z ≤ l.length → S A) :
    ∃ (ve : Nat → Env) (r : Nat → AV) (Ac : Nat → List Blk), ve 0 = v ∧ ve l.length = v' ∧ Ac 0 = A ∧ Ac l.length = A' ∧ l.length ≤ cs.length ∧ (∀ i, Z + i ≤ l.length → S (Ac i)) ∧ ∀ i, i < l.length → ∃ o, l[i]? = some o ∧ ve (i + 1) = st o.dst (r i) (ve i) ∧ PStepCF P ops n S past (fun i => cs.getD i 1) Ac i o (ve i) (r i) := by
  induction h with
  | nil cs past A v => exact ⟨fun _ => v, fun _ => .dd, fun _ => A, rfl, rfl, rfl, rfl, Nat.zero_le _, fun i hi => hSA (by simp at hi ⊢; omega), fun i hi => by simp at hi⟩
  | go c cs past A A1 A' o l v v' r hw h hZ k ih =>
    have hSA' : Z ≤ l.length → S A := fun hz => hSA (by simp only [List.length_cons]; omega)
    have hSA1 : Z ≤ l.length → S A1 := by cases h with | c0 => exact hSA' | c1 => exact hSA' | c4 => exact hSA' | c2 => exact hSA' | c3 => exact hZ rfl
    obtain ⟨ve, r', Ac, h0, h1, a0, a1, hl, hSs, h2⟩ := ih hSA1
    refine ⟨fun i => match i with | 0 => v | i + 1 => ve i, fun i => match i with | 0 => r | i + 1 => r' i, fun i => match i with | 0 => A | i + 1 => Ac i, rfl, by simpa using h1, rfl, by simpa using a1, by simpa using hl, fun i hz => by cases i with | zero => exact hSA (by simpa using hz) | succ i => exact hSs i (by simp only [List.length_cons] at hz; omega), fun i hi => ?_⟩
    cases i with
    | zero =>
      refine ⟨o, rfl, h0, .inl ⟨hw, ?_⟩⟩
      simp only [List.getD_cons_zero, Nat.zero_add]
      cases h with
      | c0 past A o v r h => exact .inr ⟨by decide, a0, fun A0 h0 => by
        rcases h0 with h0 | ⟨h0, _⟩ | rfl | ⟨h0, _⟩
        · cases h0
        · cases h0
        · exact h
        · cases h0⟩
      | c1 past A o v r h => exact .inr ⟨by decide, a0, fun A0 h0 => h A0⟩
      | c4 past A o v r hS h => exact .inr ⟨by decide, a0, fun A0 h0 => by
        rcases h0 with h0 | ⟨_, h0⟩ | rfl | ⟨h0, _⟩
        · cases h0
        · exact h A0 h0
        · exact h _ hS
        · cases h0⟩
      | c2 past A o v r h =>
        refine .inr ⟨by decide, a0, fun A0 h0 => ?_⟩
        rcases h0 with h0 | ⟨h0, _⟩ | rfl | ⟨_, h0 | ⟨q, hq, rfl⟩⟩
        · cases h0
        · cases h0
        · exact h.1
        · exact AllA.mem h.2 _ h0
        · have : q = 0 := by omega
          subst this; exact h.1
      | c3 past A o v r A1 h => rw [a0]; exact .inl ⟨rfl, h⟩
    | succ i =>
      obtain ⟨o', k1, k2, k3⟩ := h2 i (by simpa using hi)
      refine ⟨o', by simpa using k1, k2, ?_⟩
      unfold PStepCF at k3 ⊢
      simp only [List.getD_cons_succ]
      refine k3.imp (fun ⟨e1, e2⟩ => ⟨e1, e2.imp id (fun ⟨e3, e4, e5⟩ => ⟨e3, e4, fun A0 h0 => e5 A0 ?_⟩)⟩) id
      rcases h0 with h0 | h0 | h0 | ⟨h0, h3⟩
      · exact .inl h0
      · exact .inr (.inl h0)
      · exact .inr (.inr (.inl h0))
      · refine .inr (.inr (.inr ⟨h0, ?_⟩))
        rcases h3 with h3 | ⟨q, hq, rfl⟩
        · refine .inl ?_
          unfold nextPast
          split
          · exact List.mem_cons_of_mem _ h3
          · exact h3
        · cases q with
          | succ q => exact .inr ⟨q, by omega, rfl⟩
          | zero =>
            cases h with
            | c0 => exact .inr ⟨0, by omega, a0.symm⟩
            | c1 => exact .inr ⟨0, by omega, a0.symm⟩
            | c4 => exact .inr ⟨0, by omega, a0.symm⟩
            | c2 => exact .inr ⟨0, by omega, a0.symm⟩
            | c3 => exact .inl (List.mem_cons_self ..)
  | no c cs past A A' o l v v' hw k ih =>
    obtain ⟨ve, r', Ac, h0, h1, a0, a1, hl, hSs, h2⟩ := ih (fun hz => hSA (by simp only [List.length_cons]; omega))
    refine ⟨fun i => match i with | 0 => v | i + 1 => ve i, fun i => match i with | 0 => .sc undef | i + 1 => r' i, fun i => match i with | 0 => A | i + 1 => Ac i, rfl, by simpa using h1, rfl, by simpa using a1, by simpa using hl, fun i hz => by cases i with | zero => exact hSA (by simpa using hz) | succ i => exact hSs i (by simp only [List.length_cons] at hz; omega), fun i hi => ?_⟩
    cases i with
    | zero => exact ⟨o, rfl, h0, .inr ⟨hw, rfl, a0⟩⟩
    | succ i =>
      obtain ⟨o', k1, k2, k3⟩ := h2 i (by simpa using hi)
      refine ⟨o', by simpa using k1, k2, ?_⟩
      unfold PStepCF at k3 ⊢
      simp only [List.getD_cons_succ]
      refine k3.imp (fun ⟨e1, e2⟩ => ⟨e1, e2.imp id (fun ⟨e3, e4, e5⟩ => ⟨e3, e4, fun A0 h0 => e5 A0 ?_⟩)⟩) id
      rcases h0 with h0 | h0 | h0 | ⟨h0, h3⟩
      · exact .inl h0
      · exact .inr (.inl h0)
      · exact .inr (.inr (.inl h0))
      · refine .inr (.inr (.inr ⟨h0, ?_⟩))
        rcases h3 with h3 | ⟨q, hq, rfl⟩
        · refine .inl ?_
          unfold nextPast
          split
          · exact List.mem_cons_of_mem _ h3
          · exact h3
        · cases q with
          | succ q => exact .inr ⟨q, by omega, rfl⟩
          | zero => exact .inr ⟨0, by omega, a0.symm⟩

theorem Chk.ofF {ops : Array Oper} {n m Z : Nat} {cs : List Nat} (h : drawOkF ops n m cs Z = true) : Chk ops n m (fun i => cs.getD i 1) := by
  unfold drawOkF at h
  replace h := (Bool.and_eq_true_iff.1 h).1
  unfold pureOk edgesOk tailOk at h
  simp only [Bool.and_eq_true, List.all_eq_true, List.mem_range, Nat.ble_eq] at h
  obtain ⟨⟨⟨⟨⟨_, hp⟩, he⟩, ⟨hb, ht⟩⟩, hle⟩, hcl⟩ := h
  have lt : ∀ {i : Nat} {o : Oper}, ops[i]? = some o → i < ops.size := fun h => (Array.getElem?_eq_some_iff.1 h).1
  refine ⟨hle, fun i o hi ho => ?_, fun i o t k hi ho htm hk hd => ?_, fun i k d hi hk hdi hdk => ?_, fun i o e ho hm hbi => ?_, fun j hj hjs i hi => ?_, fun j o ho => ?_, fun i j hij hj h2 => ?_⟩
  · have := hp i hi
    rw [ho] at this
    simp only [Bool.and_eq_true] at this
    exact this.1.1
  · have := hp i hi
    rw [ho] at this
    simp only [Bool.and_eq_true, List.all_eq_true, List.mem_range] at this
    have h2 := this.1.2 t htm k hk
    simp only [hd, beq_self_eq_true, Bool.not_true, Bool.false_or, Bool.and_eq_true, Nat.blt_eq] at h2
    exact h2
  · have := hp i hi
    cases ho : ops[i]? with
    | none => rw [ho] at this; cases this
    | some o =>
      rw [ho] at this
      simp only [Bool.and_eq_true, List.all_eq_true, List.mem_range] at this
      have h2 := this.2 k hk
      have hdo : o.dst = some d := by unfold dstOf at hdi; rw [ho] at hdi; exact hdi
      rw [hdo, hdk] at h2
      simp only [beq_self_eq_true, Bool.not_true, Bool.or_false, Bool.or_eq_true, Option.isNone_some, Bool.false_eq_true, or_false] at h2
      exact (Nat.eq_of_beq_eq_true h2).symm
  · have := he i (lt ho)
    rw [ho] at this
    simp only [Array.all_eq_true] at this
    obtain ⟨q, hq, rfl⟩ := Array.mem_iff_getElem.1 hm
    have h2 := this q hq
    rw [hbi] at h2
    simpa [Nat.blt_eq] using h2
  · have := ht j hjs
    simp only [Bool.or_eq_true, Nat.blt_eq, List.all_eq_true, List.mem_range] at this
    rcases this with h2 | h2
    · omega
    · exact h2 i hi
  · have := hb j (lt ho)
    rw [ho] at this
    exact Nat.eq_of_beq_eq_true this
  · unfold clsOk at hcl
    simp only [List.all_eq_true, List.mem_range] at hcl
    have := hcl j hj i hij
    rcases h2 with ⟨h2, h3 | h3⟩ | ⟨h2 | h2, h3⟩ <;> (simp only [h2, h3] at this; exact this)

theorem aw_drawF {P : Program} {n id : Nat} {ops : Array Oper} {v : Env} {A : List Blk} {Q : Post} (S : List Blk → Prop) (Z : Nat) (hSA : S A) (m : Nat) (cs : List Nat) (hmix : P.follows .mixedOrders = true) (hchk : drawOkF ops n m cs Z = true)
    (h : PSeqKF P ops n S Z cs [] A (ops.toList.take m) v (fun vm Am => AOps P ops n (ops.toList.drop m) vm Am (fun v' A' => Q .nm v' A') (fun r A' => Q (.pn r) [] A'))) : AW P n (.region id ops true) v A Q := by
  have c := Chk.ofF hchk
  obtain ⟨hZm, hfin⟩ := drawOkF_fin hchk
  obtain ⟨Am, vm, hseq, hK⟩ := h
  obtain ⟨ve, r, Ac, h0, hlast, hA0, hAm, _, hSs, hstep⟩ := hseq.chain (fun _ => hSA)
  have hlen : (ops.toList.take m).length = m := by simp [c.le]
  rw [hlen] at hlast hstep hAm hSs
  have hk4 : ∀ j, j < m → (fun i => cs.getD i 1) j ≤ 4 := fun j _ => by
    have hcs := drawOkF_le hchk
    simp only [List.getD_eq_getElem?_getD]
    cases hj : cs[j]? with
    | none => simp
    | some x => simpa using hcs x (List.mem_of_getElem? hj)
  have hfin' : ∀ i j, i < m → j < m → (fun i => cs.getD i 1) i = 4 → (fun i => cs.getD i 1) j = 3 → m - (j + 1) < Z → ((bits ops).getD j 0).testBit i = true := hfin
  clear hfin
  generalize hcls : (fun i => cs.getD i 1) = cls at *
  have hst : ∀ i, i < m → ∃ o, ops[i]? = some o ∧ ve (i + 1) = st (dstOf ops i) (r i) (ve i) ∧ PStepCF P ops n S [] cls Ac i o (ve i) (r i) := fun i hi => by
    obtain ⟨o, ho, h1, h2⟩ := hstep i hi
    rw [List.getElem?_take, if_pos hi, Array.getElem?_toList] at ho
    exact ⟨o, ho, by unfold dstOf; rw [ho]; exact h1, h2⟩
  have hch : ∀ i, i < m → ve (i + 1) = st (dstOf ops i) (r i) (ve i) := fun i hi => by obtain ⟨_, _, h, _⟩ := hst i hi; exact h
  have hkeepA : ∀ i, i < m → cls i ≠ 3 → Ac (i + 1) = Ac i := fun i hi h3 => by
    obtain ⟨_, _, _, h⟩ := hst i hi
    rcases h with ⟨_, ⟨h, _⟩ | ⟨_, h, _⟩⟩ | ⟨_, _, h⟩
    · exact absurd h h3
    · exact h
    · exact h
  have hcon : ∀ d x : Nat, x + d ≤ m → (∀ i, x ≤ i → i < x + d → cls i ≠ 3) → Ac (x + d) = Ac x := fun d => by
    induction d with
    | zero => intro x _ _; rfl
    | succ d ih => intro x hx h; rw [← Nat.add_assoc, hkeepA _ (by omega) (h _ (by omega) (by omega))]; exact ih x (by omega) (fun i h1 h2 => h i h1 (by omega))
  have hsame : ∀ x y : Nat, x ≤ m → y ≤ m → (∀ i, i < m → cls i = 3 → (i < x ↔ i < y)) → Ac x = Ac y := fun x y hx hy h => by
    rcases Nat.le_total x y with hxy | hxy
    · have := hcon (y - x) x (by omega) (fun i h1 h2 h3 => by have := h i (by omega) h3; omega)
      rw [show x + (y - x) = y by omega] at this; exact this.symm
    · have := hcon (x - y) y (by omega) (fun i h1 h2 h3 => by have := h i (by omega) h3; omega)
      rw [show y + (x - y) = x by omega] at this; exact this
  intro H G W a s e R hr
  refine wp_region_any hmix ?_
  -- the relation over what is listed
  have main : ∀ (k : Nat) (L : Array Bool) (U : List Nat) (H1 : Hp) (W1 : World) (a1 : Act), U.Nodup → U.length = k → (∀ i, i ∈ U ↔ i < ops.size ∧ L.getD i false = false) → L.size = ops.size → Cl ops L → (∀ i, m ≤ i → L.getD i false = false) →
      Sub H H1 → Same W W1 → (∃ q, q ≤ m ∧ Sim H1 G (Ac q) W1 ∧ ∀ i, i < m → cls i = 3 → (L.getD i false = true ↔ i < q)) → a1.defers = a.defers → a1.tmps.size = n →
      (∀ i, i < m → L.getD i false = true → ∀ d, dstOf ops i = some d → Rel H1 (r i) (a1.tmps.getD d undef)) →
      (∀ q x, lk q v = some x → (∀ i, i < m → L.getD i false = true → dstOf ops i ≠ some q) → Rel H1 x (a1.tmps.getD q undef)) → wpAny P .any ops R k L a1 W1 := by
    intro k
    induction k with
    | zero =>
      intro L U H1 W1 a1 hU hUl hUm hs hc hmt g1 g2 g3 g4 g5 g6 g7
      have hall : ∀ i, i < ops.size → L.getD i false = true := fun i hi => by
        cases hL : L.getD i false with
        | true => rfl
        | false =>
          have := (hUm i).2 ⟨hi, hL⟩
          rw [List.eq_nil_of_length_eq_zero hUl] at this
          cases this
      have hm0 : m = ops.size := by
        rcases Nat.lt_or_ge m ops.size with h | h
        · have h1 := hall m h
          rw [hmt m (Nat.le_refl _)] at h1
          cases h1
        · have := c.le; omega
      have env : EnvR H1 n vm a1.tmps := ⟨g5, fun q x hx => by
        rw [← hlast] at hx
        rcases chain_lk h0 hch m (Nat.le_refl _) q x hx with ⟨j, hj, hd, rfl⟩ | ⟨hn, hx⟩
        · exact g6 j hj (hall j (by omega)) q hd
        · exact g7 q x hx (fun i hi _ => hn i hi)⟩
      obtain ⟨q, hq, g3, hqL⟩ := g3
      rw [hsame q m hq (Nat.le_refl _) (fun i hi h3 => by have := (hqL i hi h3).1 (hall i (by omega)); omega), hAm] at g3
      have hw := hK H1 G W1 a1 g3 env R (fun H' W' a' v' A' k1 k2 k3 k4 k5 k6 => hr H' W' a' .nm _ v' A' (g1.trans k1) (g2.trans k2) k3 k4 (k5.trans g4) .nm k6) (fun H' W' a' u r A' k1 k2 k3 k0 k4 k5 k6 => hr H' W' a' (.pn r) _ [] A' (g1.trans k1) (g2.trans k2) k3 k0 (k4.trans g4) (.pn r u k5) k6)
      refine any_tail c 0 L a1 W1 (Nat.zero_le _) (by omega) hs (fun i hi => hall i (by omega)) (fun i hi => hmt i (by omega)) hc ?_
      have : ops.size - 0 = m := by omega
      rw [this]
      exact hw
    | succ k ih =>
      intro L U H1 W1 a1 hU hUl hUm hs hc hmt g1 g2 g3 g4 g5 g6 g7
      by_cases hall : ∀ i, i < m → L.getD i false = true
      · have env : EnvR H1 n vm a1.tmps := ⟨g5, fun q x hx => by
          rw [← hlast] at hx
          rcases chain_lk h0 hch m (Nat.le_refl _) q x hx with ⟨j, hj, hd, rfl⟩ | ⟨hn, hx⟩
          · exact g6 j hj (hall j hj) q hd
          · exact g7 q x hx (fun i hi _ => hn i hi)⟩
        obtain ⟨q, hq, g3, hqL⟩ := g3
        rw [hsame q m hq (Nat.le_refl _) (fun i hi h3 => by have := (hqL i hi h3).1 (hall i hi); omega), hAm] at g3
        have hw := hK H1 G W1 a1 g3 env R (fun H' W' a' v' A' k1 k2 k3 k4 k5 k6 => hr H' W' a' .nm _ v' A' (g1.trans k1) (g2.trans k2) k3 k4 (k5.trans g4) .nm k6) (fun H' W' a' u r A' k1 k2 k3 k0 k4 k5 k6 => hr H' W' a' (.pn r) _ [] A' (g1.trans k1) (g2.trans k2) k3 k0 (k4.trans g4) (.pn r u k5) k6)
        -- how many are left
        have hcount : k + 1 = ops.size - m := by
          have hperm : U.Perm ((List.range ops.size).filter (fun i => decide (m ≤ i))) := by
            refine (List.perm_ext_iff_of_nodup hU (List.nodup_range.filter _)).2 (fun i => ?_)
            rw [hUm, List.mem_filter, List.mem_range]
            simp only [decide_eq_true_eq]
            refine and_congr_right (fun _ => ⟨fun hf => ?_, fun hmi => hmt i hmi⟩)
            rcases Nat.lt_or_ge i m with h | h
            · rw [hall i h] at hf; cases hf
            · exact h
          have hl := hperm.length_eq
          have hcnt : ((List.range ops.size).filter (fun i => decide (m ≤ i))).length = ops.size - m := by
            have hsplit : ops.size = m + (ops.size - m) := by have := c.le; omega
            rw [hsplit, List.range_add, List.filter_append, List.length_append]
            have e1 : (List.range m).filter (fun i => decide (m ≤ i)) = [] := by
              rw [List.filter_eq_nil_iff]; intro i hi; simp at hi ⊢; omega
            have e2 : ((List.range (ops.size - m)).map (m + ·)).filter (fun i => decide (m ≤ i)) = (List.range (ops.size - m)).map (m + ·) := by
              rw [List.filter_eq_self]; intro i hi; simp at hi ⊢; omega
            rw [e1, e2]; simp
          omega
        refine any_tail c (k + 1) L a1 W1 (by omega) (by omega) hs (fun i hi => hall i (by omega)) (fun i hi => hmt i (by omega)) hc ?_
        have : ops.size - (k + 1) = m := by omega
        rw [this]
        exact hw
      · -- one of the pure part is still to come
        have hex : ∃ i, i < m ∧ L.getD i false = false ∧ ∀ j, j < i → L.getD j false = true := by
          have : ∀ q, (∀ i, i < q → L.getD i false = true) ∨ ∃ i, i < q ∧ L.getD i false = false ∧ ∀ j, j < i → L.getD j false = true := by
            intro q
            induction q with
            | zero => exact .inl fun i hi => by omega
            | succ q ihq =>
              rcases ihq with h | ⟨i, hi, h1, h2⟩
              · cases hL : L.getD q false with
                | true =>
                  refine .inl fun i hi => ?_
                  rcases Nat.lt_succ_iff_lt_or_eq.1 hi with hi | rfl
                  · exact h i hi
                  · exact hL
                | false => exact .inr ⟨q, by omega, hL, h⟩
              · exact .inr ⟨i, by omega, h1, h2⟩
          rcases this m with h | h
          · exact absurd h hall
          · exact h
        obtain ⟨i0, hi0, hf0, hl0⟩ := hex
        refine ⟨fun hrd => ?_, fun j hj => ?_⟩
        · have := ready_least c hs (by have := c.le; omega) hf0 hl0
          rw [hrd] at this; cases this
        · obtain ⟨o, ho, hf, hw⟩ := ready_waits hs hj
          have hjs := (Array.getElem?_eq_some_iff.1 ho).1
          have hjm : j < m := by
            rcases Nat.lt_or_ge j m with h | h
            · exact h
            · have := bits_listed c hc j j o (Nat.le_refl _) ho hw i0 (c.tail j h hjs i0 (by omega))
              rw [hf0] at this; cases this
          obtain ⟨o', ho', _, hP⟩ := hst j hjm
          rw [ho] at ho'
          cases ho'
          have hLj : j < L.size := by omega
          -- what it looks at
          have look : ∀ t x, t ∈ o.looksAt ops → lk t (ve j) = some x → Rel H1 x (a1.tmps.getD t undef) := fun t x ht hx => by
            rcases chain_lk h0 hch j (by omega) t x hx with ⟨q, hq, hd, rfl⟩ | ⟨hn, hx⟩
            · have hwq := (c.look j o t q hjm ho ht (by omega) hd).2
              refine g6 q (by omega) ?_ t hd
              unfold waits at hwq
              rw [ho] at hwq
              simp only [Array.any_eq_true, Bool.and_eq_true] at hwq
              obtain ⟨p, hp, hb, hon⟩ := hwq
              have := hw _ (Array.getElem_mem hp) hb
              rwa [Nat.eq_of_beq_eq_true hon] at this
            · refine g7 t x hx (fun i hi hL hd => ?_)
              have := (c.look j o t i hjm ho ht hi hd).1
              exact hn i this hd
          -- the next state
          obtain ⟨qc, hqc, g3, hqL⟩ := g3
          have hanc : ∀ i, ((bits ops).getD j 0).testBit i = true → L.getD i false = true := bits_listed c hc j j o (Nat.le_refl _) ho hw
          have hlater : ∀ i, i < m → ((bits ops).getD i 0).testBit j = true → L.getD i false = false := fun i hi hb => by
            cases hL : L.getD i false with
            | false => rfl
            | true =>
              have his : i < ops.size := by have := c.le; omega
              have hoi : ops[i]? = some ops[i] := Array.getElem?_eq_getElem his
              have := bits_listed c hc i i _ (Nat.le_refl _) hoi (fun e he hbi => hc i _ e hoi hL he hbi) j hb
              rw [hf] at this; cases this
          have hpin : (cls j = 3 ∨ cls j = 0) → Ac qc = Ac j := fun h3 => hsame qc j hqc (by omega) (fun i hi hi3 => by
            rw [← hqL i hi hi3]
            rcases Nat.lt_trichotomy i j with hij | hij | hij
            · have := hanc i (c.cl i j hij hjm (.inl ⟨hi3, h3⟩))
              simp [this, hij]
            · subst hij; simp [hf]
            · have := hlater i hi (c.cl j i hij hi (h3.elim (fun h => .inl ⟨h, .inl hi3⟩) (fun h => .inr ⟨.inl h, hi3⟩)))
              simp [this]; omega)
          have hearly : cls j = 2 → ∃ c', c' ≤ j ∧ Ac qc = Ac c' := fun h2 => by
            rcases Nat.le_total qc j with h | h
            · exact ⟨qc, h, rfl⟩
            · refine ⟨j, Nat.le_refl _, hsame qc j hqc (by omega) (fun i hi hi3 => ?_)⟩
              rcases Nat.lt_trichotomy i j with hij | hij | hij
              · constructor
                · intro _; exact hij
                · intro _; omega
              · subst hij; rw [hi3] at h2; cases h2
              · have := hlater i hi (c.cl j i hij hi (.inr ⟨.inr h2, hi3⟩))
                have h4 := hqL i hi hi3
                rw [this] at h4
                simp at h4
                omega
          have next : ∀ (H2 : Hp) (W2 : World) (u : Value), Sub H1 H2 → Same W1 W2 → (∃ q, q ≤ m ∧ Sim H2 G (Ac q) W2 ∧ ∀ i, i < m → cls i = 3 → ((L.setIfInBounds j true).getD i false = true ↔ i < q)) → Rel H2 (r j) u → wpAny P .any ops R k (L.setIfInBounds j true) (a1.put o.dst u) W2 := by
            intro H2 W2 u q1 q2 q3 q4
            have hjU : j ∈ U := (hUm j).2 ⟨hjs, hf⟩
            have hdst : dstOf ops j = o.dst := by unfold dstOf; rw [ho]; rfl
            refine ih _ (U.erase j) H2 W2 _ (hU.erase j) (by rw [List.length_erase_of_mem hjU, hUl]; rfl) (fun i => ?_) (by simpa using hs) (fun p o2 e2 hp hlp he hb => ?_) (fun i hi => ?_) (g1.trans q1) (g2.trans q2) q3 ((put_defers ..).trans g4) (by cases hdd : o.dst <;> simp [Act.put, g5]) (fun i hi hL d hd => ?_) (fun q x hx hno => ?_)
            · rw [hU.mem_erase_iff, hUm, getD_set hLj]
              constructor
              · rintro ⟨h1, h2, h3⟩; exact ⟨h2, by rw [if_neg (Ne.symm h1)]; exact h3⟩
              · rintro ⟨h1, h2⟩
                split at h2
                · cases h2
                · rename_i hne; exact ⟨Ne.symm hne, h1, h2⟩
            · rw [getD_set hLj] at hlp ⊢
              split
              · rfl
              · split at hlp
                · rename_i hjp
                  subst hjp
                  rw [ho] at hp
                  cases hp
                  exact hw e2 he hb
                · exact hc p o2 e2 hp hlp he hb
            · rw [getD_set hLj, if_neg (by omega)]
              exact hmt i hi
            · rw [getD_set hLj] at hL
              have hdn := c.dn j o hjm ho
              by_cases hij : j = i
              · subst hij
                rw [hdst] at hd
                rw [hd] at hdn ⊢
                have hd' : d < a1.tmps.size := by rw [g5]; simpa [Nat.blt_eq] using hdn
                simpa [Act.put, Array.getD_eq_getD_getElem?, hd'] using q4
              · rw [if_neg hij] at hL
                have hne : o.dst ≠ some d := fun h => hij (c.dist j i d hjm hi (hdst.trans h) hd)
                have hkeep : (a1.put o.dst u).tmps.getD d undef = a1.tmps.getD d undef := by
                  cases hdd : o.dst with
                  | none => rfl
                  | some d' =>
                    have : d' ≠ d := fun h => hne (by rw [hdd, h])
                    simp [Act.put, Array.getD_eq_getD_getElem?, Array.getElem?_setIfInBounds, this]
                rw [hkeep]
                exact (g6 i hi hL d hd).mono q1
            · have hne : o.dst ≠ some q := fun h => hno j hjm (by rw [getD_set hLj, if_pos rfl]) (hdst.trans h)
              have hkeep : (a1.put o.dst u).tmps.getD q undef = a1.tmps.getD q undef := by
                cases hdd : o.dst with
                | none => rfl
                | some d' =>
                  have : d' ≠ q := fun h => hne (by rw [hdd, h])
                  simp [Act.put, Array.getD_eq_getD_getElem?, Array.getElem?_setIfInBounds, this]
              rw [hkeep]
              refine (g7 q x hx (fun i hi hL => hno i hi ?_)).mono q1
              rw [getD_set hLj]
              split
              · rfl
              · exact hL
          have gsl : ∀ jj want s, o.guard = some (jj, want) → gslot ops jj = some s → s ∈ o.looksAt ops := fun jj want s h1 h2 => by
            unfold Oper.looksAt
            rw [h1]
            refine List.mem_append_right _ ?_
            unfold gslot at h2
            dsimp only
            rw [h2]
            simp
          have yv : ∀ jj s t, gslot ops jj = some s → Nat.blt s n = true → s ∈ o.looksAt ops → lk s (ve j) = some (.sc (.bool t)) → yielded ops a1.tmps jj = some t := fun jj s t h1 h2 h3 h4 => by
            have h5 := look s _ h3 h4
            have hsn' : s < a1.tmps.size := by rw [g5]; simpa [Nat.blt_eq] using h2
            have h6 : a1.tmps[s]? = some (.bool t) := by
              rw [Array.getD_eq_getD_getElem?, Array.getElem?_eq_getElem hsn'] at h5
              simp only [Option.getD_some] at h5
              rw [Array.getElem?_eq_getElem hsn']
              generalize a1.tmps[s] = q at h5
              cases h5
              rfl
            unfold yielded
            have h7 : ((ops[jj]?).bind (·.dst)) = some s := h1
            rw [h7]
            simp [h6]
          unfold wpOp
          rw [ho]
          simp only
          have stay : cls j ≠ 3 → ∀ H2 W2, Sim H2 G (Ac qc) W2 → (∃ q, q ≤ m ∧ Sim H2 G (Ac q) W2 ∧ ∀ i, i < m → cls i = 3 → ((L.setIfInBounds j true).getD i false = true ↔ i < q)) := fun h3 H2 W2 s2 => by
            refine ⟨qc, hqc, s2, fun i hi hi3 => ?_⟩
            rw [getD_set hLj, if_neg (by rintro rfl; exact h3 hi3)]
            exact hqL i hi hi3
          have turn : cls j = 3 → ∀ H2 W2, Sim H2 G (Ac (j + 1)) W2 → (∃ q, q ≤ m ∧ Sim H2 G (Ac q) W2 ∧ ∀ i, i < m → cls i = 3 → ((L.setIfInBounds j true).getD i false = true ↔ i < q)) := fun h3 H2 W2 s2 => by
            refine ⟨j + 1, by omega, s2, fun i hi hi3 => ?_⟩
            rw [getD_set hLj]
            rcases Nat.lt_trichotomy i j with hij | hij | hij
            · have := hanc i (c.cl i j hij hjm (.inl ⟨hi3, .inl h3⟩))
              rw [if_neg (by omega), this]; simp; omega
            · subst hij; simp
            · have := hlater i hi (c.cl j i hij hi (.inl ⟨h3, .inl hi3⟩))
              rw [if_neg (by omega), this]; simp; omega
          rcases hP with ⟨hg, hop⟩ | ⟨⟨jj, want, s', h1, h2, h3, h4⟩, hdd, hAk⟩
          · have hwanted : Region.wanted o (yielded ops a1.tmps) = true := by
              rcases hg with hg | ⟨jj, want, s', h1, h2, h3, h4⟩
              · simp [Region.wanted, hg]
              · simp [Region.wanted, h1, yv jj s' want h2 h3 (gsl jj want s' h1 h2) h4]
            rw [if_pos hwanted]
            have env1 : EnvR H1 n (restr (o.looksAt ops) (ve j)) a1.tmps := ⟨g5, fun t x hx => by obtain ⟨k1, k2⟩ := lk_restr hx; exact look t x k1 k2⟩
            rcases hop with ⟨hc3, hop⟩ | ⟨hc3, hAk, hop⟩
            · rw [← hpin (.inl hc3)] at hop
              refine .inl (hop H1 G W1 a1 g3 env1 _ R (fun H2 W2 u r' A' q1 q2 q3 q4 q5 => ?_) (fun _ _ _ _ _ _ _ _ _ q => q.elim))
              obtain ⟨rfl, rfl⟩ := q5
              exact next H2 W2 u q1 q2 (turn hc3 H2 W2 q3) q4
            · have hop' := hop (Ac qc) (by
                by_cases e1 : cls j = 1
                · exact .inl e1
                · by_cases e0 : cls j = 0
                  · exact .inr (.inr (.inl (hpin (.inr e0))))
                  · by_cases e4 : cls j = 4
                    · refine .inr (.inl ⟨e4, ?_⟩)
                      rcases Nat.lt_or_ge (m - Z) qc with hz | hz
                      · have e5 : Ac qc = Ac (m - Z) := hsame qc (m - Z) hqc (by omega) (fun i hi hi3 => by
                          constructor
                          · intro hiq
                            rcases Nat.lt_or_ge i (m - Z) with h | h
                            · exact h
                            · have := hlater i hi (hfin' j i hjm hi e4 hi3 (by omega))
                              rw [(hqL i hi hi3).2 hiq] at this; cases this
                          · intro h; omega)
                        rw [e5]; exact hSs _ (by omega)
                      · exact hSs qc (by omega)
                    · have e2 : cls j = 2 := by
                        have hle4 : cls j ≤ 4 := hk4 j hjm
                        omega
                      exact .inr (.inr (.inr ⟨e2, .inr (hearly e2)⟩)))
              refine .inl (hop' H1 G W1 a1 g3 env1 _ R (fun H2 W2 u r' A' q1 q2 q3 q4 q5 => ?_) (fun _ _ _ _ _ _ _ _ _ q => q.elim))
              obtain ⟨rfl, rfl⟩ := q5
              exact next H2 W2 u q1 q2 (stay hc3 H2 W2 q3) q4
          · have hyn : yielded ops a1.tmps jj = some (!want) ∨ yielded ops a1.tmps jj = none := by
              rcases h4 with h4 | h4
              · exact .inl (yv jj s' _ h2 h3 (gsl jj want s' h1 h2) h4)
              · right
                have h5 := look s' _ (gsl jj want s' h1 h2) h4
                have hsn' : s' < a1.tmps.size := by rw [g5]; simpa [Nat.blt_eq] using h3
                have h6 : a1.tmps[s']? = some undef := by
                  rw [Array.getD_eq_getD_getElem?, Array.getElem?_eq_getElem hsn'] at h5
                  simp only [Option.getD_some] at h5
                  rw [Array.getElem?_eq_getElem hsn']
                  generalize a1.tmps[s'] = q at h5
                  cases h5; rfl
                unfold yielded
                have h7 : ((ops[jj]?).bind (·.dst)) = some s' := h2
                rw [h7]
                simp [h6, undef]
            have hwanted : Region.wanted o (yielded ops a1.tmps) = false := by
              rcases hyn with h | h <;> simp [Region.wanted, h1, h]
            rw [if_neg (by rw [hwanted]; simp)]
            refine next H1 W1 undef (Sub.refl _) (Same.refl _) ?_ (by rw [hdd]; exact .sc _)
            by_cases hc3 : cls j = 3
            · refine turn hc3 H1 W1 ?_
              rw [hAk, ← hpin (.inl hc3)]; exact g3
            · exact stay hc3 H1 W1 g3
  have hf : ∀ i, (Array.replicate ops.size false).getD i false = false := fun i => by
    simp only [Array.getD_eq_getD_getElem?, Array.getElem?_replicate]
    split <;> rfl
  refine main ops.size _ (List.range ops.size) H _ a List.nodup_range (by simp) (fun i => ?_) (by simp) (fun i o e2 ho hL => ?_) (fun i _ => hf i) (Sub.refl H) ⟨rfl, rfl, rfl, Nat.le_refl _⟩ ⟨0, Nat.zero_le _, by rw [hA0]; exact s.move fun _ _ => rfl, fun i _ _ => by rw [hf]; simp⟩ rfl e.1 (fun i _ hL => ?_) (fun q x hx _ => e.2 q x hx)
  · rw [List.mem_range, hf]; simp
  · rw [hf] at hL; cases hL
  · rw [hf] at hL; cases hL

/-- A call of which result and blocks are told. -/
theorem AOp.callD {P : Program} {o : Oper} {n : Nat} {v : Env} {A : List Blk} {E : AV → List Blk → Prop} {f : FuncId} {x : Operand} {xs : Array Operand} {ts : Array TypeId} {args caps : List AV} {Ac Af A1 : List Blk} {r : AV}
    (hc : ∀ (args : Array Value) (w : World), (callFunc f args).run P w = .ok (.enter f args) w) (hop : o.op = .call { callee := .value x, args := xs, argTypes := ts }) (hx : ev v x = some (.fn (.func f) caps)) (ha : evs v xs.toList = some args)
    (hA : A.Perm (Ac ++ Af)) (h : ACalls P f (args ++ caps) Ac (fun r' A' => r' = r ∧ A' = A1) (fun _ _ => False)) : AOp P o n v A (fun r' A' => r' = r ∧ A' = A1 ++ Af) E :=
  AOp.callR hc hop hx ha hA h (fun r' A' hr => ⟨hr.1, by rw [hr.2]⟩) (fun _ _ h => h.elim)
end Go.Aw
