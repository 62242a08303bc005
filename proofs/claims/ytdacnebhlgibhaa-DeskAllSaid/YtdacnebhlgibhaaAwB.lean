/- Own text: the judgements on operations, regions, code and calls, and their structural rules (part B). -/
import Derived.Test.YtdacnebhlgibhaaAwA
set_option linter.unusedVariables false
set_option linter.unusedSimpArgs false
namespace Go.Aw
open Go

/-! ### The slots -/
abbrev Env := List (Nat × AV)
def lk (s : Nat) : Env → Option AV
  | [] => none
  | (k, x) :: r => cond (Nat.beq s k) (some x) (lk s r)
def st (d : Option Nat) (x : AV) (v : Env) : Env := match d with | none => v | some d => (d, x) :: v
def EnvR (H : Hp) (n : Nat) (v : Env) (tmps : Array Value) : Prop := tmps.size = n ∧ ∀ s x, lk s v = some x → Rel H x (tmps.getD s undef)
theorem EnvR.mono {H H' : Hp} {n : Nat} {v : Env} {t : Array Value} (h : Sub H H') (e : EnvR H n v t) : EnvR H' n v t := ⟨e.1, fun s x hx => (e.2 s x hx).mono h⟩
theorem lk_cons (s k : Nat) (x : AV) (r : Env) : lk s ((k, x) :: r) = if s = k then some x else lk s r := by
  show cond (Nat.beq s k) _ _ = _
  by_cases h : s = k
  · subst h; simp
  · have : Nat.beq s k = false := by rw [← Bool.not_eq_true]; intro e; exact h (Nat.eq_of_beq_eq_true e)
    rw [this, if_neg h]; rfl
theorem EnvR.st {H : Hp} {n : Nat} {v : Env} {a : Act} (e : EnvR H n v a.tmps) {d : Option Nat} (hd : d.all (fun k => Nat.blt k n) = true) {x : AV} {u : Value} (hx : Rel H x u) : EnvR H n (st d x v) (a.put d u).tmps := by
  cases d with
  | none => exact e
  | some d =>
    have hd' : d < n := by simpa [Nat.blt_eq] using hd
    refine ⟨by simp [Act.put, e.1], fun s y hy => ?_⟩
    simp only [Aw.st] at hy
    rw [lk_cons] at hy
    simp only [Act.put]
    by_cases h : s = d
    · subst h
      rw [if_pos rfl] at hy
      cases hy
      simpa [Array.getD_eq_getD_getElem?, e.1, hd'] using hx
    · rw [if_neg h] at hy
      have := e.2 s y hy
      simpa [Array.getD_eq_getD_getElem?, Array.getElem?_setIfInBounds, Ne.symm h] using this

def ofV : Value → AV
  | .agg vs => if vs.all (·.oneCell') then .ag (vs.toList.map .sc) else .sc (.agg vs)
  | v => .sc v
theorem ofV_rel (H : Hp) (v : Value) : Rel H (ofV v) v := by
  unfold ofV
  split
  · rename_i vs
    split
    · rename_i h
      refine .ag _ (fun j => vs.getD j undef) vs (by simp) (fun j hj => ?_) (fun j hj => ?_) (fun j x hx => ?_)
      · simp at hj; simp [hj, Array.getD_eq_getD_getElem?]
      · simp at hj
        have := Array.all_eq_true.1 h j hj
        simpa [hj, Array.getD_eq_getD_getElem?] using this
      · simp only [List.getElem?_map, Array.getElem?_toList] at hx
        cases hv : vs[j]? with
        | none => rw [hv] at hx; cases hx
        | some w =>
          rw [hv] at hx
          cases hx
          simp only [Array.getD_eq_getD_getElem?, hv, Option.getD_some]
          exact .sc w
    · exact .sc _
  · exact .sc _

def ev (v : Env) : Operand → Option AV
  | .tmp t => lk t v
  | .const c => some (ofV c)
  | .global g => some (.sc (.pointer (some ⟨g, 0, none⟩)))
  | .func f => some (.fn (.func f) [])
theorem ev_rel {H : Hp} {n : Nat} {v : Env} {a : Act} (e : EnvR H n v a.tmps) {x : Operand} {r : AV} (h : ev v x = some r) : Rel H r (a.eval x) := by
  cases x with
  | tmp t => exact e.2 t r h
  | const c => cases h; exact ofV_rel H c
  | global g => cases h; exact .sc _
  | func f => cases h; exact .fn _ [] (fun _ => undef) #[] rfl (fun j hj => by simp at hj) (fun j x hx => by simp at hx)

/-! ### Operations -/
def AOp (P : Program) (o : Oper) (n : Nat) (v : Env) (A : List Blk) (K : AV → List Blk → Prop) (E : AV → List Blk → Prop) : Prop :=
  ∀ (H G : Hp) (W : World) (a : Act), Sim H G A W → EnvR H n v a.tmps → ∀ (next : Act → World → Prop) (Q : Exit → Act → World → Prop),
    (∀ H' W' u r A', Sub H H' → Same W W' → Sim H' G A' W' → Rel H' r u → K r A' → next (a.put o.dst u) W') →
    (∀ H' W' u r A', Sub H H' → Same W W' → Sim H' G A' W' → Rel H' r u → E r A' → Q (.panic [{ v := u, recovered := false }]) a W') →
    o.wp P a W next Q

/-- An operation that only computes. -/
theorem AOp.val {P : Program} {o : Oper} {n : Nat} {v : Env} {A : List Blk} {K : AV → List Blk → Prop} {E : AV → List Blk → Prop} {r : AV}
    (h : ∀ (H G : Hp) (W : World) (a : Act), Sim H G A W → EnvR H n v a.tmps → ∃ u, (execOp a.eval o).run P W = .ok (.value u) W ∧ Rel H r u) (hk : K r A) : AOp P o n v A K E := by
  intro H G W a s e next Q hn _
  obtain ⟨u, hu, hr⟩ := h H G W a s e
  unfold Oper.wp
  rw [hu]
  exact hn H W u r A (Sub.refl H) (Same.refl W) s hr hk

theorem AOp.mono {P : Program} {o : Oper} {n : Nat} {v : Env} {A : List Blk} {K K' : AV → List Blk → Prop} {E E' : AV → List Blk → Prop}
    (h : AOp P o n v A K E) (hk : ∀ r A', K r A' → K' r A') (he : ∀ r A', E r A' → E' r A') : AOp P o n v A K' E' :=
  fun H G W a s e next Q hn hq => h H G W a s e next Q (fun H' W' u r A' h1 h2 h3 h4 h5 => hn H' W' u r A' h1 h2 h3 h4 (hk _ _ h5)) (fun H' W' u r A' h1 h2 h3 h4 h5 => hq H' W' u r A' h1 h2 h3 h4 (he _ _ h5))

/-! ### Lists of operations -/
def AOps (P : Program) (ops : Array Oper) (n : Nat) (l : List Oper) (v : Env) (A : List Blk) (K : Env → List Blk → Prop) (E : AV → List Blk → Prop) : Prop :=
  ∀ (H G : Hp) (W : World) (a : Act), Sim H G A W → EnvR H n v a.tmps → ∀ (Q : Exit → Act → World → Prop),
    (∀ H' W' a' v' A', Sub H H' → Same W W' → Sim H' G A' W' → EnvR H' n v' a'.tmps → a'.defers = a.defers → K v' A' → Q .normal a' W') →
    (∀ H' W' a' u r A', Sub H H' → Same W W' → Sim H' G A' W' → EnvR H' n [] a'.tmps → a'.defers = a.defers → Rel H' r u → E r A' → Q (.panic [{ v := u, recovered := false }]) a' W') →
    wpList P ops Q l a W

theorem aops_nil {P : Program} {ops : Array Oper} {n : Nat} {v : Env} {A : List Blk} {K : Env → List Blk → Prop} {E : AV → List Blk → Prop} (h : K v A) : AOps P ops n [] v A K E :=
  fun H G W a s e Q hn _ => hn H W a v A (Sub.refl H) (Same.refl W) s e rfl h

theorem put_defers (a : Act) (d : Option Tmp) (u : Value) : (a.put d u).defers = a.defers := by cases d <;> rfl

theorem aops_exec {P : Program} {ops : Array Oper} {n : Nat} {o : Oper} {l : List Oper} {v : Env} {A : List Blk} {K : Env → List Blk → Prop} {E : AV → List Blk → Prop}
    (hd : o.dst.all (fun k => Nat.blt k n) = true) (h : AOp P o n v A (fun r A' => AOps P ops n l (st o.dst r v) A' K E) E)
    (H G : Hp) (W : World) (a : Act) (s : Sim H G A W) (e : EnvR H n v a.tmps) (Q : Exit → Act → World → Prop)
    (hn : ∀ H' W' a' v' A', Sub H H' → Same W W' → Sim H' G A' W' → EnvR H' n v' a'.tmps → a'.defers = a.defers → K v' A' → Q .normal a' W')
    (hq : ∀ H' W' a' u r A', Sub H H' → Same W W' → Sim H' G A' W' → EnvR H' n [] a'.tmps → a'.defers = a.defers → Rel H' r u → E r A' → Q (.panic [{ v := u, recovered := false }]) a' W') :
    o.wp P a W (wpList P ops Q l) Q := by
  refine h H G W a s e _ Q (fun H' W' u r A' h1 h2 h3 h4 h5 => ?_) (fun H' W' u r A' h1 h2 h3 h4 h5 => hq H' W' a u r A' h1 h2 h3 ⟨e.1, fun s x h => by cases h⟩ rfl h4 h5)
  refine h5 H' G W' (a.put o.dst u) h3 ((e.mono h1).st hd h4) Q (fun H'' W'' a' v' A'' k1 k2 k3 k4 k5 k6 => hn H'' W'' a' v' A'' (h1.trans k1) (h2.trans k2) k3 k4 (k5.trans (put_defers ..)) k6) (fun H'' W'' a' u r A'' k1 k2 k3 k0 k4 k5 k6 => hq H'' W'' a' u r A'' (h1.trans k1) (h2.trans k2) k3 k0 (k4.trans (put_defers ..)) k5 k6)

theorem aops_cons {P : Program} {ops : Array Oper} {n : Nat} {o : Oper} {l : List Oper} {v : Env} {A : List Blk} {K : Env → List Blk → Prop} {E : AV → List Blk → Prop}
    (hg : o.guard = none) (hd : o.dst.all (fun k => Nat.blt k n) = true) (h : AOp P o n v A (fun r A' => AOps P ops n l (st o.dst r v) A' K E) E) : AOps P ops n (o :: l) v A K E := by
  intro H G W a s e Q hn hq
  unfold wpList
  rw [if_pos (by simp [Region.wanted, hg])]
  exact .inl (aops_exec hd h H G W a s e Q hn hq)

/-- The slot by which an operation is guarded. -/
def gslot (ops : Array Oper) (j : Nat) : Option Nat := (ops[j]?).bind (·.dst)
theorem aops_guard {P : Program} {ops : Array Oper} {n : Nat} {o : Oper} {l : List Oper} {v : Env} {A : List Blk} {K : Env → List Blk → Prop} {E : AV → List Blk → Prop}
    (j : Nat) (want : Bool) (s : Nat) (t : Bool) (hg : o.guard = some (j, want)) (hs : gslot ops j = some s) (hv : lk s v = some (.sc (.bool t))) (hsn : Nat.blt s n = true) (hd : o.dst.all (fun k => Nat.blt k n) = true)
    (h : t = want → AOp P o n v A (fun r A' => AOps P ops n l (st o.dst r v) A' K E) E) (h' : t = !want → AOps P ops n l (st o.dst (.sc undef) v) A K E) : AOps P ops n (o :: l) v A K E := by
  intro H G W a sm e Q hn hq
  have hy : yielded ops a.tmps j = some t := by
    have h1 := e.2 s _ hv
    have hsn' : s < a.tmps.size := by rw [e.1]; simpa [Nat.blt_eq] using hsn
    have h2 : a.tmps[s]? = some (.bool t) := by
      rw [Array.getD_eq_getD_getElem?, Array.getElem?_eq_getElem hsn'] at h1
      simp only [Option.getD_some] at h1
      rw [Array.getElem?_eq_getElem hsn']
      generalize a.tmps[s] = q at h1
      cases h1
      rfl
    unfold yielded
    have h3 : ((ops[j]?).bind (·.dst)) = some s := hs
    rw [h3]
    simp [h2]
  unfold wpList
  by_cases hw : t = want
  · rw [if_pos (by simp [Region.wanted, hg, hy, hw])]
    exact .inl (aops_exec hd (h hw) H G W a sm e Q hn hq)
  · rw [if_neg (by simp [Region.wanted, hg, hy, hw])]
    have hw' : t = !want := by cases t <;> cases want <;> simp_all
    exact h' hw' H G W _ sm (e.st hd (.sc _)) Q (fun H' W' a' v' A' k1 k2 k3 k4 k5 k6 => hn H' W' a' v' A' k1 k2 k3 k4 (k5.trans (put_defers ..)) k6) (fun H' W' a' u r A' k1 k2 k3 k0 k4 k5 k6 => hq H' W' a' u r A' k1 k2 k3 k0 (k4.trans (put_defers ..)) k5 k6)

theorem aops_guardU {P : Program} {ops : Array Oper} {n : Nat} {o : Oper} {l : List Oper} {v : Env} {A : List Blk} {K : Env → List Blk → Prop} {E : AV → List Blk → Prop}
    (j : Nat) (want : Bool) (s : Nat) (hg : o.guard = some (j, want)) (hs : gslot ops j = some s) (hv : lk s v = some (.sc undef)) (hsn : Nat.blt s n = true) (hd : o.dst.all (fun k => Nat.blt k n) = true)
    (h' : AOps P ops n l (st o.dst (.sc undef) v) A K E) : AOps P ops n (o :: l) v A K E := by
  intro H G W a sm e Q hn hq
  have hy : yielded ops a.tmps j = none := by
    have h1 := e.2 s _ hv
    have hsn' : s < a.tmps.size := by rw [e.1]; simpa [Nat.blt_eq] using hsn
    have h2 : a.tmps[s]? = some undef := by
      rw [Array.getD_eq_getD_getElem?, Array.getElem?_eq_getElem hsn'] at h1
      simp only [Option.getD_some] at h1
      rw [Array.getElem?_eq_getElem hsn']
      generalize a.tmps[s] = q at h1
      cases h1
      rfl
    unfold yielded
    have h3 : ((ops[j]?).bind (·.dst)) = some s := hs
    rw [h3]
    simp [h2, undef]
  unfold wpList
  rw [if_neg (by simp [Region.wanted, hg, hy])]
  exact h' H G W _ sm (e.st hd (.sc _)) Q (fun H' W' a' v' A' k1 k2 k3 k4 k5 k6 => hn H' W' a' v' A' k1 k2 k3 k4 (k5.trans (put_defers ..)) k6) (fun H' W' a' u r A' k1 k2 k3 k0 k4 k5 k6 => hq H' W' a' u r A' k1 k2 k3 k0 (k4.trans (put_defers ..)) k5 k6)

/-! ### Code -/
inductive AEx where
  | nm
  | ex (id : Nat)
  | gt (l : Nat)
  | rt
  | pn (r : AV)
inductive ExR (H : Hp) : AEx → Exit → Prop
  | nm : ExR H .nm .normal
  | ex (id : Nat) : ExR H (.ex id) (.exit id)
  | gt (l : Nat) : ExR H (.gt l) (.goto l)
  | rt : ExR H .rt .ret
  | pn (r : AV) (u : Value) (h : Rel H r u) : ExR H (.pn r) (.panic [{ v := u, recovered := false }])

abbrev Post := AEx → Env → List Blk → Prop
def AW (P : Program) (n : Nat) (c : Code) (v : Env) (A : List Blk) (Q : Post) : Prop :=
  ∀ (H G : Hp) (W : World) (a : Act), Sim H G A W → EnvR H n v a.tmps → ∀ (R : Exit → Act → World → Prop),
    (∀ H' W' a' x x' v' A', Sub H H' → Same W W' → Sim H' G A' W' → EnvR H' n v' a'.tmps → a'.defers = a.defers → ExR H' x x' → Q x v' A' → R x' a' W') → c.wp P R a W

theorem AW.mono {P : Program} {n : Nat} {c : Code} {v : Env} {A : List Blk} {Q Q' : Post} (h : AW P n c v A Q) (hq : ∀ x v' A', Q x v' A' → Q' x v' A') : AW P n c v A Q' :=
  fun H G W a s e R hr => h H G W a s e R (fun H' W' a' x x' v' A' k1 k2 k3 k4 k5 k6 k7 => hr H' W' a' x x' v' A' k1 k2 k3 k4 k5 k6 (hq _ _ _ k7))

/-- What may be forgotten or told anew between two steps. -/
def Wk (n : Nat) (v : Env) (A : List Blk) (v' : Env) (A' : List Blk) : Prop :=
  ∀ (H G : Hp) (W : World) (t : Array Value), Sim H G A W → EnvR H n v t → ∃ H', Sub H H' ∧ Sim H' G A' W ∧ EnvR H' n v' t
theorem Wk.refl (n : Nat) (v : Env) (A : List Blk) : Wk n v A v A := fun H G W t s e => ⟨H, Sub.refl H, s, e⟩
theorem Wk.trans {n : Nat} {v v' v'' : Env} {A A' A'' : List Blk} (h : Wk n v A v' A') (k : Wk n v' A' v'' A'') : Wk n v A v'' A'' := fun H G W t s e => by
  obtain ⟨H1, h1, s1, e1⟩ := h H G W t s e
  obtain ⟨H2, h2, s2, e2⟩ := k H1 G W t s1 e1
  exact ⟨H2, h1.trans h2, s2, e2⟩
theorem aw_weak {P : Program} {n : Nat} {c : Code} {v v' : Env} {A A' : List Blk} {Q : Post} (h : Wk n v A v' A') (k : AW P n c v' A' Q) : AW P n c v A Q := by
  intro H G W a s e R hr
  obtain ⟨H1, h1, s1, e1⟩ := h H G W a.tmps s e
  exact k H1 G W a s1 e1 R (fun H' W' a' x x' v' A' k1 => hr H' W' a' x x' v' A' (h1.trans k1))
theorem aops_weak {P : Program} {ops : Array Oper} {n : Nat} {l : List Oper} {v v' : Env} {A A' : List Blk} {K : Env → List Blk → Prop} {E : AV → List Blk → Prop} (h : Wk n v A v' A') (k : AOps P ops n l v' A' K E) : AOps P ops n l v A K E := by
  intro H G W a s e Q hn hq
  obtain ⟨H1, h1, s1, e1⟩ := h H G W a.tmps s e
  exact k H1 G W a s1 e1 Q (fun H' W' a' v' A' k1 => hn H' W' a' v' A' (h1.trans k1)) (fun H' W' a' u r A' k1 => hq H' W' a' u r A' (h1.trans k1))

theorem aw_skip {P : Program} {n : Nat} {v : Env} {A : List Blk} {Q : Post} (h : Q .nm v A) : AW P n .skip v A Q :=
  fun H G W a s e R hr => wp_skip (hr H W a .nm _ v A (Sub.refl H) (Same.refl W) s e rfl .nm h)
theorem aw_ret {P : Program} {n : Nat} {v : Env} {A : List Blk} {Q : Post} (h : Q .rt v A) : AW P n .ret v A Q :=
  fun H G W a s e R hr => wp_ret (hr H W a .rt _ v A (Sub.refl H) (Same.refl W) s e rfl .rt h)
theorem aw_exit {P : Program} {n : Nat} {v : Env} {A : List Blk} {Q : Post} {id : Nat} (h : Q (.ex id) v A) : AW P n (.exit id) v A Q :=
  fun H G W a s e R hr => wp_exit (hr H W a (.ex id) _ v A (Sub.refl H) (Same.refl W) s e rfl (.ex id) h)
theorem aw_label {P : Program} {n : Nat} {v : Env} {A : List Blk} {Q : Post} {l : Nat} (h : Q .nm v A) : AW P n (.label l) v A Q :=
  fun H G W a s e R hr => wp_label (hr H W a .nm _ v A (Sub.refl H) (Same.refl W) s e rfl .nm h)

/-- What follows a piece of code: the next one where it ends normally. -/
def thenQ (k : Env → List Blk → Prop) (Q : Post) : Post
  | .nm, v, A => k v A
  | x, v, A => Q x v A
theorem aw_seq {P : Program} {n : Nat} {c d : Code} {v : Env} {A : List Blk} {Q : Post} (h : AW P n c v A (thenQ (fun v' A' => AW P n d v' A' Q) Q)) : AW P n (.seq c d) v A Q := by
  intro H G W a s e R hr
  refine wp_seq (h H G W a s e _ (fun H' W' a' x x' v' A' k1 k2 k3 k4 k5 k6 k7 => ?_))
  have go : ∀ (x : AEx) (x' : Exit), ExR H' x x' → Q x v' A' → R x' a' W' := fun x x' hx hq => hr H' W' a' x x' v' A' k1 k2 k3 k4 k5 hx hq
  cases k6 with
  | nm => exact k7 H' G W' a' k3 k4 R (fun H'' W'' a'' x x' v'' A'' l1 l2 l3 l4 l5 => hr H'' W'' a'' x x' v'' A'' (k1.trans l1) (k2.trans l2) l3 l4 (l5.trans k5))
  | ex id => exact go _ _ (.ex id) k7
  | gt l => exact go _ _ (.gt l) k7
  | rt => exact go _ _ .rt k7
  | pn r u hru => exact go _ _ (.pn r u hru) k7

theorem aw_cond {P : Program} {n : Nat} {x : Operand} {c d : Code} {v : Env} {A : List Blk} {Q : Post} (t : Bool) (hx : ev v x = some (.sc (.bool t))) (h1 : t = true → AW P n c v A Q) (h2 : t = false → AW P n d v A Q) : AW P n (.cond x c d) v A Q := by
  intro H G W a s e R hr
  have hv : a.eval x = .bool t := by have := ev_rel e hx; generalize a.eval x = q at this; cases this; rfl
  cases t with
  | true => exact wp_cond hv (h1 rfl H G W a s e R hr)
  | false => exact wp_cond hv (h2 rfl H G W a s e R hr)

/-- What follows a block: its own exit is a normal end. -/
def blockQ (id : Nat) (Q : Post) : Post
  | .ex k, v, A => cond (Nat.beq k id) (Q .nm v A) (Q (.ex k) v A)
  | x, v, A => Q x v A
theorem aw_block {P : Program} {n id : Nat} {c : Code} {v : Env} {A : List Blk} {Q : Post} (h : AW P n c v A (blockQ id Q)) : AW P n (.block id c) v A Q := by
  intro H G W a s e R hr
  refine wp_block (h H G W a s e _ (fun H' W' a' x x' v' A' k1 k2 k3 k4 k5 k6 k7 => ?_))
  have go : ∀ (x : AEx) (x' : Exit), ExR H' x x' → Q x v' A' → R x' a' W' := fun x x' hx hq => hr H' W' a' x x' v' A' k1 k2 k3 k4 k5 hx hq
  cases k6 with
  | nm => exact go _ _ .nm k7
  | ex k =>
    simp only [blockQ] at k7
    simp only [Exit.inBlock]
    by_cases hk : k = id
    · rw [if_pos hk]
      subst hk
      rw [Nat.beq_refl] at k7
      exact go _ _ .nm k7
    · rw [if_neg hk]
      have : Nat.beq k id = false := by rw [← Bool.not_eq_true]; intro e; exact hk (Nat.eq_of_beq_eq_true e)
      rw [this] at k7
      exact go _ _ (.ex k) k7
  | gt l => exact go _ _ (.gt l) k7
  | rt => exact go _ _ .rt k7
  | pn r u hru => exact go _ _ (.pn r u hru) k7

/-- A loop, by states that are told by a parameter. -/
theorem aw_loop {P : Program} {n : Nat} {c : Code} {v : Env} {A : List Blk} {Q : Post} {β : Type} (S : β → Env) (B : β → List Blk) (pre : β → Prop) (μ : β → Nat) (b₀ : β) (h₀ : Wk n v A (S b₀) (B b₀)) (hp : pre b₀)
    (round : ∀ b, pre b → AW P n c (S b) (B b) (thenQ (fun v' A' => ∃ b', pre b' ∧ μ b' < μ b ∧ Wk n v' A' (S b') (B b')) Q)) : AW P n (.loop c) v A Q := by
  refine aw_weak h₀ ?_
  clear h₀
  intro H G W a s e R hr
  have key : ∀ m : Nat, ∀ b, μ b = m → pre b → ∀ (H1 : Hp) (W1 : World) (a1 : Act), Sub H H1 → Same W W1 → Sim H1 G (B b) W1 → EnvR H1 n (S b) a1.tmps → a1.defers = a.defers →
      ∀ (fb : Frame) (k : List Item) (cs : List Frame), ∃ x a' w', R x a' w' ∧ Arrives P (lone (fb.at a1 (.code c :: .inLoop c :: k)) cs W1) fb k cs x a' w' := by
    intro m
    induction m using Nat.strongRecOn with
    | _ m ih =>
      intro b hm hb H1 W1 a1 g1 g2 g3 g4 g5 fb k cs
      have step := round b hb H1 G W1 a1 g3 g4 (fun x' a' W' => match x' with
        | .normal => ∀ (fb : Frame) (k : List Item) (cs : List Frame), ∃ x a'' w', R x a'' w' ∧ Arrives P (lone (fb.at a' (.code c :: .inLoop c :: k)) cs W') fb k cs x a'' w'
        | x' => R x' a' W') (fun H' W' a' x x' v' A' k1 k2 k3 k4 k5 k6 k7 => by
          cases k6 with
          | nm =>
            obtain ⟨b', hb', hlt, hw⟩ := k7
            obtain ⟨H2, q1, q2, q3⟩ := hw H' G W' a'.tmps k3 k4
            exact ih (μ b') (hm ▸ hlt) b' rfl hb' H2 W' a' ((g1.trans k1).trans q1) (g2.trans k2) q2 q3 (k5.trans g5)
          | ex id => exact hr H' W' a' _ _ v' A' (g1.trans k1) (g2.trans k2) k3 k4 (k5.trans g5) (.ex id) k7
          | gt l => exact hr H' W' a' _ _ v' A' (g1.trans k1) (g2.trans k2) k3 k4 (k5.trans g5) (.gt l) k7
          | rt => exact hr H' W' a' _ _ v' A' (g1.trans k1) (g2.trans k2) k3 k4 (k5.trans g5) .rt k7
          | pn r u hru => exact hr H' W' a' _ _ v' A' (g1.trans k1) (g2.trans k2) k3 k4 (k5.trans g5) (.pn r u hru) k7)
      obtain ⟨x, a₁, w₁, hq, harr⟩ := step fb (.inLoop c :: k) cs
      cases x with
      | normal =>
        obtain ⟨e₂, a₂, w₂, hq₂, harr₂⟩ := hq fb k cs
        exact ⟨e₂, a₂, w₂, hq₂, .of_steps (Steps.trans harr (.one step_inLoop)) harr₂⟩
      | exit id => exact ⟨_, a₁, w₁, hq, .pass (x := .inLoop c) rfl (fun _ _ => .inl (by simp)) harr⟩
      | goto l => exact ⟨_, a₁, w₁, hq, .pass (x := .inLoop c) rfl (fun _ _ => .inl (by simp)) harr⟩
      | ret => exact ⟨_, a₁, w₁, hq, .pass (x := .inLoop c) rfl (fun _ _ => .inl (by simp)) harr⟩
      | panic ch => exact ⟨_, a₁, w₁, hq, .pass (x := .inLoop c) rfl (fun _ _ => .inl (by simp)) harr⟩
      | outgrown => exact ⟨_, a₁, w₁, hq, .pass (x := .inLoop c) rfl (fun _ _ => .inl (by simp)) harr⟩
  intro fb k cs
  obtain ⟨x, a', w', hq, harr⟩ := key (μ b₀) b₀ rfl hp H W a (Sub.refl H) (Same.refl W) s e rfl fb k cs
  exact ⟨x, a', w', hq, .of_steps (.one step_loop) harr⟩
end Go.Aw
