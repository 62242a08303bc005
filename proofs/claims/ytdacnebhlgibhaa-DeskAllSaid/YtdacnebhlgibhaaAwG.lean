/- Own text: calls, the entry into a function, and what may be forgotten or told anew (part G). -/
import Derived.Test.YtdacnebhlgibhaaAwE
set_option linter.unusedVariables false
set_option linter.unusedSimpArgs false
namespace Go.Aw
open Go

def RelA (H : Hp) (args : List AV) (vs : Array Value) : Prop := vs.size = args.length ∧ ∀ (j : Nat) (x : AV), args[j]? = some x → ∃ u, vs[j]? = some u ∧ Rel H x u
theorem RelA.mono {H H' : Hp} (h : Sub H H') {args : List AV} {vs : Array Value} (k : RelA H args vs) : RelA H' args vs := ⟨k.1, fun j x hx => by obtain ⟨u, h1, h2⟩ := k.2 j x hx; exact ⟨u, h1, h2.mono h⟩⟩
theorem RelA.append {H : Hp} {xs ys : List AV} {us ws : Array Value} (h : RelA H xs us) (k : RelA H ys ws) : RelA H (xs ++ ys) (us ++ ws) := by
  refine ⟨by simp [h.1, k.1], fun j x hx => ?_⟩
  rcases Nat.lt_or_ge j xs.length with hj | hj
  · rw [List.getElem?_append_left hj] at hx
    obtain ⟨u, h1, h2⟩ := h.2 j x hx
    exact ⟨u, by rw [Array.getElem?_append_left (by rw [h.1]; exact hj)]; exact h1, h2⟩
  · rw [List.getElem?_append_right hj] at hx
    obtain ⟨u, h1, h2⟩ := k.2 _ x hx
    exact ⟨u, by rw [Array.getElem?_append_right (by rw [h.1]; exact hj), h.1]; exact h1, h2⟩

def ACalls (P : Program) (f : FuncId) (args : List AV) (A : List Blk) (R : AV → List Blk → Prop) (E : AV → List Blk → Prop) : Prop :=
  ∀ (H G : Hp) (W : World) (vs : Array Value), Sim H G A W → RelA H args vs → Calls P f vs W (fun e W' => ∃ H' A', Sub H H' ∧ Same W W' ∧ Sim H' G A' W' ∧
    ((∃ u r, e = .returned u ∧ Rel H' r u ∧ R r A') ∨ (∃ u r, e = .panicked [{ v := u, recovered := false }] ∧ Rel H' r u ∧ E r A')))
theorem ACalls.mono {P : Program} {f : FuncId} {args : List AV} {A : List Blk} {R R' E E' : AV → List Blk → Prop} (h : ACalls P f args A R E) (hr : ∀ r A', R r A' → R' r A') (he : ∀ r A', E r A' → E' r A') : ACalls P f args A R' E' :=
  fun H G W vs s a => (h H G W vs s a).mono fun e W' ⟨H', A', h1, h2, h3, h4⟩ => ⟨H', A', h1, h2, h3, h4.imp (fun ⟨u, r, k1, k2, k3⟩ => ⟨u, r, k1, k2, hr _ _ k3⟩) (fun ⟨u, r, k1, k2, k3⟩ => ⟨u, r, k1, k2, he _ _ k3⟩)⟩

theorem evs_rel {H : Hp} {n : Nat} {v : Env} {a : Act} (e : EnvR H n v a.tmps) {xs : Array Operand} {args : List AV} (h : xs.toList.map (ev v) = args.map some) : RelA H args (xs.map a.eval) := by
  have hlen : xs.size = args.length := by have := congrArg List.length h; simpa using this
  refine ⟨by simp [hlen], fun j x hx => ?_⟩
  have hj : j < args.length := (List.getElem?_eq_some_iff.1 hx).1
  have hj' : j < xs.size := by omega
  have h1 := congrArg (·[j]?) h
  simp only [List.getElem?_map, hx, Option.map_some, Array.getElem?_toList, Array.getElem?_eq_getElem hj', Option.some.injEq] at h1
  exact ⟨a.eval xs[j], by simp [hj'], ev_rel e h1⟩

theorem fn_rel {H : Hp} {f : Fn} {cs : List AV} {u : Value} (h : Rel H (.fn f cs) u) : ∃ vs : Array Value, u = .func f #[] vs ∧ RelA H cs vs := by
  cases h with
  | fn f cs w vs hs hv hr => exact ⟨vs, rfl, hs, fun j x hx => by have hj := (List.getElem?_eq_some_iff.1 hx).1; exact ⟨w j, hv j hj, hr j x hx⟩⟩

section
variable {P : Program} {o : Oper} {n : Nat} {v : Env} {A : List Blk} {K : AV → List Blk → Prop} {E : AV → List Blk → Prop}
/-- A call of a Go function, by its contract; Af is laid aside. -/
theorem AOp.call {f : FuncId} {x : Operand} {xs : Array Operand} {ts : Array TypeId} {args caps : List AV} {Ac Af : List Blk} {R Er : AV → List Blk → Prop}
    (hc : ∀ (args : Array Value) (w : World), (callFunc f args).run P w = .ok (.enter f args) w) (hop : o.op = .call { callee := .value x, args := xs, argTypes := ts }) (hx : ev v x = some (.fn (.func f) caps)) (ha : xs.toList.map (ev v) = args.map some)
    (hA : A.Perm (Ac ++ Af)) (h : ACalls P f (args ++ caps) Ac R Er) (k : ∀ r A', R r A' → K r (A' ++ Af)) (ke : ∀ r A', Er r A' → E r (A' ++ Af)) : AOp P o n v A K E := by
  intro H G W a s e next Q hn hq
  obtain ⟨cv, hcv, hrel⟩ := fn_rel (ev_rel e hx)
  have hargs := (evs_rel e ha).append hrel
  have hrun : (execOp a.eval o).run P W = .ok (.enter f (xs.map a.eval ++ cv)) W := by
    simp [execOp, hop, resolve, hcv, Deferred.ofValue, invoke, hc]
  have s1 := s.perm hA
  have hcall := h H (layN G Af W) W _ s1.aside hargs
  unfold Oper.wp
  rw [hrun, Oper.upon_enter]
  refine hcall.mono ?_
  rintro e' W' ⟨H', A', h1, h2, h3, h4⟩
  have s2 := s1.back h1 h3
  rcases h4 with ⟨u, r, rfl, hr, hR⟩ | ⟨u, r, rfl, hr, hE⟩
  · exact hn H' W' u r _ h1 h2 s2 hr (k r A' hR)
  · exact hq H' W' u r _ h1 h2 s2 hr (ke r A' hE)
/-- A call by a contract that needs none of the call's own memory, and leaves none. -/
theorem AOp.call0 {f : FuncId} {x : Operand} {xs : Array Operand} {ts : Array TypeId} {args caps : List AV} {R : AV → Prop}
    (hc : ∀ (args : Array Value) (w : World), (callFunc f args).run P w = .ok (.enter f args) w) (hop : o.op = .call { callee := .value x, args := xs, argTypes := ts }) (hx : ev v x = some (.fn (.func f) caps)) (ha : xs.toList.map (ev v) = args.map some)
    (h : ACalls P f (args ++ caps) [] (fun r A' => R r ∧ A' = []) (fun _ _ => False)) (k : ∀ r, R r → K r A) : AOp P o n v A K E :=
  AOp.call hc hop hx ha (Ac := []) (Af := A) (List.Perm.refl _) h (fun r A' ⟨hr, hA⟩ => by subst hA; exact k r hr) (fun _ _ h => h.elim)
end

/-! ### entering -/
def argEnv : List AV → Nat → Env
  | [], _ => []
  | x :: r, i => (i, x) :: argEnv r (i + 1)
theorem lk_argEnv : ∀ {l : List AV} {i s : Nat} {x : AV}, lk s (argEnv l i) = some x → i ≤ s ∧ l[s - i]? = some x
  | [], i, s, x, h => by cases h
  | y :: r, i, s, x, h => by
    simp only [argEnv, lk_cons] at h
    split at h
    · rename_i hs; subst hs; cases h; exact ⟨Nat.le_refl _, by simp⟩
    · rename_i hs
      obtain ⟨h1, h2⟩ := lk_argEnv h
      refine ⟨by omega, ?_⟩
      have : s - i = (s - (i + 1)) + 1 := by omega
      rw [this]
      simpa using h2
def Res (P : Program) (fn : Func) (v : Env) (A : List Blk) (r : AV) : Prop :=
  ∀ (H G : Hp) (W : World) (t : Array Value), Sim H G A W → EnvR H fn.ntmps v t → ∃ u, (results fn t).run P W = .ok u W ∧ Rel H r u
def retQ (P : Program) (fn : Func) (R E : AV → List Blk → Prop) : Post
  | .nm, v, A | .rt, v, A => ∃ r, Res P fn v A r ∧ R r A
  | .pn r, _, A => E r A
  | _, _, _ => False
theorem acalls {P : Program} {f : FuncId} {fn : Func} {c : Code} {args : List AV} {A : List Blk} {R E : AV → List Blk → Prop} (hf : P.funcs[f]? = some fn) (hb : fn.body = some c) (hn : args.length ≤ fn.ntmps)
    (h : AW P fn.ntmps c (argEnv args 0) A (retQ P fn R E)) : ACalls P f args A R E := by
  intro H G W vs s ha
  refine calls_of_wp hf hb ?_
  have env : EnvR H fn.ntmps (argEnv args 0) (vs ++ Array.replicate (fn.ntmps - vs.size) undef) := by
    refine ⟨by simp [ha.1]; omega, fun q x hx => ?_⟩
    obtain ⟨_, hx⟩ := lk_argEnv hx
    simp only [Nat.sub_zero] at hx
    obtain ⟨u, h1, h2⟩ := ha.2 q x hx
    have hq := (Array.getElem?_eq_some_iff.1 h1).1
    rw [Array.getD_eq_getD_getElem?, Array.getElem?_append_left hq, h1]
    exact h2
  refine h H G W _ s env _ (fun H' W' a' x x' v' A' k1 k2 k3 k4 k5 k6 k7 => ?_)
  have fin : (∃ r, Res P fn v' A' r ∧ R r A') → a'.defers = [] ∧ ∃ u, (results fn a'.tmps).run P W' = .ok u W' ∧ ∃ H' A', Sub H H' ∧ Same W W' ∧ Sim H' G A' W' ∧ ((∃ u' r, Ending.returned u = .returned u' ∧ Rel H' r u' ∧ R r A') ∨ (∃ u' r, Ending.returned u = .panicked [{ v := u', recovered := false }] ∧ Rel H' r u' ∧ E r A')) := fun ⟨r, hr, hR⟩ => by
    obtain ⟨u, hu, hru⟩ := hr H' G W' a'.tmps k3 k4
    exact ⟨k5, u, hu, H', A', k1, k2, k3, .inl ⟨u, r, rfl, hru, hR⟩⟩
  cases k6 with
  | nm => exact fin k7
  | rt => exact fin k7
  | ex id => exact k7.elim
  | gt l => exact k7.elim
  | pn r u hru => exact ⟨k5, H', A', k1, k2, k3, .inr ⟨u, r, rfl, hru, k7⟩⟩

theorem res1 {P : Program} {fn : Func} {v : Env} {A : List Blk} {t : Nat} {r : AV} (h : fn.results = #[.tmp t]) (hr : lk t v = some r) : Res P fn v A r :=
  fun H G W tm s e => ⟨_, results_tmp h tm P W, e.2 t r hr⟩
theorem res0 {P : Program} {fn : Func} {v : Env} {A : List Blk} (h : fn.results = #[]) : Res P fn v A (.tp []) :=
  fun H G W tm s e => ⟨_, results_none h tm P W, .tp [] (fun _ => undef) #[] rfl (fun j hj => by simp at hj) (fun j x hx => by simp at hx)⟩
theorem res2 {P : Program} {fn : Func} {v : Env} {A : List Blk} {t1 t2 : Nat} {r1 r2 : AV} (h : fn.results = #[.tmp t1, .tmp t2]) (h1 : lk t1 v = some r1) (h2 : lk t2 v = some r2) : Res P fn v A (.tp [r1, r2]) :=
  fun H G W tm s e => ⟨_, results_tmp2 h tm P W, .tp _ (fun j => match j with | 0 => tm.getD t1 undef | _ => tm.getD t2 undef) _ rfl (fun j hj => by match j, hj with | 0, _ => rfl | 1, _ => rfl) (fun j x hx => by match j, hx with | 0, hx => cases hx; exact e.2 t1 r1 h1 | 1, hx => cases hx; exact e.2 t2 r2 h2)⟩
theorem res3 {P : Program} {fn : Func} {v : Env} {A : List Blk} {t1 t2 t3 : Nat} {r1 r2 r3 : AV} (h : fn.results = #[.tmp t1, .tmp t2, .tmp t3]) (h1 : lk t1 v = some r1) (h2 : lk t2 v = some r2) (h3 : lk t3 v = some r3) : Res P fn v A (.tp [r1, r2, r3]) :=
  fun H G W tm s e => ⟨.tuple #[tm.getD t1 undef, tm.getD t2 undef, tm.getD t3 undef], by simp [results, h], .tp _ (fun j => match j with | 0 => tm.getD t1 undef | 1 => tm.getD t2 undef | _ => tm.getD t3 undef) _ rfl (fun j hj => by match j, hj with | 0, _ => rfl | 1, _ => rfl | 2, _ => rfl) (fun j x hx => by match j, hx with | 0, hx => cases hx; exact e.2 t1 r1 h1 | 1, hx => cases hx; exact e.2 t2 r2 h2 | 2, hx => cases hx; exact e.2 t3 r3 h3)⟩
theorem res4 {P : Program} {fn : Func} {v : Env} {A : List Blk} {t1 t2 t3 t4 : Nat} {r1 r2 r3 r4 : AV} (h : fn.results = #[.tmp t1, .tmp t2, .tmp t3, .tmp t4]) (h1 : lk t1 v = some r1) (h2 : lk t2 v = some r2) (h3 : lk t3 v = some r3) (h4 : lk t4 v = some r4) : Res P fn v A (.tp [r1, r2, r3, r4]) :=
  fun H G W tm s e => ⟨.tuple #[tm.getD t1 undef, tm.getD t2 undef, tm.getD t3 undef, tm.getD t4 undef], by simp [results, h], .tp _ (fun j => match j with | 0 => tm.getD t1 undef | 1 => tm.getD t2 undef | 2 => tm.getD t3 undef | _ => tm.getD t4 undef) _ rfl (fun j hj => by match j, hj with | 0, _ => rfl | 1, _ => rfl | 2, _ => rfl | 3, _ => rfl) (fun j x hx => by match j, hx with | 0, hx => cases hx; exact e.2 t1 r1 h1 | 1, hx => cases hx; exact e.2 t2 r2 h2 | 2, hx => cases hx; exact e.2 t3 r3 h3 | 3, hx => cases hx; exact e.2 t4 r4 h4)⟩

/-! ### forgetting and telling anew -/
/-- Some slots, told as they were. -/
def SubE (v v' : Env) : Prop := ∀ s x, lk s v' = some x → lk s v = some x
theorem sube_nil (v : Env) : SubE v [] := fun s x h => by cases h
theorem sube_cons {v r : Env} {s : Nat} {x : AV} (h : lk s v = some x) (k : SubE v r) : SubE v ((s, x) :: r) := fun q y hy => by
  rw [lk_cons] at hy
  split at hy
  · rename_i e; subst e; cases hy; exact h
  · exact k q y hy
theorem wk_env {n : Nat} {v v' : Env} {A : List Blk} (h : SubE v v') : Wk n v A v' A := fun H G W t s e => ⟨H, Sub.refl H, s, e.1, fun q x hx => e.2 q x (h q x hx)⟩
theorem wk_drop {n : Nat} {v : Env} {A A' : List Blk} (h : A'.Sublist A) : Wk n v A v A' := fun H G W t s e => ⟨H, Sub.refl H, s.sub h, e⟩
theorem wk_perm {n : Nat} {v : Env} {A A' : List Blk} (h : A.Perm A') : Wk n v A v A' := fun H G W t s e => ⟨H, Sub.refl H, s.perm h, e⟩
theorem wk_pull {n : Nat} {v : Env} {A A0 : List Blk} {x : Blk} (h : Pull A x A0) : Wk n v A v (x :: A0) := wk_perm h
/-- A block goes. -/
theorem wk_gone {n : Nat} {v : Env} {A A0 : List Blk} {x : Blk} (h : Pull A x A0) : Wk n v A v A0 := (wk_perm h).trans (wk_drop (List.sublist_cons_self ..))

/-- Slots of one value that is now told otherwise. -/
def SubF (v v' : Env) (old new : AV) : Prop := ∀ s x, lk s v' = some x → lk s v = some x ∨ (lk s v = some old ∧ x = new)
theorem subf_nil (v : Env) (old new : AV) : SubF v [] old new := fun s x h => by cases h
theorem subf_cons {v r : Env} {old new : AV} {s : Nat} {x : AV} (h : lk s v = some x) (k : SubF v r old new) : SubF v ((s, x) :: r) old new := fun q y hy => by
  rw [lk_cons] at hy
  split at hy
  · rename_i e; subst e; cases hy; exact .inl h
  · exact k q y hy
theorem subf_new {v r : Env} {old new : AV} {s : Nat} (h : lk s v = some old) (k : SubF v r old new) : SubF v ((s, new) :: r) old new := fun q y hy => by
  rw [lk_cons] at hy
  split at hy
  · rename_i e; subst e; cases hy; exact .inr ⟨h, rfl⟩
  · exact k q y hy

/-- A block of the call's own stays as it is from now on. -/
theorem Sim.freeze {H G : Hp} {A : List Blk} {W : World} {x : Blk} (s : Sim H G (x :: A) W) {b : Nat} {ob : Obj} (hb : x.own = some b) (ho : W.heap[b]? = some ob) : Sim (Aw.put H b (some ob)) G A W ∧ Sub H (Aw.put H b (some ob)) := by
  have hx := s.fr x (List.mem_cons_self ..) b hb
  have ap := List.pairwise_cons.1 s.ap
  have hsub : Sub H (Aw.put H b (some ob)) := fun k o h => by
    unfold Aw.put
    rw [if_neg]
    · exact h
    · rintro rfl; rw [hx.1] at h; cases h
  refine ⟨⟨fun k o h => ?_, s.g, fun k o h => ?_, fun y hy => (s.ok y (List.mem_cons_of_mem _ hy)).mono hsub (fun _ _ => rfl), fun y hy k hk => ⟨?_, (s.fr y (List.mem_cons_of_mem _ hy) k hk).2⟩, ap.2⟩, hsub⟩
  · unfold Aw.put at h
    split at h
    · rename_i e; subst e; cases h; exact ho
    · exact s.h k o h
  · unfold Aw.put at h
    split at h
    · rename_i e; subst e; exact hx.2
    · exact s.hg k o h
  · unfold Aw.put
    rw [if_neg]
    · exact (s.fr y (List.mem_cons_of_mem _ hy) k hk).1
    · rintro rfl; exact ap.1 y hy _ hb hk

/-- What an own row's value is from when on it stays as it is. -/
theorem rel_frozen {H G : Hp} {A : List Blk} {W : World} {w : Value} {e : TypeId} {sz : Nat} {els : List (List AV)} (s : Sim H G (.row w e sz els :: A) W) : ∃ H', Sub H H' ∧ Sim H' G A W ∧ Rel H' (.sl els) w ∧ ∀ k m u, Rel H (.os w sz k m) u → k + m ≤ els.length → Rel H' (.sl ((els.drop k).take m)) u := by
  obtain ⟨xs, ho, hels⟩ := row_el (s.ok _ (List.mem_cons_self ..))
  rcases ho.2 with ⟨rfl, h00⟩ | ⟨g, cap, cur, rfl, hb0, hg, hnc, hcm, hcs, htake⟩
  · have he : els = [] := List.eq_nil_of_length_eq_zero h00
    subst he
    refine ⟨H, Sub.refl H, s.sub (List.sublist_cons_self ..), .sl [] 0 none 0 (fun _ _ => undef) (Nat.le_refl _) (fun h => by simp at h) (fun k e h => by simp at h) (fun k j h => by simp at h) (fun k e j x h => by simp at h), fun k m u hu hkm => ?_⟩
    have hm : m = 0 := by simp at hkm; omega
    subst hm
    cases hu with
    | os v sz o n c n0 cap a a0 hv hc hn ha h0 =>
      simp only [List.drop_nil, List.take_nil]
      exact .sl [] 0 a c (fun _ _ => undef) (Nat.zero_le _) (fun h => by simp at h) (fun k e h => by simp at h) (fun k j h => by simp at h) (fun k e j x h => by simp at h)
  · obtain ⟨s', hsub⟩ := s.freeze (b := g) rfl hg
    have cell : ∀ q u, xs[q]? = some u → hcell (Aw.put H g (some (.cells cur e (0, 0)))) g q = some u := fun q u hq => by
      rw [hcell_put]
      rw [← htake, List.getElem?_take] at hq
      split at hq
      · simpa using hq
      · cases hq
    have pick : ∀ k j, ∃ u, ∀ el x, els[k]? = some el → el[j]? = some x → xs[k * sz + j]? = some u ∧ u.oneCell' = true ∧ Rel H x u := fun k j => by
      cases hk : els[k]? with
      | none => exact ⟨undef, fun el x h1 _ => by cases h1⟩
      | some el =>
        cases hj : el[j]? with
        | none => exact ⟨undef, fun el' x h1 h2 => by cases h1; rw [hj] at h2; cases h2⟩
        | some x =>
          obtain ⟨u, hu⟩ := (hels k el hk).2 j x hj
          exact ⟨u, fun el' x' h1 h2 => by cases h1; rw [hj] at h2; cases h2; exact hu⟩
    have hx : ∀ k j, k < els.length → j < sz → ∃ el x, els[k]? = some el ∧ el[j]? = some x := fun k j hk hj => by
      have h1 : els[k]? = some els[k] := List.getElem?_eq_getElem hk
      have h2 := (hels k _ h1).1
      exact ⟨_, _, h1, List.getElem?_eq_getElem (by omega)⟩
    refine ⟨_, hsub, s', .sl els sz _ cap (fun k j => Classical.choose (pick k j)) hnc (fun _ => ⟨g, 0, rfl, fun k el hk j hj => ?_⟩) (fun k el hk => (hels k el hk).1) (fun k j hk hj => ?_) (fun k el j x hk hj => ((Classical.choose_spec (pick k j) el x hk hj).2.2).mono hsub), fun k m u hu hkm => ?_⟩
    · have hkl := (List.getElem?_eq_some_iff.1 hk).1
      obtain ⟨el', x, h1, h2⟩ := hx k j hkl hj
      rw [Nat.zero_add]
      exact cell _ _ (Classical.choose_spec (pick k j) el' x h1 h2).1
    · obtain ⟨el, x, h1, h2⟩ := hx k j hk hj; exact (Classical.choose_spec (pick k j) el x h1 h2).2.1
    · cases hu with
      | os v sz' o n c n0 cap' a a0 hv hc hn ha h0 =>
        cases hv
        have hlen : ((els.drop k).take m).length = m := by simp; omega
        have hget : ∀ p el, ((els.drop k).take m)[p]? = some el → p < m ∧ els[k + p]? = some el := fun p el h => by
          rw [List.getElem?_take] at h
          split at h
          · rename_i hp; rw [List.getElem?_drop] at h; exact ⟨hp, h⟩
          · cases h
        have hgoal : Rel (Aw.put H g (some (.cells cur e (0, 0)))) (.sl ((els.drop k).take m)) (.slice a ((els.drop k).take m).length c) := by
          refine .sl _ sz a c (fun p j => Classical.choose (pick (k + p) j)) (by rw [hlen]; omega) (fun hp => ?_) (fun p el hp => (hels _ el (hget p el hp).2).1) (fun p j hp hj => ?_) (fun p el j x hp hj => ((Classical.choose_spec (pick (k + p) j) el x (hget p el hp).2 hj).2.2).mono hsub)
          · rw [hlen] at hp
            obtain ⟨b, hb1, hb2⟩ := ha hp
            cases hb1
            refine ⟨g, k * sz, hb2, fun p el hpe j hj => ?_⟩
            have hpk := (hget p el hpe).2
            have hkl := (List.getElem?_eq_some_iff.1 hpk).1
            obtain ⟨el', x, h1, h2⟩ := hx (k + p) j hkl hj
            have hq : k * sz + (p * sz + j) = (k + p) * sz + j := by rw [Nat.add_mul, Nat.add_assoc]
            have hcc := cell _ _ (Classical.choose_spec (pick (k + p) j) el' x h1 h2).1
            rw [hq]
            exact hcc
          · rw [hlen] at hp
            obtain ⟨el, x, h1, h2⟩ := hx (k + p) j (by omega) hj
            exact (Classical.choose_spec (pick (k + p) j) el x h1 h2).2.1
        rw [hlen] at hgoal
        exact hgoal
theorem wk_freeze {n : Nat} {v v' : Env} {A A0 : List Blk} {w : Value} {e : TypeId} {sz : Nat} {els : List (List AV)} (hA : Pull A (.row w e sz els) A0) (h : SubF v v' (.sc w) (.sl els)) : Wk n v A v' A0 := fun H G W t s en => by
  obtain ⟨H', h1, h2, h3, _⟩ := rel_frozen (s.perm hA)
  refine ⟨H', h1, h2, en.1, fun q x hx => ?_⟩
  rcases h q x hx with h4 | ⟨h4, rfl⟩
  · exact (en.2 q x h4).mono h1
  · have := rel_sc (en.2 q _ h4); rw [this]; exact h3
theorem wk_freeze_os {n : Nat} {v v' : Env} {A A0 : List Blk} {w : Value} {e : TypeId} {sz k m : Nat} {els : List (List AV)} (hA : Pull A (.row w e sz els) A0) (hkm : k + m ≤ els.length) (h : SubF v v' (.os w sz k m) (.sl ((els.drop k).take m))) : Wk n v A v' A0 := fun H G W t s en => by
  obtain ⟨H', h1, h2, _, h3⟩ := rel_frozen (s.perm hA)
  refine ⟨H', h1, h2, en.1, fun q x hx => ?_⟩
  rcases h q x hx with h4 | ⟨h4, rfl⟩
  · exact (en.2 q x h4).mono h1
  · exact h3 k m _ (en.2 q _ h4) hkm
/-- nil is an own row without elements. -/
theorem wk_nil {n : Nat} {v : Env} {A : List Blk} (e : TypeId) (sz : Nat) : Wk n v A v (.row (.slice none 0 0) e sz [] :: A) := fun H G W t s en => by
  refine ⟨H, Sub.refl H, s.add (W' := W) (fun _ _ => rfl) (row_ok (xs := []) (World.ownsRow_nil W 0 e sz) (fun k el h => by simp at h)) (fun b hb => by cases hb), en⟩
/-- A part of an own row from its begin on is an own row. -/
theorem wk_front {n : Nat} {v : Env} {A A0 : List Blk} {w : Value} {e : TypeId} {sz m q : Nat} {els : List (List AV)} (hA : Pull A (.row w e sz els) A0) (hq : lk q v = some (.os w sz 0 m)) (hm : m ≤ els.length) {P : Program} {c : Code} {Q : Post} (k : ∀ w', AW P n c ((q, .sc w') :: v) (.row w' e sz (els.take m) :: A0) Q) : AW P n c v A Q := by
  intro H G W a s en R hr
  have s1 := s.perm hA
  have hrel := en.2 q _ hq
  obtain ⟨xs, ho, hels⟩ := row_el (s1.ok _ (List.mem_cons_self ..))
  generalize hu : a.tmps.getD q undef = u at hrel
  have main : BlkOk H W (.row u e sz (els.take m)) ∧ ∀ b, u.ownBlock = some b → w.ownBlock = some b := by
    cases hrel with
    | os v' sz' o' n' c' n0 cap a' a0 hv hc hn ha h0 =>
      have hlen : (els.take m).length = m := by simp; omega
      have h0' := h0 rfl
      subst h0'
      subst hv
      rcases ho.2 with ⟨e1, h00⟩ | ⟨g, cap', cur, e1, hb0, hg, hnc, hcm, hcs, htake⟩
      · cases e1
        have hm0 : m = 0 := by omega
        subst hm0
        refine ⟨row_ok (xs := []) ?_ (fun k el h => by simp at h), fun b hb => by cases hb⟩
        simp only [List.take_zero, List.length_nil, Nat.zero_sub] at *
        subst hc
        exact World.ownsRow_nil W 0 e sz
      · cases e1
        refine ⟨row_ok (xs := xs.take (m * sz)) ?_ (fun k el hk => ?_), fun b hb => hb⟩
        · rw [hlen]
          have hms : m * sz ≤ els.length * sz := Nat.mul_le_mul_right _ hm
          refine ⟨by rw [List.length_take, ho.1]; omega, .inr ⟨g, c', cur, rfl, Nat.zero_le _, hg, by omega, by omega, ?_, ?_⟩⟩
          · rw [hc]; simpa using hcs
          · rw [← htake, List.take_take]
            congr 1
            omega
        · rw [List.getElem?_take] at hk
          split at hk
          · rename_i hkm
            refine ⟨(hels k el hk).1, fun j x hx => ?_⟩
            obtain ⟨u', e1, e2⟩ := (hels k el hk).2 j x hx
            refine ⟨u', ?_, e2⟩
            have hj : j < sz := by have := (List.getElem?_eq_some_iff.1 hx).1; have := (hels k el hk).1; omega
            have : k * sz + sz ≤ m * sz := by rw [← Nat.succ_mul]; exact Nat.mul_le_mul_right _ hkm
            simp only at e1 ⊢
            rw [List.getElem?_take, if_pos (by omega)]
            exact e1
          · cases hk
  refine k u H G W a (s1.upd (fun _ _ _ => rfl) main.1 (fun b hb => .inl (main.2 b hb))) ⟨en.1, fun q' x hx => ?_⟩ R hr
  rw [lk_cons] at hx
  split at hx
  · rename_i e; subst e; cases hx; rw [hu]; exact .sc _
  · exact en.2 q' x hx
end Go.Aw
