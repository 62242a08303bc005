/- Own text: results in cells; rows that are told by data wherever they stand (part O). -/
import Derived.Test.YtdacnebhlgibhaaAwN
set_option linter.unusedVariables false
set_option linter.unusedSimpArgs false
namespace Go.Aw
open Go
section
variable {P : Program} {v : Env} {A : List Blk}

/-! ### results -/
/-- What a result is read as. -/
inductive RV (P : Program) (v : Env) (A : List Blk) : ResultVar → AV → Prop
  | tmp (t : Nat) (r : AV) (h : lk t v = some r) : RV P v A (.tmp t) r
  | cell1 (t : Nat) (ty : TypeId) (p r : AV) (cs : List AV) (ha : ∀ W : World, (isAgg ty).run P W = .ok false W) (hx : lk t v = some p) (hr : Reads A p cs) (h0 : cs[0]? = some r) : RV P v A (.cell t ty) r
  | cellN (t : Nat) (ty : TypeId) (s : Nat) (p : AV) (cs ys : List AV) (ha : ∀ W : World, (isAgg ty).run P W = .ok true W) (hs : ∀ W : World, (sizeOf ty).run P W = .ok s W) (hx : lk t v = some p) (hr : Reads A p cs) (hy : cs.take s = ys) (hl : ys.length = s) : RV P v A (.cell t ty) (.ag ys)
def rdR (tmps : Array Value) : ResultVar → Sem Value
  | .tmp t => pure (tmps.getD t undef)
  | .cell a t => do loadVar t (← asAddr (tmps.getD a undef))
theorem RV.run {x : ResultVar} {r : AV} (h : RV P v A x r) {H G : Hp} {W : World} {n : Nat} {t : Array Value} (s : Sim H G A W) (e : EnvR H n v t) : ∃ u, (rdR t x).run P W = .ok u W ∧ Rel H r u := by
  cases h with
  | tmp t r h => exact ⟨_, rfl, e.2 t r h⟩
  | cell1 t ty p r cs ha hx hr h0 =>
    obtain ⟨b, off, hp, hc⟩ := hr H G W _ s (e.2 t p hx)
    obtain ⟨u, hu, _, hru⟩ := hc 0 r h0
    exact ⟨u, by simp [rdR, hp, loadVar, ha, asAddr, show W.cell? ⟨b, off, none⟩ = some u by simpa using hu], hru⟩
  | cellN t ty sz p cs ys ha hs hx hr hy hl =>
    subst hy
    obtain ⟨b, off, hp, hc⟩ := hr H G W _ s (e.2 t p hx)
    obtain ⟨u, hu⟩ := choose_u hc
    have hlen : sz ≤ cs.length := by rw [List.length_take] at hl; omega
    have hget : ∀ j, j < sz → ∃ x, cs[j]? = some x := fun j hj => ⟨_, List.getElem?_eq_getElem (by omega)⟩
    have hload : (loadCells ⟨b, off, none⟩ sz).run P W = .ok ((List.range sz).map u).toArray W := by
      have := run_loadCells_list (P := P) (w := W) ⟨b, off, none⟩ ((List.range sz).map u) (fun j w hw => by
        rw [List.getElem?_map] at hw
        cases hj : (List.range sz)[j]? with
        | none => rw [hj] at hw; cases hw
        | some q =>
          rw [hj] at hw
          have hjs : j < sz := by have := (List.getElem?_eq_some_iff.1 hj).1; simpa using this
          have hq : q = j := by rw [List.getElem?_range hjs] at hj; cases hj; rfl
          subst hq
          cases hw
          obtain ⟨x, hx⟩ := hget q hjs
          rw [add_plain]
          exact (hu q x hx).1)
      simpa using this
    refine ⟨.agg ((List.range sz).map u).toArray, by simp [rdR, hp, loadVar, ha, hs, hload, asAddr], ?_⟩
    refine .ag _ u _ (by simp; omega) (fun j hj => ?_) (fun j hj => ?_) (fun j x hx => ?_)
    · rw [List.length_take] at hj
      simp [show j < sz by omega]
    · rw [List.length_take] at hj
      obtain ⟨x, hx⟩ := hget j (by omega)
      exact (hu j x hx).2.1
    · rw [List.getElem?_take] at hx
      split at hx
      · exact (hu j x hx).2.2
      · cases hx
theorem results_rd (fn : Func) (t : Array Value) : results fn t = (do
    let vs ← fn.results.mapM (rdR t)
    pure (if h : vs.size = 1 then vs[0] else .tuple vs)) := by
  unfold results
  have e : (fun x : ResultVar => match x with
    | .tmp t' => (pure (t.getD t' undef) : Sem Value)
    | .cell a ty => do loadVar ty (← asAddr (t.getD a undef))) = rdR t := by
    funext x; cases x <;> rfl
  rw [← e]
  rfl
theorem run_pair {α β : Type} {x : Sem α} {f : α → Sem β} {a : α} {W : World} (h : x.run P W = .ok a W) : (x >>= f).run P W = (f a).run P W := by simp [h]
theorem resV1 {fn : Func} {x : ResultVar} {r : AV} (h : fn.results = #[x]) (h1 : RV P v A x r) : Res P fn v A r := fun H G W t s e => by
  obtain ⟨u, hu, hr⟩ := h1.run s e
  refine ⟨u, ?_, hr⟩
  rw [results_rd, h]; simp [hu]
theorem resV2 {fn : Func} {x y : ResultVar} {r q : AV} (h : fn.results = #[x, y]) (h1 : RV P v A x r) (h2 : RV P v A y q) : Res P fn v A (.tp [r, q]) := fun H G W t s e => by
  obtain ⟨u, hu, hr⟩ := h1.run s e
  obtain ⟨w, hw, hq⟩ := h2.run s e
  refine ⟨.tuple #[u, w], ?_, .tp _ (fun j => match j with | 0 => u | _ => w) _ rfl (fun j hj => by match j, hj with | 0, _ => rfl | 1, _ => rfl) (fun j x hx => by match j, hx with | 0, hx => cases hx; exact hr | 1, hx => cases hx; exact hq)⟩
  rw [results_rd, h]; simp [hu, hw]
theorem resV3 {fn : Func} {x y z : ResultVar} {r q p : AV} (h : fn.results = #[x, y, z]) (h1 : RV P v A x r) (h2 : RV P v A y q) (h3 : RV P v A z p) : Res P fn v A (.tp [r, q, p]) := fun H G W t s e => by
  obtain ⟨u, hu, hr⟩ := h1.run s e
  obtain ⟨w, hw, hq⟩ := h2.run s e
  obtain ⟨a, ha, hp⟩ := h3.run s e
  refine ⟨.tuple #[u, w, a], ?_, .tp _ (fun j => match j with | 0 => u | 1 => w | _ => a) _ rfl (fun j hj => by match j, hj with | 0, _ => rfl | 1, _ => rfl | 2, _ => rfl) (fun j x hx => by match j, hx with | 0, hx => cases hx; exact hr | 1, hx => cases hx; exact hq | 2, hx => cases hx; exact hp)⟩
  rw [results_rd, h]; simp [hu, hw, ha]
theorem resV4 {fn : Func} {x y z t' : ResultVar} {r q p o : AV} (h : fn.results = #[x, y, z, t']) (h1 : RV P v A x r) (h2 : RV P v A y q) (h3 : RV P v A z p) (h4 : RV P v A t' o) : Res P fn v A (.tp [r, q, p, o]) := fun H G W t s e => by
  obtain ⟨u, hu, hr⟩ := h1.run s e
  obtain ⟨w, hw, hq⟩ := h2.run s e
  obtain ⟨a, ha, hp⟩ := h3.run s e
  obtain ⟨b, hb, ho⟩ := h4.run s e
  refine ⟨.tuple #[u, w, a, b], ?_, .tp _ (fun j => match j with | 0 => u | 1 => w | 2 => a | _ => b) _ rfl (fun j hj => by match j, hj with | 0, _ => rfl | 1, _ => rfl | 2, _ => rfl | 3, _ => rfl) (fun j x hx => by match j, hx with | 0, hx => cases hx; exact hr | 1, hx => cases hx; exact hq | 2, hx => cases hx; exact hp | 3, hx => cases hx; exact ho)⟩
  rw [results_rd, h]; simp [hu, hw, ha, hb]

/-! ### rows told by data, wherever they stand -/
/-- What is told by x is told by y too, where the row of w stays and says els. -/
def Fz (w : Value) (els : List (List AV)) (x y : AV) : Prop := ∀ (H : Hp) (u : Value), Rel H (.sl els) w → Rel H x u → Rel H y u
theorem fz_id (w : Value) (els : List (List AV)) (x : AV) : Fz w els x x := fun H u _ h => h
theorem fz_row (w : Value) (els : List (List AV)) : Fz w els (.sc w) (.sl els) := fun H u k h => by rw [rel_sc h]; exact k
inductive FzL (w : Value) (els : List (List AV)) : List AV → List AV → Prop
  | nil : FzL w els [] []
  | cons {x y : AV} {xs ys : List AV} (h : Fz w els x y) (k : FzL w els xs ys) : FzL w els (x :: xs) (y :: ys)
theorem FzL.len {w : Value} {els : List (List AV)} {xs ys : List AV} (h : FzL w els xs ys) : xs.length = ys.length := by induction h with | nil => rfl | cons _ _ ih => simp [ih]
theorem FzL.get {w : Value} {els : List (List AV)} {xs ys : List AV} (h : FzL w els xs ys) : ∀ (j : Nat) (y : AV), ys[j]? = some y → ∃ x, xs[j]? = some x ∧ Fz w els x y := by
  induction h with
  | nil => intro j y hy; simp at hy
  | cons h k ih =>
    intro j y hy
    cases j with
    | zero => simp at hy; subst hy; exact ⟨_, rfl, h⟩
    | succ j => exact ih j y (by simpa using hy)
theorem fz_ag {w : Value} {els : List (List AV)} {xs ys : List AV} (h : FzL w els xs ys) : Fz w els (.ag xs) (.ag ys) := fun H u k r => by
  cases r with
  | ag cs u' vs hs hv h1 hr =>
    have hl := h.len
    refine .ag ys u' vs (by omega) (fun j hj => hv j (by omega)) (fun j hj => h1 j (by omega)) (fun j y hy => ?_)
    obtain ⟨x, hx, hf⟩ := h.get j y hy
    exact hf H _ k (hr j x hx)
theorem fz_tp {w : Value} {els : List (List AV)} {xs ys : List AV} (h : FzL w els xs ys) : Fz w els (.tp xs) (.tp ys) := fun H u k r => by
  cases r with
  | tp cs u' vs hs hv hr =>
    have hl := h.len
    refine .tp ys u' vs (by omega) (fun j hj => hv j (by omega)) (fun j y hy => ?_)
    obtain ⟨x, hx, hf⟩ := h.get j y hy
    exact hf H _ k (hr j x hx)
theorem fz_im {w : Value} {els : List (List AV)} {xs ys : List AV} (h : FzL w els xs ys) : Fz w els (.im xs) (.im ys) := fun H u k r => by
  cases r with
  | im cs b off u' hc h1 hr =>
    have hl := h.len
    refine .im ys b off u' (fun j hj => hc j (by omega)) (fun j hj => h1 j (by omega)) (fun j y hy => ?_)
    obtain ⟨x, hx, hf⟩ := h.get j y hy
    exact hf H _ k (hr j x hx)
/-- Blocks of which some cells are told anew. -/
inductive FzB (w : Value) (els : List (List AV)) : List Blk → List Blk → Prop
  | nil : FzB w els [] []
  | keep (x : Blk) {xs ys : List Blk} (k : FzB w els xs ys) : FzB w els (x :: xs) (x :: ys)
  | box (b : Nat) (t : TypeId) {cs ds : List AV} {xs ys : List Blk} (h : FzL w els cs ds) (k : FzB w els xs ys) : FzB w els (.box b t cs :: xs) (.box b t ds :: ys)
theorem FzB.all {w : Value} {els : List (List AV)} {xs ys : List Blk} (h : FzB w els xs ys) {H : Hp} {W : World} (hw : Rel H (.sl els) w) (hx : ∀ x ∈ xs, BlkOk H W x) : ∀ y ∈ ys, BlkOk H W y := by
  induction h with
  | nil => intro y hy; cases hy
  | keep x k ih =>
    intro y hy
    rcases List.mem_cons.1 hy with rfl | hy
    · exact hx _ (List.mem_cons_self ..)
    · exact ih (fun z hz => hx z (List.mem_cons_of_mem _ hz)) y hy
  | box b t h k ih =>
    intro y hy
    rcases List.mem_cons.1 hy with rfl | hy
    · have hb := hx _ (List.mem_cons_self ..)
      cases hb with
      | box _ _ _ us hb hs u hu h1 hr =>
        have hl := h.len
        refine .box b t _ us hb (by omega) u (fun j hj => hu j (by omega)) (fun j hj => h1 j (by omega)) (fun j y hy => ?_)
        obtain ⟨x, hx', hf⟩ := h.get j y hy
        exact hf H _ hw (hr j x hx')
    · exact ih (fun z hz => hx z (List.mem_cons_of_mem _ hz)) y hy
theorem FzB.own {w : Value} {els : List (List AV)} {xs ys : List Blk} (h : FzB w els xs ys) : xs.map Blk.own = ys.map Blk.own := by induction h with | nil => rfl | keep x k ih => simp [ih] | box b t h k ih => simp [ih, Blk.own]
theorem pairwise_own : ∀ {xs ys : List Blk}, xs.map Blk.own = ys.map Blk.own → xs.Pairwise Apart → ys.Pairwise Apart
  | [], [], _, _ => List.Pairwise.nil
  | x :: xs, y :: ys, h, k => by
    simp at h
    obtain ⟨h1, h2⟩ := h
    have k' := List.pairwise_cons.1 k
    refine List.pairwise_cons.2 ⟨fun z hz b hb e => ?_, pairwise_own h2 k'.2⟩
    have : Blk.own z ∈ ys.map Blk.own := List.mem_map_of_mem hz
    rw [← h2] at this
    obtain ⟨x', hx', e'⟩ := List.mem_map.1 this
    exact k'.1 x' hx' b (h1.trans hb) (e'.trans e)
  | [], _ :: _, h, _ => by simp at h
  | _ :: _, [], h, _ => by simp at h
theorem Sim.fzB {w : Value} {els : List (List AV)} {H G : Hp} {A A' : List Blk} {W : World} (s : Sim H G A W) (h : FzB w els A A') (hw : Rel H (.sl els) w) : Sim H G A' W := by
  refine ⟨s.h, s.g, s.hg, h.all hw s.ok, fun x hx b hb => ?_, pairwise_own h.own s.ap⟩
  have : Blk.own x ∈ A'.map Blk.own := List.mem_map_of_mem hx
  rw [← h.own] at this
  obtain ⟨x', hx', e'⟩ := List.mem_map.1 this
  exact s.fr x' hx' b (e'.trans hb)
/-- Slots of which some are told anew. -/
def SubZ (v v' : Env) (w : Value) (els : List (List AV)) : Prop := ∀ s y, lk s v' = some y → ∃ x, lk s v = some x ∧ Fz w els x y
theorem subz_nil (v : Env) (w : Value) (els : List (List AV)) : SubZ v [] w els := fun s y h => by cases h
theorem subz_cons {v r : Env} {w : Value} {els : List (List AV)} {s : Nat} {x y : AV} (h : lk s v = some x) (f : Fz w els x y) (k : SubZ v r w els) : SubZ v ((s, y) :: r) w els := fun q z hz => by
  rw [lk_cons] at hz
  split at hz
  · rename_i e; subst e; cases hz; exact ⟨x, h, f⟩
  · exact k q z hz
/-- An own row comes to be told by data, in slots and boxes. -/
theorem wk_frz {n : Nat} {v v' : Env} {A A0 A1 : List Blk} {w : Value} {e : TypeId} {sz : Nat} {els : List (List AV)} (hA : Pull A (.row w e sz els) A0) (hb : FzB w els A0 A1) (h : SubZ v v' w els) : Wk n v A v' A1 := fun H G W t s en => by
  obtain ⟨H', h1, h2, h3, _⟩ := rel_frozen (s.perm hA)
  refine ⟨H', h1, h2.fzB hb h3, en.1, fun q y hy => ?_⟩
  obtain ⟨x, hx, f⟩ := h q y hy
  exact f H' _ h3 ((en.2 q x hx).mono h1)
/-- A box that nobody turns any more. -/
theorem rel_frozenBox {H G : Hp} {A : List Blk} {W : World} {b : Nat} {t : TypeId} {cs : List AV} (s : Sim H G (.box b t cs :: A) W) : ∃ H', Sub H H' ∧ Sim H' G A W ∧ Rel H' (.im cs) (.pointer (some ⟨b, 0, none⟩)) := by
  cases s.ok _ (List.mem_cons_self ..) with
  | box _ _ _ us hb hs u hu h1 hr =>
    obtain ⟨s', hsub⟩ := s.freeze (b := b) rfl hb
    refine ⟨_, hsub, s', .im cs b 0 u (fun j hj => ?_) h1 (fun j x hx => (hr j x hx).mono hsub)⟩
    rw [hcell_put, Nat.zero_add]
    simpa using hu j hj
theorem wk_imm {n : Nat} {v v' : Env} {A A0 : List Blk} {b : Nat} {t : TypeId} {cs : List AV} (hA : Pull A (.box b t cs) A0) (h : SubF v v' (.sc (.pointer (some ⟨b, 0, none⟩))) (.im cs)) : Wk n v A v' A0 := fun H G W t s en => by
  obtain ⟨H', h1, h2, h3⟩ := rel_frozenBox (s.perm hA)
  refine ⟨H', h1, h2, en.1, fun q x hx => ?_⟩
  rcases h q x hx with h4 | ⟨h4, rfl⟩
  · exact (en.2 q x h4).mono h1
  · have := rel_sc (en.2 q _ h4); rw [this]; exact h3
/-- nil is a slice without elements, in slots. -/
theorem fz_nil (w : Value) (els : List (List AV)) : Fz w els (.sc (.slice none 0 0)) (.sl []) := fun H u _ h => nil_sl H u h
/-- A call's result is told by data. -/
theorem acalls_frzG {f : FuncId} {args : List AV} {w : Value} {e : TypeId} {sz : Nat} {els : List (List AV)} {r r' : AV} {A A0 A1 : List Blk} (hA : Pull A (.row w e sz els) A0) (hb : FzB w els A0 A1) (hr : Fz w els r r') {H G : Hp} {W : World} {u : Value} (s : Sim H G A W) (h : Rel H r u) : ∃ H', Sub H H' ∧ Sim H' G A1 W ∧ Rel H' r' u := by
  obtain ⟨H', h1, h2, h3, _⟩ := rel_frozen (s.perm hA)
  exact ⟨H', h1, h2.fzB hb h3, hr H' _ h3 (h.mono h1)⟩
end
end Go.Aw
