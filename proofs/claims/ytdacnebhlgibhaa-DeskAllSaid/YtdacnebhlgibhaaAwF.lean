/- Own text: slices that are made, cut, appended to (part F). -/
import Derived.Test.YtdacnebhlgibhaaAwG
import Derived.Deep.AppendSrc
set_option linter.unusedVariables false
set_option linter.unusedSimpArgs false
namespace Go.Aw
open Go

/-! ### parts laid into cells -/
theorem fold_set (us : List Value) (off : Nat) : ∀ (k : Nat) (cells : Array Value), off + k + us.length ≤ cells.size →
    ((us.zipIdx k).foldl (fun cs (c, j) => cs.setIfInBounds (off + j) c) cells).toList = splice cells.toList (off + k) us := by
  induction us with
  | nil => intro k cells h; simp [splice]
  | cons u us ih =>
    intro k cells h
    simp only [List.zipIdx_cons, List.foldl_cons]
    simp only [List.length_cons] at h
    rw [ih (k + 1) _ (by simp; omega)]
    have hlt : off + k < cells.size := by omega
    apply List.ext_getElem?
    intro p
    rw [splice_get (by simp; omega), splice_get (by simp; omega)]
    simp only [Array.toList_setIfInBounds, List.length_cons]
    rw [show off + (k + 1) = off + k + 1 by omega]
    by_cases h1 : off + k + 1 ≤ p ∧ p < off + k + 1 + us.length
    · rw [if_pos h1, if_pos (by omega)]
      have : p - (off + k) = (p - (off + k + 1)) + 1 := by omega
      rw [this, List.getElem?_cons_succ]
    · rw [if_neg h1, List.getElem?_set]
      by_cases h2 : off + k = p
      · subst h2
        rw [if_pos rfl, if_pos (by simpa using hlt), if_pos (by omega)]
        simp
      · rw [if_neg h2, if_neg (by omega)]

theorem relc_fill {H : Hp} {place : Nat → Option (Nat × Nat)} : ∀ (l : List (Nat × Value)) (parts : List (Nat × List AV)) (cs : List AV) (cells : Array Value), cells.size = cs.length → RelC H cs (fun j => cells[j]?) → l.length = parts.length →
    (∀ (i : Nat) (p : Nat × Value) (q : Nat × List AV), l[i]? = some p → parts[i]? = some q → place p.1 = some (q.1, q.2.length) ∧ q.1 + q.2.length ≤ cs.length ∧ p.2.cells.size = q.2.length ∧ RelC H q.2 (fun j => p.2.cells[j]?)) →
    ∃ cells', Instr.fill place cells l = some cells' ∧ cells'.size = cs.length ∧ RelC H (parts.foldl (fun cs q => splice cs q.1 q.2) cs) (fun j => cells'[j]?)
  | [], [], cs, cells, hs, hc, _, _ => ⟨cells, rfl, hs, hc⟩
  | [], _ :: _, _, _, _, _, h, _ => by simp at h
  | _ :: _, [], _, _, _, _, h, _ => by simp at h
  | p :: l, q :: parts, cs, cells, hs, hc, hl, hp => by
    obtain ⟨h1, h2, h3, h4⟩ := hp 0 p q rfl rfl
    have hx := fold_set p.2.cells.toList q.1 0 cells (by simp only [Array.length_toList]; omega)
    have hsz : ((p.2.cells.zipIdx.foldl (fun cs (c, j) => cs.setIfInBounds (q.1 + j) c) cells)).toList = splice cells.toList q.1 p.2.cells.toList := by
      rw [← Array.foldl_toList, Array.toList_zipIdx]
      simpa using hx
    have hsize : (p.2.cells.zipIdx.foldl (fun cs (c, j) => cs.setIfInBounds (q.1 + j) c) cells).size = cs.length := by
      rw [← Array.length_toList, hsz, splice_length (by simp only [Array.length_toList]; omega)]
      simpa using hs
    have hlen : (splice cs q.1 q.2).length = cs.length := splice_length h2
    obtain ⟨cells', k1, k2, k3⟩ := relc_fill l parts (splice cs q.1 q.2) (p.2.cells.zipIdx.foldl (fun cs (c, j) => cs.setIfInBounds (q.1 + j) c) cells) (by rw [hsize, hlen]) (by
      refine relc_splice (o := 0) h2 hc h4 (fun k e1 e2 => ?_) (fun k e1 => ?_)
      · simp only
        rw [← Array.getElem?_toList, hsz, splice_get (by simp only [Array.length_toList]; omega), if_pos (by simp only [Array.length_toList]; omega), Array.getElem?_toList]
      · simp only
        rw [← Array.getElem?_toList, hsz, splice_get (by simp only [Array.length_toList]; omega), if_neg (by simp only [Array.length_toList]; omega), Array.getElem?_toList]) (by simpa using hl)
      (fun i p' q' e1 e2 => by
        have := hp (i + 1) p' q' (by simpa using e1) (by simpa using e2)
        rw [hlen]
        exact this)
    refine ⟨cells', ?_, by rw [k2, hlen], k3⟩
    obtain ⟨pi, pv⟩ := p
    simp only at h1 h3 k1
    rw [Instr.fill]
    simp only [h1]
    rw [if_neg (by rw [h3, hs]; simp; exact h2)]
    exact k1

section
variable {P : Program} {o : Oper} {n : Nat} {v : Env} {A : List Blk} {K : AV → List Blk → Prop} {E : AV → List Blk → Prop}

/-- What the parts of a literal are: their places, and their cells. -/
def partsOf (v : Env) (off : Nat → Option Nat) : List (Nat × Operand) → Option (List (Nat × List AV))
  | [] => some []
  | (i, x) :: r => match off i, (ev v x).bind cellsOf, partsOf v off r with
    | some k, some cs, some l => some ((k, cs) :: l)
    | _, _, _ => none
theorem parts_spec {H : Hp} {a : Act} (e : EnvR H n v a.tmps) {off : Nat → Option Nat} : ∀ {xs : List (Nat × Operand)} {parts : List (Nat × List AV)}, partsOf v off xs = some parts → xs.length = parts.length ∧
    ∀ (i : Nat) (p : Nat × Operand) (q : Nat × List AV), xs[i]? = some p → parts[i]? = some q → off p.1 = some q.1 ∧ (a.eval p.2).cells.size = q.2.length ∧ RelC H q.2 (fun j => (a.eval p.2).cells[j]?)
  | [], parts, h => by cases h; exact ⟨rfl, fun i p q h => by simp at h⟩
  | (i, x) :: r, parts, h => by
    simp only [partsOf] at h
    split at h
    · rename_i k cs l h1 h2 h3
      cases h
      obtain ⟨hl, hr⟩ := parts_spec e h3
      refine ⟨by simp [hl], fun j p q hp hq => ?_⟩
      cases j with
      | zero =>
        cases hp; cases hq
        cases hx : ev v x with
        | none => rw [hx] at h2; cases h2
        | some y =>
          rw [hx] at h2
          have := cells_rel (u := a.eval x) h2 (ev_rel e hx)
          exact ⟨h1, this.1, this.2⟩
      | succ j => exact hr j p q (by simpa using hp) (by simpa using hq)
    · cases h

theorem AOp.build {t : TypeId} {parts : Array (Nat × Operand)} {z : Value} {fs : Array Field} {places : List (Nat × Nat)} {ps : List (Nat × List AV)} {cs : List AV} (hz : (P.info? t).bind (·.zero) = some z) (h1 : z.cells.all (·.oneCell') = true) (hu : P.underlying t = some (.struct fs))
    (hpl : fs.toList.mapM (fun f => (P.info? f.type).map fun i => (f.offset, i.size)) = some places)
    (hop : o.op = .build t parts) (hps : partsOf v (fun i => (places[i]?).map (·.1)) parts.toList = some ps) (hck : (parts.toList.zip ps).all (fun x => Nat.beq ((places[x.1.1]?).map (·.2)).get! x.2.2.length && Nat.ble (x.2.1 + x.2.2.length) z.cells.size) = true)
    (hcs : ps.foldl (fun cs q => splice cs q.1 q.2) (z.cells.toList.map .sc) = cs) (q : K (.ag cs) A) : AOp P o n v A K E := by
  subst hcs
  refine AOp.val (fun H G W a s e => ?_) q
  obtain ⟨hl, hsp⟩ := parts_spec e hps
  have hzr : RelC H (z.cells.toList.map AV.sc) (fun j => z.cells[j]?) := fun j x hx => by
    simp only [List.getElem?_map, Array.getElem?_toList] at hx
    cases hv : z.cells[j]? with
    | none => rw [hv] at hx; cases hx
    | some w =>
      rw [hv] at hx
      cases hx
      obtain ⟨hj, e⟩ := Array.getElem?_eq_some_iff.1 hv
      have := Array.all_eq_true.1 h1 j hj
      exact ⟨w, hv, by rw [← e]; exact this, .sc w⟩
  have hfit : ∀ (i : Nat) (p0 : Nat × Operand) (q' : Nat × List AV), parts.toList[i]? = some p0 → ps[i]? = some q' → ((places[p0.1]?).map (·.2)).get! = q'.2.length ∧ q'.1 + q'.2.length ≤ z.cells.size := fun i p0 q' hpi hq => by
    have hzip : (parts.toList.zip ps)[i]? = some (p0, q') := by rw [List.getElem?_zip_eq_some]; exact ⟨hpi, hq⟩
    have hc := List.all_eq_true.1 hck _ (List.mem_of_getElem? hzip)
    simp only [Bool.and_eq_true, Nat.ble_eq] at hc
    exact ⟨Nat.eq_of_beq_eq_true hc.1, hc.2⟩
  obtain ⟨cells', k1, k2, k3⟩ := relc_fill (place := fun i => places.toArray[i]?) (parts.toList.map fun p => (p.1, a.eval p.2)) ps (z.cells.toList.map .sc) z.cells (by simp) hzr (by simpa using hl) (fun i p q' hp hq => by
    rw [List.getElem?_map] at hp
    cases hpi : parts.toList[i]? with
    | none => rw [hpi] at hp; cases hp
    | some p0 =>
      rw [hpi] at hp
      cases hp
      obtain ⟨e1, e2, e3⟩ := hsp i p0 q' hpi hq
      obtain ⟨hb, hb2⟩ := hfit i p0 q' hpi hq
      cases hff : places[p0.1]? with
      | none => rw [hff] at e1; cases e1
      | some pl =>
        rw [hff] at e1 hb
        simp only [Option.map_some, Option.get!_some, Option.some.injEq] at e1 hb
        refine ⟨?_, by simpa using hb2, e2, e3⟩
        simp only [List.getElem?_toArray, hff, Option.some.injEq]
        exact Prod.ext e1 hb)
  have hbuilt : P.built t (parts.map fun (i, x) => (i, a.eval x)).toList = some cells' := by
    unfold Program.built
    cases hi : P.info? t with
    | none => rw [hi] at hz; cases hz
    | some it =>
      rw [hi] at hz
      simp only [Option.bind_some] at hz
      simp only [hu, hz, hpl]
      rw [Array.toList_map]
      exact k1
  have hrun : (execOp a.eval o).run P W = .ok (.value (.agg cells')) W := by
    simp only [execOp, hop, Sem.run_bind, run_build W t _ cells' hbuilt, Result.andThen_ok]
    rfl
  obtain ⟨u, hu'⟩ := choose_u (f := fun j u => cells'[j]? = some u) k3
  have hfl : ∀ (l : List (Nat × List AV)) (c : List AV), (∀ q ∈ l, q.1 + q.2.length ≤ c.length) → (l.foldl (fun cs q => splice cs q.1 q.2) c).length = c.length := by
    intro l
    induction l with
    | nil => intro c _; rfl
    | cons q l ih =>
      intro c hq
      simp only [List.foldl_cons]
      have h0 := splice_length (hq q (List.mem_cons_self ..))
      rw [ih _ (fun q' hq' => by rw [h0]; exact hq q' (List.mem_cons_of_mem _ hq')), h0]
  have hlen := hfl ps (z.cells.toList.map .sc) (fun q' hq' => by
    obtain ⟨i, hi⟩ := List.mem_iff_getElem?.1 hq'
    have hi' : i < ps.length := (List.getElem?_eq_some_iff.1 hi).1
    have hpi : parts.toList[i]? = some (parts.toList[i]'(by omega)) := List.getElem?_eq_getElem (by omega)
    simpa using (hfit i _ q' hpi hi).2)
  have hxx : ∀ {cs : List AV} j, j < cs.length → ∃ x, cs[j]? = some x := fun j hj => ⟨_, List.getElem?_eq_getElem hj⟩
  refine ⟨_, hrun, .ag _ u cells' (by rw [k2, hlen]) (fun j hj => ?_) (fun j hj => ?_) (fun j x hx => (hu' j x hx).2.2)⟩
  · obtain ⟨x, hx⟩ := hxx j hj; exact (hu' j x hx).1
  · obtain ⟨x, hx⟩ := hxx j hj; exact (hu' j x hx).2.1

theorem getElem_flatten {els : List (List AV)} {sz : Nat} (h : ∀ e ∈ els, e.length = sz) : ∀ (k j : Nat) (e : List AV), els[k]? = some e → j < sz → els.flatten[k * sz + j]? = e[j]? := by
  induction els with
  | nil => intro k j e hk; simp at hk
  | cons x els ih =>
    intro k j e hk hj
    have hx := h x (List.mem_cons_self ..)
    cases k with
    | zero =>
      cases hk
      simp only [List.flatten_cons, Nat.zero_mul, Nat.zero_add]
      rw [List.getElem?_append_left (by omega)]
    | succ k =>
      simp only [List.flatten_cons]
      rw [List.getElem?_append_right (by rw [hx, Nat.succ_mul]; omega), hx]
      have : (k + 1) * sz + j - sz = k * sz + j := by rw [Nat.succ_mul]; omega
      rw [this]
      exact ih (fun e he => h e (List.mem_cons_of_mem _ he)) k j e (by simpa using hk) hj

def isDd : AV → Bool | .dd => true | _ => false
/-- The cells that a literal's row has, its parts laid in. -/
theorem run_buildSlice {t et : TypeId} {len sz : Nat} {parts : Array (Nat × Operand)} {z : Value} {ps : List (Nat × List AV)} {els : List (List AV)} (hu : P.underlying t = some (.slice et)) (hsz : ∀ W : World, (sizeOf et).run P W = .ok sz W) (hz : ∀ W : World, (zeroValue et).run P W = .ok z W) (hzs : z.cells.size = sz)
    (h0 : 0 < sz) (hmax : len * sz ≤ 2 ^ 24) (hop : o.op = .buildSlice t len parts) (hps : partsOf v (fun i => some (i * sz)) parts.toList = some ps) (hck : ps.all (fun q => Nat.beq q.2.length sz && Nat.ble (q.1 + q.2.length) (len * sz)) = true) (hl : els.length = len) (hel : ∀ e ∈ els, e.length = sz) (hnd : els.flatten.all (fun x => !isDd x) = true)
    (hcs : ps.foldl (fun cs q => splice cs q.1 q.2) (List.replicate (len * sz) .dd) = els.flatten) {H : Hp} {W : World} {a : Act} (e : EnvR H n v a.tmps) :
    ∃ cells : Array Value, (execOp a.eval o).run P W = .ok (.value (.slice (some ⟨W.heap.size, 0, none⟩) len len)) (W.alloc (.cells cells et)) ∧ cells.size = len * sz ∧ RelR H els sz (fun j => cells[j]?) := by
  obtain ⟨hl2, hsp⟩ := parts_spec e hps
  generalize hz0 : ((Array.range (len * sz)).map ((if len * sz = 0 then #[] else z.cells)[· % (if len * sz = 0 then #[] else z.cells).size]!)) = zc
  have hzsz : zc.size = len * sz := by rw [← hz0]; simp
  -- the relation is on the cells' kind too: of what is not laid nothing is told
  have key : ∀ (l : List (Nat × Value)) (parts : List (Nat × List AV)) (cs : List AV) (cells : Array Value), cells.size = cs.length → (∀ (j : Nat) (x : AV), cs[j]? = some x → x = .dd ∨ ∃ u, cells[j]? = some u ∧ u.oneCell' = true ∧ Rel H x u) → l.length = parts.length →
      (∀ (i : Nat) (p : Nat × Value) (q : Nat × List AV), l[i]? = some p → parts[i]? = some q → p.1 * sz = q.1 ∧ q.2.length = sz ∧ q.1 + q.2.length ≤ cs.length ∧ p.2.cells.size = q.2.length ∧ RelC H q.2 (fun j => p.2.cells[j]?)) →
      ∃ cells', Instr.fill (fun i => some (i * sz, sz)) cells l = some cells' ∧ cells'.size = cs.length ∧ (∀ (j : Nat) (x : AV), (parts.foldl (fun cs q => splice cs q.1 q.2) cs)[j]? = some x → x = .dd ∨ ∃ u, cells'[j]? = some u ∧ u.oneCell' = true ∧ Rel H x u) := by
    intro l
    induction l with
    | nil => intro parts cs cells hs hc hl _; cases parts with | nil => exact ⟨cells, rfl, hs, hc⟩ | cons _ _ => simp at hl
    | cons p l ih =>
      intro parts cs cells hs hc hl hp
      cases parts with
      | nil => simp at hl
      | cons q parts =>
        obtain ⟨h1, h1', h2, h3, h4⟩ := hp 0 p q rfl rfl
        have hx := fold_set p.2.cells.toList q.1 0 cells (by simp only [Array.length_toList]; omega)
        have hsz' : ((p.2.cells.zipIdx.foldl (fun cs (c, j) => cs.setIfInBounds (q.1 + j) c) cells)).toList = splice cells.toList q.1 p.2.cells.toList := by
          rw [← Array.foldl_toList, Array.toList_zipIdx]
          simpa using hx
        have hsize : (p.2.cells.zipIdx.foldl (fun cs (c, j) => cs.setIfInBounds (q.1 + j) c) cells).size = cs.length := by
          rw [← Array.length_toList, hsz', splice_length (by simp only [Array.length_toList]; omega)]
          simpa using hs
        have hlen : (splice cs q.1 q.2).length = cs.length := splice_length h2
        obtain ⟨cells', k1, k2, k3⟩ := ih parts (splice cs q.1 q.2) (p.2.cells.zipIdx.foldl (fun cs (c, j) => cs.setIfInBounds (q.1 + j) c) cells) (by rw [hsize, hlen]) (fun j x hx => by
          rw [splice_get h2] at hx
          split at hx
          · rename_i hj
            obtain ⟨u, e1, e2⟩ := h4 _ x hx
            refine .inr ⟨u, ?_, e2⟩
            rw [← Array.getElem?_toList, hsz', splice_get (by simp only [Array.length_toList]; omega), if_pos (by simp only [Array.length_toList]; omega), Array.getElem?_toList]
            exact e1
          · rename_i hj
            rcases hc j x hx with rfl | ⟨u, e1, e2⟩
            · exact .inl rfl
            · refine .inr ⟨u, ?_, e2⟩
              rw [← Array.getElem?_toList, hsz', splice_get (by simp only [Array.length_toList]; omega), if_neg (by simp only [Array.length_toList]; omega), Array.getElem?_toList]
              exact e1) (by simpa using hl) (fun i p' q' e1 e2 => by
            have := hp (i + 1) p' q' (by simpa using e1) (by simpa using e2)
            rw [hlen]
            exact this)
        refine ⟨cells', ?_, by rw [k2, hlen], k3⟩
        obtain ⟨pi, pv⟩ := p
        simp only at h1 h3 k1
        rw [Instr.fill]
        simp only [h1]
        rw [if_neg (by rw [h3, hs, h1']; simp; rw [← h1']; exact h2)]
        exact k1
  obtain ⟨cells', k1, k2, k3⟩ := key (parts.toList.map fun p => (p.1, a.eval p.2)) ps (List.replicate (len * sz) .dd) zc (by simp [hzsz]) (fun j x hx => by
      rw [List.getElem?_replicate] at hx
      split at hx
      · cases hx; exact .inl rfl
      · cases hx) (by simpa using hl2) (fun i p q' hp hq => by
    rw [List.getElem?_map] at hp
    cases hpi : parts.toList[i]? with
    | none => rw [hpi] at hp; cases hp
    | some p0 =>
      rw [hpi] at hp
      cases hp
      obtain ⟨e1, e2, e3⟩ := hsp i p0 q' hpi hq
      have hc := List.all_eq_true.1 hck _ (List.mem_of_getElem? hq)
      simp only [Bool.and_eq_true, Nat.ble_eq] at hc
      have hb := Nat.eq_of_beq_eq_true hc.1
      refine ⟨by simpa using e1, hb, by simpa using hc.2, e2, e3⟩)
  refine ⟨cells', ?_, by simpa using k2, fun k el hk => ⟨hel el (List.mem_of_getElem? hk), fun j x hx => ?_⟩⟩
  · have hlim : ¬ (2 ^ 24 < len * sz) := by omega
    have hlim' : ¬ (len * sz > 2 ^ 24) := hlim
    have hk : Instr.fill (fun i => some (i * sz, sz)) zc (parts.map fun (i, x) => (i, a.eval x)).toList = some cells' := by
      rw [Array.toList_map]; exact k1
    simp only [execOp, hop, Instr.buildSlice, Sem.run_bind, run_underlying hu, Result.andThen_ok, hsz]
    rw [if_neg hlim']
    by_cases hzero : len * sz = 0
    · rw [if_pos hzero] at hz0
      simp only [hzero, if_true, Sem.run_bind, Sem.run_pure, Result.andThen_ok] at hz0 ⊢
      rw [hz0]
      simp only [hk]
      simp [newRow]
    · rw [if_neg hzero] at hz0
      simp only [hzero, if_false, Sem.run_bind, Sem.run_pure, hz, Result.andThen_ok]
      rw [hz0]
      simp only [hk]
      simp [newRow]
  · have hj : j < sz := by have := (List.getElem?_eq_some_iff.1 hx).1; have := hel el (List.mem_of_getElem? hk); omega
    have hfl := getElem_flatten hel k j el hk hj
    rw [hx] at hfl
    rw [hcs] at k3
    rcases k3 _ x hfl with rfl | h
    · have := List.all_eq_true.1 hnd _ (List.mem_of_getElem? hfl)
      simp [isDd] at this
    · exact h
end
end Go.Aw
