/- Own text: memory that is made and written (part E). -/
import Derived.Test.YtdacnebhlgibhaaAwD
import Derived.Laws.MakeOwn
import Derived.Laws.CopyRow
set_option linter.unusedVariables false
set_option linter.unusedSimpArgs false
namespace Go.Aw
open Go

/-! ### blocks, pointwise -/
def RelC (H : Hp) (cs : List AV) (f : Nat → Option Value) : Prop := ∀ (j : Nat) (x : AV), cs[j]? = some x → ∃ u, f j = some u ∧ u.oneCell' = true ∧ Rel H x u
theorem RelC.mono {H H' : Hp} (h : Sub H H') {cs : List AV} {f : Nat → Option Value} (k : RelC H cs f) : RelC H' cs f := fun j x hx => by
  obtain ⟨u, h1, h2, h3⟩ := k j x hx
  exact ⟨u, h1, h2, h3.mono h⟩
theorem box_ok {H : Hp} {W : World} {b : Nat} {t : TypeId} {cs : List AV} {us : Array Value} (hb : W.heap[b]? = some (.cells us t (0, 0))) (hs : us.size = cs.length) (h : RelC H cs (fun j => us[j]?)) : BlkOk H W (.box b t cs) := by
  obtain ⟨u, hu⟩ := choose_u (f := fun j u => us[j]? = some u) h
  have hx : ∀ j, j < cs.length → ∃ x, cs[j]? = some x := fun j hj => ⟨_, List.getElem?_eq_getElem hj⟩
  exact .box b t cs us hb hs u (fun j hj => by obtain ⟨x, h⟩ := hx j hj; exact (hu j x h).1) (fun j hj => by obtain ⟨x, h⟩ := hx j hj; exact (hu j x h).2.1) (fun j x h => (hu j x h).2.2)
theorem box_el {H : Hp} {W : World} {b : Nat} {t : TypeId} {cs : List AV} (h : BlkOk H W (.box b t cs)) : ∃ us : Array Value, W.heap[b]? = some (.cells us t (0, 0)) ∧ us.size = cs.length ∧ RelC H cs (fun j => us[j]?) := by
  cases h with
  | box b t cs us hb hs u hu h1 hr => exact ⟨us, hb, hs, fun j x hx => by have hj := (List.getElem?_eq_some_iff.1 hx).1; exact ⟨u j, hu j hj, h1 j hj, hr j x hx⟩⟩
def RelR (H : Hp) (els : List (List AV)) (sz : Nat) (f : Nat → Option Value) : Prop := ∀ (k : Nat) (el : List AV), els[k]? = some el → el.length = sz ∧ RelC H el (fun j => f (k * sz + j))
theorem row_ok {H : Hp} {W : World} {w : Value} {e : TypeId} {sz : Nat} {els : List (List AV)} {xs : List Value} (ho : W.ownsRow 0 e sz w els.length xs) (h : RelR H els sz (fun j => xs[j]?)) : BlkOk H W (.row w e sz els) := by
  have : ∀ k j, ∃ u, ∀ el x, els[k]? = some el → el[j]? = some x → xs[k * sz + j]? = some u ∧ u.oneCell' = true ∧ Rel H x u := fun k j => by
    cases hk : els[k]? with
    | none => exact ⟨undef, fun el x h1 _ => by cases h1⟩
    | some el =>
      cases hj : el[j]? with
      | none => exact ⟨undef, fun el' x h1 h2 => by cases h1; rw [hj] at h2; cases h2⟩
      | some x =>
        obtain ⟨u, hu⟩ := (h k el hk).2 j x hj
        exact ⟨u, fun el' x' h1 h2 => by cases h1; rw [hj] at h2; cases h2; exact hu⟩
  have hx : ∀ k j, k < els.length → j < sz → ∃ el x, els[k]? = some el ∧ el[j]? = some x := fun k j hk hj => by
    have h1 : els[k]? = some els[k] := List.getElem?_eq_getElem hk
    have h2 := (h k _ h1).1
    exact ⟨_, _, h1, List.getElem?_eq_getElem (by omega)⟩
  refine .row w e sz els xs ho (fun k el hk => (h k el hk).1) (fun k j => Classical.choose (this k j)) (fun k j hk hj => ?_) (fun k j hk hj => ?_) (fun k el j x hk hj => (Classical.choose_spec (this k j) el x hk hj).2.2)
  · obtain ⟨el, x, h1, h2⟩ := hx k j hk hj; exact (Classical.choose_spec (this k j) el x h1 h2).1
  · obtain ⟨el, x, h1, h2⟩ := hx k j hk hj; exact (Classical.choose_spec (this k j) el x h1 h2).2.1
theorem row_el {H : Hp} {W : World} {w : Value} {e : TypeId} {sz : Nat} {els : List (List AV)} (h : BlkOk H W (.row w e sz els)) : ∃ xs : List Value, W.ownsRow 0 e sz w els.length xs ∧ RelR H els sz (fun j => xs[j]?) := by
  cases h with
  | row w e sz els xs ho hz u hu h1 hr =>
    refine ⟨xs, ho, fun k el hk => ⟨hz k el hk, fun j x hx => ?_⟩⟩
    have hkl := (List.getElem?_eq_some_iff.1 hk).1
    have hj := (List.getElem?_eq_some_iff.1 hx).1
    have := hz k el hk
    exact ⟨u k j, hu k j hkl (by omega), h1 k j hkl (by omega), hr k el j x hk hx⟩

def splice {α : Type} (cs : List α) (j : Nat) (ys : List α) : List α := cs.take j ++ ys ++ cs.drop (j + ys.length)
theorem splice_length {α : Type} {cs : List α} {j : Nat} {ys : List α} (h : j + ys.length ≤ cs.length) : (splice cs j ys).length = cs.length := by simp [splice]; omega
theorem splice_get {α : Type} {cs : List α} {j : Nat} {ys : List α} (h : j + ys.length ≤ cs.length) (p : Nat) : (splice cs j ys)[p]? = if j ≤ p ∧ p < j + ys.length then ys[p - j]? else cs[p]? := by
  unfold splice
  rw [List.append_assoc]
  rcases Nat.lt_or_ge p j with h1 | h1
  · rw [List.getElem?_append_left (by simp; omega), if_neg (by omega), List.getElem?_take, if_pos h1]
  · rw [List.getElem?_append_right (by simp; omega)]
    have hl : (cs.take j).length = j := by simp; omega
    rw [hl]
    rcases Nat.lt_or_ge p (j + ys.length) with h2 | h2
    · rw [if_pos ⟨h1, h2⟩, List.getElem?_append_left (by omega)]
    · rw [if_neg (by omega), List.getElem?_append_right (by omega), List.getElem?_drop]
      congr 1
      omega
theorem relc_splice {H : Hp} {cs ys : List AV} {f g : Nat → Option Value} {o j : Nat} (hl : j + ys.length ≤ cs.length) (hc : RelC H cs f) (hy : RelC H ys g) {f' : Nat → Option Value}
    (h1 : ∀ p, j ≤ p → p < j + ys.length → f' p = g (p - j)) (h2 : ∀ p, ¬ (j ≤ p ∧ p < j + ys.length) → f' p = f p) : RelC H (splice cs j ys) f' := by
  intro p x hx
  rw [splice_get hl] at hx
  split at hx
  · rename_i h
    obtain ⟨u, q⟩ := hy _ _ hx
    exact ⟨u, by rw [h1 p h.1 h.2]; exact q.1, q.2⟩
  · rename_i h
    obtain ⟨u, q⟩ := hc _ _ hx
    exact ⟨u, by rw [h2 p h]; exact q.1, q.2⟩

/-! ### values as cells -/
def leaf : AV → Bool
  | .sc w => w.oneCell'
  | .ag _ | .tp _ | .dd => false
  | _ => true
theorem leaf_one {H : Hp} {r : AV} {u : Value} (hl : leaf r = true) (h : Rel H r u) : u.oneCell' = true := by
  cases h <;> first | rfl | exact hl | cases hl
def cellsOf : AV → Option (List AV)
  | .ag cs => some cs
  | r => if leaf r then some [r] else none
theorem cells_rel {H : Hp} {r : AV} {u : Value} {cs : List AV} (hc : cellsOf r = some cs) (h : Rel H r u) : u.cells.size = cs.length ∧ RelC H cs (fun j => u.cells[j]?) := by
  unfold cellsOf at hc
  split at hc
  · cases hc
    cases h with
    | ag cs w vs hs hv h1 hr => exact ⟨hs, fun j x hx => by have hj := (List.getElem?_eq_some_iff.1 hx).1; exact ⟨w j, hv j hj, h1 j hj, hr j x hx⟩⟩
  · split at hc
    · rename_i hne hl
      cases hc
      have h1 := leaf_one hl h
      have hcells : u.cells = #[u] := by cases u <;> first | rfl | (simp [Value.oneCell'] at h1)
      rw [hcells]
      refine ⟨rfl, fun j x hx => ?_⟩
      cases j with
      | zero => cases hx; exact ⟨u, rfl, h1, h⟩
      | succ j => simp at hx
    · cases hc

/-! ### new blocks -/
theorem Sim.addH {H G : Hp} {A : List Blk} {W : World} (s : Sim H G A W) (ob : Obj) : Sim (Aw.put H W.heap.size (some ob)) G A (W.alloc ob) ∧ Sub H (Aw.put H W.heap.size (some ob)) := by
  have hf := s.fresh
  have hsub : Sub H (Aw.put H W.heap.size (some ob)) := fun b o h => by
    unfold Aw.put
    rw [if_neg]
    · exact h
    · rintro rfl; rw [hf.1] at h; cases h
  have s' := s.move (W' := W.alloc ob) (fun b hb => heap_alloc_old W ob b hb)
  refine ⟨⟨fun b o h => ?_, s'.g, fun b o h => ?_, fun x hx => ?_, fun x hx b hb => ?_, s'.ap⟩, hsub⟩
  · unfold Aw.put at h
    split at h
    · rename_i e; subst e; cases h; exact heap_alloc_new W ob
    · exact s'.h b o h
  · unfold Aw.put at h
    split at h
    · rename_i e; subst e; exact hf.2.1
    · exact s.hg b o h
  · exact (s'.ok x hx).mono hsub (fun _ _ => rfl)
  · refine ⟨?_, (s.fr x hx b hb).2⟩
    unfold Aw.put
    rw [if_neg]
    · exact (s.fr x hx b hb).1
    · rintro rfl; exact hf.2.2 x hx hb
theorem same_alloc (W : World) (ob : Obj) : Same W (W.alloc ob) := ⟨rfl, rfl, rfl, by simp⟩
theorem hcell_put {H : Hp} {b off : Nat} {us : Array Value} {t : TypeId} {f : Nat × Nat} : hcell (Aw.put H b (some (.cells us t f))) b off = us[off]? := by simp [hcell, Aw.put]

section
variable {P : Program} {o : Oper} {n : Nat} {v : Env} {A : List Blk} {K : AV → List Blk → Prop} {E : AV → List Blk → Prop}

theorem AOp.box {t : TypeId} {x : Operand} {r : AV} {cs : List AV} (hop : o.op = .box t x) (hx : ev v x = some r) (hc : cellsOf r = some cs) (q : ∀ b, K (.sc (.pointer (some ⟨b, 0, none⟩))) (.box b t cs :: A)) : AOp P o n v A K E := by
  intro H G W a s e next Q hn _
  obtain ⟨hs, hr⟩ := cells_rel hc (ev_rel e hx)
  have hrun : (execOp a.eval o).run P W = .ok (.value (.pointer (some ⟨W.heap.size, 0, none⟩))) (W.alloc (.cells (a.eval x).cells t)) := by simp [execOp, hop, Instr.box, newVar, newRow]
  unfold Oper.wp
  rw [hrun]
  refine hn H _ _ _ _ (Sub.refl H) (same_alloc W _) (s.add (W' := W.alloc _) (fun b hb => heap_alloc_old W _ b hb) (x := .box W.heap.size t cs) (box_ok (heap_alloc_new W _) hs hr) (fun b hb => by cases hb; exact Nat.le_refl _)) (.sc _) (q _)
theorem AOp.boxI {t : TypeId} {x : Operand} {r : AV} {cs : List AV} (hop : o.op = .box t x) (hx : ev v x = some r) (hc : cellsOf r = some cs) (q : K (.im cs) A) : AOp P o n v A K E := by
  intro H G W a s e next Q hn _
  obtain ⟨hs, hr⟩ := cells_rel hc (ev_rel e hx)
  have hrun : (execOp a.eval o).run P W = .ok (.value (.pointer (some ⟨W.heap.size, 0, none⟩))) (W.alloc (.cells (a.eval x).cells t)) := by simp [execOp, hop, Instr.box, newVar, newRow]
  unfold Oper.wp
  rw [hrun]
  obtain ⟨s', hsub⟩ := s.addH (.cells (a.eval x).cells t)
  refine hn _ _ _ _ _ hsub (same_alloc W _) s' ?_ q
  obtain ⟨u, hu⟩ := choose_u (f := fun j u => (a.eval x).cells[j]? = some u) hr
  have hxx : ∀ j, j < cs.length → ∃ x, cs[j]? = some x := fun j hj => ⟨_, List.getElem?_eq_getElem hj⟩
  refine .im cs W.heap.size 0 u (fun j hj => ?_) (fun j hj => ?_) (fun j x hx => (hu j x hx).2.2.mono hsub)
  · obtain ⟨x, hx⟩ := hxx j hj; rw [hcell_put, Nat.zero_add]; exact (hu j x hx).1
  · obtain ⟨x, hx⟩ := hxx j hj; exact (hu j x hx).2.1
theorem AOp.alloc {t : TypeId} {z : Value} (hz : ∀ W : World, (zeroValue t).run P W = .ok z W) (h1 : z.cells.all (·.oneCell') = true) (hop : o.op = .alloc t) {cs : List AV} (hc : z.cells.toList.map .sc = cs) (q : ∀ b, K (.sc (.pointer (some ⟨b, 0, none⟩))) (.box b t cs :: A)) : AOp P o n v A K E := by
  subst hc
  intro H G W a s e next Q hn _
  have hrun : (execOp a.eval o).run P W = .ok (.value (.pointer (some ⟨W.heap.size, 0, none⟩))) (W.alloc (.cells z.cells t)) := by simp [execOp, hop, Instr.alloc, newVar, newRow, hz]
  unfold Oper.wp
  rw [hrun]
  refine hn H _ _ _ _ (Sub.refl H) (same_alloc W _) (s.add (W' := W.alloc _) (fun b hb => heap_alloc_old W _ b hb) (x := .box W.heap.size t (z.cells.toList.map .sc)) (box_ok (heap_alloc_new W _) (by simp) (fun j x hx => ?_)) (fun b hb => by cases hb; exact Nat.le_refl _)) (.sc _) (q _)
  simp only [List.getElem?_map, Array.getElem?_toList] at hx
  cases hv : z.cells[j]? with
  | none => rw [hv] at hx; cases hx
  | some w =>
    rw [hv] at hx
    cases hx
    obtain ⟨hj, e⟩ := Array.getElem?_eq_some_iff.1 hv
    refine ⟨w, hv, ?_, .sc w⟩
    have := Array.all_eq_true.1 h1 j hj
    rw [← e]; exact this

/-! ### stores -/
def Pull (A : List Blk) (x : Blk) (A0 : List Blk) : Prop := A.Perm (x :: A0)
theorem pull_here (x : Blk) (A : List Blk) : Pull (x :: A) x A := List.Perm.refl _
theorem pull_there {A A0 : List Blk} {x y : Blk} (h : Pull A x A0) : Pull (y :: A) x (y :: A0) := (List.Perm.cons y h).trans (List.Perm.swap x y A0)
theorem Pull.mem {A A0 : List Blk} {x : Blk} (h : Pull A x A0) : x ∈ A := h.symm.subset (List.mem_cons_self ..)

theorem same_setRow (W : World) (g : Nat) (us : Array Value) : Same W (W.setRow g us) := ⟨rfl, rfl, rfl, by simp⟩

theorem AOp.storeB {t : TypeId} {x y : Operand} {b j : Nat} {bt : TypeId} {r : AV} {cs ys zs : List AV} {A0 : List Blk} (hs : ∀ W : World, (sizeOf t).run P W = .ok ys.length W) (hop : o.op = .store t x y) (hx : ev v x = some (.sc (.pointer (some ⟨b, j, none⟩)))) (hy : ev v y = some r) (hc : cellsOf r = some ys)
    (hA : Pull A (.box b bt cs) A0) (hl : j + ys.length ≤ cs.length) (hz : splice cs j ys = zs) (q : K .dd (.box b bt zs :: A0)) : AOp P o n v A K E := by
  subst hz
  intro H G W a s e next Q hn _
  have h1 := rel_sc (ev_rel e hx)
  obtain ⟨hsz, hr⟩ := cells_rel hc (ev_rel e hy)
  have s1 := s.perm hA
  obtain ⟨us, hb, hus, hcs⟩ := box_el (s1.ok _ (List.mem_cons_self ..))
  have hone : ∀ u ∈ (a.eval y).cells.toList, u.oneCell' = true := fun u hu => by
    obtain ⟨p, hp⟩ := List.mem_iff_getElem?.1 hu
    rw [Array.getElem?_toList] at hp
    have hlt : p < ys.length := by have := (Array.getElem?_eq_some_iff.1 hp).1; omega
    obtain ⟨u', e1, e2, _⟩ := hr p _ (List.getElem?_eq_getElem hlt)
    simp only at e1
    rw [hp] at e1
    cases e1
    exact e2
  have hlen : (a.eval y).cells.toList.length = ys.length := by simp [hsz]
  have hst := run_storeCells_at P b j bt (a.eval y).cells.toList 0 us W hb (by simp only [hlen]; omega) hone
  have hrun : (execOp a.eval o).run P W = .ok .skip (W.setRow b (splice us.toList j (a.eval y).cells.toList).toArray) := by
    simp only [Nat.add_zero] at hst
    simp [execOp, hop, h1, Instr.storeAt, Instr.sureAddr, storeVar, hsz, hs, hst, splice]
  unfold Oper.wp
  rw [hrun]
  refine hn H _ undef .dd _ (Sub.refl H) (same_setRow W b _) (s1.upd (fun b' hb' _ => setRow_other W b b' _ (fun e => hb' (by rw [e]; rfl))) (y := .box b bt (splice cs j ys)) (box_ok (setRow_heap W b us _ bt _ hb) ?_ ?_) (fun b' hb' => .inl hb')) (.dd _) q
  · simp only [List.size_toArray]
    rw [splice_length (by simp [hsz]; omega), splice_length hl]
    simpa using hus
  · refine relc_splice (o := 0) hl hcs hr (fun p h2 h3 => ?_) (fun p h2 => ?_)
    · simp only [List.getElem?_toArray]
      rw [splice_get (by simp [hsz]; omega), if_pos ⟨h2, by simp [hsz]; omega⟩, Array.getElem?_toList]
    · simp only [List.getElem?_toArray]
      rw [splice_get (by simp [hsz]; omega), if_neg (by simp [hsz]; omega), Array.getElem?_toList]

theorem AOp.storeR {t : TypeId} {x y : Operand} {k j sz : Nat} {w : Value} {et : TypeId} {r : AV} {els els' : List (List AV)} {el ys : List AV} {A0 : List Blk} (hs : ∀ W : World, (sizeOf t).run P W = .ok ys.length W) (hop : o.op = .store t x y) (hx : ev v x = some (.sc (rowPtr w sz k j))) (hy : ev v y = some r) (hc : cellsOf r = some ys)
    (hA : Pull A (.row w et sz els) A0) (hk : els[k]? = some el) (hj : j + ys.length ≤ sz) (h0 : 0 < ys.length) (hz : els.set k (splice el j ys) = els') (q : K .dd (.row w et sz els' :: A0)) : AOp P o n v A K E := by
  subst hz
  intro H G W a s e next Q hn _
  have h1 := rel_sc (ev_rel e hx)
  obtain ⟨hsz, hr⟩ := cells_rel hc (ev_rel e hy)
  have s1 := s.perm hA
  obtain ⟨xs, ho, hels⟩ := row_el (s1.ok _ (List.mem_cons_self ..))
  have hkl : k < els.length := (List.getElem?_eq_some_iff.1 hk).1
  have hell := (hels k el hk).1
  have hone : ∀ u ∈ (a.eval y).cells.toList, u.oneCell' = true := fun u hu => by
    obtain ⟨p, hp⟩ := List.mem_iff_getElem?.1 hu
    rw [Array.getElem?_toList] at hp
    have hlt : p < ys.length := by have := (Array.getElem?_eq_some_iff.1 hp).1; omega
    obtain ⟨u', e1, e2, _⟩ := hr p _ (List.getElem?_eq_getElem hlt)
    simp only at e1
    rw [hp] at e1
    cases e1
    exact e2
  have hlen : (a.eval y).cells.toList.length = ys.length := by simp [hsz]
  have hin : k * sz + sz ≤ els.length * sz := by rw [← Nat.succ_mul]; exact Nat.mul_le_mul_right _ hkl
  rcases ho.2 with ⟨rfl, h00⟩ | ⟨g, cap, cur, rfl, hb0, hg, hnc, hcm, hcs, htake⟩
  · omega
  · have hxl := ho.1
    have hcap : els.length * sz ≤ cap * sz := Nat.mul_le_mul_right _ hnc
    have hfit : k * sz + j + ys.length ≤ cur.size := by omega
    have hst := run_storeCells_at P g (k * sz + j) et (a.eval y).cells.toList 0 cur W hg (by simp only [hlen]; omega) hone
    have hrun : (execOp a.eval o).run P W = .ok .skip (W.setRow g (splice cur.toList (k * sz + j) (a.eval y).cells.toList).toArray) := by
      simp only [Nat.add_zero] at hst
      simp [execOp, hop, h1, rowPtr, Value.ownBlock, Instr.storeAt, Instr.sureAddr, storeVar, hsz, hs, hst, splice]
    unfold Oper.wp
    rw [hrun]
    have hsp : (k * sz + j) + (a.eval y).cells.toList.length ≤ cur.toList.length := by simp only [hlen, Array.length_toList]; omega
    have hspx : (k * sz + j) + (a.eval y).cells.toList.length ≤ xs.length := by simp only [hlen]; omega
    have hnew : (W.setRow g (splice cur.toList (k * sz + j) (a.eval y).cells.toList).toArray).ownsRow 0 et sz (.slice (some ⟨g, 0, none⟩) els.length cap) els.length (splice xs (k * sz + j) (a.eval y).cells.toList) := by
      refine ⟨by rw [splice_length hspx]; exact hxl, .inr ⟨g, cap, _, rfl, Nat.zero_le _, setRow_heap W g cur _ et _ hg, hnc, hcm, ?_, ?_⟩⟩
      · simp only [List.size_toArray]; rw [splice_length hsp]; simpa using hcs
      · apply List.ext_getElem?
        intro p
        simp only [List.getElem?_take]
        rw [splice_get hspx, splice_get hsp, ← htake, List.getElem?_take]
        by_cases hp : p < els.length * sz
        · simp [hp]
        · rw [if_neg hp, if_neg (by simp only [hlen]; omega), if_neg hp]
    refine hn H _ undef .dd _ (Sub.refl H) (same_setRow W g _) (s1.upd (fun b' hb' _ => setRow_other W g b' _ (fun e => hb' (by simp [Blk.own, Value.ownBlock, e]))) (y := .row _ et sz (els.set k (splice el j ys))) (row_ok (xs := splice xs (k * sz + j) (a.eval y).cells.toList) (by rw [List.length_set]; exact hnew) ?_) (fun b' hb' => .inl hb')) (.dd _) q
    intro k' el' hk'
    rw [List.getElem?_set] at hk'
    by_cases hkk : k = k'
    · subst hkk
      rw [if_pos rfl, if_pos hkl] at hk'
      cases hk'
      refine ⟨by rw [splice_length (by omega)]; exact hell, ?_⟩
      refine relc_splice (o := 0) (by omega) (hels k el hk).2 hr (fun p h2 h3 => ?_) (fun p h2 => ?_)
      · simp only
        rw [splice_get hspx, if_pos (by simp only [hlen]; omega), Array.getElem?_toList]
        congr 1
        omega
      · simp only
        rw [splice_get hspx, if_neg (by simp only [hlen]; omega)]
    · rw [if_neg hkk] at hk'
      refine ⟨(hels k' el' hk').1, fun p x hx => ?_⟩
      obtain ⟨u, e1, e2⟩ := (hels k' el' hk').2 p x hx
      refine ⟨u, ?_, e2⟩
      have hpl : p < sz := by have := (List.getElem?_eq_some_iff.1 hx).1; have := (hels k' el' hk').1; omega
      simp only at e1 ⊢
      rw [splice_get hspx, if_neg]
      · exact e1
      · simp only [hlen]
        rintro ⟨h2, h3⟩
        rcases Nat.lt_or_gt_of_ne hkk with h4 | h4
        · have : k * sz + sz ≤ k' * sz := by rw [← Nat.succ_mul]; exact Nat.mul_le_mul_right _ h4
          omega
        · have : k' * sz + sz ≤ k * sz := by rw [← Nat.succ_mul]; exact Nat.mul_le_mul_right _ h4
          omega
end
end Go.Aw
