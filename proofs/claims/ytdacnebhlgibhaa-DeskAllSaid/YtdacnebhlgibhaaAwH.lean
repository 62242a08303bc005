/- Own text: rules for slices: literals, make, cuts, append, clear, nil (part H). -/
import Derived.Test.YtdacnebhlgibhaaAwF
set_option linter.unusedVariables false
set_option linter.unusedSimpArgs false
namespace Go.Aw
open Go

section
variable {P : Program} {o : Oper} {n : Nat} {v : Env} {A : List Blk} {K : AV → List Blk → Prop} {E : AV → List Blk → Prop}

theorem choose_uu {H : Hp} {els : List (List AV)} {sz : Nat} {f : Nat → Option Value} (h : RelR H els sz f) : ∃ u : Nat → Nat → Value, ∀ k el j x, els[k]? = some el → el[j]? = some x → f (k * sz + j) = some (u k j) ∧ (u k j).oneCell' = true ∧ Rel H x (u k j) := by
  have : ∀ k j, ∃ u, ∀ el x, els[k]? = some el → el[j]? = some x → f (k * sz + j) = some u ∧ u.oneCell' = true ∧ Rel H x u := fun k j => by
    cases hk : els[k]? with
    | none => exact ⟨undef, fun el x h1 _ => by cases h1⟩
    | some el =>
      cases hj : el[j]? with
      | none => exact ⟨undef, fun el' x h1 h2 => by cases h1; rw [hj] at h2; cases h2⟩
      | some x =>
        obtain ⟨u, hu⟩ := (h k el hk).2 j x hj
        exact ⟨u, fun el' x' h1 h2 => by cases h1; rw [hj] at h2; cases h2; exact hu⟩
  exact ⟨fun k j => Classical.choose (this k j), fun k el j x hk hj => Classical.choose_spec (this k j) el x hk hj⟩

/-- A row of a block that stays. -/
theorem rel_sl {H : Hp} {els : List (List AV)} {sz b off c : Nat} {us : Array Value} {t : TypeId} {fr : Nat × Nat} (hb : H b = some (.cells us t fr)) (h : RelR H els sz (fun j => us[off + j]?)) (hc : els.length ≤ c) : Rel H (.sl els) (.slice (some ⟨b, off, none⟩) els.length c) := by
  obtain ⟨u, hu⟩ := choose_uu h
  have hx : ∀ k j, k < els.length → j < sz → ∃ el x, els[k]? = some el ∧ el[j]? = some x := fun k j hk hj => by
    have h1 : els[k]? = some els[k] := List.getElem?_eq_getElem hk
    have h2 := (h k _ h1).1
    exact ⟨_, _, h1, List.getElem?_eq_getElem (by omega)⟩
  refine .sl els sz _ c u hc (fun _ => ⟨b, off, rfl, fun k e hk j hj => ?_⟩) (fun k e hk => (h k e hk).1) (fun k j hk hj => ?_) (fun k e j x hk hj => (hu k e j x hk hj).2.2)
  · obtain ⟨el, x, h1, h2⟩ := hx k j (List.getElem?_eq_some_iff.1 hk).1 hj
    simp only [hcell, hb]
    exact (hu k el j x h1 h2).1
  · obtain ⟨el, x, h1, h2⟩ := hx k j hk hj; exact (hu k el j x h1 h2).2.1
theorem RelR.mono {H H' : Hp} (h : Sub H H') {els : List (List AV)} {sz : Nat} {f : Nat → Option Value} (k : RelR H els sz f) : RelR H' els sz f := fun i el hi => ⟨(k i el hi).1, (k i el hi).2.mono h⟩

theorem AOp.buildS {t et : TypeId} {len sz : Nat} {parts : Array (Nat × Operand)} {z : Value} {ps : List (Nat × List AV)} {els : List (List AV)} (hu : P.underlying t = some (.slice et)) (hsz : ∀ W : World, (sizeOf et).run P W = .ok sz W) (hz : ∀ W : World, (zeroValue et).run P W = .ok z W) (hzs : z.cells.size = sz)
    (h0 : 0 < sz) (hmax : len * sz ≤ 2 ^ 24) (hop : o.op = .buildSlice t len parts) (hps : partsOf v (fun i => some (i * sz)) parts.toList = some ps) (hck : ps.all (fun q => Nat.beq q.2.length sz && Nat.ble (q.1 + q.2.length) (len * sz)) = true) (hl : els.length = len) (hel : ∀ e ∈ els, e.length = sz) (hnd : els.flatten.all (fun x => !isDd x) = true)
    (hcs : ps.foldl (fun cs q => splice cs q.1 q.2) (List.replicate (len * sz) .dd) = els.flatten) (q : K (.sl els) A) : AOp P o n v A K E := by
  intro H G W a s e next Q hn _
  obtain ⟨cells, hrun, hcs', hrel⟩ := run_buildSlice hu hsz hz hzs h0 hmax hop hps hck hl hel hnd hcs e
  unfold Oper.wp
  rw [hrun]
  obtain ⟨s', hsub⟩ := s.addH (.cells cells et)
  refine hn _ _ _ _ _ hsub (same_alloc W _) s' ?_ q
  have := rel_sl (H := Aw.put H W.heap.size (some (.cells cells et))) (b := W.heap.size) (off := 0) (c := len) (us := cells) (t := et) (fr := (0, 0)) (by simp [Aw.put]) (by simpa using hrel.mono hsub) (by omega)
  rw [hl] at this
  exact this
theorem AOp.buildR {t et : TypeId} {len sz : Nat} {parts : Array (Nat × Operand)} {z : Value} {ps : List (Nat × List AV)} {els : List (List AV)} (hu : P.underlying t = some (.slice et)) (hsz : ∀ W : World, (sizeOf et).run P W = .ok sz W) (hz : ∀ W : World, (zeroValue et).run P W = .ok z W) (hzs : z.cells.size = sz)
    (h0 : 0 < sz) (hmax : len * sz ≤ 2 ^ 24) (hop : o.op = .buildSlice t len parts) (hps : partsOf v (fun i => some (i * sz)) parts.toList = some ps) (hck : ps.all (fun q => Nat.beq q.2.length sz && Nat.ble (q.1 + q.2.length) (len * sz)) = true) (hl : els.length = len) (hel : ∀ e ∈ els, e.length = sz) (hnd : els.flatten.all (fun x => !isDd x) = true)
    (hcs : ps.foldl (fun cs q => splice cs q.1 q.2) (List.replicate (len * sz) .dd) = els.flatten) (q : ∀ w, K (.sc w) (.row w et sz els :: A)) : AOp P o n v A K E := by
  intro H G W a s e next Q hn _
  obtain ⟨cells, hrun, hcs', hrel⟩ := run_buildSlice hu hsz hz hzs h0 hmax hop hps hck hl hel hnd hcs e
  unfold Oper.wp
  rw [hrun]
  have hml : len ≤ maxLen := by
    have : len * 1 ≤ len * sz := Nat.mul_le_mul_left _ h0
    simp only [maxLen]; omega
  refine hn H _ _ _ _ (Sub.refl H) (same_alloc W _) (s.add (W' := W.alloc _) (fun b hb => heap_alloc_old W _ b hb) (x := .row _ et sz els) (row_ok (xs := cells.toList) ?_ (by simpa using hrel)) (fun b hb => by cases hb; exact Nat.le_refl _)) (.sc _) (q _)
  rw [hl]
  exact ⟨by simpa using hcs', .inr ⟨W.heap.size, len, cells, rfl, Nat.zero_le _, heap_alloc_new W _, Nat.le_refl _, hml, hcs', List.take_of_length_le (by rw [Array.length_toList, hcs']; exact Nat.le_refl _)⟩⟩

theorem AOp.make {t et : TypeId} {sz bytes : Nat} {x y : Operand} {kl kc : IntKind} {m : Int} {z : Value} (hu : P.underlying t = some (.slice et)) (hi : (P.info? et).map (fun i => (i.zero, i.size, i.bytes)) = some (some z, sz, bytes)) (hzs : z.cells.size = sz) (h1 : z.cells.all (·.oneCell') = true) (h0 : 0 < sz)
    (hop : o.op = .makeSlice t x y) (hx : ev v x = some (.sc (.int kl m))) (hy : ev v y = some (.sc (.int kc m))) (hm : 0 ≤ m) (hb : bytes * m.toNat ≤ 281474976710656) (hml : m.toNat ≤ maxLen) {els : List (List AV)} (hels : List.replicate m.toNat (z.cells.toList.map .sc) = els) (q : ∀ w, K (.sc w) (.row w et sz els :: A)) : AOp P o n v A K E := by
  subst hels
  intro H G W a s e next Q hn _
  cases hinf : P.info? et with
  | none => rw [hinf] at hi; cases hi
  | some i =>
    rw [hinf] at hi
    simp only [Option.map_some, Option.some.injEq, Prod.mk.injEq] at hi
    obtain ⟨hz, rfl, rfl⟩ := hi
    have hbb : (i.bytes : Int) * m ≤ 281474976710656 := by
      have h2 : ((i.bytes * m.toNat : Nat) : Int) ≤ 281474976710656 := by omega
      rw [Int.natCast_mul, Int.toNat_of_nonneg hm] at h2
      exact h2
    have hr := run_make (P := P) W t et i z hu hinf hz kl kc m m hm (Int.le_refl _) hbb (by simp only [maxLen] at hml; omega)
    have e1 := rel_sc (ev_rel e hx)
    have e2 := rel_sc (ev_rel e hy)
    have hrun : (execOp a.eval o).run P W = .ok (.value (.slice (some ⟨W.heap.size, 0, none⟩) m.toNat m.toNat)) (W.alloc (.cells (madeCells z.cells (m.toNat * i.size)) et)) := by
      simp only [execOp, hop, e1, e2, Sem.run_bind, hr, Result.andThen_ok]; rfl
    unfold Oper.wp
    rw [hrun]
    have hsize : (madeCells z.cells (m.toNat * i.size)).size = m.toNat * i.size := by simp [madeCells]
    refine hn H _ _ _ _ (Sub.refl H) (same_alloc W _) (s.add (W' := W.alloc _) (fun b hb => heap_alloc_old W _ b hb) (x := .row _ et i.size (List.replicate m.toNat (z.cells.toList.map .sc))) (row_ok (xs := (madeCells z.cells (m.toNat * i.size)).toList) ?_ (fun k el hk => ?_)) (fun b hb => by cases hb; exact Nat.le_refl _)) (.sc _) (q _)
    · rw [List.length_replicate]
      exact ⟨by simpa using hsize, .inr ⟨W.heap.size, m.toNat, _, rfl, Nat.zero_le _, heap_alloc_new W _, Nat.le_refl _, hml, hsize, List.take_of_length_le (by rw [Array.length_toList, hsize]; exact Nat.le_refl _)⟩⟩
    · rw [List.getElem?_replicate] at hk
      split at hk
      · rename_i hkm
        cases hk
        refine ⟨by simpa using hzs, fun j x hx => ?_⟩
        simp only [List.getElem?_map, Array.getElem?_toList] at hx
        cases hv : z.cells[j]? with
        | none => rw [hv] at hx; cases hx
        | some w =>
          rw [hv] at hx
          cases hx
          obtain ⟨hj, ej⟩ := Array.getElem?_eq_some_iff.1 hv
          have hone := Array.all_eq_true.1 h1 j hj
          have hlt : k * i.size + j < m.toNat * i.size := by
            have : k * i.size + i.size ≤ m.toNat * i.size := by rw [← Nat.succ_mul]; exact Nat.mul_le_mul_right _ hkm
            omega
          refine ⟨w, ?_, by rw [← ej]; exact hone, .sc w⟩
          have hmod : (k * i.size + j) % z.cells.size = j := by
            rw [hzs, Nat.mul_comm, Nat.mul_add_mod]; exact Nat.mod_eq_of_lt (by omega)
          simp only [madeCells, Array.getElem?_toList, Array.getElem?_map, Array.getElem?_range]
          rw [if_pos hlt]
          simp only [Option.map_some, hmod, Option.some.injEq]
          rw [getElem!_pos z.cells j hj]
          exact ej
      · cases hk

/-! ### cuts -/
def Bd (v : Env) (x : Option Operand) (d l : Nat) : Prop := match x with
  | none => l = d
  | some x => ∃ k i, ev v x = some (.sc (.int k i)) ∧ 0 ≤ i ∧ i.toNat = l
theorem bd_none {v : Env} {d : Nat} : Bd v none d d := rfl
theorem bd_some {v : Env} {x : Operand} {d l : Nat} {k : IntKind} {i : Int} (h : ev v x = some (.sc (.int k i))) (h0 : 0 ≤ i) (hl : i.toNat = l) : Bd v (some x) d l := ⟨k, i, h, h0, hl⟩

theorem run_bounds {v : Env} {H : Hp} {a : Act} {len cap l h : Nat} {b : Bool} {lo hi : Option Operand} (e : EnvR H n v a.tmps) (hlo : Bd v lo 0 l) (hhi : Bd v hi len h) (hlh : l ≤ h) (hhc : h ≤ cap) (W : World) : (Instr.sliceBounds b len cap (lo.map a.eval) (hi.map a.eval) none).run P W = .ok (l, h, cap) W := by
  have hb : ∀ (x : Value) (y : Nat) (c : BoundsCode) (i : Int) (k : IntKind), x = .int k i → 0 ≤ i → i.toNat ≤ y → (Instr.sliceBound x y c).run P W = .ok i.toNat W := fun x y c i k hx h0 hy => by
    subst hx
    have : i ≤ (y : Int) := by omega
    simp [Instr.sliceBound, asIntOf, h0, this]
  unfold Instr.sliceBounds
  cases hi with
  | none =>
    simp only [Bd] at hhi
    subst hhi
    cases lo with
    | none => simp only [Bd] at hlo; subst hlo; simp
    | some x =>
      obtain ⟨k, i, h1, h2, h3⟩ := hlo
      have := hb (a.eval x) h .sliceB i k (rel_sc (ev_rel e h1)) h2 (by omega)
      simp [this, h3]
  | some y =>
    obtain ⟨k, i, h1, h2, h3⟩ := hhi
    have hy : ∀ c, (Instr.sliceBound (a.eval y) cap c).run P W = .ok i.toNat W := fun c => hb (a.eval y) cap c i k (rel_sc (ev_rel e h1)) h2 (by omega)
    cases lo with
    | none => simp only [Bd] at hlo; subst hlo; simp [hy, h3]
    | some x =>
      obtain ⟨k', i', h1', h2', h3'⟩ := hlo
      have := hb (a.eval x) h .sliceB i' k' (rel_sc (ev_rel e h1')) h2' (by omega)
      simp [hy, h3, this, h3']

theorem AOp.cutT {t : TypeId} {x : Operand} {lo hi : Option Operand} {s : ByteArray} {l h : Nat} (hu : P.underlying t = some .string) (hop : o.op = .slice t x lo hi none) (hx : ev v x = some (.sc (.string s))) (hlo : Bd v lo 0 l) (hhi : Bd v hi s.size h) (hlh : l ≤ h) (hhc : h ≤ s.size) (q : K (.sc (.string (s.extract l h))) A) : AOp P o n v A K E :=
  AOp.val (fun H G W a sm e => ⟨_, by
    have h1 := rel_sc (ev_rel e hx)
    simp [execOp, hop, Instr.sliceAt, Instr.slice, run_underlying hu, h1, run_bounds e hlo hhi hlh hhc], .sc _⟩) q
theorem AOp.cutS {t et : TypeId} {sz : Nat} {x : Operand} {lo hi : Option Operand} {es ys : List (List AV)} {l h : Nat} (hu : P.underlying t = some (.slice et)) (hsz : ∀ W : World, (sizeOf et).run P W = .ok sz W) (hes : ∀ e ∈ es, e.length = sz) (hop : o.op = .slice t x lo hi none) (hx : ev v x = some (.sl es)) (hlo : Bd v lo 0 l) (hhi : Bd v hi es.length h) (hlh : l ≤ h) (hhc : h ≤ es.length) (hy : (es.drop l).take (h - l) = ys) (q : K (.sl ys) A) : AOp P o n v A K E := by
  subst hy
  refine AOp.val (fun H G W a sm e => ?_) q
  have h1 := ev_rel e hx
  generalize hp : a.eval x = p at h1
  cases h1 with
  | sl es sz' ad c u hc ha hz h1 hr =>
    have hrun : (execOp a.eval o).run P W = .ok (.value (.slice (if c = l then ad else ad.map (·.add (l * sz))) (h - l) (c - l))) W := by
      simp [execOp, hop, Instr.sliceAt, Instr.slice, run_underlying hu, hp, run_bounds e hlo hhi hlh (by omega : h ≤ c), hsz]
    have hlen : ((es.drop l).take (h - l)).length = h - l := by simp; omega
    have hget : ∀ p el, ((es.drop l).take (h - l))[p]? = some el → p < h - l ∧ es[l + p]? = some el := fun p el h' => by
      rw [List.getElem?_take] at h'
      split at h'
      · rename_i hp'; rw [List.getElem?_drop] at h'; exact ⟨hp', h'⟩
      · cases h'
    refine ⟨_, hrun, ?_⟩
    have : Rel H (.sl ((es.drop l).take (h - l))) (.slice (if c = l then ad else ad.map (·.add (l * sz))) ((es.drop l).take (h - l)).length (c - l)) := by
      refine .sl _ sz' _ _ (fun p j => u (l + p) j) (by rw [hlen]; omega) (fun hpos => ?_) (fun p el hpe => hz _ el (hget p el hpe).2) (fun p j hp' hj => h1 _ _ (by rw [hlen] at hp'; omega) hj) (fun p el j y hpe hj => hr _ el j y (hget p el hpe).2 hj)
      rw [hlen] at hpos
      obtain ⟨b, off, rfl, hcell⟩ := ha (by omega)
      have hszz : sz' = sz := by
        have h2 := hz 0 es[0] (List.getElem?_eq_getElem (by omega))
        have h3 := hes es[0] (List.getElem_mem _)
        omega
      subst hszz
      rw [if_neg (by omega)]
      refine ⟨b, off + l * sz', by simp [add_plain], fun p el hpe j hj => ?_⟩
      have := hcell _ el (hget p el hpe).2 j hj
      rw [Nat.add_mul] at this
      rw [← this]
      congr 1
      omega
    rw [hlen] at this
    exact this
theorem AOp.cutR {t et : TypeId} {e' : TypeId} {sz : Nat} {x : Operand} {lo hi : Option Operand} {w : Value} {els : List (List AV)} {l h m : Nat} (hu : P.underlying t = some (.slice et)) (hsz : ∀ W : World, (sizeOf et).run P W = .ok sz W) (hA : Blk.row w e' sz els ∈ A) (hop : o.op = .slice t x lo hi none) (hx : ev v x = some (.sc w)) (hlo : Bd v lo 0 l) (hhi : Bd v hi els.length h) (hlh : l ≤ h) (hhc : h ≤ els.length) (hm : h - l = m) (q : K (.os w sz l m) A) : AOp P o n v A K E := by
  subst hm
  refine AOp.val (fun H G W a sm e => ?_) q
  have h1 := rel_sc (ev_rel e hx)
  obtain ⟨xs, ho, _⟩ := row_el (sm.ok _ hA)
  have main : ∀ (ad : Option Addr) (c : Nat), w = .slice ad els.length c → els.length ≤ c → (0 < els.length → ∃ b, ad = some ⟨b, 0, none⟩) → ∃ u, (execOp a.eval o).run P W = .ok (.value u) W ∧ Rel H (.os w sz l (h - l)) u := fun ad c hw hc hb => by
    refine ⟨.slice (if c = l then ad else ad.map (·.add (l * sz))) (h - l) (c - l), ?_, .os w sz l (h - l) _ els.length c _ ad hw rfl (by omega) (fun hp => ?_) (fun h0 => ?_)⟩
    · simp [execOp, hop, Instr.sliceAt, Instr.slice, run_underlying hu, h1, hw, run_bounds e hlo hhi hlh (by omega : h ≤ c), hsz]
    · obtain ⟨b, rfl⟩ := hb (by omega)
      exact ⟨b, rfl, by rw [if_neg (by omega)]; simp [add_plain]⟩
    · subst h0
      split
      · rfl
      · cases ad with
        | none => rfl
        | some ad => simp [Addr.add]
  rcases ho.2 with ⟨hw, h00⟩ | ⟨g, cap, cur, hw, _, hg, hnc, hcm, hcs, htake⟩
  · exact main none 0 (by rw [hw, h00]) (by omega) (fun hp => by omega)
  · exact main _ cap hw hnc (fun _ => ⟨g, rfl⟩)

/-! ### append -/
def SrcA (P : Program) (A : List Blk) (sz : Nat) (tx : TypeId) (r : AV) (news : List (List AV)) : Prop :=
  ∀ (H G : Hp) (W : World) (u : Value), Sim H G A W → Rel H r u → ∃ xs, Src P sz tx u news.length xs W ∧ RelR H news sz (fun j => xs[j]?)
theorem src_sl {tx e' : TypeId} {sz : Nat} {es : List (List AV)} (hk : P.underlying tx = some (.slice e')) (hes : ∀ e ∈ es, e.length = sz) : SrcA P A sz tx (.sl es) es := by
  intro H G W p s h
  cases h with
  | sl es sz' ad c u hc ha hz h1 hr =>
    rcases Nat.eq_zero_or_pos es.length with hl | hl
    · have he : es = [] := List.eq_nil_of_length_eq_zero hl
      subst he
      refine ⟨[], ?_, fun k el h => by simp at h⟩
      cases ad with
      | none => exact Src.ofNil W hk c
      | some ad => exact Src.ofSlice W hk ad 0 c [] (by simp) (fun j u h => by simp at h) (fun u h => by cases h)
    · obtain ⟨b, off, rfl, hcell⟩ := ha hl
      have hszz : sz' = sz := by
        have h2 := hz 0 es[0] (List.getElem?_eq_getElem hl)
        have h3 := hes es[0] (List.getElem_mem _)
        omega
      subst hszz
      let xs := (List.range (es.length * sz')).map (fun q => u (q / sz') (q % sz'))
      have hxs : ∀ q, q < es.length * sz' → xs[q]? = some (u (q / sz') (q % sz')) := fun q hq => by
        simp [xs, hq]
      have hdiv : ∀ q, q < es.length * sz' → q / sz' < es.length ∧ q % sz' < sz' := fun q hq => by
        have hp : 0 < sz' := Nat.pos_of_ne_zero (fun h => by subst h; simp at hq)
        exact ⟨(Nat.div_lt_iff_lt_mul hp).2 hq, Nat.mod_lt _ hp⟩
      refine ⟨xs, Src.ofSlice W hk _ _ c xs (by simp [xs]) (fun q w hq => ?_) (fun w hw => ?_), fun k el hk => ⟨hz k el hk, fun j x hj => ?_⟩⟩
      · have hlt : q < es.length * sz' := by have := (List.getElem?_eq_some_iff.1 hq).1; simpa [xs] using this
        rw [hxs q hlt] at hq
        cases hq
        obtain ⟨d1, d2⟩ := hdiv q hlt
        rw [add_plain]
        have := cell_of_hcell s (hcell _ _ (List.getElem?_eq_getElem d1) _ d2)
        rwa [Nat.mul_comm, Nat.div_add_mod] at this
      · obtain ⟨q, hq⟩ := List.mem_iff_getElem?.1 hw
        have hlt : q < es.length * sz' := by have := (List.getElem?_eq_some_iff.1 hq).1; simpa [xs] using this
        rw [hxs q hlt] at hq
        cases hq
        obtain ⟨d1, d2⟩ := hdiv q hlt
        exact h1 _ _ d1 d2
      · have hkl := (List.getElem?_eq_some_iff.1 hk).1
        have hjl : j < sz' := by have := (List.getElem?_eq_some_iff.1 hj).1; have := hz k el hk; omega
        have hlt : k * sz' + j < es.length * sz' := by
          have : k * sz' + sz' ≤ es.length * sz' := by rw [← Nat.succ_mul]; exact Nat.mul_le_mul_right _ hkl
          omega
        have e1 : (k * sz' + j) / sz' = k := by rw [Nat.mul_comm, Nat.mul_add_div (by omega)]; simp [Nat.div_eq_of_lt hjl]
        have e2 : (k * sz' + j) % sz' = j := by rw [Nat.mul_comm, Nat.mul_add_mod]; exact Nat.mod_eq_of_lt hjl
        refine ⟨u k j, ?_, h1 k j hkl hjl, hr k el j x hk hj⟩
        simp only
        rw [hxs _ hlt, e1, e2]
theorem src_row {tx e' et : TypeId} {sz : Nat} {w : Value} {es : List (List AV)} (hk : P.underlying tx = some (.slice e')) (hA : Blk.row w et sz es ∈ A) : SrcA P A sz tx (.sc w) es := by
  intro H G W p s h
  cases rel_sc h
  obtain ⟨xs, ho, hes⟩ := row_el (s.ok _ hA)
  refine ⟨xs, ?_, hes⟩
  have hone : ∀ u ∈ xs, u.oneCell' = true := fun u hu => by
    obtain ⟨q, hq⟩ := List.mem_iff_getElem?.1 hu
    have hlt : q < es.length * sz := by have := (List.getElem?_eq_some_iff.1 hq).1; have := ho.1; omega
    have hp : 0 < sz := Nat.pos_of_ne_zero (fun h => by subst h; simp at hlt)
    have d1 : q / sz < es.length := (Nat.div_lt_iff_lt_mul hp).2 hlt
    have d2 : q % sz < sz := Nat.mod_lt _ hp
    have he : es[q / sz]? = some es[q / sz] := List.getElem?_eq_getElem d1
    have hlen := (hes _ _ he).1
    obtain ⟨u', e1, e2, _⟩ := (hes _ _ he).2 (q % sz) _ (List.getElem?_eq_getElem (by omega))
    simp only at e1
    rw [Nat.mul_comm, Nat.div_add_mod, hq] at e1
    cases e1
    exact e2
  rcases ho.2 with ⟨rfl, h00⟩ | ⟨g, cap, cur, rfl, _, hg, hnc, hcm, hcs, htake⟩
  · have : es = [] := List.eq_nil_of_length_eq_zero h00
    subst this
    have : xs = [] := List.eq_nil_of_length_eq_zero (by simpa using ho.1)
    subst this
    exact Src.ofNil W hk 0
  · exact Src.ofSlice W hk _ _ cap xs ho.1 (ho.cells (g := g) rfl) hone
theorem src_nil {tx e' : TypeId} {sz : Nat} (hk : P.underlying tx = some (.slice e')) : SrcA P A sz tx (.sc (.slice none 0 0)) [] := fun H G W p s h => by
  cases rel_sc h; exact ⟨[], Src.ofNil W hk 0, fun k el h => by simp at h⟩
def byteEls (s : ByteArray) : List (List AV) := s.data.toList.map fun b => [.sc (.int .u8 b.toNat)]
theorem src_str {tx : TypeId} {s : ByteArray} (hk : P.underlying tx = some .string) : SrcA P A 1 tx (.sc (.string s)) (byteEls s) := fun H G W p sm h => by
  cases rel_sc h
  refine ⟨byteCells s, ?_, fun k el hk => ?_⟩
  · have := Src.ofString (P := P) W hk s
    simpa [byteEls] using this
  · simp only [byteEls, List.getElem?_map] at hk
    cases hb : s.data.toList[k]? with
    | none => rw [hb] at hk; cases hk
    | some b =>
      rw [hb] at hk
      cases hk
      refine ⟨rfl, fun j x hx => ?_⟩
      cases j with
      | zero => cases hx; exact ⟨_, by simp [byteCells, hb], rfl, .sc _⟩
      | succ j => simp at hx

theorem run_append_own_src {W : World} {t tx ty e : TypeId} {z : Value} {sz bytes : Nat} {w x : Value} {m m' : Nat} {xs news : List Value} (ht : P.underlying t = some (.slice e)) (hi : (P.info? e).map (fun i => (i.zero, i.size, i.bytes)) = some (some z, sz, bytes)) (hzs : z.cells.size = sz)
    (ho : W.ownsRow 0 e sz w m xs) (hs : Src P sz tx x m' news W) (h63 : m + m' ≤ maxLen) (hby : (m + m') * bytes ≤ 140737488355328) :
    ∃ w' W', (Builtin.append_ #[t, tx] ty #[w, x]).run P W = .ok w' W' ∧ W'.ownsRow 0 e sz w' (m + m') (xs ++ news) ∧ W.grownBy W' w.ownBlock ∧ ∀ b, w'.ownBlock = some b → w.ownBlock = some b ∨ W.heap.size ≤ b := by
  cases hinf : P.info? e with
  | none => rw [hinf] at hi; cases hi
  | some i =>
    rw [hinf] at hi
    simp only [Option.map_some, Option.some.injEq, Prod.mk.injEq] at hi
    obtain ⟨hz, rfl, rfl⟩ := hi
    have hsmall : m + m' ≤ 9223372036854775807 := by simp only [maxLen] at h63; omega
    have hlen : (xs ++ news).length = (m + m') * i.size := by rw [List.length_append, ho.1, hs.newsLen, Nat.add_mul]
    have grow : ∀ (base : Option Addr) (cap : Nat), w = .slice base m cap → cap < m + m' → (Builtin.firstCells i.size m (.slice base m cap)).run P W.drew = .ok xs.toArray W.drew → ∃ w' W', (Builtin.append_ #[t, tx] ty #[w, x]).run P W = .ok w' W' ∧ W'.ownsRow 0 e i.size w' (m + m') (xs ++ news) ∧ W.grownBy W' w.ownBlock ∧ ∀ b, w'.ownBlock = some b → w.ownBlock = some b ∨ W.heap.size ≤ b := fun base cap hw hcap hold => by
      have hr := run_append_grow_src (P := P) W t tx ty e i z ht hinf hz base m cap xs hold x m' news hs hcap (by omega) (growslice_fits (by omega) hby)
      refine ⟨_, _, by rw [hw]; exact hr, ⟨hlen, .inr ⟨W.heap.size, _, _, rfl, Nat.zero_le _, heap_alloc_new W.drew _, grownCap_ge W (m + m') cap e, grownCap_le_maxLen W (m + m') cap e h63, ?_, ?_⟩⟩, ⟨rfl, rfl, rfl, by simp, fun k hk _ => heap_alloc_old W.drew _ k hk⟩, fun b hb => ?_⟩
      · have hge := grownCap_ge W (m + m') cap e
        simp only [Array.size_append, List.size_toArray, size_zeroCells, hzs, hlen, ← Nat.add_mul]
        congr 1
        omega
      · simp only [Array.toList_append]
        rw [← hlen]
        exact List.take_left
      · simp [Value.ownBlock] at hb; right; omega
    rcases ho.2 with ⟨rfl, rfl⟩ | ⟨g, cap, cur, rfl, hb0, hg, hnc, hcm, hcs, htake⟩
    · have hx : xs = [] := List.eq_nil_of_length_eq_zero (by simpa using ho.1)
      subst hx
      by_cases hm : m' = 0
      · subst hm
        have hn : news = [] := List.eq_nil_of_length_eq_zero (by simpa using hs.newsLen)
        subst hn
        refine ⟨.slice none 0 0, W, ?_, World.ownsRow_nil W 0 e i.size, ⟨rfl, rfl, rfl, Nat.le_refl _, fun _ _ _ => rfl⟩, fun b hb => by cases hb⟩
        rcases hs.kind with ⟨e', hk⟩ | hk <;> simp [Builtin.append_, run_underlying ht, run_underlying hk, sizeOf, typeInfo, hinf, hs.len, hs.cells]
      · exact grow none 0 rfl (by omega) (run_firstCells_none W.drew i.size 0 0 0)
    · by_cases hroom : m + m' ≤ cap
      · have hfit : m * i.size + news.length ≤ cur.size := by rw [hs.newsLen, hcs, ← Nat.add_mul]; exact Nat.mul_le_mul_right _ hroom
        have hst := run_storeCells_at P g (m * i.size) e news 0 cur W hg (by simpa using hfit) hs.one
        simp only [Nat.add_zero] at hst
        have hr : (Builtin.append_ #[t, tx] ty #[.slice (some ⟨g, 0, none⟩) m cap, x]).run P W = .ok (.slice (some ⟨g, 0, none⟩) (m + m') cap) (W.setRow g (cur.toList.take (m * i.size) ++ news ++ cur.toList.drop (m * i.size + news.length)).toArray) := by
          rcases hs.kind with ⟨e', hk⟩ | hk <;> simp [Builtin.append_, run_underlying ht, run_underlying hk, sizeOf, typeInfo, hinf, hs.len, hroom, hs.cells, Addr.add_lit, hst]
        refine ⟨_, _, hr, ⟨hlen, .inr ⟨g, cap, _, rfl, hb0, setRow_heap W g cur _ e _ hg, hroom, hcm, ?_, ?_⟩⟩, ⟨rfl, rfl, rfl, by simp, fun k hk hk' => setRow_other W g k _ (fun e => hk' (by simp [Value.ownBlock, e]))⟩, fun b hb => .inl hb⟩
        · simp only [List.size_toArray, List.length_append, List.length_take, List.length_drop, Array.length_toList]
          omega
        · rw [htake, ← hlen]
          exact List.take_left
      · have holds : ∀ j u, xs[j]? = some u → W.drew.cell? ((⟨g, 0, none⟩ : Addr).add j) = some u := ho.cells (g := g) rfl
        exact grow (some ⟨g, 0, none⟩) cap rfl (by omega) (run_firstCells_some W.drew i.size m ⟨g, 0, none⟩ m cap xs ho.1 holds)

theorem relR_append {H : Hp} {els news : List (List AV)} {sz : Nat} {xs ys : List Value} (hl : xs.length = els.length * sz) (h : RelR H els sz (fun j => xs[j]?)) (k : RelR H news sz (fun j => ys[j]?)) : RelR H (els ++ news) sz (fun j => (xs ++ ys)[j]?) := by
  intro i el hi
  rcases Nat.lt_or_ge i els.length with hlt | hge
  · rw [List.getElem?_append_left hlt] at hi
    refine ⟨(h i el hi).1, fun j x hx => ?_⟩
    obtain ⟨u, e1, e2⟩ := (h i el hi).2 j x hx
    refine ⟨u, ?_, e2⟩
    simp only at e1 ⊢
    have := (List.getElem?_eq_some_iff.1 e1).1
    rw [List.getElem?_append_left this]
    exact e1
  · rw [List.getElem?_append_right hge] at hi
    refine ⟨(k _ el hi).1, fun j x hx => ?_⟩
    obtain ⟨u, e1, e2⟩ := (k _ el hi).2 j x hx
    refine ⟨u, ?_, e2⟩
    simp only at e1 ⊢
    have : i * sz = els.length * sz + (i - els.length) * sz := by rw [← Nat.add_mul]; congr 1; omega
    rw [List.getElem?_append_right (by omega), hl]
    rw [← e1]
    congr 1
    omega

theorem AOp.append {t tx e : TypeId} {z : Value} {sz bytes : Nat} {x y : Operand} {w : Value} {r : AV} {els news : List (List AV)} {A0 : List Blk} (ht : P.underlying t = some (.slice e)) (hi : (P.info? e).map (fun i => (i.zero, i.size, i.bytes)) = some (some z, sz, bytes)) (hzs : z.cells.size = sz)
    (hop : o.op = .call { callee := .builtin .append, args := #[x, y], argTypes := #[t, tx] }) (hx : ev v x = some (.sc w)) (hA : Pull A (.row w e sz els) A0) (hy : ev v y = some r) (hs : SrcA P A sz tx r news) (hl : (els.length + news.length) * bytes ≤ 140737488355328) (hb0 : 0 < bytes) (q : ∀ w', K (.sc w') (.row w' e sz (els ++ news) :: A0)) : AOp P o n v A K E := by
  intro H G W a s en next Q hn _
  have h1 := rel_sc (ev_rel en hx)
  obtain ⟨ys, hsrc, hrel⟩ := hs H G W _ s (ev_rel en hy)
  have s1 := s.perm hA
  obtain ⟨xs, ho, hels⟩ := row_el (s1.ok _ (List.mem_cons_self ..))
  have h63 : els.length + news.length ≤ maxLen := by
    have : (els.length + news.length) * 1 ≤ (els.length + news.length) * bytes := Nat.mul_le_mul_left _ hb0
    simp only [maxLen]; omega
  obtain ⟨w', W', hrun, ho', hg, hnew⟩ := run_append_own_src (ty := o.type) ht hi hzs ho hsrc h63 hl
  have hrun' : (execOp a.eval o).run P W = .ok (.value w') W' := by
    simp [execOp, hop, resolve, invoke, builtin, h1, hrun]
  unfold Oper.wp
  rw [hrun']
  refine hn H W' w' (.sc w') _ (Sub.refl H) ⟨hg.os, hg.tape, hg.output, hg.size⟩ (s1.upd (fun b hb hlt => hg.block b hlt (fun e => hb e.symm)) (y := .row w' e sz (els ++ news)) (row_ok (by rw [List.length_append]; exact ho') (relR_append ho.1 hels hrel)) (fun b hb => hnew b hb)) (.sc _) (q w')

/-! ### comparisons with nil -/
theorem run_eqNil {t e : TypeId} (hu : P.underlying t = some (.slice e)) (a : Option Addr) (n c : Nat) (W : World) : (binOp .eql t (.slice a n c) (.slice none 0 0)).run P W = .ok (.bool a.isNone) W := by
  have h : ∀ d : Nat, (Op.equalIn (d + 1) t (.slice a n c) (.slice none 0 0)).run P W = .ok a.isNone W := fun d => by cases a <;> simp [Op.equalIn, run_underlying hu]
  simp only [binOp]
  simp [Op.equal, Op.maxDepth, h 9999]
theorem AOp.eqNilS {t e t' : TypeId} {x y : Operand} {es : List (List AV)} (hu : P.underlying t = some (.slice e)) (hop : o.op = .binOp .eql t x y t') (hx : ev v x = some (.sl es)) (hy : ev v y = some (.sc (.slice none 0 0))) (q : ∀ b : Bool, (b = true → es = []) → K (.sc (.bool b)) A) : AOp P o n v A K E := by
  intro H G W a s en next Q hn _
  have h1 := ev_rel en hx
  have h2 := rel_sc (ev_rel en hy)
  generalize hp : a.eval x = p at h1
  cases h1 with
  | sl es sz ad c u hc ha hz h1 hr =>
    have hrun : (execOp a.eval o).run P W = .ok (.value (.bool ad.isNone)) W := by
      simp [execOp, hop, hp, h2, eqGuard, run_eqNil hu]
    unfold Oper.wp
    rw [hrun]
    refine hn H W _ _ _ (Sub.refl H) (Same.refl W) s (.sc _) (q _ (fun hb => ?_))
    cases es with
    | nil => rfl
    | cons e es => obtain ⟨b, off, rfl, _⟩ := ha (by simp); cases hb
theorem AOp.eqNilR {t e t' et : TypeId} {x y : Operand} {w : Value} {sz : Nat} {es : List (List AV)} (hu : P.underlying t = some (.slice e)) (hA : Blk.row w et sz es ∈ A) (hop : o.op = .binOp .eql t x y t') (hx : ev v x = some (.sc w)) (hy : ev v y = some (.sc (.slice none 0 0))) (q : ∀ b : Bool, (b = true → es = []) → K (.sc (.bool b)) A) : AOp P o n v A K E := by
  intro H G W a s en next Q hn _
  have h1 := rel_sc (ev_rel en hx)
  have h2 := rel_sc (ev_rel en hy)
  obtain ⟨xs, ho, _⟩ := row_el (s.ok _ hA)
  have main : ∀ (ad : Option Addr) (m c : Nat), w = .slice ad m c → (ad = none → es = []) → o.wp P a W next Q := fun ad m c hw hnil => by
    have hrun : (execOp a.eval o).run P W = .ok (.value (.bool ad.isNone)) W := by
      simp [execOp, hop, h1, hw, h2, eqGuard, run_eqNil hu]
    unfold Oper.wp
    rw [hrun]
    exact hn H W _ _ _ (Sub.refl H) (Same.refl W) s (.sc _) (q _ (fun hb => hnil (by simpa using hb)))
  rcases ho.2 with ⟨hw, h00⟩ | ⟨g, cap, cur, hw, _⟩
  · exact main none 0 0 hw (fun _ => List.eq_nil_of_length_eq_zero h00)
  · exact main _ _ cap hw (fun h => by cases h)
theorem AOp.eqNilN {t e t' : TypeId} {x y : Operand} (hu : P.underlying t = some (.slice e)) (hop : o.op = .binOp .eql t x y t') (hx : ev v x = some (.sc (.slice none 0 0))) (hy : ev v y = some (.sc (.slice none 0 0))) (q : K (.sc (.bool true)) A) : AOp P o n v A K E :=
  AOp.bin hop hx hy (fun W => rfl) (fun W => run_eqNil hu none 0 0 W) q

/-! ### clear -/
theorem AOp.clearO {t et : TypeId} {z : Value} {sz : Nat} {x : Operand} {w : Value} {k m : Nat} {els els' : List (List AV)} {A0 : List Blk} (hu : P.underlying t = some (.slice et)) (hz : ∀ W : World, (zeroValue et).run P W = .ok z W) (hzs : z.cells.size = sz) (h1 : z.cells.all (·.oneCell') = true) (h0 : 0 < sz)
    (hop : o.op = .call { callee := .builtin .clear, args := #[x], argTypes := #[t] }) (hx : ev v x = some (.os w sz k m)) (hA : Pull A (.row w et sz els) A0) (hkm : k + m = els.length) (hels' : els.take k ++ List.replicate m (z.cells.toList.map .sc) = els') (q : K .dd (.row w et sz els' :: A0)) : AOp P o n v A K E := by
  subst hels'
  intro H G W a s en next Q hn _
  have hrel := ev_rel en hx
  have s1 := s.perm hA
  obtain ⟨xs, ho, hels⟩ := row_el (s1.ok _ (List.mem_cons_self ..))
  generalize hp : a.eval x = p at hrel
  cases hrel with
  | os w sz' o' n' c n0 cap0 ad a0 hw hc hcap ha ha0 =>
    rcases Nat.eq_zero_or_pos m with hm | hm
    · subst hm
      have hrun : (execOp a.eval o).run P W = .ok (.value (.tuple #[])) W := by
        cases ad <;> simp [execOp, hop, resolve, invoke, builtin, hp, Builtin.clear_, run_underlying hu]
      unfold Oper.wp
      rw [hrun]
      refine hn H W _ _ _ (Sub.refl H) (Same.refl W) ?_ (.dd _) q
      have : els.take k ++ List.replicate 0 (z.cells.toList.map AV.sc) = els := by rw [List.replicate_zero, List.append_nil]; exact List.take_of_length_le (by omega)
      rw [this]
      exact s1
    · obtain ⟨b, hb1, hb2⟩ := ha hm
      rcases ho.2 with ⟨e1, h00⟩ | ⟨g, cap, cur, e1, _, hg, hnc, hcm, hcs, htake⟩
      · omega
      · rw [hw] at e1
        cases e1
        cases hb1
        subst hb2
        have hin : k * sz + m * sz = els.length * sz := by rw [← Nat.add_mul, hkm]
        have hcapl : els.length * sz ≤ cap0 * sz := Nat.mul_le_mul_right _ hnc
        have hfit0 : k * sz + m * sz ≤ cur.size := by rw [hin, hcs]; exact hcapl
        have hzl : (Builtin.zeroCells z.cells m).toList.length = m * sz := by simp [size_zeroCells, hzs]
        have hzget : ∀ j, j < m * sz → (Builtin.zeroCells z.cells m).toList[j]? = some (z.cells[j % z.cells.size]!) := fun j hj => by
          have : j < m * z.cells.size := by rw [hzs]; exact hj
          simp [Builtin.zeroCells, this]
        have hzone : ∀ u ∈ (Builtin.zeroCells z.cells m).toList, u.oneCell' = true := fun u hu' => by
          obtain ⟨j, hj⟩ := List.mem_iff_getElem?.1 hu'
          have hlt : j < m * sz := by have := (List.getElem?_eq_some_iff.1 hj).1; omega
          rw [hzget j hlt] at hj
          cases hj
          have hmod : j % z.cells.size < z.cells.size := Nat.mod_lt _ (by omega)
          rw [getElem!_pos z.cells _ hmod]
          exact Array.all_eq_true.1 h1 _ hmod
        have hst := run_storeCells_at P b (k * sz) et (Builtin.zeroCells z.cells m).toList 0 cur W hg (by simp only [hzl, Nat.add_zero]; rw [hin, hcs]; exact hcapl) hzone
        simp only [Nat.add_zero] at hst
        have hrun : (execOp a.eval o).run P W = .ok (.value (.tuple #[])) (W.setRow b (splice cur.toList (k * sz) (Builtin.zeroCells z.cells m).toList).toArray) := by
          have hm' : m ≠ 0 := by omega
          obtain ⟨m0, rfl⟩ : ∃ m0, m = m0 + 1 := ⟨m - 1, by omega⟩
          simp [execOp, hop, resolve, invoke, builtin, hp, Builtin.clear_, run_underlying hu, hz, hst, splice]
        unfold Oper.wp
        rw [hrun]
        have hsp : k * sz + (Builtin.zeroCells z.cells m).toList.length ≤ cur.toList.length := by simp only [hzl, Array.length_toList]; rw [hin, hcs]; exact hcapl
        have hspx : k * sz + (Builtin.zeroCells z.cells m).toList.length ≤ xs.length := by rw [hzl, ho.1]; exact Nat.le_of_eq hin
        have hlen' : (els.take k ++ List.replicate m (z.cells.toList.map AV.sc)).length = els.length := by simp; omega
        have hnew : (W.setRow b (splice cur.toList (k * sz) (Builtin.zeroCells z.cells m).toList).toArray).ownsRow 0 et sz (.slice (some ⟨b, 0, none⟩) els.length cap0) els.length (splice xs (k * sz) (Builtin.zeroCells z.cells m).toList) := by
          refine ⟨by rw [splice_length hspx]; exact ho.1, .inr ⟨b, cap0, _, rfl, Nat.zero_le _, setRow_heap W b cur _ et _ hg, hnc, hcm, ?_, ?_⟩⟩
          · simp only [List.size_toArray]; rw [splice_length hsp]; simpa using hcs
          · apply List.ext_getElem?
            intro p
            simp only [List.getElem?_take]
            rw [splice_get hspx, splice_get hsp, ← htake, List.getElem?_take]
            by_cases hp' : p < els.length * sz
            · simp [hp']
            · rw [if_neg hp', if_neg (by rw [hzl]; omega), if_neg hp']
        subst hw
        refine hn H _ _ .dd _ (Sub.refl H) (same_setRow W b _) (s1.upd (fun b' hb' _ => setRow_other W b b' _ (fun e => hb' (by simp [Blk.own, Value.ownBlock, e]))) (y := .row _ et sz (els.take k ++ List.replicate m (z.cells.toList.map AV.sc))) (row_ok (xs := splice xs (k * sz) (Builtin.zeroCells z.cells m).toList) (by rw [hlen']; exact hnew) ?_) (fun b' hb' => .inl hb')) (.dd _) q
        intro i el hi'
        rcases Nat.lt_or_ge i k with hik | hik
        · rw [List.getElem?_append_left (by simp; omega), List.getElem?_take, if_pos hik] at hi'
          refine ⟨(hels i el hi').1, fun j x hx => ?_⟩
          obtain ⟨u, e1, e2⟩ := (hels i el hi').2 j x hx
          refine ⟨u, ?_, e2⟩
          have hj : j < sz := by have := (List.getElem?_eq_some_iff.1 hx).1; have := (hels i el hi').1; omega
          have : i * sz + sz ≤ k * sz := by rw [← Nat.succ_mul]; exact Nat.mul_le_mul_right _ hik
          simp only at e1 ⊢
          rw [splice_get hspx, if_neg (by omega)]
          exact e1
        · have hlk : (els.take k).length = k := by simp; omega
          rw [List.getElem?_append_right (by omega), hlk, List.getElem?_replicate] at hi'
          split at hi'
          · rename_i him
            cases hi'
            refine ⟨by simpa using hzs, fun j x hx => ?_⟩
            simp only [List.getElem?_map, Array.getElem?_toList] at hx
            cases hv : z.cells[j]? with
            | none => rw [hv] at hx; cases hx
            | some u =>
              rw [hv] at hx
              cases hx
              obtain ⟨hj, ej⟩ := Array.getElem?_eq_some_iff.1 hv
              have hone := Array.all_eq_true.1 h1 j hj
              have e3 : i * sz = k * sz + (i - k) * sz := by rw [← Nat.add_mul]; congr 1; omega
              have e4 : (i - k) * sz + sz ≤ m * sz := by rw [← Nat.succ_mul]; exact Nat.mul_le_mul_right _ him
              refine ⟨u, ?_, by rw [← ej]; exact hone, .sc u⟩
              simp only
              rw [splice_get hspx, if_pos (by rw [hzl]; omega)]
              have e5 : i * sz + j - k * sz = (i - k) * sz + j := by omega
              rw [e5, hzget _ (by omega)]
              have hmod : ((i - k) * sz + j) % z.cells.size = j := by
                rw [hzs, Nat.mul_comm, Nat.mul_add_mod]; exact Nat.mod_eq_of_lt (by omega)
              rw [hmod, getElem!_pos z.cells j hj, ej]
          · cases hi'
end
end Go.Aw
