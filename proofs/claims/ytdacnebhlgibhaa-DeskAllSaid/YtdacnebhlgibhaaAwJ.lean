/- Own text: comparisons of structs, the greatest, copies, parts beyond a row's end, and rows that turn into slices that stay (part J). -/
import Derived.Test.YtdacnebhlgibhaaAwI
import Derived.Laws.StructEq
import Derived.Laws.CopyRow
import Derived.Laws.Small
import Derived.Lib.AppendZerosOnto
import Derived.Lib.Overlaps
set_option linter.unusedVariables false
set_option linter.unusedSimpArgs false
namespace Go.Aw
open Go

theorem rel_ag_sc {H : Hp} {vs : List Value} {u : Value} (h : Rel H (.ag (vs.map .sc)) u) : u = .agg vs.toArray := by
  cases h with
  | ag cs f ws hs hv h1 hr =>
    congr 1
    apply Array.ext
    · simpa using hs
    · intro j h2 h3
      have hj : j < (vs.map AV.sc).length := by omega
      have e1 := hv j hj
      have e2 := hr j (.sc (vs[j]'(by simpa using h3))) (by simp [List.getElem?_map, List.getElem?_eq_getElem (show j < vs.length by simpa using h3)])
      have e3 : f j = _ := rel_sc e2
      rw [Array.getElem?_eq_getElem h2, e3] at e1
      simpa using Option.some.inj e1

def capOf : Value → Nat | .slice _ _ c => c | _ => 0
def relen : Value → Nat → Value | .slice a _ c, n => .slice a n c | v, _ => v

/-- A row that a function leaves, told as a slice that stays. -/
theorem acalls_freeze {P : Program} {f : FuncId} {args : List AV} {A : List Blk} {e : TypeId} {sz : Nat} {els : List (List AV)} (h : ACalls P f args A (fun r A' => ∃ w, r = .sc w ∧ A' = [.row w e sz els]) (fun _ _ => False)) :
    ACalls P f args A (fun r A' => r = .sl els ∧ A' = []) (fun _ _ => False) :=
  fun H G W vs s a => (h H G W vs s a).mono fun x W' ⟨H', A', h1, h2, h3, h4⟩ => by
    rcases h4 with ⟨u, r, rfl, hr, w, rfl, rfl⟩ | ⟨u, r, _, _, hf⟩
    · obtain ⟨H2, k1, k2, k3, _⟩ := rel_frozen h3
      have := rel_sc hr; subst this
      exact ⟨H2, [], h1.trans k1, h2, k2, .inl ⟨_, _, rfl, k3, rfl, rfl⟩⟩
    · exact hf.elim

section
variable {P : Program} {o : Oper} {n : Nat} {v : Env} {A : List Blk} {K : AV → List Blk → Prop} {E : AV → List Blk → Prop}
theorem AOp.binA {op : BinOp} {ty ty' : TypeId} {x y : Operand} {xs ys : List Value} {cs ds : List AV} {c : Value} (hcs : cs = xs.map .sc) (hds : ds = ys.map .sc) (hop : o.op = .binOp op ty x y ty') (hx : ev v x = some (.ag cs)) (hy : ev v y = some (.ag ds))
    (hg : ∀ W : World, (eqGuard op ty x y (.agg xs.toArray) (.agg ys.toArray)).run P W = .ok () W) (hr : ∀ W : World, (binOp op ty (.agg xs.toArray) (.agg ys.toArray)).run P W = .ok c W) (k : K (.sc c) A) : AOp P o n v A K E := by
  subst hcs hds
  exact AOp.val (fun H G W ac s e => ⟨_, by have h1 := rel_ag_sc (ev_rel e hx); have h2 := rel_ag_sc (ev_rel e hy); simp [execOp, hop, h1, h2, hg, hr], .sc _⟩) k

theorem AOp.indexLN {α : Type} {f : α → List AV} {l : List α} {t e : TypeId} {x y : Operand} {k : IntKind} {i : Nat} {s : Nat} (hu : P.underlying t = some (.slice e)) (hs : ∀ W : World, (sizeOf e).run P W = .ok s W) (hop : o.op = .indexAddr t x y) (hx : ev v x = some (.sl (l.map f))) (hy : ev v y = some (.sc (.int k (i : Int)))) (hi : i < l.length) (hf : ∀ x, (f x).length = s) (q : K (.im (f l[i])) A) : AOp P o n v A K E :=
  AOp.indexS hu hs (len_map hf) hop hx hy (by omega) (idx_nat hi) q
theorem AOp.indexLI {α : Type} {f : α → List AV} {l : List α} {t e : TypeId} {x y : Operand} {k : IntKind} {i : Int} {s : Nat} (hu : P.underlying t = some (.slice e)) (hs : ∀ W : World, (sizeOf e).run P W = .ok s W) (hop : o.op = .indexAddr t x y) (hx : ev v x = some (.sl (l.map f))) (hy : ev v y = some (.sc (.int k i))) (h0 : 0 ≤ i) (hi : i.toNat < l.length) (hf : ∀ x, (f x).length = s) (q : K (.im (f l[i.toNat])) A) : AOp P o n v A K E :=
  AOp.indexS hu hs (len_map hf) hop hx hy h0 (idx_map hi) q
theorem AOp.max2 {t t' : TypeId} {x y : Operand} {k k' : IntKind} {a b : Int} (hop : o.op = .call { callee := .builtin .max, args := #[x, y], argTypes := #[t, t'] }) (hx : ev v x = some (.sc (.int k a))) (hy : ev v y = some (.sc (.int k' b))) (q : K (.sc (.int k (max a b))) A) : AOp P o n v A K E :=
  AOp.val (fun H G W ac s e => ⟨_, by
    have h1 := rel_sc (ev_rel e hx); have h2 := rel_sc (ev_rel e hy)
    simp [execOp, hop, resolve, invoke, builtin, h1, h2, run_max_int2]
    rfl, by
    have : (if b > a then b else a) = max a b := by rw [Int.max_def]; split <;> split <;> omega
    rw [this]; exact .sc _⟩) q

/-! ### parts of a row, beyond its end too -/
theorem AOp.capR {t e e' : TypeId} {x : Operand} {w : Value} {sz : Nat} {els : List (List AV)} (hu : P.underlying t = some (.slice e)) (hA : Blk.row w e' sz els ∈ A) (hop : o.op = .call { callee := .builtin .cap, args := #[x], argTypes := #[t] }) (hx : ev v x = some (.sc w)) (q : K (.sc (.int .i64 (capOf w : Nat))) A) : AOp P o n v A K E := by
  refine AOp.val (fun H G W ac sm en => ?_) q
  have h1 := rel_sc (ev_rel en hx)
  cases sm.ok _ hA with
  | row w e sz els xs ho hz u hu' h1' hr =>
    obtain ⟨a, c, rfl⟩ := own_slice ho
    exact ⟨_, by simp [execOp, hop, resolve, invoke, builtin, h1, Builtin.cap_, run_underlying hu, goInt, capOf], .sc _⟩
theorem AOp.cutX {t et : TypeId} {e' : TypeId} {sz : Nat} {x : Operand} {lo hi : Option Operand} {w : Value} {els : List (List AV)} {l h m : Nat} (hu : P.underlying t = some (.slice et)) (hsz : ∀ W : World, (sizeOf et).run P W = .ok sz W) (hA : Blk.row w e' sz els ∈ A) (hop : o.op = .slice t x lo hi none) (hx : ev v x = some (.sc w)) (hlo : Bd v lo 0 l) (hhi : Bd v hi els.length h) (hlh : l ≤ h) (hhc : h ≤ capOf w) (hm : h - l = m) (q : K (.os w sz l m) A) : AOp P o n v A K E := by
  subst hm
  refine AOp.val (fun H G W a sm e => ?_) q
  have h1 := rel_sc (ev_rel e hx)
  obtain ⟨xs, ho, _⟩ := row_el (sm.ok _ hA)
  have main : ∀ (ad : Option Addr) (c : Nat), w = .slice ad els.length c → (0 < c → ∃ b, ad = some ⟨b, 0, none⟩) → ∃ u, (execOp a.eval o).run P W = .ok (.value u) W ∧ Rel H (.os w sz l (h - l)) u := fun ad c hw hb => by
    have hc : h ≤ c := by rw [hw] at hhc; exact hhc
    refine ⟨.slice (if c = l then ad else ad.map (·.add (l * sz))) (h - l) (c - l), ?_, .os w sz l (h - l) _ els.length c _ ad hw rfl (by omega) (fun hp => ?_) (fun h0 => ?_)⟩
    · simp [execOp, hop, Instr.sliceAt, Instr.slice, run_underlying hu, h1, hw, run_bounds e hlo hhi hlh hc, hsz]
    · obtain ⟨b, rfl⟩ := hb (by omega)
      exact ⟨b, rfl, by rw [if_neg (by omega)]; simp [add_plain]⟩
    · subst h0
      split
      · rfl
      · cases ad with
        | none => rfl
        | some ad => simp [Addr.add]
  rcases ho.2 with ⟨hw, h00⟩ | ⟨g, cap, cur, hw, _, hg, hnc, hcm, hcs, htake⟩
  · exact main none 0 (by rw [hw, h00]) (fun hp => by omega)
  · exact main _ cap hw (fun _ => ⟨g, rfl⟩)
theorem AOp.cutO {t et : TypeId} {sz : Nat} {x : Operand} {lo hi : Option Operand} {w : Value} {k m l h m' : Nat} (hu : P.underlying t = some (.slice et)) (hsz : ∀ W : World, (sizeOf et).run P W = .ok sz W) (hop : o.op = .slice t x lo hi none) (hx : ev v x = some (.os w sz k m)) (hlo : Bd v lo 0 l) (hhi : Bd v hi m h) (hlh : l ≤ h) (hhc : h ≤ m) (hm : h - l = m') (q : K (.os w sz (k + l) m') A) : AOp P o n v A K E := by
  subst hm
  refine AOp.val (fun H G W a sm e => ?_) q
  have h1 := ev_rel e hx
  generalize hp : a.eval x = p at h1
  cases h1 with
  | os v sz' o' n' c n0 cap ad a0 hv hc hn ha h0 =>
    refine ⟨.slice (if c = l then ad else ad.map (·.add (l * sz))) (h - l) (c - l), ?_, .os w sz (k + l) (h - l) _ n0 cap _ a0 hv (by omega) (by omega) (fun hq => ?_) (fun h3 => ?_)⟩
    · simp [execOp, hop, Instr.sliceAt, Instr.slice, run_underlying hu, hp, run_bounds e hlo hhi hlh (by omega : h ≤ c), hsz]
    · obtain ⟨b, rfl, rfl⟩ := ha (by omega)
      exact ⟨b, rfl, by rw [if_neg (by omega)]; simp [add_plain, Nat.add_mul]⟩
    · have hk : k = 0 := by omega
      have hl : l = 0 := by omega
      subst hk hl
      rw [h0 rfl]
      split
      · rfl
      · cases a0 with
        | none => rfl
        | some ad => simp [Addr.add]

/-- What a copy reads: so many elements of so many. -/
def SrcC (P : Program) (A : List Blk) (sz N : Nat) (r : AV) (news : List (List AV)) : Prop :=
  ∀ (H G : Hp) (W : World) (u : Value), Sim H G A W → Rel H r u → ∃ xs : List Value, (Builtin.lenOf u).run P W = .ok N W ∧ (Builtin.firstCells sz news.length u).run P W = .ok xs.toArray W ∧ xs.length = news.length * sz ∧ (∀ x ∈ xs, x.oneCell' = true) ∧ RelR H news sz (fun j => xs[j]?)
theorem srcC_of {sz : Nat} {tx : TypeId} {r : AV} {news : List (List AV)} (h : SrcA P A sz tx r news) : SrcC P A sz news.length r news := fun H G W u s hr => by
  obtain ⟨xs, hs, hr⟩ := h H G W u s hr
  exact ⟨xs, hs.len W, hs.cells, hs.newsLen, hs.one, hr⟩
theorem relR_one {H : Hp} {els : List (List AV)} {sz : Nat} {xs : List Value} (hl : xs.length = els.length * sz) (h : RelR H els sz (fun j => xs[j]?)) : ∀ u ∈ xs, u.oneCell' = true := fun u hu => by
  obtain ⟨q, hq⟩ := List.mem_iff_getElem?.1 hu
  have hlt : q < els.length * sz := by have := (List.getElem?_eq_some_iff.1 hq).1; omega
  have hp : 0 < sz := Nat.pos_of_ne_zero (fun h => by subst h; simp at hlt)
  have d1 : q / sz < els.length := (Nat.div_lt_iff_lt_mul hp).2 hlt
  have d2 : q % sz < sz := Nat.mod_lt _ hp
  have he : els[q / sz]? = some els[q / sz] := List.getElem?_eq_getElem d1
  have hlen := (h _ _ he).1
  obtain ⟨u', e1, e2, _⟩ := (h _ _ he).2 (q % sz) _ (List.getElem?_eq_getElem (by omega))
  simp only at e1
  rw [Nat.mul_comm, Nat.div_add_mod, hq] at e1
  cases e1
  exact e2
/-- Some elements of a row, from its cells. -/
theorem relR_part {H : Hp} {els : List (List AV)} {sz k m : Nat} {xs : List Value} (hl : xs.length = els.length * sz) (hkm : k + m ≤ els.length) (h : RelR H els sz (fun j => xs[j]?)) :
    ((xs.drop (k * sz)).take (m * sz)).length = m * sz ∧ RelR H ((els.drop k).take m) sz (fun j => ((xs.drop (k * sz)).take (m * sz))[j]?) := by
  have h1 : k * sz + m * sz ≤ els.length * sz := by rw [← Nat.add_mul]; exact Nat.mul_le_mul_right _ hkm
  refine ⟨by simp; omega, fun i el hi => ?_⟩
  rw [List.getElem?_take] at hi
  split at hi
  · rename_i him
    rw [List.getElem?_drop] at hi
    refine ⟨(h _ _ hi).1, fun j x hj => ?_⟩
    obtain ⟨u, e1, e2⟩ := (h _ _ hi).2 j x hj
    refine ⟨u, ?_, e2⟩
    have hjs : j < sz := by have := (List.getElem?_eq_some_iff.1 hj).1; have := (h _ _ hi).1; omega
    have h2 : i * sz + sz ≤ m * sz := by rw [← Nat.succ_mul]; exact Nat.mul_le_mul_right _ him
    simp only at e1 ⊢
    rw [List.getElem?_take, if_pos (by omega), List.getElem?_drop, ← e1]
    congr 1
    rw [Nat.add_mul]; omega
  · cases hi
theorem srcC_os {w : Value} {et : TypeId} {sz k N m : Nat} {els : List (List AV)} (hA : Blk.row w et sz els ∈ A) (hm0 : 0 < m) (hmN : m ≤ N) (hkm : k + m ≤ els.length) : SrcC P A sz N (.os w sz k N) ((els.drop k).take m) := fun H G W u s hr => by
  obtain ⟨xs, ho, hels⟩ := row_el (s.ok _ hA)
  have hlen : ((els.drop k).take m).length = m := by simp; omega
  obtain ⟨p1, p2⟩ := relR_part ho.1 hkm hels
  cases hr with
  | os v sz' o' n' c n0 cap ad a0 hv hc hn ha h0 =>
    obtain ⟨b, rfl, rfl⟩ := ha (by omega)
    refine ⟨(xs.drop (k * sz)).take (m * sz), rfl, ?_, by rw [hlen]; exact p1, relR_one (by rw [hlen]; exact p1) p2, p2⟩
    have hcell : ∀ j x, ((xs.drop (k * sz)).take (m * sz))[j]? = some x → W.cell? ((⟨b, k * sz, none⟩ : Addr).add j) = some x := fun j x hj => by
      rw [List.getElem?_take] at hj
      split at hj
      · rw [List.getElem?_drop] at hj
        have := ho.cells (g := b) (by rw [hv]; rfl) _ _ hj
        rw [add_plain] at this ⊢
        simpa using this
      · cases hj
    have := run_loadCells_list (P := P) W ⟨b, k * sz, none⟩ _ hcell
    rw [p1] at this
    simp only [Builtin.firstCells, hlen]
    exact this

theorem src_os {tx e' et : TypeId} {w : Value} {sz k m : Nat} {els : List (List AV)} (hk : P.underlying tx = some (.slice e')) (hA : Blk.row w et sz els ∈ A) (hkm : k + m ≤ els.length) : SrcA P A sz tx (.os w sz k m) ((els.drop k).take m) := fun H G W u s hr => by
  obtain ⟨xs, ho, hels⟩ := row_el (s.ok _ hA)
  have hlen : ((els.drop k).take m).length = m := by simp; omega
  obtain ⟨p1, p2⟩ := relR_part ho.1 hkm hels
  cases hr with
  | os v sz' o' n' c n0 cap ad a0 hv hc hn ha h0 =>
    rcases Nat.eq_zero_or_pos m with hm | hm
    · subst hm
      refine ⟨[], ?_, fun k el h => by simp at h⟩
      rw [hlen]
      cases ad with
      | none => exact Src.ofNil W hk c
      | some ad => exact Src.ofSlice W hk ad 0 c [] (by simp) (fun j u h => by simp at h) (fun u h => by cases h)
    · obtain ⟨b, rfl, rfl⟩ := ha hm
      refine ⟨(xs.drop (k * sz)).take (m * sz), ?_, p2⟩
      rw [hlen]
      refine Src.ofSlice W hk _ _ c _ p1 (fun j x hj => ?_) (relR_one (by rw [hlen]; exact p1) p2)
      rw [List.getElem?_take] at hj
      split at hj
      · rw [List.getElem?_drop] at hj
        have := ho.cells (g := b) (by rw [hv]; rfl) _ _ hj
        rw [add_plain] at this ⊢
        simpa using this
      · cases hj

/-- A copy into a part of a row, which may come to be longer by it. -/
theorem AOp.copyO {t tx et : TypeId} {x y : Operand} {w : Value} {r : AV} {sz k m N : Nat} {els news els' : List (List AV)} {A0 : List Blk} (hu : P.underlying t = some (.slice et)) (hsz : ∀ W : World, (sizeOf et).run P W = .ok sz W)
    (hop : o.op = .call { callee := .builtin .copy, args := #[x, y], argTypes := #[t, tx] }) (hx : ev v x = some (.os w sz k m)) (hy : ev v y = some r) (hA : Pull A (.row w et sz els) A0) (hs : SrcC P A sz N r news) (hmin : news.length = min N m) (h0 : 0 < news.length) (hk : k ≤ els.length)
    (hels' : els.take k ++ news ++ els.drop (k + news.length) = els') (q : ∀ w', w' = relen w els'.length → (els'.length = els.length → w' = w) → K (.sc (.int .i64 (news.length : Nat))) (.row w' et sz els' :: A0)) : AOp P o n v A K E := by
  subst hels'
  intro H G W a s en next Q hn _
  have hrel := ev_rel en hx
  obtain ⟨ys, hl, hf, hyl, hy1, hyr⟩ := hs H G W _ s (ev_rel en hy)
  have s1 := s.perm hA
  obtain ⟨xs, ho, hels⟩ := row_el (s1.ok _ (List.mem_cons_self ..))
  generalize hp : a.eval x = p at hrel
  cases hrel with
  | os w sz' o' n' c n0 cap0 ad a0 hw hc hcap ha ha0 =>
    obtain ⟨b, hb1, hb2⟩ := ha (by omega)
    rcases ho.2 with ⟨e1, h00⟩ | ⟨g, cap, cur, e1, _, hg, hnc, hcm, hcs, htake⟩
    · rw [hw, hb1] at e1; cases e1
    · rw [hw] at e1
      cases e1
      cases hb1
      subst hb2
      have hkn : k + news.length ≤ cap0 := by omega
      have hfit : k * sz + ys.length ≤ cur.size := by rw [hyl, ← Nat.add_mul, hcs]; exact Nat.mul_le_mul_right _ hkn
      have hst := run_storeCells_at P b (k * sz) et ys 0 cur W hg (by simpa using hfit) hy1
      simp only [Nat.add_zero] at hst
      have hrun : (execOp a.eval o).run P W = .ok (.value (goInt news.length)) (W.setRow b (splice cur.toList (k * sz) ys).toArray) := by
        simp [execOp, hop, resolve, invoke, builtin, hp, Builtin.copy_, run_underlying hu, hl, hsz, ← hmin, hf, hst, splice]
      unfold Oper.wp
      rw [hrun]
      have hsp : k * sz + ys.length ≤ cur.toList.length := by simpa using hfit
      generalize hN : (els.take k ++ news ++ els.drop (k + news.length)).length = N'
      have hN' : N' = max els.length (k + news.length) := by rw [← hN]; simp; omega
      have hcur : ∀ p, p < els.length * sz → cur.toList[p]? = xs[p]? := fun p hp' => by rw [← htake, List.getElem?_take, if_pos hp']
      have hNcap : N' ≤ cap0 := by omega
      have hnew : (W.setRow b (splice cur.toList (k * sz) ys).toArray).ownsRow 0 et sz (.slice (some ⟨b, 0, none⟩) N' cap0) N' ((splice cur.toList (k * sz) ys).take (N' * sz)) := by
        refine ⟨?_, .inr ⟨b, cap0, _, rfl, Nat.zero_le _, setRow_heap W b cur _ et _ hg, hNcap, hcm, ?_, ?_⟩⟩
        · rw [List.length_take, splice_length hsp]
          have : N' * sz ≤ cap0 * sz := Nat.mul_le_mul_right _ hNcap
          rw [Nat.min_eq_left]
          simpa [hcs] using this
        · simp only [List.size_toArray]; rw [splice_length hsp]; simpa using hcs
        · simp
      subst hw
      refine hn H _ _ _ _ (Sub.refl H) (same_setRow W b _) (s1.upd (fun b' hb' _ => setRow_other W b b' _ (fun e => hb' (by simp [Blk.own, Value.ownBlock, e]))) (y := .row (relen (.slice (some ⟨b, 0, none⟩) els.length cap0) N') et sz (els.take k ++ news ++ els.drop (k + news.length))) (row_ok (xs := (splice cur.toList (k * sz) ys).take (N' * sz)) (by rw [hN]; exact hnew) ?_) (fun b' hb' => .inl hb')) (by exact .sc _) (q _ (by rw [hN]) (by rw [hN]; intro h; rw [h]; rfl))
      intro i el hi'
      have hiN : i < N' := by rw [← hN]; exact (List.getElem?_eq_some_iff.1 hi').1
      have hiNs : i * sz + sz ≤ N' * sz := by rw [← Nat.succ_mul]; exact Nat.mul_le_mul_right _ hiN
      have key : el.length = sz ∧ ∀ j x, el[j]? = some x → ∃ u, (splice cur.toList (k * sz) ys)[i * sz + j]? = some u ∧ u.oneCell' = true ∧ Rel H x u := by
        rcases Nat.lt_or_ge i k with hik | hik
        · rw [List.append_assoc, List.getElem?_append_left (by simp; omega), List.getElem?_take, if_pos hik] at hi'
          refine ⟨(hels i el hi').1, fun j x hx => ?_⟩
          obtain ⟨u, e1, e2⟩ := (hels i el hi').2 j x hx
          refine ⟨u, ?_, e2⟩
          have hj : j < sz := by have := (List.getElem?_eq_some_iff.1 hx).1; have := (hels i el hi').1; omega
          have h3 : i * sz + sz ≤ k * sz := by rw [← Nat.succ_mul]; exact Nat.mul_le_mul_right _ hik
          have h4 : k * sz ≤ els.length * sz := Nat.mul_le_mul_right _ hk
          simp only at e1
          rw [splice_get hsp, if_neg (by omega), hcur _ (by omega)]
          exact e1
        · have hlk : (els.take k).length = k := by simp; omega
          rcases Nat.lt_or_ge i (k + news.length) with hik2 | hik2
          · rw [List.append_assoc, List.getElem?_append_right (by omega), hlk, List.getElem?_append_left (by omega)] at hi'
            refine ⟨(hyr _ el hi').1, fun j x hx => ?_⟩
            obtain ⟨u, e1, e2⟩ := (hyr _ el hi').2 j x hx
            refine ⟨u, ?_, e2⟩
            have hj : j < sz := by have := (List.getElem?_eq_some_iff.1 hx).1; have := (hyr _ el hi').1; omega
            have e3 : i * sz = k * sz + (i - k) * sz := by rw [← Nat.add_mul]; congr 1; omega
            have e4 : (i - k) * sz + sz ≤ news.length * sz := by rw [← Nat.succ_mul]; exact Nat.mul_le_mul_right _ (by omega)
            simp only at e1
            rw [splice_get hsp, if_pos (by omega), show i * sz + j - k * sz = (i - k) * sz + j by omega]
            exact e1
          · rw [List.getElem?_append_right (by simp; omega), List.getElem?_drop] at hi'
            have hii : k + news.length + (i - (els.take k ++ news).length) = i := by simp; omega
            rw [hii] at hi'
            refine ⟨(hels i el hi').1, fun j x hx => ?_⟩
            obtain ⟨u, e1, e2⟩ := (hels i el hi').2 j x hx
            refine ⟨u, ?_, e2⟩
            have hil := (List.getElem?_eq_some_iff.1 hi').1
            have hj : j < sz := by have := (List.getElem?_eq_some_iff.1 hx).1; have := (hels i el hi').1; omega
            have h3 : k * sz + ys.length ≤ i * sz := by rw [hyl, ← Nat.add_mul]; exact Nat.mul_le_mul_right _ hik2
            have h4 : i * sz + sz ≤ els.length * sz := by rw [← Nat.succ_mul]; exact Nat.mul_le_mul_right _ hil
            simp only at e1
            rw [splice_get hsp, if_neg (by omega), hcur _ (by omega)]
            exact e1
      refine ⟨key.1, fun j x hx => ?_⟩
      obtain ⟨u, e1, e2⟩ := key.2 j x hx
      refine ⟨u, ?_, e2⟩
      have hj : j < sz := by have := (List.getElem?_eq_some_iff.1 hx).1; have := key.1; omega
      simp only
      rw [List.getElem?_take, if_pos (by omega)]
      exact e1

/-- A copy into a part of a row, within its length. -/
theorem AOp.copyI {t tx et : TypeId} {x y : Operand} {w : Value} {r : AV} {sz k m N : Nat} {els news els' : List (List AV)} {A0 : List Blk} (hu : P.underlying t = some (.slice et)) (hsz : ∀ W : World, (sizeOf et).run P W = .ok sz W)
    (hop : o.op = .call { callee := .builtin .copy, args := #[x, y], argTypes := #[t, tx] }) (hx : ev v x = some (.os w sz k m)) (hy : ev v y = some r) (hA : Pull A (.row w et sz els) A0) (hs : SrcC P A sz N r news) (hmin : news.length = min N m) (h0 : 0 < news.length) (hk : k + news.length ≤ els.length)
    (hels' : els.take k ++ news ++ els.drop (k + news.length) = els') (q : K (.sc (.int .i64 (news.length : Nat))) (.row w et sz els' :: A0)) : AOp P o n v A K E :=
  AOp.copyO hu hsz hop hx hy hA hs hmin h0 (by omega) hels' (fun w' _ h => by rw [h (by rw [← hels']; simp; omega)]; exact q)

/-- A part from a row's begin on, made longer by noughts than the row's room: a new row. -/
theorem AOp.growO {t tn et : TypeId} {z : Value} {sz bytes : Nat} {x y : Operand} {w : Value} {i k : Nat} {kq kn : IntKind} {els els' : List (List AV)} (hz0 : ∀ W : World, (zeroValue et).run P W = .ok z W) (hs0 : ∀ W : World, (sizeOf et).run P W = .ok sz W) (ht : P.underlying t = some (.slice et)) (htn : P.underlying tn = some (.int kn)) (hi : (P.info? et).map (fun i => (i.zero, i.size, i.bytes)) = some (some z, sz, bytes)) (hzs : z.cells.size = sz) (h1 : z.cells.all (·.oneCell') = true) (hsz : 0 < sz)
    (hop : o.op = .call { callee := .builtin .append, args := #[x, y], argTypes := #[t, tn] }) (hx : ev v x = some (.os w sz 0 i)) {a : Int} (hy : ev v y = some (.sc (.int kq a))) (hak : a = (k : Int)) (hA : Blk.row w et sz els ∈ A) (hil : i ≤ els.length) (h0 : 0 < k) (hg : capOf w < i + k) (hb : (i + k) * bytes ≤ 140737488355328) (hm : i + k ≤ maxLen)
    (hels : els.take i ++ List.replicate k (z.cells.toList.map .sc) = els') (q : ∀ w', K (.sc w') (.row w' et sz els' :: A)) : AOp P o n v A K E := by
  subst hels hak
  intro H G W a s en next Q hn _
  have hrel := ev_rel en hx
  obtain ⟨xs, ho, hels⟩ := row_el (s.ok _ hA)
  generalize hp : a.eval x = p at hrel
  cases hrel with
  | os w sz' o' n' c n0 cap0 ad a0 hw hc hcap ha ha0 =>
    cases hinf : P.info? et with
    | none => rw [hinf] at hi; cases hi
    | some ti =>
      rw [hinf] at hi
      simp only [Option.map_some, Option.some.injEq, Prod.mk.injEq] at hi
      obtain ⟨hz, rfl, rfl⟩ := hi
      have hcw : capOf w = cap0 := by rw [hw]; rfl
      have hc0 : c = cap0 := by omega
      subst hc0
      have hkz : i * ti.size ≤ els.length * ti.size := Nat.mul_le_mul_right _ hil
      have hold : (Builtin.firstCells ti.size i (.slice ad i c)).run P W.drew = .ok (xs.take (i * ti.size)).toArray W.drew := by
        rcases Nat.eq_zero_or_pos i with h | h
        · subst h
          cases ad with
          | none => simp [Builtin.firstCells]
          | some ad => have := run_loadCells_list (P := P) W.drew ad [] (by simp); simpa [Builtin.firstCells] using this
        · obtain ⟨b, rfl, rfl⟩ := ha h
          have hcell : ∀ j x, (xs.take (i * ti.size))[j]? = some x → W.drew.cell? ((⟨b, 0 * ti.size, none⟩ : Addr).add j) = some x := fun j x hj => by
            rw [List.getElem?_take] at hj
            split at hj
            · have := ho.cells (g := b) (by rw [hw]; rfl) _ _ hj
              rw [Nat.zero_mul]
              exact this
            · cases hj
          have := run_loadCells_list (P := P) W.drew ⟨b, 0 * ti.size, none⟩ _ hcell
          rw [show (xs.take (i * ti.size)).length = i * ti.size by rw [List.length_take, ho.1]; omega] at this
          simpa only [Builtin.firstCells] using this
      have hci : c < i + k := by omega
      have hfit := growslice_fits (bytes := ti.bytes) hci hb
      have hkb : k * ti.bytes ≤ (i + k) * ti.bytes := Nat.mul_le_mul_right _ (by omega)
      have hml : ((i + k : Nat) : Int) ≤ 9223372036854775807 := by unfold maxLen at hm; omega
      have hr := Lib.run_append_grow_zeros (P := P) W t tn o.type et ti z kq kn ht htn hinf hz ad i c _ hold k h0 hsz hci hml (by omega) hfit
      have e2 := rel_sc (ev_rel en hy)
      generalize hob : (Obj.cells ((xs.take (i * ti.size)).toArray ++ Builtin.zeroCells z.cells k ++ Builtin.zeroCells z.cells (grownCap W (i + k) c et - (i + k))) et) = ob at hr
      have hrun : (execOp a.eval o).run P W = .ok (.value (.slice (some ⟨W.heap.size, 0, none⟩) (i + k) (grownCap W (i + k) c et))) (W.drew.alloc ob) := by
        simp [execOp, hop, resolve, invoke, builtin, hp, e2, hr]
      unfold Oper.wp
      rw [hrun]
      have hge := grownCap_ge W (i + k) c et
      have hle := grownCap_le_maxLen W (i + k) c et hm
      generalize hcap' : grownCap W (i + k) c et = cap' at *
      have hxl : (xs.take (i * ti.size)).length = i * ti.size := by rw [List.length_take, ho.1]; omega
      have hzl : (Builtin.zeroCells z.cells k).toList.length = k * ti.size := by simp [size_zeroCells, hzs]
      have hzget : ∀ j, j < k * ti.size → (Builtin.zeroCells z.cells k).toList[j]? = some (z.cells[j % z.cells.size]!) := fun j hj => by
        have : j < k * z.cells.size := by rw [hzs]; exact hj
        simp [Builtin.zeroCells, this]
      have hik : (i + k) * ti.size = i * ti.size + k * ti.size := Nat.add_mul ..
      have hlen' : (els.take i ++ List.replicate k (z.cells.toList.map AV.sc)).length = i + k := by simp; omega
      refine hn H _ _ _ _ (Sub.refl H) ⟨rfl, rfl, rfl, by simp⟩ (s.add (W' := W.drew.alloc ob) (fun b hb => heap_alloc_old W.drew _ b hb) (x := .row (.slice (some ⟨W.heap.size, 0, none⟩) (i + k) cap') et ti.size (els.take i ++ List.replicate k (z.cells.toList.map .sc))) (row_ok (xs := xs.take (i * ti.size) ++ (Builtin.zeroCells z.cells k).toList) ?_ (fun p el hp' => ?_)) (fun b hb => by cases hb; exact Nat.le_refl _)) (.sc _) (q _)
      · rw [hlen']
        refine ⟨by rw [List.length_append, hxl, hzl, hik], .inr ⟨W.heap.size, cap', (xs.take (i * ti.size)).toArray ++ Builtin.zeroCells z.cells k ++ Builtin.zeroCells z.cells (cap' - (i + k)), rfl, Nat.zero_le _, ?_, hge, hle, ?_, ?_⟩⟩
        · rw [← hob]; exact heap_alloc_new W.drew _
        · simp only [Array.size_append, List.size_toArray, size_zeroCells, hzs, hxl]
          rw [← hik, ← Nat.add_mul]; congr 1; omega
        · simp only [Array.toList_append]
          rw [List.take_append_of_le_length (by rw [List.length_append, hzl, hxl, hik]; exact Nat.le_refl _), List.take_of_length_le (by rw [List.length_append, hzl, hxl, hik]; exact Nat.le_refl _)]
      · have hlt : (els.take i).length = i := by simp; omega
        rcases Nat.lt_or_ge p i with hpi | hpi
        · rw [List.getElem?_append_left (by omega), List.getElem?_take, if_pos hpi] at hp'
          refine ⟨(hels p el hp').1, fun j x hx => ?_⟩
          obtain ⟨u, e1, e2⟩ := (hels p el hp').2 j x hx
          refine ⟨u, ?_, e2⟩
          have hj : j < ti.size := by have := (List.getElem?_eq_some_iff.1 hx).1; have := (hels p el hp').1; omega
          have h3 : p * ti.size + ti.size ≤ i * ti.size := by rw [← Nat.succ_mul]; exact Nat.mul_le_mul_right _ hpi
          simp only at e1 ⊢
          rw [List.getElem?_append_left (by omega), List.getElem?_take, if_pos (by omega)]
          exact e1
        · rw [List.getElem?_append_right (by omega), hlt, List.getElem?_replicate] at hp'
          split at hp'
          · rename_i hpk
            cases hp'
            refine ⟨by simpa using hzs, fun j x hx => ?_⟩
            simp only [List.getElem?_map, Array.getElem?_toList] at hx
            cases hv : z.cells[j]? with
            | none => rw [hv] at hx; cases hx
            | some u =>
              rw [hv] at hx
              cases hx
              obtain ⟨hj, ej⟩ := Array.getElem?_eq_some_iff.1 hv
              have hone := Array.all_eq_true.1 h1 j hj
              have e3 : p * ti.size = i * ti.size + (p - i) * ti.size := by rw [← Nat.add_mul]; congr 1; omega
              have e4 : (p - i) * ti.size + ti.size ≤ k * ti.size := by rw [← Nat.succ_mul]; exact Nat.mul_le_mul_right _ hpk
              refine ⟨u, ?_, by rw [← ej]; exact hone, .sc u⟩
              simp only
              rw [List.getElem?_append_right (by omega), hxl, show p * ti.size + j - i * ti.size = (p - i) * ti.size + j by omega, hzget _ (by omega)]
              have hmod : ((p - i) * ti.size + j) % z.cells.size = j := by
                rw [hzs, Nat.mul_comm, Nat.mul_add_mod]; exact Nat.mod_eq_of_lt (by omega)
              rw [hmod, getElem!_pos z.cells j hj, ej]
          · cases hp'

/-- slices.overlaps at two rows of the call's own. -/
theorem AOp.overlapsR {f : FuncId} {x y y0 : Operand} {ts : Array TypeId} {tS tR et e1 e2 : TypeId} {sz s1 s2 k m : Nat} {w1 w2 : Value} {els1 els2 : List (List AV)} {A0 A1 : List Blk}
    (hc : ∀ (args : Array Value) (w : World), (callFunc f args).run P w = ((Extern.SlicesOverlaps.overlaps #[tS, tS] #[tR] args).run P w).andThen fun v w' => .ok (.value v) w')
    (ht : P.underlying tS = some (.slice et)) (hz : ∀ w, (sizeOf et).run P w = .ok sz w)
    (hop : o.op = .call { callee := .value y0, args := #[x, y], argTypes := ts }) (hf : ev v y0 = some (.fn (.func f) [])) (hx : ev v x = some (.sc w1)) (hy : ev v y = some (.os w2 s2 k m)) (hA : Pull A (.row w1 e1 s1 els1) A0) (hA1 : Pull A0 (.row w2 e2 s2 els2) A1) (h1 : 0 < els1.length) (h2 : 0 < m) (h3 : 0 < s2) (h4 : 0 < els2.length) (q : K (.sc (.bool false)) A) : AOp P o n v A K E := by
  refine AOp.val (fun H G W a s e => ?_) q
  have hx' := rel_sc (ev_rel e hx)
  obtain ⟨cv, hcv, hrel⟩ := fn_rel (ev_rel e hf)
  have hcv0 : cv = #[] := by have := hrel.1; exact Array.eq_empty_of_size_eq_zero (by simpa using this)
  subst hcv0
  have hy' := ev_rel e hy
  have s1' := s.perm (hA.trans (List.Perm.cons _ hA1))
  obtain ⟨xs1, ho1, _⟩ := row_el (s1'.ok _ (List.mem_cons_self ..))
  obtain ⟨xs2, ho2, _⟩ := row_el (s1'.ok _ (List.mem_cons_of_mem _ (List.mem_cons_self ..)))
  generalize hp : a.eval y = p at hy'
  rcases ho1.2 with ⟨_, h00⟩ | ⟨g1, cap1, cur1, e1', _, hg1, _, _, hcs1, _⟩
  · omega
  · rcases ho2.2 with ⟨_, h00⟩ | ⟨g2, cap2, cur2, e2', _, hg2, hnc2, _, hcs2, _⟩
    · omega
    · cases hy' with
      | os v sz' o' n' c n0 cap0 ad a0 hv hc' hn' ha ha0 =>
        obtain ⟨b, hb1, hb2⟩ := ha h2
        subst hb2
        rw [hv] at e2'
        cases e2'
        cases hb1
        have hne : g1 ≠ g2 := by
          have ap := (List.pairwise_cons.1 s1'.ap).1 _ (List.mem_cons_self ..) g1 (by rw [e1']; rfl)
          intro h; subst h
          exact ap (by rw [hv]; rfl)
        have hrun := Lib.run_overlaps_apart (P := P) W tS tR et ht sz hz ⟨g1, 0, none⟩ ⟨g2, k * s2, none⟩ els1.length cap1 m c hne e1 e2 cur1.size cur2.size
          (by simp [World.shape?, hg1]) (by simp [World.shape?, hg2]) (by rw [hcs2]; exact Nat.ne_of_gt (Nat.mul_pos (by omega) h3)) (by simp [World.frozen?, hg1]) (by simp [World.frozen?, hg1])
        refine ⟨_, ?_, .sc _⟩
        simp [execOp, hop, resolve, hcv, Deferred.ofValue, invoke, hc, hx', e1', hp, hrun]
end

/-- What says the same of every memory. -/
def Flat (r : AV) : Prop := ∀ H H' u, Rel H r u → Rel H' r u
theorem flat_sc (v : Value) : Flat (.sc v) := fun H H' u h => by cases h; exact .sc v
theorem flat_tp {cs : List AV} (h : ∀ x ∈ cs, Flat x) : Flat (.tp cs) := fun H H' u k => by
  cases k with
  | tp cs f vs hs hv hr => exact .tp cs f vs hs hv (fun j x hx => h x (List.mem_of_getElem? hx) H H' _ (hr j x hx))
/-- A row of the call's own is lent to a function that only reads it. -/
theorem acalls_borrow {P : Program} {f : FuncId} {pre post : List AV} {w : Value} {e : TypeId} {sz : Nat} {els : List (List AV)} {r : AV} (hr : Flat r) (h : ACalls P f (pre ++ .sl els :: post) [] (fun r' A' => r' = r ∧ A' = []) (fun _ _ => False)) :
    ACalls P f (pre ++ .sc w :: post) [.row w e sz els] (fun r' A' => r' = r ∧ A' = [.row w e sz els]) (fun _ _ => False) := by
  intro H G W vs s a
  have hrow := s.ok _ (List.mem_cons_self ..)
  obtain ⟨xs, ho, hels⟩ := row_el hrow
  obtain ⟨H2, hs2, s2, hrel, hkeep⟩ : ∃ H2, Sub H H2 ∧ Sim H2 G [] W ∧ Rel H2 (.sl els) w ∧ ∀ b o, w.ownBlock = some b → W.heap[b]? = some o → H2 b = some o := by
    rcases ho.2 with ⟨hw, h00⟩ | ⟨g, cap, cur, hw, _, hg, hnc, hcm, hcs, htake⟩
    · have he : els = [] := List.eq_nil_of_length_eq_zero h00
      subst he hw
      exact ⟨H, Sub.refl H, s.sub (List.nil_sublist _), .sl [] 0 none 0 (fun _ _ => undef) (Nat.le_refl _) (fun h => by simp at h) (fun k e h => by simp at h) (fun k j h => by simp at h) (fun k e j x h => by simp at h), fun b o hb => by cases hb⟩
    · obtain ⟨s2, hs⟩ := s.freeze (b := g) (by rw [hw]; rfl) hg
      refine ⟨_, hs, s2, ?_, fun b o hb ho' => ?_⟩
      · rw [hw]
        have hh := RelR.mono hs hels
        refine rel_sl (us := cur) (t := e) (fr := (0, 0)) (sz := sz) (by simp [Aw.put]) (fun k el hk => ⟨(hh k el hk).1, fun j x hj => ?_⟩) hnc
        obtain ⟨u, e1, e2⟩ := (hh k el hk).2 j x hj
        refine ⟨u, ?_, e2⟩
        simp only at e1 ⊢
        rw [← htake, List.getElem?_take] at e1
        split at e1
        · simpa using e1
        · cases e1
      · rw [hw] at hb
        cases hb
        rw [hg] at ho'
        cases ho'
        simp [Aw.put]
  have a2 : RelA H2 (pre ++ .sl els :: post) vs := by
    refine ⟨by rw [a.1]; simp, fun j x hx => ?_⟩
    rcases Nat.lt_trichotomy j pre.length with hj | hj | hj
    · rw [List.getElem?_append_left hj] at hx
      obtain ⟨u, h1, h2⟩ := a.2 j x (by rw [List.getElem?_append_left hj]; exact hx)
      exact ⟨u, h1, h2.mono hs2⟩
    · subst hj
      simp only [List.getElem?_append_right (Nat.le_refl _), Nat.sub_self, List.getElem?_cons_zero, Option.some.injEq] at hx
      subst hx
      obtain ⟨u, h1, h2⟩ := a.2 pre.length (.sc w) (by simp)
      have := rel_sc h2; subst this
      exact ⟨_, h1, hrel⟩
    · rw [List.getElem?_append_right (by omega)] at hx
      obtain ⟨k, hk⟩ : ∃ k, j - pre.length = k + 1 := ⟨j - pre.length - 1, by omega⟩
      rw [hk, List.getElem?_cons_succ] at hx
      obtain ⟨u, h1, h2⟩ := a.2 j x (by rw [List.getElem?_append_right (by omega), hk, List.getElem?_cons_succ]; exact hx)
      exact ⟨u, h1, h2.mono hs2⟩
  refine (h H2 G W vs s2 a2).mono ?_
  rintro e' W' ⟨H3, A', h1, h2, h3, h4⟩
  rcases h4 with ⟨u, r', rfl, hru, rfl, rfl⟩ | ⟨u, r', _, _, hf⟩
  · have hfr := s.fr _ (List.mem_cons_self ..)
    let H4 : Hp := fun b => if w.ownBlock = some b then none else H3 b
    have hs4 : Sub H H4 := fun b o hb => by
      show (if w.ownBlock = some b then none else H3 b) = some o
      rw [if_neg (fun hw => by have := (hfr b hw).1; rw [hb] at this; cases this)]
      exact h1 b o (hs2 b o hb)
    have hin : ∀ b o, H4 b = some o → H3 b = some o := fun b o hb => by
      have : (if w.ownBlock = some b then none else H3 b) = some o := hb
      split at this
      · cases this
      · exact this
    refine ⟨H4, [.row w e sz els], hs4, h2, ⟨fun b o hb => h3.h b o (hin b o hb), h3.g, fun b o hb => h3.hg b o (hin b o hb), fun y hy => ?_, fun y hy b hb => ?_, List.pairwise_singleton ..⟩, .inl ⟨u, _, rfl, hr _ _ _ hru, rfl, rfl⟩⟩
    · rw [List.mem_singleton] at hy
      subst hy
      refine row_ok (xs := xs) ⟨ho.1, ho.2.imp id (fun ⟨g, cap, cur, hw, k1, hg, k2⟩ => ⟨g, cap, cur, hw, k1, h3.h g _ (h1 g _ (hkeep g _ (by rw [hw]; rfl) hg)), k2⟩)⟩ (RelR.mono hs4 hels)
    · rw [List.mem_singleton] at hy
      subst hy
      refine ⟨?_, (hfr b hb).2⟩
      show (if w.ownBlock = some b then none else H3 b) = none
      rw [if_pos (show w.ownBlock = some b from hb)]
  · exact hf.elim

/-- Parts of a row are told by its other name. -/
theorem rel_relen {H : Hp} {w : Value} {N sz k m : Nat} {u : Value} (h : Rel H (.os w sz k m) u) : Rel H (.os (relen w N) sz k m) u := by
  cases h with
  | os v sz' o' n' c n0 cap ad a0 hv hc hn ha h0 => subst hv; exact .os _ sz k m c N cap ad a0 rfl hc hn ha h0
/-- Slots whose parts of a row are told by its other name. -/
def SubL (v v' : Env) (w w' : Value) : Prop := ∀ s x, lk s v' = some x → lk s v = some x ∨ ∃ sz k m, lk s v = some (.os w sz k m) ∧ x = .os w' sz k m
theorem subl_nil (v : Env) (w w' : Value) : SubL v [] w w' := fun s x h => by cases h
theorem subl_cons {v r : Env} {w w' : Value} {s : Nat} {x : AV} (h : lk s v = some x) (k : SubL v r w w') : SubL v ((s, x) :: r) w w' := fun q y hy => by
  rw [lk_cons] at hy
  split at hy
  · rename_i e; subst e; cases hy; exact .inl h
  · exact k q y hy
theorem subl_new {v r : Env} {w w' : Value} {s sz o m : Nat} (h : lk s v = some (.os w sz o m)) (k : SubL v r w w') : SubL v ((s, .os w' sz o m) :: r) w w' := fun q y hy => by
  rw [lk_cons] at hy
  split at hy
  · rename_i e; subst e; cases hy; exact .inr ⟨_, _, _, h, rfl⟩
  · exact k q y hy
theorem wk_relen {n : Nat} {v v' : Env} {A : List Blk} {w w' : Value} {N : Nat} (hw : w' = relen w N) (h : SubL v v' w w') : Wk n v A v' A := fun H G W t s e => ⟨H, Sub.refl H, s, e.1, fun q x hx => by
  rcases h q x hx with h1 | ⟨sz, k, m, h1, rfl⟩
  · exact e.2 q x h1
  · rw [hw]; exact rel_relen (e.2 q _ h1)⟩
theorem relen_relen (w : Value) (a b : Nat) : relen (relen w a) b = relen w b := by cases w <;> rfl
theorem capOf_relen (w : Value) (a : Nat) : capOf (relen w a) = capOf w := by cases w <;> rfl
/-- nil is a slice without elements. -/
theorem nil_sl (H : Hp) (u : Value) (h : Rel H (.sc (.slice none 0 0)) u) : Rel H (.sl []) u := by
  cases h; exact .sl [] 0 none 0 (fun _ _ => undef) (Nat.le_refl _) (fun h => by simp at h) (fun k e h => by simp at h) (fun k j h => by simp at h) (fun k e j x h => by simp at h)
def SubW (v v' : Env) : Prop := ∀ s x, lk s v' = some x → ∃ y, lk s v = some y ∧ ∀ H u, Rel H y u → Rel H x u
theorem subw_nil (v : Env) : SubW v [] := fun s x h => by cases h
theorem subw_cons {v r : Env} {s : Nat} {x : AV} (h : lk s v = some x) (k : SubW v r) : SubW v ((s, x) :: r) := fun q y hy => by
  rw [lk_cons] at hy
  split at hy
  · rename_i e; subst e; cases hy; exact ⟨_, h, fun H u r => r⟩
  · exact k q y hy
theorem subw_sl {v r : Env} {s : Nat} (h : lk s v = some (.sc (.slice none 0 0))) (k : SubW v r) : SubW v ((s, .sl []) :: r) := fun q y hy => by
  rw [lk_cons] at hy
  split at hy
  · rename_i e; subst e; cases hy; exact ⟨_, h, nil_sl⟩
  · exact k q y hy
theorem wk_subw {n : Nat} {v v' : Env} {A : List Blk} (h : SubW v v') : Wk n v A v' A := fun H G W t s e => ⟨H, Sub.refl H, s, e.1, fun q x hx => by
  obtain ⟨y, h1, h2⟩ := h q x hx
  exact h2 _ _ (e.2 q y h1)⟩
theorem acalls_nil {P : Program} {f : FuncId} {pre post : List AV} {A : List Blk} {R E : AV → List Blk → Prop} (h : ACalls P f (pre ++ .sl [] :: post) A R E) : ACalls P f (pre ++ .sc (.slice none 0 0) :: post) A R E := by
  intro H G W vs s a
  refine h H G W vs s ⟨by rw [a.1]; simp, fun j x hx => ?_⟩
  rcases Nat.lt_trichotomy j pre.length with hj | hj | hj
  · rw [List.getElem?_append_left hj] at hx
    exact a.2 j x (by rw [List.getElem?_append_left hj]; exact hx)
  · subst hj
    simp only [List.getElem?_append_right (Nat.le_refl _), Nat.sub_self, List.getElem?_cons_zero, Option.some.injEq] at hx
    subst hx
    obtain ⟨u, h1, h2⟩ := a.2 pre.length (.sc (.slice none 0 0)) (by simp)
    exact ⟨_, h1, nil_sl H u h2⟩
  · rw [List.getElem?_append_right (by omega)] at hx
    obtain ⟨k, hk⟩ : ∃ k, j - pre.length = k + 1 := ⟨j - pre.length - 1, by omega⟩
    rw [hk, List.getElem?_cons_succ] at hx
    exact a.2 j x (by rw [List.getElem?_append_right (by omega), hk, List.getElem?_cons_succ]; exact hx)
theorem range_yes {β : Type} {q : Nat → Bool} {g : Nat → β} {e : β → List AV} {i : Nat} (hq : q i = true) : (((List.range i).filter q).map g).map e ++ [e (g i)] = (((List.range (i + 1)).filter q).map g).map e := by
  rw [List.range_succ, List.filter_append]; simp [hq]
theorem range_no {β : Type} {q : Nat → Bool} {g : Nat → β} {e : β → List AV} {i : Nat} (hq : q i = false) : (((List.range i).filter q).map g).map e = (((List.range (i + 1)).filter q).map g).map e := by
  rw [List.range_succ, List.filter_append]; simp [hq]
end Go.Aw
