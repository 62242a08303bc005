/- Own text: what arguments are, read by their types (part M). -/
import Derived.Test.YtdacnebhlgibhaaAwL
import Derived.ChangeArms
import Derived.DataReads
set_option linter.unusedVariables false
set_option linter.unusedSimpArgs false
namespace Go.Aw
open Go Go.RowKit
section
variable {P : Program} {W : World}

/-- What the cells of a type are read as. -/
def Shp (P : Program) (W : World) (t : TypeId) (R : List AV → Prop) : Prop :=
  ∀ (H : Type) (enc : TypeId × Value → H) (fuel : Nat) (cs : List Value) (y : DataW H × List MemPlace), DataW.trod enc P W 0 (fun _ => true) true fuel t cs = some y →
    ∃ l, R l ∧ l.length = cs.length ∧ ∀ (j : Nat) (x : AV), l[j]? = some x → ∃ u, cs[j]? = some u ∧ Rel (whole W) x u ∧ u.oneCell' = true
theorem Shp.mono {t : TypeId} {R R' : List AV → Prop} (h : Shp P W t R) (k : ∀ l, R l → R' l) : Shp P W t R' := fun H enc fuel cs y e => by
  obtain ⟨l, h1, h2⟩ := h H enc fuel cs y e
  exact ⟨l, k l h1, h2⟩
theorem shp_int {t : TypeId} {k : IntKind} (ht : P.underlying t = some (.int k)) : Shp P W t (fun l => ∃ n, (Lit.int k n).wf = true ∧ l = [.sc (.int k n)]) := by
  intro H enc fuel cs y h
  obtain ⟨n, rfl, rfl, hw⟩ := DataW.trod_int ht h
  refine ⟨_, ⟨n, hw, rfl⟩, rfl, fun j x hx => ?_⟩
  cases j with
  | zero => cases hx; exact ⟨_, rfl, .sc _, rfl⟩
  | succ j => simp at hx
theorem shp_bool {t : TypeId} (ht : P.underlying t = some .bool) : Shp P W t (fun l => ∃ b, l = [.sc (.bool b)]) := by
  intro H enc fuel cs y h
  obtain ⟨n, rfl, rfl⟩ := DataW.trod_bool ht h
  refine ⟨_, ⟨n, rfl⟩, rfl, fun j x hx => ?_⟩
  cases j with
  | zero => cases hx; exact ⟨_, rfl, .sc _, rfl⟩
  | succ j => simp at hx
theorem shp_str {t : TypeId} (ht : P.underlying t = some .string) : Shp P W t (fun l => ∃ s, s.size ≤ maxLen ∧ l = [.sc (.string s)]) := by
  intro H enc fuel cs y h
  obtain ⟨n, rfl, rfl, hw⟩ := DataW.trod_string ht h
  refine ⟨_, ⟨n, hw, rfl⟩, rfl, fun j x hx => ?_⟩
  cases j with
  | zero => cases hx; exact ⟨_, rfl, .sc _, rfl⟩
  | succ j => simp at hx
theorem whole_cell (W : World) (b off : Nat) : hcell (whole W) b off = W.cell? ⟨b, off, none⟩ := by
  unfold hcell whole World.cell?
  cases W.heap[b]? with
  | none => rfl
  | some o => cases o <;> simp
theorem shp_slice {t e : TypeId} {sz : Nat} {R : List AV → Prop} (ht : P.underlying t = some (.slice e)) (hc : P.cellsOf e = sz) (hpos : 0 < sz) (he : Shp P W e R) :
    Shp P W t (fun l => ∃ es, es.length ≤ maxLen ∧ (∀ x ∈ es, R x) ∧ l = [.sl es]) := by
  intro H enc fuel cs y h
  rcases DataW.trod_slice ht h with ⟨rfl, rfl⟩ | ⟨a, len, cap, elems, rest, n, _, rfl, rfl, hb, hl, hm, hlen, hel, hsp, hns⟩
  · refine ⟨[.sl []], ⟨[], Nat.zero_le _, (fun x hx => by cases hx), rfl⟩, rfl, fun j x hx => ?_⟩
    cases j with
    | zero => cases hx; exact ⟨_, rfl, nil_sl _ _ (.sc _), rfl⟩
    | succ j => simp at hx
  · have each : ∀ i, i < len → ∃ p : List AV × List Value, R p.1 ∧ p.1.length = sz ∧ p.2.length = sz ∧ (∀ j, j < sz → W.cell? ((a.add (i * sz)).add j) = p.2[j]?) ∧ ∀ (j : Nat) (x : AV), p.1[j]? = some x → ∃ u, p.2[j]? = some u ∧ Rel (whole W) x u ∧ u.oneCell' = true := by
      intro i hi
      have h1 := hel i hi
      rw [List.getElem?_eq_getElem (by omega), Option.bind_eq_some_iff, hc] at h1
      obtain ⟨cs', h2, h3⟩ := h1
      obtain ⟨l, hR, hl', hx⟩ := he _ _ _ _ _ h3
      obtain ⟨_, h4, h5⟩ := World.cells?_some h2
      exact ⟨(l, cs'), hR, hl'.trans h4, h4, h5, hx⟩
    have hch : ∃ f : Nat → List AV × List Value, ∀ i, i < len → R (f i).1 ∧ (f i).1.length = sz ∧ (f i).2.length = sz ∧ (∀ j, j < sz → W.cell? ((a.add (i * sz)).add j) = (f i).2[j]?) ∧ ∀ (j : Nat) (x : AV), (f i).1[j]? = some x → ∃ u, (f i).2[j]? = some u ∧ Rel (whole W) x u ∧ u.oneCell' = true :=
      ⟨fun i => if h : i < len then Classical.choose (each i h) else ([], []), fun i hi => by
        have := Classical.choose_spec (each i hi)
        simpa only [hi, dif_pos] using this⟩
    obtain ⟨f, hf⟩ := hch
    have hes : ((List.range len).map fun i => (f i).1).length = len := by simp
    have hk : ∀ (k : Nat) (e : List AV), ((List.range len).map fun i => (f i).1)[k]? = some e → k < len ∧ e = (f k).1 := fun k e he => by
      simp only [List.getElem?_map] at he
      cases hr : (List.range len)[k]? with
      | none => rw [hr] at he; cases he
      | some i =>
        rw [hr] at he
        obtain ⟨h1, h2⟩ := List.getElem?_eq_some_iff.1 hr
        simp at h1 h2
        subst h2
        cases he
        exact ⟨h1, rfl⟩
    refine ⟨[.sl ((List.range len).map fun i => (f i).1)], ⟨_, by rw [hes]; exact Nat.le_trans hl hm, fun x hx => ?_, rfl⟩, rfl, fun j x hx => ?_⟩
    · obtain ⟨i, hi, rfl⟩ := List.mem_map.1 hx
      exact (hf i (by simpa using hi)).1
    · cases j with
      | succ j => simp at hx
      | zero =>
        cases hx
        refine ⟨_, rfl, ?_, rfl⟩
        have key : Rel (whole W) (.sl ((List.range len).map fun i => (f i).1)) (.slice (some a) ((List.range len).map fun i => (f i).1).length cap) := by
          refine .sl _ sz (some a) cap (fun k j => ((f k).2)[j]?.getD undef) (by rw [hes]; exact hl) (fun h0 => ?_) (fun k e he => by rw [(hk k e he).2]; exact (hf k (hk k e he).1).2.1) (fun k j h1 h2 => ?_) (fun k e j y he hj => ?_)
          · rw [hes] at h0
            obtain ⟨b, off, spot⟩ := a
            have g1 := hf 0 (by omega)
            have hc0 : W.cell? (((⟨b, off, spot⟩ : Addr).add (0 * sz)).add 0) = some ((f 0).2[0]'(by omega)) := by rw [g1.2.2.2.1 0 hpos, List.getElem?_eq_getElem (by omega)]
            have hspot : spot = none := by simpa [Addr.add] using World.cell?_spot hc0
            subst hspot
            refine ⟨b, off, rfl, fun k e he j hj => ?_⟩
            have g := hf k (hk k e he).1
            rw [whole_cell]
            have := g.2.2.2.1 j hj
            rw [add_plain, add_plain, Nat.add_assoc] at this
            rw [this, List.getElem?_eq_getElem (by omega)]
            rfl
          · rw [hes] at h1
            have g := hf k h1
            obtain ⟨u, e1, _, e3⟩ := g.2.2.2.2 j _ (List.getElem?_eq_getElem (by omega))
            rw [e1]; exact e3
          · obtain ⟨hkl, rfl⟩ := hk k e he
            obtain ⟨u, e1, e2, _⟩ := (hf k hkl).2.2.2.2 j y hj
            rw [e1]; exact e2
        rw [hes] at key
        exact key
/-- Pieces, one behind the other. -/
theorem shp_join {n : Nat} {cs : List Value} {off sz : Nat → Nat} {R : Nat → List AV → Prop} (h0 : n = 0 → cs.length = 0) (hoff0 : off 0 = 0) (hoff : ∀ i, i < n → off (i + 1) = off i + sz i) (hend : off n = cs.length)
    (h : ∀ i, i < n → ∃ l, R i l ∧ l.length = ((cs.drop (off i)).take (sz i)).length ∧ ∀ (j : Nat) (x : AV), l[j]? = some x → ∃ u, ((cs.drop (off i)).take (sz i))[j]? = some u ∧ Rel (whole W) x u ∧ u.oneCell' = true) :
    ∃ ls : List (List AV), ls.length = n ∧ (∀ (i : Nat) (l : List AV), ls[i]? = some l → R i l) ∧ ls.flatten.length = cs.length ∧ ∀ (j : Nat) (x : AV), ls.flatten[j]? = some x → ∃ u, cs[j]? = some u ∧ Rel (whole W) x u ∧ u.oneCell' = true := by
  have key : ∀ m, m ≤ n → ∃ ls : List (List AV), ls.length = m ∧ (∀ (i : Nat) (l : List AV), ls[i]? = some l → R i l) ∧ ls.flatten.length = off m ∧ ∀ (j : Nat) (x : AV), ls.flatten[j]? = some x → ∃ u, cs[j]? = some u ∧ Rel (whole W) x u ∧ u.oneCell' = true := by
    intro m
    induction m with
    | zero => intro _; exact ⟨[], rfl, fun i l hl => by simp at hl, by simp [hoff0], fun j x hx => by simp at hx⟩
    | succ m ih =>
      intro hm
      obtain ⟨ls, e1, e2, e3, e4⟩ := ih (by omega)
      obtain ⟨l, g1, g2, g3⟩ := h m (by omega)
      have ho := hoff m (by omega)
      have hmono : ∀ d, d ≤ n - m → off m ≤ off (m + d) := by
        intro d
        induction d with
        | zero => intro _; exact Nat.le_refl _
        | succ d ihd => intro hd; have := hoff (m + d) (by omega); have := ihd (by omega); rw [← Nat.add_assoc]; omega
      have hle : off (m + 1) ≤ cs.length := by
        have hmono1 : ∀ d, d ≤ n - (m + 1) → off (m + 1) ≤ off (m + 1 + d) := by
          intro d
          induction d with
          | zero => intro _; exact Nat.le_refl _
          | succ d ihd => intro hd; have := hoff (m + 1 + d) (by omega); have := ihd (by omega); rw [← Nat.add_assoc]; omega
        have := hmono1 (n - (m + 1)) (Nat.le_refl _)
        rw [show m + 1 + (n - (m + 1)) = n by omega, hend] at this
        exact this
      have gl : l.length = sz m := by rw [g2, List.length_take, List.length_drop]; omega
      refine ⟨ls ++ [l], by simp [e1], fun i l' hl' => ?_, by simp [e3, gl, ho], fun j x hx => ?_⟩
      · rcases Nat.lt_or_ge i ls.length with hi | hi
        · rw [List.getElem?_append_left hi] at hl'; exact e2 i l' hl'
        · rw [List.getElem?_append_right hi] at hl'
          have : i = ls.length := by
            have := (List.getElem?_eq_some_iff.1 hl').1
            simp at this; omega
          subst this
          simp at hl'
          subst hl'
          rw [e1]; exact g1
      · rw [List.flatten_append] at hx
        rcases Nat.lt_or_ge j ls.flatten.length with hj | hj
        · rw [List.getElem?_append_left hj] at hx; exact e4 j x hx
        · rw [List.getElem?_append_right hj] at hx
          simp only [List.flatten_cons, List.flatten_nil, List.append_nil] at hx
          obtain ⟨u, u1, u2, u3⟩ := g3 _ x hx
          have hj2 := (List.getElem?_eq_some_iff.1 hx).1
          rw [List.getElem?_take_of_lt (by omega), List.getElem?_drop] at u1
          refine ⟨u, ?_, u2, u3⟩
          rw [← u1]; congr 1; omega
  obtain ⟨ls, e1, e2, e3, e4⟩ := key n (Nat.le_refl _)
  exact ⟨ls, e1, e2, by rw [e3, hend], e4⟩
def offs : List Nat → Nat → Nat
  | _, 0 => 0
  | [], _ + 1 => 0
  | s :: r, i + 1 => s + offs r i
theorem offs_succ : ∀ (l : List Nat) (i : Nat), i < l.length → offs l (i + 1) = offs l i + l.getD i 0
  | [], i, h => by simp at h
  | s :: r, 0, h => by simp [offs]
  | s :: r, i + 1, h => by
    have := offs_succ r i (by simpa using h)
    simp only [offs] at *
    rw [this]; simp; omega
/-- A struct's parts, in order. -/
inductive ShpL (P : Program) (W : World) : List Field → Nat → (List (List AV) → Prop) → Prop
  | nil (o : Nat) : ShpL P W [] o (fun ls => ls = [])
  | cons (f : Field) (fs : List Field) (o sz : Nat) (R : List AV → Prop) (S : List (List AV) → Prop) (ho : f.offset = o) (hs : P.cellsOf f.type = sz) (h : Shp P W f.type R) (k : ShpL P W fs (o + sz) S) : ShpL P W (f :: fs) o (fun ls => ∃ l r, R l ∧ S r ∧ ls = l :: r)
theorem ShpL.read {fs : List Field} {o : Nat} {S : List (List AV) → Prop} (h : ShpL P W fs o S) : ∀ {H : Type} {enc : TypeId × Value → H} {n : Nat} {cs : List Value} {xs : List (DataW H × List MemPlace)},
    (fs.map fun f => P.cellsOf f.type).sum + o = cs.length → xs.length = fs.length → (∀ (i : Nat) (f : Field), fs[i]? = some f → DataW.trod enc P W 0 (fun _ => true) true n f.type ((cs.drop f.offset).take (P.cellsOf f.type)) = xs[i]?) →
    ∃ ls, S ls ∧ ls.flatten.length + o = cs.length ∧ ∀ (j : Nat) (x : AV), ls.flatten[j]? = some x → ∃ u, cs[j + o]? = some u ∧ Rel (whole W) x u ∧ u.oneCell' = true := by
  induction h with
  | nil o => intro H enc n cs xs h1 h2 h3; exact ⟨[], rfl, by simpa using h1, fun j x hx => by simp at hx⟩
  | cons f fs o sz R S ho hs h k ih =>
    intro H enc n cs xs h1 h2 h3
    simp only [List.map_cons, List.sum_cons, hs] at h1
    cases xs with
    | nil => simp at h2
    | cons y xs =>
      have e0 := h3 0 f rfl
      simp only [List.getElem?_cons_zero, hs, ho] at e0
      obtain ⟨l, l1, l2, l3⟩ := h _ _ _ _ _ e0
      rw [List.length_take, List.length_drop] at l2
      obtain ⟨r, r1, r2, r3⟩ := ih (cs := cs) (xs := xs) (by omega) (by simpa using h2) (fun i g hg => by have := h3 (i + 1) g (by simpa using hg); simpa using this)
      refine ⟨l :: r, ⟨l, r, l1, r1, rfl⟩, by rw [List.flatten_cons, List.length_append]; omega, fun j x hx => ?_⟩
      rw [List.flatten_cons] at hx
      rcases Nat.lt_or_ge j l.length with hj | hj
      · rw [List.getElem?_append_left hj] at hx
        obtain ⟨u, u1, u2⟩ := l3 j x hx
        rw [List.getElem?_take_of_lt (by omega), List.getElem?_drop] at u1
        exact ⟨u, by rw [← u1]; congr 1; omega, u2⟩
      · rw [List.getElem?_append_right hj] at hx
        obtain ⟨u, u1, u2⟩ := r3 _ x hx
        exact ⟨u, by rw [← u1]; congr 1; omega, u2⟩
theorem shp_struct {t : TypeId} {fs : Array Field} {S : List (List AV) → Prop} (ht : P.underlying t = some (.struct fs)) (hsz : (fs.toList.map fun f => P.cellsOf f.type).sum = P.cellsOf t) (h : ShpL P W fs.toList 0 S) : Shp P W t (fun l => ∃ ls, S ls ∧ l = ls.flatten) := by
  intro H enc fuel cs y e
  obtain ⟨xs, n, _, _, h1, h2, h3⟩ := DataW.trod_struct ht e
  obtain ⟨ls, l1, l2, l3⟩ := h.read (enc := enc) (n := n) (cs := cs) (xs := xs) (by omega) (by simpa using h2) (fun i f hf => h3 i f (by simpa using hf))
  exact ⟨_, ⟨ls, l1, rfl⟩, by omega, fun j x hx => l3 j x hx⟩
theorem shp_array {t e : TypeId} {n sz : Nat} {R : List AV → Prop} (ht : P.underlying t = some (.array n e)) (hc : P.cellsOf e = sz) (hct : P.cellsOf t = n * sz) (he : Shp P W e R) :
    Shp P W t (fun l => ∃ ls : List (List AV), ls.length = n ∧ (∀ x ∈ ls, R x) ∧ l = ls.flatten) := by
  intro H enc fuel cs y h
  obtain ⟨xs, m, _, _, h1, h2, h3⟩ := DataW.trod_array ht h
  obtain ⟨ls, l1, l2, l3, l4⟩ := shp_join (W := W) (n := n) (cs := cs) (off := fun i => i * sz) (sz := fun _ => sz) (R := fun _ => R) (fun h0 => by rw [h1, hct, h0, Nat.zero_mul]) (Nat.zero_mul _) (fun i hi => Nat.succ_mul i sz) (by rw [h1, hct]) (fun i hi => by
    have := h3 i hi
    rw [hc, List.getElem?_eq_getElem (by omega)] at this
    exact he _ _ _ _ _ this)
  exact ⟨_, ⟨ls, l1, fun x hx => by obtain ⟨i, hi⟩ := List.getElem?_of_mem hx; exact l2 i x hi, rfl⟩, l3, l4⟩
/-- A whole argument. -/
theorem Shp.arg {t : TypeId} {R : List AV → Prop} (h : Shp P W t R) {H : Type} {enc : TypeId × Value → H} {v : Value} {d : DataW H} {ps : List MemPlace} (k : DataW.Trod enc P W 0 (fun _ => true) true t v d ps)
    (hv : v.cells = #[v]) : ∃ x, R [x] ∧ Rel (whole W) x v := by
  obtain ⟨fuel, k⟩ := k
  rw [hv] at k
  obtain ⟨l, l1, l2, l3⟩ := h _ _ _ _ _ k
  match l, l2 with
  | [x], _ =>
    obtain ⟨u, u1, u2, _⟩ := l3 0 x rfl
    cases u1
    exact ⟨x, l1, u2⟩
theorem Shp.argS {t : TypeId} {R : List AV → Prop} (h : Shp P W t R) {H : Type} {enc : TypeId × Value → H} {cs : Array Value} {d : DataW H} {ps : List MemPlace} (k : DataW.Trod enc P W 0 (fun _ => true) true t (.agg cs) d ps) :
    ∃ l, R l ∧ Rel (whole W) (.ag l) (.agg cs) := by
  obtain ⟨fuel, k⟩ := k
  obtain ⟨l, l1, l2, l3⟩ := h _ _ _ _ _ k
  have hcs : (Value.agg cs).cells = cs := rfl
  rw [hcs] at l2 l3
  simp at l2
  refine ⟨l, l1, .ag l (fun j => cs[j]?.getD undef) cs (by omega) (fun j hj => ?_) (fun j hj => ?_) (fun j x hx => ?_)⟩
  · rw [Array.getElem?_eq_getElem (by omega)]; rfl
  · obtain ⟨u, u1, u2, u3⟩ := l3 j _ (List.getElem?_eq_getElem hj)
    rw [Array.getElem?_toList] at u1
    rw [u1]; exact u3
  · obtain ⟨u, u1, u2, u3⟩ := l3 j x hx
    rw [Array.getElem?_toList] at u1
    rw [u1]; exact u2
theorem Shp.one {t : TypeId} {T : Type} {f : T → AV} (h : Shp P W t (fun l => ∃ w, l = [f w])) {H : Type} {enc : TypeId × Value → H} {v : Value} {d : DataW H} {ps : List MemPlace} (k : DataW.Trod enc P W 0 (fun _ => true) true t v d ps)
    (hv : v.cells = #[v]) : ∃ w, Rel (whole W) (f w) v := by
  obtain ⟨x, ⟨w, e⟩, r⟩ := h.arg k hv
  cases e
  exact ⟨w, r⟩
theorem Shp.oneS {t : TypeId} {T : Type} {f : T → List AV} (h : Shp P W t (fun l => ∃ w, l = f w)) {H : Type} {enc : TypeId × Value → H} {cs : Array Value} {d : DataW H} {ps : List MemPlace} (k : DataW.Trod enc P W 0 (fun _ => true) true t (.agg cs) d ps) :
    ∃ w, Rel (whole W) (.ag (f w)) (.agg cs) := by
  obtain ⟨l, ⟨w, e⟩, r⟩ := h.argS k
  subst e
  exact ⟨w, r⟩
theorem okWideS {t : TypeId} {fs : Array Field} {r : Reach} {b : Nat} {v : Value} (ht : P.underlying t = some (.struct fs)) (h : Value.okWide P W r b t v) : ∃ cs, v = .agg cs := by
  unfold Value.okWide at h
  rw [ht] at h
  obtain ⟨cs, h, _⟩ := h
  exact ⟨cs, h⟩
theorem okWideA {t e : TypeId} {n : Nat} {r : Reach} {b : Nat} {v : Value} (ht : P.underlying t = some (.array n e)) (h : Value.okWide P W r b t v) : ∃ cs, v = .agg cs := by
  unfold Value.okWide at h
  rw [ht] at h
  obtain ⟨cs, h, _⟩ := h
  exact ⟨cs, h⟩
/-- A row of what is told by data. -/
theorem map_of {T : Type} {e : T → List AV} {es : List (List AV)} (h : ∀ x ∈ es, ∃ t, x = e t) : ∃ l : List T, es = l.map e := by
  induction es with
  | nil => exact ⟨[], rfl⟩
  | cons a es ih =>
    obtain ⟨t, rfl⟩ := h a (List.mem_cons_self ..)
    obtain ⟨l, rfl⟩ := ih (fun x hx => h x (List.mem_cons_of_mem _ hx))
    exact ⟨t :: l, rfl⟩
end
end Go.Aw
