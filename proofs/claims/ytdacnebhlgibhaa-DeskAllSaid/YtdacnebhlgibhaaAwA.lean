/- Own text: abstract values and what they say of memory (part A of a small program logic over the kit's Code.wp). -/
import Derived.Below
import Derived.Tactics
import Derived.Calls
import Derived.Laws.AppendOwn
import Derived.Deep.AppendSrc
import Derived.Laws.Entries
import Derived.Shelf.Abstract
set_option linter.unusedVariables false
set_option linter.unusedSimpArgs false
namespace Go.Aw
open Go

/-- A partial heap: blocks that stay as they are. -/
abbrev Hp := Nat → Option Obj
def Sub (H H' : Hp) : Prop := ∀ b o, H b = some o → H' b = some o
theorem Sub.refl (H : Hp) : Sub H H := fun _ _ h => h
theorem Sub.trans {H H' H'' : Hp} (h : Sub H H') (k : Sub H' H'') : Sub H H'' := fun b o e => k b o (h b o e)
def hcell (H : Hp) (b off : Nat) : Option Value := match H b with | some (.cells c _ _) => c[off]? | _ => none
theorem hcell_sub {H H' : Hp} (h : Sub H H') {b off : Nat} {v : Value} (e : hcell H b off = some v) : hcell H' b off = some v := by
  unfold hcell at e ⊢
  cases hb : H b with
  | none => rw [hb] at e; cases e
  | some o => rw [hb] at e; rw [h b o hb]; exact e

/-- Abstract values. 'sc': just this value. 'nl': a slice without capacity. 'sl': a slice whose cells stay as told, by elements. 'im': a pointer to cells that stay. 'os': a part of an own row. 'dd': whatever. -/
inductive AV where
  | sc (v : Value)
  | nl
  | sl (es : List (List AV))
  | im (cs : List AV)
  | ag (cs : List AV)
  | tp (cs : List AV)
  | fn (f : Fn) (cs : List AV)
  | ifc (t : TypeId) (x : AV)
  | os (v : Value) (sz o n : Nat)
  | dd

/-- The address of element k, cell j of the row that a value begins. -/
def rowPtr (v : Value) (sz k j : Nat) : Value := .pointer (some ⟨v.ownBlock.getD 0, k * sz + j, none⟩)

inductive Rel (H : Hp) : AV → Value → Prop
  | sc (v : Value) : Rel H (.sc v) v
  | nl (a : Option Addr) : Rel H .nl (.slice a 0 0)
  | sl (es : List (List AV)) (sz : Nat) (a : Option Addr) (c : Nat) (u : Nat → Nat → Value) (hc : es.length ≤ c)
      (ha : 0 < es.length → ∃ b off, a = some ⟨b, off, none⟩ ∧ ∀ (k : Nat) (e : List AV), es[k]? = some e → ∀ j, j < sz → hcell H b (off + (k * sz + j)) = some (u k j))
      (hz : ∀ (k : Nat) (e : List AV), es[k]? = some e → e.length = sz) (h1 : ∀ k j, k < es.length → j < sz → (u k j).oneCell' = true)
      (hr : ∀ (k : Nat) (e : List AV) (j : Nat) (x : AV), es[k]? = some e → e[j]? = some x → Rel H x (u k j)) : Rel H (.sl es) (.slice a es.length c)
  | im (cs : List AV) (b off : Nat) (u : Nat → Value) (hc : ∀ j, j < cs.length → hcell H b (off + j) = some (u j)) (h1 : ∀ j, j < cs.length → (u j).oneCell' = true)
      (hr : ∀ j x, cs[j]? = some x → Rel H x (u j)) : Rel H (.im cs) (.pointer (some ⟨b, off, none⟩))
  | ag (cs : List AV) (u : Nat → Value) (vs : Array Value) (hs : vs.size = cs.length) (hv : ∀ j, j < cs.length → vs[j]? = some (u j)) (h1 : ∀ j, j < cs.length → (u j).oneCell' = true)
      (hr : ∀ j x, cs[j]? = some x → Rel H x (u j)) : Rel H (.ag cs) (.agg vs)
  | tp (cs : List AV) (u : Nat → Value) (vs : Array Value) (hs : vs.size = cs.length) (hv : ∀ j, j < cs.length → vs[j]? = some (u j)) (hr : ∀ j x, cs[j]? = some x → Rel H x (u j)) : Rel H (.tp cs) (.tuple vs)
  | fn (f : Fn) (cs : List AV) (u : Nat → Value) (vs : Array Value) (hs : vs.size = cs.length) (hv : ∀ j, j < cs.length → vs[j]? = some (u j)) (hr : ∀ j x, cs[j]? = some x → Rel H x (u j)) : Rel H (.fn f cs) (.func f #[] vs)
  | ifc (t : TypeId) (x : AV) (u : Value) (hr : Rel H x u) : Rel H (.ifc t x) (.iface t u)
  | os (v : Value) (sz o n c n0 cap : Nat) (a a0 : Option Addr) (hv : v = .slice a0 n0 cap) (hc : c = cap - o) (hn : o + n ≤ cap) (ha : 0 < n → ∃ b, a0 = some ⟨b, 0, none⟩ ∧ a = some ⟨b, o * sz, none⟩) (h0 : o = 0 → a = a0) : Rel H (.os v sz o n) (.slice a n c)
  | dd (v : Value) : Rel H .dd v

theorem Rel.mono {H H' : Hp} (h : Sub H H') {x : AV} {v : Value} (r : Rel H x v) : Rel H' x v := by
  induction r with
  | sc v => exact .sc v
  | nl a => exact .nl a
  | sl es sz a c u hc ha hz h1 hr ih =>
    refine .sl es sz a c u hc (fun hp => ?_) hz h1 (fun k e j x he hx => ih k e j x he hx)
    obtain ⟨b, off, e, hh⟩ := ha hp
    exact ⟨b, off, e, fun k e he j hj => hcell_sub h (hh k e he j hj)⟩
  | im cs b off u hc h1 hr ih => exact .im cs b off u (fun j hj => hcell_sub h (hc j hj)) h1 ih
  | ag cs u vs hs hv h1 hr ih => exact .ag cs u vs hs hv h1 ih
  | tp cs u vs hs hv hr ih => exact .tp cs u vs hs hv ih
  | fn f cs u vs hs hv hr ih => exact .fn f cs u vs hs hv ih
  | ifc t x u hr ih => exact .ifc t x u ih
  | os v sz o n c n0 cap a a0 hv hc hn ha h0 => exact .os v sz o n c n0 cap a a0 hv hc hn ha h0
  | dd v => exact .dd v

/-- The call's own memory. -/
inductive Blk where
  | box (b : Nat) (t : TypeId) (cs : List AV)
  | row (v : Value) (e : TypeId) (sz : Nat) (els : List (List AV))

def Blk.own : Blk → Option Nat
  | .box b _ _ => some b
  | .row v _ _ _ => v.ownBlock

/-- The cells of elements, one behind the other. -/
inductive BlkOk (H : Hp) (W : World) : Blk → Prop
  | box (b : Nat) (t : TypeId) (cs : List AV) (us : Array Value) (hb : W.heap[b]? = some (.cells us t (0, 0))) (hs : us.size = cs.length)
      (u : Nat → Value) (hu : ∀ j, j < cs.length → us[j]? = some (u j)) (h1 : ∀ j, j < cs.length → (u j).oneCell' = true) (hr : ∀ j x, cs[j]? = some x → Rel H x (u j)) : BlkOk H W (.box b t cs)
  | row (v : Value) (e : TypeId) (sz : Nat) (els : List (List AV)) (xs : List Value) (ho : W.ownsRow 0 e sz v els.length xs) (hz : ∀ (k : Nat) (el : List AV), els[k]? = some el → el.length = sz)
      (u : Nat → Nat → Value) (hu : ∀ k j, k < els.length → j < sz → xs[k * sz + j]? = some (u k j)) (h1 : ∀ k j, k < els.length → j < sz → (u k j).oneCell' = true)
      (hr : ∀ (k : Nat) (el : List AV) (j : Nat) (x : AV), els[k]? = some el → el[j]? = some x → Rel H x (u k j)) : BlkOk H W (.row v e sz els)

theorem BlkOk.mono {H H' : Hp} {W W' : World} {x : Blk} (h : Sub H H') (hw : ∀ b, x.own = some b → W'.heap[b]? = W.heap[b]?) (k : BlkOk H W x) : BlkOk H' W' x := by
  cases k with
  | box b t cs us hb hs u hu h1 hr => exact .box b t cs us ((hw b rfl).trans hb) hs u hu h1 (fun j x hx => (hr j x hx).mono h)
  | row v e sz els xs ho hz u hu h1 hr =>
    refine .row v e sz els xs ⟨ho.1, ?_⟩ hz u hu h1 (fun k el j x he hx => (hr k el j x he hx).mono h)
    rcases ho.2 with hn | ⟨g, cap, cur, rfl, hb, hg, rest⟩
    · exact .inl hn
    · exact .inr ⟨g, cap, cur, rfl, hb, (hw g rfl).trans hg, rest⟩

theorem BlkOk.lt {H : Hp} {W : World} {x : Blk} (k : BlkOk H W x) (b : Nat) (h : x.own = some b) : ∃ o, W.heap[b]? = some o := by
  cases k with
  | box b' t cs us hb hs u hu h1 hr => cases h; exact ⟨_, hb⟩
  | row v e sz els xs ho hz u hu h1 hr =>
    rcases ho.2 with ⟨rfl, _⟩ | ⟨g, cap, cur, rfl, hb, hg, rest⟩
    · cases h
    · cases h; exact ⟨_, hg⟩

def Same (W W' : World) : Prop := W'.os = W.os ∧ W'.tape = W.tape ∧ W'.output = W.output ∧ W.heap.size ≤ W'.heap.size
theorem Same.refl (W : World) : Same W W := ⟨rfl, rfl, rfl, Nat.le_refl _⟩
theorem Same.trans {a b c : World} (h : Same a b) (k : Same b c) : Same a c := ⟨k.1.trans h.1, k.2.1.trans h.2.1, k.2.2.1.trans h.2.2.1, Nat.le_trans h.2.2.2 k.2.2.2⟩

def Apart (x y : Blk) : Prop := ∀ b, x.own = some b → y.own ≠ some b
theorem Apart.symm {x y : Blk} (h : Apart x y) : Apart y x := fun b hy hx => h b hx hy

/-- What stays (H: may be told of; G: framed away), and the call's own blocks. -/
structure Sim (H G : Hp) (A : List Blk) (W : World) : Prop where
  h : ∀ b o, H b = some o → W.heap[b]? = some o
  g : ∀ b o, G b = some o → W.heap[b]? = some o
  hg : ∀ b o, H b = some o → G b = none
  ok : ∀ x ∈ A, BlkOk H W x
  fr : ∀ x ∈ A, ∀ b, x.own = some b → H b = none ∧ G b = none
  ap : A.Pairwise Apart

theorem Sim.fresh {H G : Hp} {A : List Blk} {W : World} (s : Sim H G A W) : H W.heap.size = none ∧ G W.heap.size = none ∧ ∀ x ∈ A, x.own ≠ some W.heap.size := by
  refine ⟨?_, ?_, ?_⟩
  · cases h : H W.heap.size with
    | none => rfl
    | some o => have := s.h _ _ h; simp at this
  · cases h : G W.heap.size with
    | none => rfl
    | some o => have := s.g _ _ h; simp at this
  · intro x hx e
    obtain ⟨o, ho⟩ := (s.ok x hx).lt _ e
    simp at ho

/-- A world in which no block of H, G or A has turned. -/
theorem Sim.move {H G : Hp} {A : List Blk} {W W' : World} (s : Sim H G A W) (hw : ∀ b, b < W.heap.size → W'.heap[b]? = W.heap[b]?) : Sim H G A W' := by
  have lt : ∀ {b : Nat} {o : Obj}, W.heap[b]? = some o → b < W.heap.size := fun h => (Array.getElem?_eq_some_iff.1 h).1
  refine ⟨fun b o h => (hw b (lt (s.h b o h))).trans (s.h b o h), fun b o h => (hw b (lt (s.g b o h))).trans (s.g b o h), s.hg, fun x hx => ?_, s.fr, s.ap⟩
  exact (s.ok x hx).mono (Sub.refl H) (fun b hb => by obtain ⟨o, ho⟩ := (s.ok x hx).lt b hb; exact hw b (lt ho))

theorem Sim.sub {H G : Hp} {A A' : List Blk} {W : World} (s : Sim H G A W) (h : A'.Sublist A) : Sim H G A' W :=
  ⟨s.h, s.g, s.hg, fun x hx => s.ok x (h.subset hx), fun x hx => s.fr x (h.subset hx), s.ap.sublist h⟩
theorem Sim.perm {H G : Hp} {A A' : List Blk} {W : World} (s : Sim H G A W) (h : A.Perm A') : Sim H G A' W :=
  ⟨s.h, s.g, s.hg, fun x hx => s.ok x (h.symm.subset hx), fun x hx => s.fr x (h.symm.subset hx), s.ap.perm h (fun k => k.symm)⟩
theorem Sim.drew {H G : Hp} {A : List Blk} {W : World} (s : Sim H G A W) : Sim H G A W.drew := s.move fun _ _ => rfl

/-- A new block of the call's own. -/
theorem Sim.add {H G : Hp} {A : List Blk} {W W' : World} (s : Sim H G A W) (hw : ∀ b, b < W.heap.size → W'.heap[b]? = W.heap[b]?) {x : Blk} (hx : BlkOk H W' x) (hn : ∀ b, x.own = some b → W.heap.size ≤ b) : Sim H G (x :: A) W' := by
  have s' := s.move hw
  refine ⟨s'.h, s'.g, s'.hg, fun y hy => ?_, fun y hy b hb => ?_, List.pairwise_cons.2 ⟨fun y hy b hb e => ?_, s.ap⟩⟩
  · rcases List.mem_cons.1 hy with rfl | hy
    · exact hx
    · exact s'.ok y hy
  · rcases List.mem_cons.1 hy with rfl | hy
    · have hb' := hn b hb
      refine ⟨?_, ?_⟩
      · cases h : H b with
        | none => rfl
        | some o => have := (Array.getElem?_eq_some_iff.1 (s.h _ _ h)).1; omega
      · cases h : G b with
        | none => rfl
        | some o => have := (Array.getElem?_eq_some_iff.1 (s.g _ _ h)).1; omega
    · exact s.fr y hy b hb
  · obtain ⟨o, ho⟩ := (s.ok y hy).lt b e
    have := (Array.getElem?_eq_some_iff.1 ho).1
    have := hn b hb
    omega

/-- A block of the call's own turns. -/
theorem Sim.upd {H G : Hp} {A : List Blk} {W W' : World} {x y : Blk} (s : Sim H G (x :: A) W) (hw : ∀ b, x.own ≠ some b → b < W.heap.size → W'.heap[b]? = W.heap[b]?) (hy : BlkOk H W' y)
    (hn : ∀ b, y.own = some b → x.own = some b ∨ W.heap.size ≤ b) : Sim H G (y :: A) W' := by
  have lt : ∀ {b : Nat} {o : Obj}, W.heap[b]? = some o → b < W.heap.size := fun h => (Array.getElem?_eq_some_iff.1 h).1
  have hx := s.fr x (List.mem_cons_self ..)
  have ap := List.pairwise_cons.1 s.ap
  refine ⟨fun b o h => (hw b (fun e => ?_) (lt (s.h b o h))).trans (s.h b o h), fun b o h => (hw b (fun e => ?_) (lt (s.g b o h))).trans (s.g b o h), s.hg, fun z hz => ?_, fun z hz b hb => ?_, List.pairwise_cons.2 ⟨fun z hz b hb e => ?_, ap.2⟩⟩
  · rw [(hx b e).1] at h; cases h
  · rw [(hx b e).2] at h; cases h
  · rcases List.mem_cons.1 hz with rfl | hz
    · exact hy
    · refine (s.ok z (List.mem_cons_of_mem _ hz)).mono (Sub.refl H) (fun b hb => ?_)
      obtain ⟨o, ho⟩ := (s.ok z (List.mem_cons_of_mem _ hz)).lt b hb
      exact hw b (fun e => ap.1 z hz b e hb) (lt ho)
  · rcases List.mem_cons.1 hz with rfl | hz
    · rcases hn b hb with e | hb'
      · exact hx b e
      · refine ⟨?_, ?_⟩
        · cases h : H b with
          | none => rfl
          | some o => have := lt (s.h _ _ h); omega
        · cases h : G b with
          | none => rfl
          | some o => have := lt (s.g _ _ h); omega
    · exact s.fr z (List.mem_cons_of_mem _ hz) b hb
  · rcases hn b hb with e' | hb'
    · exact ap.1 z hz b e' e
    · obtain ⟨o, ho⟩ := (s.ok z (List.mem_cons_of_mem _ hz)).lt b e
      have := lt ho
      omega

/-- Blocks are laid aside for a call. -/
def put (H : Hp) (b : Nat) (o : Option Obj) : Hp := fun k => if k = b then o else H k
open Classical in
noncomputable def layN (G : Hp) (A : List Blk) (W : World) : Hp := fun b => if (∃ x ∈ A, x.own = some b) then W.heap[b]? else G b

theorem Sim.aside {H G : Hp} {A F : List Blk} {W : World} (s : Sim H G (A ++ F) W) : Sim H (layN G F W) A W := by
  refine ⟨s.h, fun b o h => ?_, fun b o h => ?_, fun x hx => s.ok x (List.mem_append_left _ hx), fun x hx b hb => ⟨(s.fr x (List.mem_append_left _ hx) b hb).1, ?_⟩, (List.pairwise_append.1 s.ap).1⟩
  · unfold layN at h
    split at h
    · exact h
    · exact s.g b o h
  · unfold layN
    split
    · rename_i hf
      obtain ⟨y, hy, e⟩ := hf
      rw [(s.fr y (List.mem_append_right _ hy) b e).1] at h
      cases h
    · exact s.hg b o h
  · unfold layN
    rw [if_neg]
    · exact (s.fr x (List.mem_append_left _ hx) b hb).2
    · rintro ⟨y, hy, e⟩
      exact (List.pairwise_append.1 s.ap).2.2 x hx y hy b hb e

theorem Sim.back {H H' G : Hp} {A A' F : List Blk} {W W' : World} (s : Sim H G (A ++ F) W) (hs : Sub H H') (s' : Sim H' (layN G F W) A' W') : Sim H' G (A' ++ F) W' := by
  have lay_some : ∀ y ∈ F, ∀ b, y.own = some b → ∃ o, layN G F W b = some o ∧ W.heap[b]? = some o := fun y hy b e => by
    obtain ⟨o, ho⟩ := (s.ok y (List.mem_append_right _ hy)).lt b e
    exact ⟨o, by unfold layN; rw [if_pos ⟨y, hy, e⟩]; exact ho, ho⟩
  have gl : ∀ b o, G b = some o → layN G F W b = some o := fun b o h => by
    unfold layN
    rw [if_neg]
    · exact h
    · rintro ⟨y, hy, e⟩
      rw [(s.fr y (List.mem_append_right _ hy) b e).2] at h
      cases h
  refine ⟨s'.h, fun b o h => s'.g b o (gl b o h), fun b o h => ?_, fun x hx => ?_, fun x hx b hb => ?_, List.pairwise_append.2 ⟨s'.ap, (List.pairwise_append.1 s.ap).2.1, fun x hx y hy b hb e => ?_⟩⟩
  · cases hG : G b with
    | none => rfl
    | some o' => have := s'.hg b o h; rw [gl b o' hG] at this; cases this
  · rcases List.mem_append.1 hx with hx | hx
    · exact s'.ok x hx
    · refine (s.ok x (List.mem_append_right _ hx)).mono hs (fun b hb => ?_)
      obtain ⟨o, h1, h2⟩ := lay_some x hx b hb
      rw [h2]
      exact s'.g b o h1
  · rcases List.mem_append.1 hx with hx | hx
    · refine ⟨(s'.fr x hx b hb).1, ?_⟩
      cases hG : G b with
      | none => rfl
      | some o => have := (s'.fr x hx b hb).2; rw [gl b o hG] at this; cases this
    · refine ⟨?_, (s.fr x (List.mem_append_right _ hx) b hb).2⟩
      obtain ⟨o, h1, h2⟩ := lay_some x hx b hb
      cases hH : H' b with
      | none => rfl
      | some o' => have := s'.hg b o' hH; rw [h1] at this; cases this
  · obtain ⟨o, h1, h2⟩ := lay_some y hy b e
    have := (s'.fr x hx b hb).2
    rw [h1] at this
    cases this
end Go.Aw
