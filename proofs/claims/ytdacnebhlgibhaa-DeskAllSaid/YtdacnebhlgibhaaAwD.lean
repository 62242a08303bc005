/- Own text: the rules of single operations (part D). -/
import Derived.Test.YtdacnebhlgibhaaAwC
import Derived.Laws.Tables
import Derived.Laws.Cells
import Derived.Laws.IdiomCopy
set_option linter.unusedVariables false
set_option linter.unusedSimpArgs false
namespace Go.Aw
open Go

section
variable {P : Program} {o : Oper} {n : Nat} {v : Env} {A : List Blk} {K : AV → List Blk → Prop} {E : AV → List Blk → Prop}

theorem rel_sc {H : Hp} {w u : Value} (h : Rel H (.sc w) u) : u = w := by cases h; rfl
theorem add_plain (b j k : Nat) : (⟨b, j, none⟩ : Addr).add k = ⟨b, j + k, none⟩ := by unfold Addr.add; split <;> simp_all

/-! ### moves -/
theorem AOp.move {x : Operand} {r : AV} (hop : o.op = .move x) (hx : ev v x = some r) (k : K r A) : AOp P o n v A K E :=
  AOp.val (fun H G W a s e => ⟨_, by simp [execOp, hop], ev_rel e hx⟩) k
theorem AOp.assign {x : Operand} {r : AV} (hop : o.op = .assign x) (hx : ev v x = some r) (k : K r A) : AOp P o n v A K E :=
  AOp.val (fun H G W a s e => ⟨_, by simp [execOp, hop], ev_rel e hx⟩) k
theorem AOp.pick_t {c x y : Operand} {t : Bool} {r : AV} (hop : o.op = .pick c x y) (hc : ev v c = some (.sc (.bool t))) (ht : t = true) (hx : ev v x = some r) (k : K r A) : AOp P o n v A K E :=
  AOp.val (fun H G W a s e => ⟨_, by have := rel_sc (ev_rel e hc); simp [execOp, hop, this, ht, asBool], ev_rel e hx⟩) k
theorem AOp.pick_f {c x y : Operand} {t : Bool} {r : AV} (hop : o.op = .pick c x y) (hc : ev v c = some (.sc (.bool t))) (ht : t = false) (hy : ev v y = some r) (k : K r A) : AOp P o n v A K E :=
  AOp.val (fun H G W a s e => ⟨_, by have := rel_sc (ev_rel e hc); simp [execOp, hop, this, ht, asBool], ev_rel e hy⟩) k

/-! ### numbers, bools, strings -/
theorem AOp.bin {op : BinOp} {ty ty' : TypeId} {x y : Operand} {a b c : Value} (hop : o.op = .binOp op ty x y ty') (hx : ev v x = some (.sc a)) (hy : ev v y = some (.sc b))
    (hg : ∀ W : World, (eqGuard op ty x y a b).run P W = .ok () W) (hr : ∀ W : World, (binOp op ty a b).run P W = .ok c W) (k : K (.sc c) A) : AOp P o n v A K E :=
  AOp.val (fun H G W ac s e => ⟨_, by have h1 := rel_sc (ev_rel e hx); have h2 := rel_sc (ev_rel e hy); simp [execOp, hop, h1, h2, hg, hr], .sc _⟩) k
theorem guard_int (op : BinOp) (ty : TypeId) (x y : Operand) (k k' : IntKind) (a b : Int) (W : World) : (eqGuard op ty x y (.int k a) (.int k' b)).run P W = .ok () W := by cases op <;> rfl
theorem guard_bool (op : BinOp) (ty : TypeId) (x y : Operand) (a b : Bool) (W : World) : (eqGuard op ty x y (.bool a) (.bool b)).run P W = .ok () W := by cases op <;> rfl
theorem guard_str (op : BinOp) (ty : TypeId) (x y : Operand) (a b : ByteArray) (W : World) : (eqGuard op ty x y (.string a) (.string b)).run P W = .ok () W := by cases op <;> rfl

theorem AOp.add {ty ty' : TypeId} {x y : Operand} {k : IntKind} {a b c : Int} (hop : o.op = .binOp .add ty x y ty') (hx : ev v x = some (.sc (.int k a))) (hy : ev v y = some (.sc (.int k b))) (hc : k.wrap (a + b) = c) (q : K (.sc (.int k c)) A) : AOp P o n v A K E :=
  AOp.bin hop hx hy (guard_int _ _ _ _ _ _ _ _) (fun W => by subst hc; simp [binOp, Op.intArith]) q
theorem AOp.sub {ty ty' : TypeId} {x y : Operand} {k : IntKind} {a b c : Int} (hop : o.op = .binOp .sub ty x y ty') (hx : ev v x = some (.sc (.int k a))) (hy : ev v y = some (.sc (.int k b))) (hc : k.wrap (a - b) = c) (q : K (.sc (.int k c)) A) : AOp P o n v A K E :=
  AOp.bin hop hx hy (guard_int _ _ _ _ _ _ _ _) (fun W => by subst hc; simp [binOp, Op.intArith]) q
theorem AOp.mul {ty ty' : TypeId} {x y : Operand} {k : IntKind} {a b c : Int} (hop : o.op = .binOp .mul ty x y ty') (hx : ev v x = some (.sc (.int k a))) (hy : ev v y = some (.sc (.int k b))) (hc : k.wrap (a * b) = c) (q : K (.sc (.int k c)) A) : AOp P o n v A K E :=
  AOp.bin hop hx hy (guard_int _ _ _ _ _ _ _ _) (fun W => by subst hc; simp [binOp, Op.intArith]) q
theorem AOp.quo {ty ty' : TypeId} {x y : Operand} {k : IntKind} {a b c : Int} (hop : o.op = .binOp .quo ty x y ty') (hx : ev v x = some (.sc (.int k a))) (hy : ev v y = some (.sc (.int k b))) (h0 : b ≠ 0) (hc : k.wrap (a.tdiv b) = c) (q : K (.sc (.int k c)) A) : AOp P o n v A K E :=
  AOp.bin hop hx hy (guard_int _ _ _ _ _ _ _ _) (fun W => by subst hc; simp [binOp, Op.intDiv, h0]) q
theorem AOp.rem {ty ty' : TypeId} {x y : Operand} {k : IntKind} {a b c : Int} (hop : o.op = .binOp .rem ty x y ty') (hx : ev v x = some (.sc (.int k a))) (hy : ev v y = some (.sc (.int k b))) (h0 : b ≠ 0) (hc : a.tmod b = c) (q : K (.sc (.int k c)) A) : AOp P o n v A K E :=
  AOp.bin hop hx hy (guard_int _ _ _ _ _ _ _ _) (fun W => by subst hc; simp [binOp, Op.intDiv, h0]) q
theorem AOp.shr {ty ty' : TypeId} {x y : Operand} {k k' : IntKind} {a b c : Int} (hop : o.op = .binOp .shr ty x y ty') (hx : ev v x = some (.sc (.int k a))) (hy : ev v y = some (.sc (.int k' b))) (h0 : ¬ b < 0) (hc : a.fdiv (2 ^ min b.toNat k.bits) = c) (q : K (.sc (.int k c)) A) : AOp P o n v A K E :=
  AOp.bin hop hx hy (guard_int _ _ _ _ _ _ _ _) (fun W => by subst hc; simp [binOp, Op.shift, h0]) q
theorem AOp.shl {ty ty' : TypeId} {x y : Operand} {k k' : IntKind} {a b c : Int} (hop : o.op = .binOp .shl ty x y ty') (hx : ev v x = some (.sc (.int k a))) (hy : ev v y = some (.sc (.int k' b))) (h0 : ¬ b < 0) (hc : k.wrap (a * 2 ^ min b.toNat k.bits) = c) (q : K (.sc (.int k c)) A) : AOp P o n v A K E :=
  AOp.bin hop hx hy (guard_int _ _ _ _ _ _ _ _) (fun W => by subst hc; simp [binOp, Op.shift, h0]) q
theorem AOp.lss {ty ty' : TypeId} {x y : Operand} {k : IntKind} {a b : Int} (hop : o.op = .binOp .lss ty x y ty') (hx : ev v x = some (.sc (.int k a))) (hy : ev v y = some (.sc (.int k b))) (q : K (.sc (.bool (decide (a < b)))) A) : AOp P o n v A K E :=
  AOp.bin hop hx hy (guard_int _ _ _ _ _ _ _ _) (fun W => by simp [binOp, Op.intCmp]) q
theorem AOp.leq {ty ty' : TypeId} {x y : Operand} {k : IntKind} {a b : Int} (hop : o.op = .binOp .leq ty x y ty') (hx : ev v x = some (.sc (.int k a))) (hy : ev v y = some (.sc (.int k b))) (q : K (.sc (.bool (decide (a ≤ b)))) A) : AOp P o n v A K E :=
  AOp.bin hop hx hy (guard_int _ _ _ _ _ _ _ _) (fun W => by simp [binOp, Op.intCmp]) q
theorem AOp.gtr {ty ty' : TypeId} {x y : Operand} {k : IntKind} {a b : Int} (hop : o.op = .binOp .gtr ty x y ty') (hx : ev v x = some (.sc (.int k a))) (hy : ev v y = some (.sc (.int k b))) (q : K (.sc (.bool (decide (b < a)))) A) : AOp P o n v A K E :=
  AOp.bin hop hx hy (guard_int _ _ _ _ _ _ _ _) (fun W => by simp [binOp, Op.intCmp]) q
theorem AOp.geq {ty ty' : TypeId} {x y : Operand} {k : IntKind} {a b : Int} (hop : o.op = .binOp .geq ty x y ty') (hx : ev v x = some (.sc (.int k a))) (hy : ev v y = some (.sc (.int k b))) (q : K (.sc (.bool (decide (b ≤ a)))) A) : AOp P o n v A K E :=
  AOp.bin hop hx hy (guard_int _ _ _ _ _ _ _ _) (fun W => by simp [binOp, Op.intCmp]) q
theorem AOp.eql {ty ty' : TypeId} {x y : Operand} {k : IntKind} {a b : Int} (hop : o.op = .binOp .eql ty x y ty') (hx : ev v x = some (.sc (.int k a))) (hy : ev v y = some (.sc (.int k b))) (q : K (.sc (.bool (decide (a = b)))) A) : AOp P o n v A K E :=
  AOp.bin hop hx hy (guard_int _ _ _ _ _ _ _ _) (fun W => by simp [binOp, Op.intCmp]; rfl) q
theorem AOp.neq {ty ty' : TypeId} {x y : Operand} {k : IntKind} {a b : Int} (hop : o.op = .binOp .neq ty x y ty') (hx : ev v x = some (.sc (.int k a))) (hy : ev v y = some (.sc (.int k b))) (q : K (.sc (.bool (!decide (a = b)))) A) : AOp P o n v A K E :=
  AOp.bin hop hx hy (guard_int _ _ _ _ _ _ _ _) (fun W => by simp [binOp, Op.intCmp]; rfl) q
theorem beq_list (a b : ByteArray) : (a.toList == b.toList) = decide (a = b) := by
  by_cases h : a = b
  · subst h; simp
  · have : a.toList ≠ b.toList := by
      intro e
      apply h
      have h1 : a.data = b.data := by
        have := congrArg List.toArray e
        simpa [ByteArray.toList_eq] using this
      cases a; cases b; simp_all
    simp [h, this]
theorem AOp.eqs {ty ty' : TypeId} {x y : Operand} {a b : ByteArray} (hop : o.op = .binOp .eql ty x y ty') (hx : ev v x = some (.sc (.string a))) (hy : ev v y = some (.sc (.string b))) (q : K (.sc (.bool (decide (a = b)))) A) : AOp P o n v A K E :=
  AOp.bin hop hx hy (guard_str _ _ _ _ _ _) (fun W => by simp [binOp, Op.stringOp, beq_list]) q
theorem AOp.nes {ty ty' : TypeId} {x y : Operand} {a b : ByteArray} (hop : o.op = .binOp .neq ty x y ty') (hx : ev v x = some (.sc (.string a))) (hy : ev v y = some (.sc (.string b))) (q : K (.sc (.bool (!decide (a = b)))) A) : AOp P o n v A K E :=
  AOp.bin hop hx hy (guard_str _ _ _ _ _ _) (fun W => by simp [binOp, Op.stringOp, beq_list]) q
theorem AOp.cat {ty ty' : TypeId} {x y : Operand} {a b : ByteArray} (hop : o.op = .binOp .add ty x y ty') (hx : ev v x = some (.sc (.string a))) (hy : ev v y = some (.sc (.string b))) (hl : a.size + b.size ≤ 9223372036854775807) (q : K (.sc (.string (a ++ b))) A) : AOp P o n v A K E :=
  AOp.bin hop hx hy (guard_str _ _ _ _ _ _) (fun W => by
    have : ¬ (((a.size + b.size : Nat) : Int) > IntKind.i64.max) := by
      have : IntKind.i64.max = 9223372036854775807 := by decide
      rw [this]; omega
    simp only [binOp, Op.stringOp]
    rw [if_neg this]
    rfl) q
theorem AOp.eqb {ty ty' : TypeId} {x y : Operand} {a b : Bool} (hu : P.underlying ty = some .bool) (hop : o.op = .binOp .eql ty x y ty') (hx : ev v x = some (.sc (.bool a))) (hy : ev v y = some (.sc (.bool b))) (q : K (.sc (.bool (a == b))) A) : AOp P o n v A K E :=
  AOp.bin hop hx hy (guard_bool _ _ _ _ _ _) (fun W => by
    have h : ∀ d : Nat, (Op.equalIn (d + 1) ty (.bool a) (.bool b)).run P W = .ok (a == b) W := fun d => by simp [Op.equalIn, run_underlying hu]
    simp only [binOp]; simp [Op.equal, Op.maxDepth, h 9999]) q
theorem AOp.neb {ty ty' : TypeId} {x y : Operand} {a b : Bool} (hu : P.underlying ty = some .bool) (hop : o.op = .binOp .neq ty x y ty') (hx : ev v x = some (.sc (.bool a))) (hy : ev v y = some (.sc (.bool b))) (q : K (.sc (.bool (!(a == b)))) A) : AOp P o n v A K E :=
  AOp.bin hop hx hy (guard_bool _ _ _ _ _ _) (fun W => by
    have h : ∀ d : Nat, (Op.equalIn (d + 1) ty (.bool a) (.bool b)).run P W = .ok (a == b) W := fun d => by simp [Op.equalIn, run_underlying hu]
    simp only [binOp]; simp [Op.equal, Op.maxDepth, h 9999]) q
theorem AOp.not {ty : TypeId} {x : Operand} {a : Bool} (hop : o.op = .unOp .not ty x) (hx : ev v x = some (.sc (.bool a))) (q : K (.sc (.bool (!a))) A) : AOp P o n v A K E :=
  AOp.val (fun H G W ac s e => ⟨_, by have h1 := rel_sc (ev_rel e hx); simp [execOp, hop, h1, Op.unary], .sc _⟩) q
theorem AOp.convi {src dst : TypeId} {x : Operand} {k k' : IntKind} {a c : Int} {ds : TypeDesc} (hs : P.underlying src = some ds) (hd : P.underlying dst = some (.int k)) (hop : o.op = .convert src dst x) (hx : ev v x = some (.sc (.int k' a))) (hc : k.wrap a = c) (q : K (.sc (.int k c)) A) : AOp P o n v A K E :=
  AOp.val (fun H G W ac s e => ⟨_, by have h1 := rel_sc (ev_rel e hx); subst hc; simp [execOp, hop, h1, convert, run_underlying hs, run_underlying hd, Conv.intToInt], .sc _⟩) q

/-! ### places that are read -/
def Reads (A : List Blk) (r : AV) (cs : List AV) : Prop :=
  ∀ (H G : Hp) (W : World) (p : Value), Sim H G A W → Rel H r p → ∃ b off, p = .pointer (some ⟨b, off, none⟩) ∧ ∀ j x, cs[j]? = some x → ∃ u, W.cell? ⟨b, off + j, none⟩ = some u ∧ u.oneCell' = true ∧ Rel H x u
theorem cell_of_hcell {H G : Hp} {W : World} (s : Sim H G A W) {b off : Nat} {u : Value} (h : hcell H b off = some u) : W.cell? ⟨b, off, none⟩ = some u := by
  unfold hcell at h
  cases hb : H b with
  | none => rw [hb] at h; cases h
  | some ob =>
    rw [hb] at h
    cases ob <;> simp at h
    have := s.h b _ hb
    simp [World.cell?, this, h]
theorem reads_im (A : List Blk) (cs : List AV) : Reads A (.im cs) cs := by
  intro H G W p s h
  cases h with
  | im cs b off u hc h1 hr =>
    refine ⟨b, off, rfl, fun j x hx => ?_⟩
    have hj : j < cs.length := (List.getElem?_eq_some_iff.1 hx).1
    exact ⟨u j, cell_of_hcell s (hc j hj), h1 j hj, hr j x hx⟩
theorem reads_box {A : List Blk} {b : Nat} {t : TypeId} {cs : List AV} (j : Nat) (h : Blk.box b t cs ∈ A) : Reads A (.sc (.pointer (some ⟨b, j, none⟩))) (cs.drop j) := by
  intro H G W p s hp
  cases rel_sc hp
  refine ⟨b, j, rfl, fun i x hx => ?_⟩
  rw [List.getElem?_drop] at hx
  have hlt : j + i < cs.length := (List.getElem?_eq_some_iff.1 hx).1
  cases s.ok _ h with
  | box b t cs us hb hs u hu h1 hr => exact ⟨u (j + i), by simp [World.cell?, hb, hu _ hlt], h1 _ hlt, hr _ _ hx⟩
theorem row_at {W : World} {e : TypeId} {sz n : Nat} {v : Value} {xs : List Value} (ho : W.ownsRow 0 e sz v n xs) {q : Nat} {u : Value} (hq : xs[q]? = some u) : ∃ b c, v = .slice (some ⟨b, 0, none⟩) n c ∧ W.cell? ⟨b, q, none⟩ = some u ∧ ∃ cur, W.heap[b]? = some (.cells cur e (0, 0)) ∧ q < cur.size := by
  rcases ho.2 with ⟨rfl, rfl⟩ | ⟨g, cap, cur, rfl, _, hg, hnc, _, hcs, htake⟩
  · have := ho.1
    simp at this
    rw [this] at hq
    cases hq
  · rw [← htake, List.getElem?_take] at hq
    split at hq
    · refine ⟨g, cap, rfl, ?_, cur, hg, ?_⟩
      · rw [cell_of_row W g q cur e (0, 0) hg]
        simpa using hq
      · have := (List.getElem?_eq_some_iff.1 hq).1
        simpa using this
    · cases hq
theorem reads_row {A : List Blk} {w : Value} {e : TypeId} {sz : Nat} {els : List (List AV)} {k : Nat} {el : List AV} (j : Nat) (h : Blk.row w e sz els ∈ A) (hk : els[k]? = some el) (hj : j < sz) : Reads A (.sc (rowPtr w sz k j)) (el.drop j) := by
  intro H G W p s hp
  cases rel_sc hp
  have hkl : k < els.length := (List.getElem?_eq_some_iff.1 hk).1
  cases s.ok _ h with
  | row w e sz els xs ho hz u hu h1 hr =>
    have hel := hz k el hk
    obtain ⟨b, c, rfl, _, _⟩ := row_at ho (hu k j hkl hj)
    refine ⟨b, k * sz + j, rfl, fun i x hx => ?_⟩
    rw [List.getElem?_drop] at hx
    have hlt : j + i < sz := by have := (List.getElem?_eq_some_iff.1 hx).1; omega
    obtain ⟨b', c', e', hc, _⟩ := row_at ho (hu k (j + i) hkl hlt)
    cases e'
    exact ⟨u k (j + i), by rw [Nat.add_assoc]; exact hc, h1 _ _ hkl hlt, hr _ _ _ _ hk hx⟩

theorem AOp.load1 {t : TypeId} {x : Operand} {r y : AV} {cs : List AV} (ha : ∀ W : World, (isAgg t).run P W = .ok false W) (hop : o.op = .load t x) (hx : ev v x = some r) (hr : Reads A r cs) (h0 : cs[0]? = some y) (q : K y A) : AOp P o n v A K E := by
  refine AOp.val (fun H G W ac s e => ?_) q
  obtain ⟨b, off, hp, hc⟩ := hr H G W _ s (ev_rel e hx)
  obtain ⟨u, hu, _, hru⟩ := hc 0 y h0
  exact ⟨u, by simp [execOp, hop, hp, Instr.loadAt, Instr.sureAddr, loadVar, ha, show W.cell? ⟨b, off, none⟩ = some u by simpa using hu], hru⟩
theorem choose_u {cs : List AV} {f : Nat → Value → Prop} {H : Hp} (h : ∀ j x, cs[j]? = some x → ∃ u, f j u ∧ u.oneCell' = true ∧ Rel H x u) : ∃ u : Nat → Value, ∀ j x, cs[j]? = some x → f j (u j) ∧ (u j).oneCell' = true ∧ Rel H x (u j) := by
  have : ∀ j, ∃ u, ∀ x, cs[j]? = some x → f j u ∧ u.oneCell' = true ∧ Rel H x u := fun j => by
    cases hc : cs[j]? with
    | none => exact ⟨undef, fun x hx => by cases hx⟩
    | some x =>
      obtain ⟨u, hu⟩ := h j x hc
      exact ⟨u, fun x' hx' => by cases hx'; exact hu⟩
  exact ⟨fun j => Classical.choose (this j), fun j x hx => Classical.choose_spec (this j) x hx⟩
theorem AOp.loadN {t : TypeId} {x : Operand} {r : AV} {s : Nat} {cs ys : List AV} (ha : ∀ W : World, (isAgg t).run P W = .ok true W) (hs : ∀ W : World, (sizeOf t).run P W = .ok s W) (hop : o.op = .load t x) (hx : ev v x = some r) (hr : Reads A r cs) (hy : cs.take s = ys) (hl : ys.length = s) (q : K (.ag ys) A) : AOp P o n v A K E := by
  subst hy
  refine AOp.val (fun H G W ac sm e => ?_) q
  obtain ⟨b, off, hp, hc⟩ := hr H G W _ sm (ev_rel e hx)
  obtain ⟨u, hu⟩ := choose_u hc
  have hlen : s ≤ cs.length := by rw [List.length_take] at hl; omega
  have hget : ∀ j, j < s → ∃ x, cs[j]? = some x := fun j hj => ⟨_, List.getElem?_eq_getElem (by omega)⟩
  have hload : (loadCells ⟨b, off, none⟩ s).run P W = .ok ((List.range s).map u).toArray W := by
    have := run_loadCells_list (P := P) (w := W) ⟨b, off, none⟩ ((List.range s).map u) (fun j w hw => by
      rw [List.getElem?_map] at hw
      cases hj : (List.range s)[j]? with
      | none => rw [hj] at hw; cases hw
      | some q =>
        rw [hj] at hw
        have hjs : j < s := by have := (List.getElem?_eq_some_iff.1 hj).1; simpa using this
        have hq : q = j := by rw [List.getElem?_range hjs] at hj; cases hj; rfl
        subst hq
        cases hw
        obtain ⟨x, hx⟩ := hget q hjs
        rw [add_plain]
        exact (hu q x hx).1)
    simpa using this
  refine ⟨.agg ((List.range s).map u).toArray, by simp [execOp, hop, hp, Instr.loadAt, Instr.sureAddr, loadVar, ha, hs, hload], ?_⟩
  refine .ag _ u _ (by simp; omega) (fun j hj => ?_) (fun j hj => ?_) (fun j x hx => ?_)
  · rw [List.length_take] at hj
    simp [show j < s by omega]
  · rw [List.length_take] at hj
    obtain ⟨x, hx⟩ := hget j (by omega)
    exact (hu j x hx).2.1
  · rw [List.getElem?_take] at hx
    split at hx
    · exact (hu j x hx).2.2
    · cases hx

/-! ### fields and elements -/
theorem AOp.fieldB {st : TypeId} {x : Operand} {f b j s : Nat} {fs : Array Field} {fd : Field} (hu : P.underlying st = some (.struct fs)) (hf : fs[f]? = some fd) (hs : ∀ W : World, (sizeOf fd.type).run P W = .ok s W) (h0 : s ≠ 0) (hop : o.op = .fieldAddr st x f) (hx : ev v x = some (.sc (.pointer (some ⟨b, j, none⟩)))) {c : Nat} (hc : j + fd.offset = c) (q : K (.sc (.pointer (some ⟨b, c, none⟩))) A) : AOp P o n v A K E :=
  AOp.val (fun H G W ac sm e => ⟨_, by have h1 := rel_sc (ev_rel e hx); subst hc; simp [execOp, hop, h1, Instr.fieldAt, run_underlying hu, hf, Instr.sureAddr, fieldPlace, hs, h0, add_plain], .sc _⟩) q
theorem AOp.fieldR {st : TypeId} {x : Operand} {f sz k j s : Nat} {w : Value} {fs : Array Field} {fd : Field} (hu : P.underlying st = some (.struct fs)) (hf : fs[f]? = some fd) (hs : ∀ W : World, (sizeOf fd.type).run P W = .ok s W) (h0 : s ≠ 0) (hop : o.op = .fieldAddr st x f) (hx : ev v x = some (.sc (rowPtr w sz k j))) {c : Nat} (hc : j + fd.offset = c) (q : K (.sc (rowPtr w sz k c)) A) : AOp P o n v A K E :=
  AOp.val (fun H G W ac sm e => ⟨rowPtr w sz k c, by have h1 := rel_sc (ev_rel e hx); subst hc; simp [execOp, hop, h1, Instr.fieldAt, run_underlying hu, hf, Instr.sureAddr, fieldPlace, hs, h0, add_plain, rowPtr, Nat.add_assoc], .sc _⟩) q
theorem rel_im_drop {H : Hp} {cs : List AV} {p : Value} (h : Rel H (.im cs) p) (k : Nat) : ∃ b off, p = .pointer (some ⟨b, off, none⟩) ∧ Rel H (.im (cs.drop k)) (.pointer (some ⟨b, off + k, none⟩)) := by
  cases h with
  | im cs b off u hc h1 hr =>
    refine ⟨b, off, rfl, .im _ b (off + k) (fun j => u (k + j)) (fun j hj => ?_) (fun j hj => ?_) (fun j x hx => ?_)⟩
    · rw [List.length_drop] at hj; rw [Nat.add_assoc]; exact hc _ (by omega)
    · rw [List.length_drop] at hj; exact h1 _ (by omega)
    · rw [List.getElem?_drop] at hx; exact hr _ _ hx
theorem AOp.fieldI {st : TypeId} {x : Operand} {f s : Nat} {cs ys : List AV} {fs : Array Field} {fd : Field} (hu : P.underlying st = some (.struct fs)) (hf : fs[f]? = some fd) (hs : ∀ W : World, (sizeOf fd.type).run P W = .ok s W) (h0 : s ≠ 0) (hop : o.op = .fieldAddr st x f) (hx : ev v x = some (.im cs)) (hy : cs.drop fd.offset = ys) (q : K (.im ys) A) : AOp P o n v A K E := by
  subst hy
  refine AOp.val (fun H G W ac sm e => ?_) q
  obtain ⟨b, off, hp, hr⟩ := rel_im_drop (ev_rel e hx) fd.offset
  exact ⟨_, by simp [execOp, hop, hp, Instr.fieldAt, run_underlying hu, hf, Instr.sureAddr, fieldPlace, hs, h0, add_plain], hr⟩

theorem AOp.indexS {t e : TypeId} {x y : Operand} {k : IntKind} {i : Int} {s : Nat} {es : List (List AV)} {el : List AV} (hu : P.underlying t = some (.slice e)) (hs : ∀ W : World, (sizeOf e).run P W = .ok s W) (hel : ∀ q ∈ es, q.length = s) (hop : o.op = .indexAddr t x y) (hx : ev v x = some (.sl es)) (hy : ev v y = some (.sc (.int k i))) (h0 : 0 ≤ i) (hi : es[i.toNat]? = some el) (q : K (.im el) A) : AOp P o n v A K E := by
  refine AOp.val (fun H G W ac sm en => ?_) q
  have h1 := ev_rel en hx
  have h2 := rel_sc (ev_rel en hy)
  have hlt : i.toNat < es.length := (List.getElem?_eq_some_iff.1 hi).1
  generalize hp : ac.eval x = p at h1
  cases h1 with
  | sl es sz a c u hc ha hz h1 hr =>
    obtain ⟨b, off, rfl, hcell⟩ := ha (by omega)
    have hsz : sz = s := by
      have h3 := hz _ _ hi
      have h4 := hel el (List.mem_of_getElem? hi)
      omega
    subst hsz
    have hlt' : i < (es.length : Int) := by omega
    refine ⟨_, by simp [execOp, hop, hp, h2, Instr.indexAt, asIntOf, run_underlying hu, h0, hlt', hs, add_plain]; rfl, ?_⟩
    have hell := hz _ _ hi
    refine .im el b (off + i.toNat * sz) (fun j => u i.toNat j) (fun j hj => ?_) (fun j hj => h1 _ _ hlt (by omega)) (fun j x hx => hr _ _ _ _ hi hx)
    rw [Nat.add_assoc]
    exact hcell _ _ hi j (by omega)
theorem AOp.indexR {t e : TypeId} {x y : Operand} {k : IntKind} {i : Int} {s : Nat} {w : Value} {els : List (List AV)} (hu : P.underlying t = some (.slice e)) (hs : ∀ W : World, (sizeOf e).run P W = .ok s W) (hA : Blk.row w e s els ∈ A) (hop : o.op = .indexAddr t x y) (hx : ev v x = some (.sc w)) (hy : ev v y = some (.sc (.int k i))) (h0 : 0 ≤ i) (hi : i < els.length) (q : K (.sc (rowPtr w s i.toNat 0)) A) : AOp P o n v A K E := by
  refine AOp.val (fun H G W ac sm en => ?_) q
  have h1 := rel_sc (ev_rel en hx)
  have h2 := rel_sc (ev_rel en hy)
  cases sm.ok _ hA with
  | row w e sz els xs ho hz u hu' h1' hr =>
    rcases ho.2 with ⟨rfl, h00⟩ | ⟨g, cap, cur, rfl, _, hg, hnc, _, hcs, htake⟩
    · omega
    · refine ⟨_, by simp [execOp, hop, h1, h2, Instr.indexAt, asIntOf, run_underlying hu, h0, hi, hs, add_plain]; rfl, ?_⟩
      simp only [rowPtr, Value.ownBlock, Option.getD_some, Nat.add_zero]
      exact .sc _

/-! ### tuples, aggregates -/
theorem AOp.extract {x : Operand} {i : Nat} {cs : List AV} {r : AV} (hop : o.op = .extract x i) (hx : ev v x = some (.tp cs)) (hi : cs[i]? = some r) (q : K r A) : AOp P o n v A K E := by
  refine AOp.val (fun H G W ac sm en => ?_) q
  have h1 := ev_rel en hx
  generalize hp : ac.eval x = p at h1
  cases h1 with
  | tp cs u vs hs hv hr =>
    have hlt := (List.getElem?_eq_some_iff.1 hi).1
    exact ⟨u i, by simp [execOp, hop, hp, Instr.extract, hv i hlt], hr i r hi⟩
theorem AOp.field1 {st ft : TypeId} {x : Operand} {f : Nat} {cs : List AV} {r : AV} {fs : Array Field} {fd : Field} (hu : P.underlying st = some (.struct fs)) (hf : fs[f]? = some fd) (hft : fd.type = ft) (ha : ∀ W : World, (isAgg ft).run P W = .ok false W) (hop : o.op = .field st x f) (hx : ev v x = some (.ag cs)) (hi : cs[fd.offset]? = some r) (q : K r A) : AOp P o n v A K E := by
  subst hft
  refine AOp.val (fun H G W ac sm en => ?_) q
  have h1 := ev_rel en hx
  generalize hp : ac.eval x = p at h1
  cases h1 with
  | ag cs u vs hs hv h1 hr =>
    have hlt := (List.getElem?_eq_some_iff.1 hi).1
    exact ⟨u fd.offset, by simp [execOp, hop, hp, Instr.field, run_underlying hu, hf, part, ha, asAgg, hv _ hlt], hr _ r hi⟩
theorem AOp.fieldN {st ft : TypeId} {x : Operand} {f s : Nat} {cs ys : List AV} {fs : Array Field} {fd : Field} (hu : P.underlying st = some (.struct fs)) (hf : fs[f]? = some fd) (hft : fd.type = ft) (ha : ∀ W : World, (isAgg ft).run P W = .ok true W) (hsz : ∀ W : World, (sizeOf ft).run P W = .ok s W) (hop : o.op = .field st x f) (hx : ev v x = some (.ag cs)) (hy : (cs.drop fd.offset).take s = ys) (hl : ys.length = s) (q : K (.ag ys) A) : AOp P o n v A K E := by
  subst hft; subst hy
  refine AOp.val (fun H G W ac sm en => ?_) q
  have h1 := ev_rel en hx
  generalize hp : ac.eval x = p at h1
  cases h1 with
  | ag cs u vs hs hv h1 hr =>
    rw [List.length_take, List.length_drop] at hl
    refine ⟨_, by simp [execOp, hop, hp, Instr.field, run_underlying hu, hf, part, ha, asAgg, hsz]; rfl, ?_⟩
    refine .ag _ (fun j => u (fd.offset + j)) _ (by simp; omega) (fun j hj => ?_) (fun j hj => ?_) (fun j x hx => ?_)
    · rw [List.length_take, List.length_drop] at hj
      rw [Array.getElem?_extract, if_pos (by omega)]
      exact hv _ (by omega)
    · rw [List.length_take, List.length_drop] at hj
      exact h1 _ (by omega)
    · rw [List.getElem?_take] at hx
      split at hx
      · rw [List.getElem?_drop] at hx; exact hr _ _ hx
      · cases hx
theorem AOp.makeFunc {fn : Fn} {cap : Array Operand} {cs : List AV} (hop : o.op = .makeFunc fn #[] cap) (hc : cap.toList.map (ev v) = cs.map some) (q : K (.fn fn cs) A) : AOp P o n v A K E := by
  refine AOp.val (fun H G W ac sm en => ?_) q
  refine ⟨_, by simp [execOp, hop, Instr.makeFunc]; rfl, ?_⟩
  have hlen : cap.size = cs.length := by have := congrArg List.length hc; simpa using this
  refine .fn fn cs (fun j => ac.eval (cap.getD j (.tmp 0))) _ (by simp [hlen]) (fun j hj => ?_) (fun j x hx => ?_)
  · have hj' : j < cap.size := by omega
    simp [hj', Array.getD_eq_getD_getElem?]
  · have hj : j < cs.length := (List.getElem?_eq_some_iff.1 hx).1
    have hj' : j < cap.size := by omega
    have h1 := congrArg (·[j]?) hc
    simp only [List.getElem?_map, hx, Option.map_some, Array.getElem?_toList, Array.getElem?_eq_getElem hj', Option.some.injEq] at h1
    have := ev_rel en h1
    simpa [Array.getD_eq_getD_getElem?, hj'] using this
theorem AOp.mkIface {t : TypeId} {x : Operand} {r : AV} {d : TypeDesc} (hu : P.underlying t = some d) (hd : ∀ ms, d ≠ .interface ms) (hop : o.op = .makeInterface t x) (hx : ev v x = some r) (q : K (.ifc t r) A) : AOp P o n v A K E := by
  refine AOp.val (fun H G W ac sm en => ?_) q
  refine ⟨.iface t (ac.eval x), ?_, .ifc t r _ (ev_rel en hx)⟩
  cases d <;> first | exact absurd rfl (hd _) | simp [execOp, hop, Instr.makeInterface, run_underlying hu]
theorem AOp.nilCheck {x : Operand} {r : AV} (hop : o.op = .nilCheck x) (hx : ev v x = some r) (hr : ∀ (H G : Hp) (W : World) (p : Value), Sim H G A W → Rel H r p → ∃ a, p = .pointer (some a)) (q : K r A) : AOp P o n v A K E := by
  refine AOp.val (fun H G W ac sm en => ?_) q
  have h1 := ev_rel en hx
  obtain ⟨a, ha⟩ := hr H G W _ sm h1
  exact ⟨ac.eval x, by simp [execOp, hop, ha], h1⟩

/-! ### lengths -/
theorem AOp.lenS {t e : TypeId} {x : Operand} {es : List (List AV)} {m : Nat} (hm : es.length = m) (hu : P.underlying t = some (.slice e)) (hop : o.op = .call { callee := .builtin .len, args := #[x], argTypes := #[t] }) (hx : ev v x = some (.sl es)) (q : K (.sc (.int .i64 m)) A) : AOp P o n v A K E := by
  subst hm
  refine AOp.val (fun H G W ac sm en => ?_) q
  have h1 := ev_rel en hx
  generalize hp : ac.eval x = p at h1
  cases h1 with
  | sl es sz a c u hc ha hz h1 hr => exact ⟨_, by simp [execOp, hop, resolve, invoke, builtin, hp, Builtin.len_, run_underlying hu, goInt], .sc _⟩
theorem AOp.lenN {t e : TypeId} {x : Operand} (hu : P.underlying t = some (.slice e)) (hop : o.op = .call { callee := .builtin .len, args := #[x], argTypes := #[t] }) (hx : ev v x = some .nl) (q : K (.sc (.int .i64 0)) A) : AOp P o n v A K E := by
  refine AOp.val (fun H G W ac sm en => ?_) q
  have h1 := ev_rel en hx
  generalize hp : ac.eval x = p at h1
  cases h1 with
  | nl a => exact ⟨_, by simp [execOp, hop, resolve, invoke, builtin, hp, Builtin.len_, run_underlying hu, goInt], .sc _⟩
theorem own_slice {W : World} {e : TypeId} {sz n : Nat} {v : Value} {xs : List Value} (ho : W.ownsRow 0 e sz v n xs) : ∃ a c, v = .slice a n c := by
  rcases ho.2 with ⟨rfl, rfl⟩ | ⟨g, cap, cur, rfl, _⟩
  · exact ⟨none, 0, rfl⟩
  · exact ⟨_, _, rfl⟩
theorem AOp.lenR {t e e' : TypeId} {x : Operand} {w : Value} {sz : Nat} {els : List (List AV)} {m : Nat} (hm : els.length = m) (hu : P.underlying t = some (.slice e)) (hA : Blk.row w e' sz els ∈ A) (hop : o.op = .call { callee := .builtin .len, args := #[x], argTypes := #[t] }) (hx : ev v x = some (.sc w)) (q : K (.sc (.int .i64 m)) A) : AOp P o n v A K E := by
  subst hm
  refine AOp.val (fun H G W ac sm en => ?_) q
  have h1 := rel_sc (ev_rel en hx)
  cases sm.ok _ hA with
  | row w e sz els xs ho hz u hu' h1' hr =>
    obtain ⟨a, c, rfl⟩ := own_slice ho
    exact ⟨_, by simp [execOp, hop, resolve, invoke, builtin, h1, Builtin.len_, run_underlying hu, goInt], .sc _⟩
theorem AOp.lenT {t : TypeId} {x : Operand} {s : ByteArray} (hu : P.underlying t = some .string) (hop : o.op = .call { callee := .builtin .len, args := #[x], argTypes := #[t] }) (hx : ev v x = some (.sc (.string s))) (q : K (.sc (.int .i64 s.size)) A) : AOp P o n v A K E :=
  AOp.val (fun H G W ac sm en => ⟨_, by have h1 := rel_sc (ev_rel en hx); simp [execOp, hop, resolve, invoke, builtin, h1, Builtin.len_, run_underlying hu, goInt], .sc _⟩) q
end
end Go.Aw
