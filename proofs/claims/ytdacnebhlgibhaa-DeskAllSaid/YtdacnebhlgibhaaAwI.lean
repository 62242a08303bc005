/- Own text: the rules in the forms that a program's print uses (part I). -/
import Derived.Test.YtdacnebhlgibhaaAwH
set_option linter.unusedVariables false
set_option linter.unusedSimpArgs false
namespace Go.Aw
open Go

theorem wrapE {x : Int} (h1 : -9223372036854775808 ≤ x) (h2 : x ≤ 9223372036854775807) : IntKind.i64.wrap x = x := by rw [IntKind.wrap_i64]; omega
def evs (v : Env) : List Operand → Option (List AV)
  | [] => some []
  | x :: r => match ev v x, evs v r with
    | some a, some l => some (a :: l)
    | _, _ => none
theorem evs_map {v : Env} : ∀ {xs : List Operand} {l : List AV}, evs v xs = some l → xs.map (ev v) = l.map some
  | [], l, h => by cases h; rfl
  | x :: r, l, h => by
    simp only [evs] at h
    split at h
    · rename_i a l' h1 h2; cases h; simp [h1, evs_map h2]
    · cases h
/-- A contract of a function that only computes. -/
abbrev Pur (P : Program) (f : FuncId) (args : List AV) (r : AV) : Prop := ACalls P f args [] (fun r' A' => r' = r ∧ A' = []) (fun _ _ => False)

section
variable {P : Program} {o : Oper} {n : Nat} {v : Env} {A : List Blk} {K : AV → List Blk → Prop} {E : AV → List Blk → Prop}
theorem AOp.addE {ty ty' : TypeId} {x y : Operand} {a b : Int} (hop : o.op = .binOp .add ty x y ty') (hx : ev v x = some (.sc (.int .i64 a))) (hy : ev v y = some (.sc (.int .i64 b))) (h1 : -9223372036854775808 ≤ a + b) (h2 : a + b ≤ 9223372036854775807) (q : K (.sc (.int .i64 (a + b))) A) : AOp P o n v A K E := AOp.add hop hx hy (wrapE h1 h2) q
theorem AOp.subE {ty ty' : TypeId} {x y : Operand} {a b : Int} (hop : o.op = .binOp .sub ty x y ty') (hx : ev v x = some (.sc (.int .i64 a))) (hy : ev v y = some (.sc (.int .i64 b))) (h1 : -9223372036854775808 ≤ a - b) (h2 : a - b ≤ 9223372036854775807) (q : K (.sc (.int .i64 (a - b))) A) : AOp P o n v A K E := AOp.sub hop hx hy (wrapE h1 h2) q
theorem AOp.mulE {ty ty' : TypeId} {x y : Operand} {a b : Int} (hop : o.op = .binOp .mul ty x y ty') (hx : ev v x = some (.sc (.int .i64 a))) (hy : ev v y = some (.sc (.int .i64 b))) (h1 : -9223372036854775808 ≤ a * b) (h2 : a * b ≤ 9223372036854775807) (q : K (.sc (.int .i64 (a * b))) A) : AOp P o n v A K E := AOp.mul hop hx hy (wrapE h1 h2) q
theorem wrap_of {k : IntKind} {a : Int} (h : k = .i64 ∧ -9223372036854775808 ≤ a ∧ a ≤ 9223372036854775807 ∨ k = .u64 ∧ 0 ≤ a ∧ a ≤ 18446744073709551615 ∨ k = .u8 ∧ 0 ≤ a ∧ a ≤ 255 ∨ k = .u16 ∧ 0 ≤ a ∧ a ≤ 65535) : k.wrap a = a := by
  rcases h with ⟨rfl, h⟩ | ⟨rfl, h⟩ | ⟨rfl, h⟩ | ⟨rfl, h⟩
  · rw [IntKind.wrap_i64]; omega
  · simp only [IntKind.wrap, IntKind.bits, IntKind.signed]; simp; omega
  · rw [IntKind.wrap_u8]; omega
  · simp only [IntKind.wrap, IntKind.bits, IntKind.signed]; simp; omega
theorem AOp.conviI {src dst : TypeId} {x : Operand} {k' : IntKind} {a : Int} {ds : TypeDesc} (hs : P.underlying src = some ds) (hd : P.underlying dst = some (.int .i64)) (hop : o.op = .convert src dst x) (hx : ev v x = some (.sc (.int k' a))) (h1 : -9223372036854775808 ≤ a) (h2 : a ≤ 9223372036854775807) (q : K (.sc (.int .i64 a)) A) : AOp P o n v A K E :=
  AOp.convi hs hd hop hx (wrapE h1 h2) q
theorem AOp.conviU {src dst : TypeId} {x : Operand} {k' : IntKind} {a : Int} {ds : TypeDesc} (hs : P.underlying src = some ds) (hd : P.underlying dst = some (.int .u64)) (hop : o.op = .convert src dst x) (hx : ev v x = some (.sc (.int k' a))) (h1 : 0 ≤ a) (h2 : a ≤ 18446744073709551615) (q : K (.sc (.int .u64 a)) A) : AOp P o n v A K E :=
  AOp.convi hs hd hop hx (wrap_of (.inr (.inl ⟨rfl, h1, h2⟩))) q
theorem AOp.shrE {ty ty' : TypeId} {x y : Operand} {k k' : IntKind} {a b : Int} {m : Nat} (hop : o.op = .binOp .shr ty x y ty') (hx : ev v x = some (.sc (.int k a))) (hy : ev v y = some (.sc (.int k' b))) (h0 : 0 ≤ b) (hm : min b.toNat k.bits = m) (q : K (.sc (.int k (a / (2 ^ m : Nat)))) A) : AOp P o n v A K E := by
  refine AOp.shr hop hx hy (by omega) ?_ q
  rw [hm, Int.fdiv_eq_ediv_of_nonneg _ (by exact Int.pow_nonneg (by decide))]
  norm_cast

theorem AOp.shrD {ty ty' : TypeId} {x y : Operand} {k k' : IntKind} {a b d : Int} (hop : o.op = .binOp .shr ty x y ty') (hx : ev v x = some (.sc (.int k a))) (hy : ev v y = some (.sc (.int k' b))) (h0 : 0 ≤ b) (hd : ((2 ^ (min b.toNat k.bits) : Nat) : Int) = d) (q : K (.sc (.int k (a / d))) A) : AOp P o n v A K E := by
  subst hd; exact AOp.shrE hop hx hy h0 rfl q

theorem AOp.build' {t : TypeId} {parts : Array (Nat × Operand)} {z : Value} {fs : Array Field} {places : List (Nat × Nat)} {ps : List (Nat × List AV)} {cs : List AV} (hz0 : ∀ W : World, (zeroValue t).run P W = .ok z W) (hz : (P.info? t).bind (·.zero) = some z) (h1 : z.cells.all (·.oneCell') = true) (hu : P.underlying t = some (.struct fs))
    (hpl : fs.toList.mapM (fun f => (P.info? f.type).map fun i => (f.offset, i.size)) = some places)
    (hop : o.op = .build t parts) (hps : partsOf v (fun i => (places[i]?).map (·.1)) parts.toList = some ps) (hck : (parts.toList.zip ps).all (fun x => Nat.beq ((places[x.1.1]?).map (·.2)).get! x.2.2.length && Nat.ble (x.2.1 + x.2.2.length) z.cells.size) = true)
    (hcs : ps.foldl (fun cs q => splice cs q.1 q.2) (z.cells.toList.map .sc) = cs) (q : K (.ag cs) A) : AOp P o n v A K E := AOp.build hz h1 hu hpl hop hps hck hcs q
theorem AOp.append' {t tx e : TypeId} {z : Value} {sz bytes : Nat} {x y : Operand} {w : Value} {r : AV} {els news : List (List AV)} {A0 : List Blk} (hz0 : ∀ W : World, (zeroValue e).run P W = .ok z W) (hs0 : ∀ W : World, (sizeOf e).run P W = .ok sz W) (ht : P.underlying t = some (.slice e)) (hi : (P.info? e).map (fun i => (i.zero, i.size, i.bytes)) = some (some z, sz, bytes)) (hzs : z.cells.size = sz)
    (hop : o.op = .call { callee := .builtin .append, args := #[x, y], argTypes := #[t, tx] }) (hx : ev v x = some (.sc w)) (hA : Pull A (.row w e sz els) A0) (hy : ev v y = some r) (hs : SrcA P A sz tx r news) (hl : (els.length + news.length) * bytes ≤ 140737488355328) (hb0 : 0 < bytes) (q : ∀ w', K (.sc w') (.row w' e sz (els ++ news) :: A0)) : AOp P o n v A K E :=
  AOp.append ht hi hzs hop hx hA hy hs hl hb0 q
theorem AOp.callP {f : FuncId} {x : Operand} {xs : Array Operand} {ts : Array TypeId} {args caps : List AV} {r : AV}
    (hc : ∀ (args : Array Value) (w : World), (callFunc f args).run P w = .ok (.enter f args) w) (hop : o.op = .call { callee := .value x, args := xs, argTypes := ts }) (hx : ev v x = some (.fn (.func f) caps)) (ha : evs v xs.toList = some args)
    (h : Pur P f (args ++ caps) r) (k : K r A) : AOp P o n v A K E :=
  AOp.call0 hc hop hx (evs_map ha) (R := fun r' => r' = r) h (fun r' hr => by subst hr; exact k)
theorem AOp.callR {f : FuncId} {x : Operand} {xs : Array Operand} {ts : Array TypeId} {args caps : List AV} {Ac Af : List Blk} {R Er : AV → List Blk → Prop}
    (hc : ∀ (args : Array Value) (w : World), (callFunc f args).run P w = .ok (.enter f args) w) (hop : o.op = .call { callee := .value x, args := xs, argTypes := ts }) (hx : ev v x = some (.fn (.func f) caps)) (ha : evs v xs.toList = some args)
    (hA : A.Perm (Ac ++ Af)) (h : ACalls P f (args ++ caps) Ac R Er) (k : ∀ r A', R r A' → K r (A' ++ Af)) (ke : ∀ r A', Er r A' → E r (A' ++ Af)) : AOp P o n v A K E := AOp.call hc hop hx (evs_map ha) hA h k ke

theorem AOp.makeFuncE {fn : Fn} {cap : Array Operand} {cs : List AV} (hop : o.op = .makeFunc fn #[] cap) (hc : evs v cap.toList = some cs) (q : K (.fn fn cs) A) : AOp P o n v A K E := AOp.makeFunc hop (evs_map hc) q
theorem AOp.callN {f : FuncId} {x : Operand} {xs : Array Operand} {ts : Array TypeId} {args caps : List AV} {Ac Af : List Blk} {R : AV → List Blk → Prop}
    (hc : ∀ (args : Array Value) (w : World), (callFunc f args).run P w = .ok (.enter f args) w) (hop : o.op = .call { callee := .value x, args := xs, argTypes := ts }) (hx : ev v x = some (.fn (.func f) caps)) (ha : evs v xs.toList = some args)
    (hA : A.Perm (Ac ++ Af)) (h : ACalls P f (args ++ caps) Ac R (fun _ _ => False)) (k : ∀ r A', R r A' → K r (A' ++ Af)) : AOp P o n v A K E := AOp.call hc hop hx (evs_map ha) hA h k (fun _ _ h => h.elim)

theorem AOp.storeB' {t : TypeId} {x y : Operand} {b j s : Nat} {bt : TypeId} {r : AV} {cs ys zs : List AV} {A0 : List Blk} (hs : ∀ W : World, (sizeOf t).run P W = .ok s W) (hop : o.op = .store t x y) (hx : ev v x = some (.sc (.pointer (some ⟨b, j, none⟩)))) (hy : ev v y = some r) (hc : cellsOf r = some ys) (hl : ys.length = s)
    (hA : Pull A (.box b bt cs) A0) (hlt : Nat.ble (j + s) cs.length = true) (hz : splice cs j ys = zs) (q : K .dd (.box b bt zs :: A0)) : AOp P o n v A K E := by
  subst hl; exact AOp.storeB hs hop hx hy hc hA (by simpa [Nat.ble_eq] using hlt) hz q
theorem AOp.storeR' {t : TypeId} {x y : Operand} {k j sz s : Nat} {w : Value} {et : TypeId} {r : AV} {els els' : List (List AV)} {el ys : List AV} {A0 : List Blk} (hs : ∀ W : World, (sizeOf t).run P W = .ok s W) (hop : o.op = .store t x y) (hx : ev v x = some (.sc (rowPtr w sz k j))) (hy : ev v y = some r) (hc : cellsOf r = some ys) (hl : ys.length = s)
    (hA : Pull A (.row w et sz els) A0) (hk : els[k]? = some el) (hj : Nat.ble (j + s) sz = true) (h0 : Nat.blt 0 s = true) (hz : els.set k (splice el j ys) = els') (q : K .dd (.row w et sz els' :: A0)) : AOp P o n v A K E := by
  subst hl; exact AOp.storeR hs hop hx hy hc hA hk (by simpa [Nat.ble_eq] using hj) (by simpa [Nat.blt_eq] using h0) hz q
theorem all_len {els : List (List AV)} {sz : Nat} (h : els.all (fun e => Nat.beq e.length sz) = true) : ∀ e ∈ els, e.length = sz := fun e he => Nat.eq_of_beq_eq_true (List.all_eq_true.1 h e he)
theorem AOp.buildS' {t et : TypeId} {len sz : Nat} {parts : Array (Nat × Operand)} {z : Value} {ps : List (Nat × List AV)} {els : List (List AV)} (hu : P.underlying t = some (.slice et)) (hsz : ∀ W : World, (sizeOf et).run P W = .ok sz W) (hz : ∀ W : World, (zeroValue et).run P W = .ok z W) (hzs : z.cells.size = sz)
    (h0 : Nat.blt 0 sz = true) (hmax : Nat.ble (len * sz) 16777216 = true) (hop : o.op = .buildSlice t len parts) (hps : partsOf v (fun i => some (i * sz)) parts.toList = some ps) (hck : ps.all (fun q => Nat.beq q.2.length sz && Nat.ble (q.1 + q.2.length) (len * sz)) = true) (hels : ps.map (·.2) = els) (hl : els.length = len) (hel : els.all (fun e => Nat.beq e.length sz) = true) (hnd : els.flatten.all (fun x => !isDd x) = true)
    (hcs : ps.foldl (fun cs q => splice cs q.1 q.2) (List.replicate (len * sz) .dd) = els.flatten) (q : K (.sl els) A) : AOp P o n v A K E :=
  AOp.buildS hu hsz hz hzs (by simpa [Nat.blt_eq] using h0) (by simpa [Nat.ble_eq] using hmax) hop hps hck hl (all_len hel) hnd hcs q
theorem AOp.buildR' {t et : TypeId} {len sz : Nat} {parts : Array (Nat × Operand)} {z : Value} {ps : List (Nat × List AV)} {els : List (List AV)} (hu : P.underlying t = some (.slice et)) (hsz : ∀ W : World, (sizeOf et).run P W = .ok sz W) (hz : ∀ W : World, (zeroValue et).run P W = .ok z W) (hzs : z.cells.size = sz)
    (h0 : Nat.blt 0 sz = true) (hmax : Nat.ble (len * sz) 16777216 = true) (hop : o.op = .buildSlice t len parts) (hps : partsOf v (fun i => some (i * sz)) parts.toList = some ps) (hck : ps.all (fun q => Nat.beq q.2.length sz && Nat.ble (q.1 + q.2.length) (len * sz)) = true) (hels : ps.map (·.2) = els) (hl : els.length = len) (hel : els.all (fun e => Nat.beq e.length sz) = true) (hnd : els.flatten.all (fun x => !isDd x) = true)
    (hcs : ps.foldl (fun cs q => splice cs q.1 q.2) (List.replicate (len * sz) .dd) = els.flatten) (q : ∀ w, K (.sc w) (.row w et sz els :: A)) : AOp P o n v A K E :=
  AOp.buildR hu hsz hz hzs (by simpa [Nat.blt_eq] using h0) (by simpa [Nat.ble_eq] using hmax) hop hps hck hl (all_len hel) hnd hcs q
end
theorem len_map {α : Type} {f : α → List AV} {l : List α} {s : Nat} (h : ∀ x, (f x).length = s) : ∀ q ∈ l.map f, q.length = s := fun q hq => by
  obtain ⟨x, _, rfl⟩ := List.mem_map.1 hq; exact h x
theorem idx_map {α : Type} {f : α → List AV} {l : List α} {i : Int} (h : i.toNat < l.length) : (l.map f)[i.toNat]? = some (f (l[i.toNat]'h)) := by
  rw [List.getElem?_map, List.getElem?_eq_getElem h]; rfl
theorem idx_nat {α : Type} {f : α → List AV} {l : List α} {i : Nat} (h : i < l.length) : (l.map f)[(i : Int).toNat]? = some (f l[i]) := by
  show (l.map f)[i]? = _
  rw [List.getElem?_map, List.getElem?_eq_getElem h]; rfl
theorem acallsN {P : Program} {f : FuncId} {fn : Func} {c : Code} {n : Nat} {args : List AV} {A : List Blk} {R E : AV → List Blk → Prop} (hf : P.funcs[f]? = some fn) (hb : fn.body = some c) (hm : fn.ntmps = n) (hn : Nat.ble args.length n = true)
    (h : AW P n c (argEnv args 0) A (retQ P fn R E)) : ACalls P f args A R E := by
  subst hm; exact acalls hf hb (by simpa [Nat.ble_eq] using hn) h
theorem wk_roweq {n : Nat} {v : Env} {A : List Blk} {w : Value} {e : TypeId} {sz : Nat} {els els' : List (List AV)} (h : els = els') : Wk n v (.row w e sz els :: A) v (.row w e sz els' :: A) := by subst h; exact Wk.refl _ _ _
theorem take_filter {α : Type} {l : List α} {p : α → Bool} {i : Nat} (h : i < l.length) : (l.take (i + 1)).filter p = (l.take i).filter p ++ (if p l[i] then [l[i]] else []) := by
  rw [List.take_add_one, List.filter_append, List.getElem?_eq_getElem h]
  simp only [Option.toList, List.filter]
  cases p l[i] <;> rfl
/-- Numbers as elements. -/
def ie (a : Int) : List AV := [.sc (.int .i64 a)]
def ints (l : List Int) : AV := .sl (l.map ie)
theorem filter_yes {α β : Type} {l : List α} {p : α → Bool} {g : α → β} {e : β → List AV} {i : Nat} (h : i < l.length) (hp : p l[i] = true) : (((l.take i).filter p).map g).map e ++ [e (g l[i])] = (((l.take (i + 1)).filter p).map g).map e := by
  rw [take_filter h, if_pos hp]; simp
theorem filter_no {α β : Type} {l : List α} {p : α → Bool} {g : α → β} {e : β → List AV} {i : Nat} (h : i < l.length) (hp : p l[i] = false) : (((l.take i).filter p).map g).map e = (((l.take (i + 1)).filter p).map g).map e := by
  rw [take_filter h, hp]; simp
theorem filter_yes' {α : Type} {l : List α} {p : α → Bool} {e : α → List AV} {i : Nat} (h : i < l.length) (hp : p l[i] = true) : ((l.take i).filter p).map e ++ [e l[i]] = ((l.take (i + 1)).filter p).map e := by
  rw [take_filter h, if_pos hp]; simp
theorem filter_no' {α : Type} {l : List α} {p : α → Bool} {e : α → List AV} {i : Nat} (h : i < l.length) (hp : p l[i] = false) : ((l.take i).filter p).map e = ((l.take (i + 1)).filter p).map e := by
  rw [take_filter h, hp]; simp
theorem nrm : (∀ (p : Prop) [Decidable p], (decide p = true) = p) ∧ (∀ (p : Prop) [Decidable p], (decide p = false) = ¬ p) ∧ (∀ b : Bool, ((!b) = true) = (b = false)) ∧ (∀ b : Bool, ((!b) = false) = (b = true)) ∧ ((!true) = false) ∧ ((!false) = true) ∧ ((false = true) = False) ∧ ((true = false) = False) ∧
    (∀ a b : Int, (¬ a < b) = (b ≤ a)) ∧ (∀ a b : Int, (¬ a ≤ b) = (b < a)) ∧ (∀ a b : Nat, (¬ a < b) = (b ≤ a)) ∧ (∀ a b : Nat, (¬ a ≤ b) = (b < a)) ∧ (∀ b : Bool, (!!b) = b) := by
  refine ⟨fun p _ => by simp, fun p _ => by simp, fun b => by simp, fun b => by simp, rfl, rfl, by simp, by simp, fun a b => by simp, fun a b => by simp, fun a b => by simp, fun a b => by simp, fun b => by simp⟩
end Go.Aw
