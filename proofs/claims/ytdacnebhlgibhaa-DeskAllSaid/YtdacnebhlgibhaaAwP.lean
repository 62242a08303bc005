/- Own text: arrays that are built (part P). -/
import Derived.Test.YtdacnebhlgibhaaAwO
import Derived.Laws.StructEq
set_option linter.unusedVariables false
set_option linter.unusedSimpArgs false
namespace Go.Aw
open Go
section
variable {P : Program} {o : Oper} {n : Nat} {v : Env} {A : List Blk} {K : AV → List Blk → Prop} {E : AV → List Blk → Prop}
theorem AOp.buildA {t e : TypeId} {len sz : Nat} {parts : Array (Nat × Operand)} {z : Value} {ps : List (Nat × List AV)} {cs : List AV} (hz : ∀ W : World, (zeroValue t).run P W = .ok z W) (h1 : z.cells.all (·.oneCell') = true) (hu : P.underlying t = some (.array len e)) (hs : ∀ W : World, (sizeOf e).run P W = .ok sz W)
    (hop : o.op = .build t parts) (hps : partsOf v (fun i => some (i * sz)) parts.toList = some ps) (hck : ps.all (fun q => Nat.beq q.2.length sz && Nat.ble (q.1 + q.2.length) z.cells.size) = true)
    (hcs : ps.foldl (fun cs q => splice cs q.1 q.2) (z.cells.toList.map .sc) = cs) (q : K (.ag cs) A) : AOp P o n v A K E := by
  subst hcs
  refine AOp.val (fun H G W a s e => ?_) q
  obtain ⟨hl, hsp⟩ := parts_spec e hps
  have hzr : RelC H (z.cells.toList.map AV.sc) (fun j => z.cells[j]?) := fun j x hx => by
    simp only [List.getElem?_map, Array.getElem?_toList] at hx
    cases hv : z.cells[j]? with
    | none => rw [hv] at hx; cases hx
    | some w =>
      rw [hv] at hx
      cases hx
      obtain ⟨hj, e⟩ := Array.getElem?_eq_some_iff.1 hv
      have := Array.all_eq_true.1 h1 j hj
      exact ⟨w, hv, by rw [← e]; exact this, .sc w⟩
  obtain ⟨cells', k1, k2, k3⟩ := relc_fill (place := fun i => some (i * sz, sz)) (parts.toList.map fun p => (p.1, a.eval p.2)) ps (z.cells.toList.map .sc) z.cells (by simp) hzr (by simpa using hl) (fun i p q' hp hq => by
    rw [List.getElem?_map] at hp
    cases hpi : parts.toList[i]? with
    | none => rw [hpi] at hp; cases hp
    | some p0 =>
      rw [hpi] at hp
      cases hp
      obtain ⟨e1, e2, e3⟩ := hsp i p0 q' hpi hq
      have hc := List.all_eq_true.1 hck _ (List.mem_of_getElem? hq)
      simp only [Bool.and_eq_true, Nat.ble_eq] at hc
      have hb := Nat.eq_of_beq_eq_true hc.1
      simp only [Option.some.injEq] at e1
      refine ⟨?_, by simpa using hc.2, e2, e3⟩
      simp only [e1, hb])
  have hrun : (execOp a.eval o).run P W = .ok (.value (.agg cells')) W := by
    simp only [execOp, hop, Instr.build, Sem.run_bind, hz, Result.andThen_ok, run_underlying hu, hs]
    have e : (parts.map fun (i, x) => (i, a.eval x)).toList = parts.toList.map fun p => (p.1, a.eval p.2) := by rw [Array.toList_map]
    simp [e, k1]
  refine ⟨_, hrun, ?_⟩
  obtain ⟨u, hu'⟩ := choose_u (f := fun j u => cells'[j]? = some u) k3
  have hfl : ∀ (l : List (Nat × List AV)) (c : List AV), (∀ q ∈ l, q.1 + q.2.length ≤ c.length) → (l.foldl (fun cs q => splice cs q.1 q.2) c).length = c.length := by
    intro l
    induction l with
    | nil => intro c _; rfl
    | cons q l ih =>
      intro c hq
      simp only [List.foldl_cons]
      have h0 := splice_length (hq q (List.mem_cons_self ..))
      rw [ih _ (fun q' hq' => by rw [h0]; exact hq q' (List.mem_cons_of_mem _ hq')), h0]
  have hlen := hfl ps (z.cells.toList.map .sc) (fun q' hq' => by
    have hc := List.all_eq_true.1 hck _ hq'
    simp only [Bool.and_eq_true, Nat.ble_eq] at hc
    simpa using hc.2)
  refine .ag _ u _ (by rw [k2, hlen]) (fun j hj => (hu' j _ (List.getElem?_eq_getElem hj)).1) (fun j hj => (hu' j _ (List.getElem?_eq_getElem hj)).2.1) (fun j x hx => (hu' j x hx).2.2)
theorem run_eqIn2 {P : Program} {t : TypeId} (hu : P.underlying t = some (.array 2 3)) (hs : ∀ W : World, (sizeOf 3).run P W = .ok 1 W) (ha : ∀ W : World, (isAgg 3).run P W = .ok false W) (a1 a2 b1 b2 : Int) (W : World) (d : Nat) (hq : ∀ (x y : Int), (Op.equalIn d 3 (.int .i64 x) (.int .i64 y)).run P W = .ok (x == y) W) :
    (Op.equalIn (d + 1) t (.agg #[.int .i64 a1, .int .i64 a2]) (.agg #[.int .i64 b1, .int .i64 b2])).run P W = .ok (decide (a1 = b1 ∧ a2 = b2)) W := by
  simp only [Op.equalIn, Sem.run_bind, run_underlying hu, Result.andThen_ok, hs]
  simp [Std.Legacy.Range.forIn_eq_forIn_range', Std.Legacy.Range.size, List.range', part, ha, hq]
  (repeat' split) <;> simp_all
/-- Two arrays of two numbers. -/
theorem run_eqP {P : Program} {t : TypeId} (hu : P.underlying t = some (.array 2 3)) (h3 : P.underlying 3 = some (.int .i64)) (hs : ∀ W : World, (sizeOf 3).run P W = .ok 1 W) (ha : ∀ W : World, (isAgg 3).run P W = .ok false W) (a b : Int × Int) (W : World) :
    (binOp .eql t (.agg #[.int .i64 a.1, .int .i64 a.2]) (.agg #[.int .i64 b.1, .int .i64 b.2])).run P W = .ok (.bool (decide (a = b))) W := by
  obtain ⟨a1, a2⟩ := a
  obtain ⟨b1, b2⟩ := b
  simp only [Prod.mk.injEq]
  rw [run_eql_struct, run_eqIn2 hu hs ha a1 a2 b1 b2 W 9999 (fun x y => run_equalIn_int W 9998 3 .i64 .i64 x y h3)]
  rfl
def pe (p : Int × Int) : List AV := [.sc (.int .i64 p.1), .sc (.int .i64 p.2)]
end
end Go.Aw
