/- Own text: places of arrays (part N). -/
import Derived.Test.YtdacnebhlgibhaaAwK
set_option linter.unusedVariables false
set_option linter.unusedSimpArgs false
namespace Go.Aw
open Go
section
variable {P : Program} {o : Oper} {n : Nat} {v : Env} {A : List Blk} {K : AV → List Blk → Prop} {E : AV → List Blk → Prop}
theorem AOp.indexAI {t e : TypeId} {x y : Operand} {k : IntKind} {m s : Nat} {i : Int} {cs ys : List AV} (hu : P.underlying t = some (.array m e)) (hs : ∀ W : World, (sizeOf e).run P W = .ok s W) (hop : o.op = .indexAddr t x y) (hx : ev v x = some (.im cs)) (hy : ev v y = some (.sc (.int k i))) (h0 : 0 ≤ i) (hi : i < m) (hd : cs.drop (i.toNat * s) = ys) (q : K (.im ys) A) : AOp P o n v A K E := by
  subst hd
  refine AOp.val (fun H G W ac sm e => ?_) q
  have h2 := rel_sc (ev_rel e hy)
  obtain ⟨b, off, hp, hr⟩ := rel_im_drop (ev_rel e hx) (i.toNat * s)
  exact ⟨_, by simp [execOp, hop, hp, h2, Instr.indexAt, asIntOf, run_underlying hu, h0, hi, hs, Instr.sureAddr, add_plain], hr⟩
theorem AOp.indexAB {t e : TypeId} {x y : Operand} {k : IntKind} {m s b j c : Nat} {i : Int} (hu : P.underlying t = some (.array m e)) (hs : ∀ W : World, (sizeOf e).run P W = .ok s W) (hop : o.op = .indexAddr t x y) (hx : ev v x = some (.sc (.pointer (some ⟨b, j, none⟩)))) (hy : ev v y = some (.sc (.int k i))) (h0 : 0 ≤ i) (hi : i < m) (hc : j + i.toNat * s = c) (q : K (.sc (.pointer (some ⟨b, c, none⟩))) A) : AOp P o n v A K E := by
  subst hc
  refine AOp.val (fun H G W ac sm e => ?_) q
  have h1 := rel_sc (ev_rel e hx)
  have h2 := rel_sc (ev_rel e hy)
  exact ⟨_, by simp [execOp, hop, h1, h2, Instr.indexAt, asIntOf, run_underlying hu, h0, hi, hs, Instr.sureAddr, add_plain], .sc _⟩
theorem AOp.quoE8 {ty ty' : TypeId} {x y : Operand} {a b : Int} (hop : o.op = .binOp .quo ty x y ty') (hx : ev v x = some (.sc (.int .u8 a))) (hy : ev v y = some (.sc (.int .u8 b))) (h0 : 0 < b) (ha : 0 ≤ a) (h2 : a ≤ 255) (q : K (.sc (.int .u8 (a / b))) A) : AOp P o n v A K E :=
  AOp.quo hop hx hy (by omega) (by rw [Int.tdiv_eq_ediv_of_nonneg ha]; exact wrap_of (.inr (.inr (.inl ⟨rfl, Int.ediv_nonneg ha (by omega), Int.le_trans (Int.ediv_le_self _ ha) h2⟩)))) q
theorem AOp.quoE {ty ty' : TypeId} {x y : Operand} {a b : Int} (hop : o.op = .binOp .quo ty x y ty') (hx : ev v x = some (.sc (.int .i64 a))) (hy : ev v y = some (.sc (.int .i64 b))) (h0 : 0 < b) (ha : 0 ≤ a) (h2 : a ≤ 9223372036854775807) (q : K (.sc (.int .i64 (a / b))) A) : AOp P o n v A K E :=
  AOp.quo hop hx hy (by omega) (by rw [Int.tdiv_eq_ediv_of_nonneg ha]; exact wrap_of (.inl ⟨rfl, by have := Int.ediv_nonneg ha (Int.le_of_lt h0); omega, Int.le_trans (Int.ediv_le_self _ ha) h2⟩)) q
/-- What comes back as a row of its own is told by data. -/
theorem acalls_frz {f : FuncId} {args : List AV} {e : TypeId} {sz : Nat} {els : List (List AV)} {E : AV → List Blk → Prop} (h : ACalls P f args [] (fun r A' => ∃ w, r = .sc w ∧ A' = [.row w e sz els]) E) : ACalls P f args [] (fun r A' => r = .sl els ∧ A' = []) E :=
  fun H G W vs s a => (h H G W vs s a).mono fun x W' ⟨H', A', h1, h2, h3, h4⟩ => by
    rcases h4 with ⟨u, r, k1, k2, w, rfl, rfl⟩ | h4
    · obtain ⟨H2, q1, q2, q3, _⟩ := rel_frozen h3
      exact ⟨H2, [], h1.trans q1, h2, q2, .inl ⟨u, _, k1, by rw [rel_sc k2]; exact q3, rfl, rfl⟩⟩
    · exact ⟨H', A', h1, h2, h3, .inr h4⟩
end
end Go.Aw
