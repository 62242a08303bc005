/- Own text: what the document's answer computes of leases. -/
import Derived.Test.YtdacnebhlgibhaaLg
import Derived.Laws.StructEq
set_option linter.unusedVariables false
set_option linter.unusedSimpArgs false
set_option linter.all false
set_option maxRecDepth 100000
set_option maxHeartbeats 2000000
namespace Go.Proofs.Ytdacnebhlgibhaa
open Go Go.Aw

def rhp (now c f : Int) (a : L) : Bool := decide (a.c = c ∧ a.f = f ∧ now < a.u)
def rhld (l : List L) (now c f : Int) : Int := match l.find? (rhp now c f) with
  | some a => a.m
  | none => 0
theorem rhld_none {l : List L} {now c f : Int} (h : ∀ k (hk : k < l.length), rhp now c f l[k] = false) : rhld l now c f = 0 := by
  unfold rhld
  rw [List.find?_eq_none.2]
  intro a ha
  obtain ⟨k, hk, rfl⟩ := List.getElem_of_mem ha
  simp [h k hk]
theorem rhld_some {l : List L} {now c f : Int} {i : Nat} (hi : i < l.length) (h : ∀ k (hk : k < l.length), k < i → rhp now c f l[k] = false) (hp : rhp now c f l[i] = true) : rhld l now c f = l[i].m := by
  unfold rhld
  rw [List.find?_eq_some_iff_getElem.2 ⟨hp, i, hi, rfl, fun j hj => by simp [h j (by omega) hj]⟩]
def rcq (l : List L) (now c f m : Int) (j : Nat) : Bool := decide ((j : Int) + 1 ≠ c ∧ rhld l now ((j : Int) + 1) f ≠ 0 ∧ (rhld l now ((j : Int) + 1) f = 2 ∨ m = 2))
def rcl (l : List L) (now c f m : Int) : List Int := ((List.range 3).filter (rcq l now c f m)).map fun (j : Nat) => (j : Int) + 1
section
variable {o : Oper} {n : Nat} {v : Env} {A : List Blk} {K : AV → List Blk → Prop} {E : AV → List Blk → Prop}
theorem run_neL (a b : L) (W : World) : (binOp .neq 111 (.agg #[.int .i64 a.c, .int .i64 a.f, .int .i64 a.m, .int .i64 a.u]) (.agg #[.int .i64 b.c, .int .i64 b.f, .int .i64 b.m, .int .i64 b.u])).run Try.prog W = .ok (.bool (!decide (a = b))) W := by
  have hf : Try.prog.fieldsOf 111 = (match Try.prog.underlying 111 with | some (.struct fs) => fs | _ => #[]) := by kernel_rfl
  have hq : ∀ (x y : Int), (Op.equalIn 9999 3 (.int .i64 x) (.int .i64 y)).run Try.prog W = .ok (x == y) W := fun x y => run_equalIn_int W 9998 3 .i64 .i64 x y Try.underlying3
  rw [run_neq_struct, run_equalIn_struct W 9999 111 _ _ (by kernel_rfl) (by kernel_rfl), hf, Try.underlying111]
  simp [Op.eqFields, part, Try.isAgg3, hq]
  obtain ⟨ac, af, am, au⟩ := a
  obtain ⟨bc, bf, bm, bu⟩ := b
  simp only [L.mk.injEq]
  (repeat' split) <;> simp [*]
theorem AOp.neL {ty' : TypeId} {x y : Operand} {cs ds : List AV} {a b : L} (hop : o.op = .binOp .neq 111 x y ty') (hx : ev v x = some (.ag cs)) (hy : ev v y = some (.ag ds)) (hcs : cs = a.e) (hds : ds = b.e) (q : K (.sc (.bool (!decide (a = b)))) A) : AOp Try.prog o n v A K E :=
  AOp.binA (xs := [.int .i64 a.c, .int .i64 a.f, .int .i64 a.m, .int .i64 a.u]) (ys := [.int .i64 b.c, .int .i64 b.f, .int .i64 b.m, .int .i64 b.u]) hcs hds hop hx hy (fun W => run_eqGuard_agg W .neq 111 x y _ _ (by kernel_rfl)) (run_neL a b) q
end

theorem refHolds (l : List L) (now c f : Int) (hl : l.length ≤ 1000000) : Pur Try.prog 26 [ls l, .sc (.int .i64 now), .sc (.int .i64 c), .sc (.int .i64 f)] (.sc (.int .i64 (rhld l now c f))) := by
  refine acallsN Try.func26 rfl Try.ntmps26 rfl ?_
  refine aw_seq ?_
  refine aw_region ?_
  refine aops_cons rfl rfl (AOp.assign rfl rfl ?_)
  refine aops_nil ?_
  refine aw_seq ?_
  refine aw_seq ?_
  refine aw_region ?_
  refine aops_cons rfl rfl (AOp.assign rfl rfl ?_)
  refine aops_nil ?_
  refine aw_block ?_
  refine aw_loop (β := Nat) (S := (fun (z0 : Nat) => match z0 with | i => [(0, ls l), (1, .sc (.int .i64 now)), (2, .sc (.int .i64 c)), (3, .sc (.int .i64 f)), (9, .sc (.int .i64 (i : Int)))])) (B := (fun (z0 : Nat) => match z0 with | i => [])) (pre := (fun (z0 : Nat) => match z0 with | i => i ≤ l.length ∧ ∀ k (hk : k < l.length), k < i → rhp now c f l[k] = false)) (μ := (fun (z0 : Nat) => match z0 with | i => l.length - i)) 0 (wk_env (sube_cons rfl (sube_cons rfl (sube_cons rfl (sube_cons rfl (sube_cons rfl (sube_nil _))))))) ?_ ?_
  · exact ⟨Nat.zero_le _, fun k h h0 => by omega⟩
  · rintro i ⟨hi, ha⟩
    change AW _ _ _ ([(0, ls l), (1, .sc (.int .i64 now)), (2, .sc (.int .i64 c)), (3, .sc (.int .i64 f)), (9, .sc (.int .i64 (i : Int)))] : Env) ([] : List Blk) _
    refine aw_seq ?_
    refine aw_seq ?_
    refine aw_region ?_
    refine aops_cons rfl rfl (AOp.move rfl rfl ?_)
    refine aops_cons rfl rfl (AOp.move rfl rfl ?_)
    refine aops_cons rfl rfl (AOp.lenS (by first | exact List.length_map _ | rfl) Try.underlying27 rfl rfl ?_)
    refine aops_cons rfl rfl (AOp.lss rfl rfl rfl ?_)
    refine aops_nil ?_
    refine aw_cond _ rfl (fun h1 => ?_) (fun h1 => ?_)
    focus
      have h1_ := h1
      try simp only [List.length_map, List.length_cons, List.length_nil, nrm] at h1
      all_goals try (exfalso; first | (simp at h1_; done) | omega)
      all_goals
        refine aw_skip ?_
        skip
    rotate_right
    focus
      have h1_ := h1
      try simp only [List.length_map, List.length_cons, List.length_nil, nrm] at h1
      all_goals try (exfalso; first | (simp at h1_; done) | omega)
      all_goals
        refine aw_exit ?_
        refine aw_seq ?_
        refine aw_region ?_
        refine aops_cons rfl rfl (AOp.assign rfl rfl ?_)
        refine aops_nil ?_
        refine aw_weak (wk_drop (List.nil_sublist _)) ?_
        refine aw_ret ?_
        refine ⟨_, (res1 Try.results26 rfl), ?_⟩
        refine ⟨?_, rfl⟩
        rw [rhld_none (fun k hk => ha k hk (by omega))]; rfl
    all_goals
      refine aw_seq ?_
      refine aw_block ?_
      refine aw_seq ?_
      refine aw_region ?_
      refine aops_cons rfl rfl (AOp.move rfl rfl ?_)
      refine aops_cons rfl rfl (AOp.move rfl rfl ?_)
      refine aops_cons rfl rfl (AOp.indexLN Try.underlying27 Try.sizeOf111 rfl rfl rfl (by first | omega | (simp <;> omega) | (simp at * <;> omega)) (fun _ => rfl) ?_)
      refine aops_cons rfl rfl (AOp.fieldI Try.underlying111 rfl Try.sizeOf3 (by decide) rfl rfl rfl ?_)
      refine aops_cons rfl rfl (AOp.load1 Try.isAgg3 rfl rfl (reads_im _ _) rfl ?_)
      refine aops_cons rfl rfl (AOp.move rfl rfl ?_)
      refine aops_cons rfl rfl (AOp.eql rfl rfl rfl ?_)
      refine aops_cons rfl rfl (AOp.move rfl rfl ?_)
      refine aops_guard 7 true 23 _ rfl rfl rfl rfl rfl (fun g2 => ?_) (fun g2 => ?_)
      focus
        have g2_ := g2
        try simp only [List.length_map, List.length_cons, List.length_nil, nrm] at g2
        all_goals try (exfalso; first | (simp at g2_; done) | omega)
        all_goals
          refine AOp.move rfl rfl ?_
          refine aops_guard 7 true 23 _ rfl rfl rfl rfl rfl (fun _ => ?_) (fun hh => by exfalso; first | (rw [g2_] at hh; exact absurd hh (by decide)) | (revert hh; simp [g2_]))
          refine AOp.move rfl rfl ?_
          refine aops_guard 7 true 23 _ rfl rfl rfl rfl rfl (fun _ => ?_) (fun hh => by exfalso; first | (rw [g2_] at hh; exact absurd hh (by decide)) | (revert hh; simp [g2_]))
          refine AOp.indexLN Try.underlying27 Try.sizeOf111 rfl rfl rfl (by first | omega | (simp <;> omega) | (simp at * <;> omega)) (fun _ => rfl) ?_
          refine aops_guard 7 true 23 _ rfl rfl rfl rfl rfl (fun _ => ?_) (fun hh => by exfalso; first | (rw [g2_] at hh; exact absurd hh (by decide)) | (revert hh; simp [g2_]))
          refine AOp.fieldI Try.underlying111 rfl Try.sizeOf3 (by decide) rfl rfl rfl ?_
          refine aops_guard 7 true 23 _ rfl rfl rfl rfl rfl (fun _ => ?_) (fun hh => by exfalso; first | (rw [g2_] at hh; exact absurd hh (by decide)) | (revert hh; simp [g2_]))
          refine AOp.load1 Try.isAgg3 rfl rfl (reads_im _ _) rfl ?_
          refine aops_guard 7 true 23 _ rfl rfl rfl rfl rfl (fun _ => ?_) (fun hh => by exfalso; first | (rw [g2_] at hh; exact absurd hh (by decide)) | (revert hh; simp [g2_]))
          refine AOp.move rfl rfl ?_
          refine aops_guard 7 true 23 _ rfl rfl rfl rfl rfl (fun _ => ?_) (fun hh => by exfalso; first | (rw [g2_] at hh; exact absurd hh (by decide)) | (revert hh; simp [g2_]))
          refine AOp.eql rfl rfl rfl ?_
      rotate_right
      focus
        have g2_ := g2
        try simp only [List.length_map, List.length_cons, List.length_nil, nrm] at g2
        all_goals try (exfalso; first | (simp at g2_; done) | omega)
        all_goals
          refine aops_guard 7 true 23 _ rfl rfl rfl rfl rfl (fun hh => by exfalso; first | (rw [g2_] at hh; exact absurd hh (by decide)) | (revert hh; simp [g2_])) (fun _ => ?_)
          refine aops_guard 7 true 23 _ rfl rfl rfl rfl rfl (fun hh => by exfalso; first | (rw [g2_] at hh; exact absurd hh (by decide)) | (revert hh; simp [g2_])) (fun _ => ?_)
          refine aops_guard 7 true 23 _ rfl rfl rfl rfl rfl (fun hh => by exfalso; first | (rw [g2_] at hh; exact absurd hh (by decide)) | (revert hh; simp [g2_])) (fun _ => ?_)
          refine aops_guard 7 true 23 _ rfl rfl rfl rfl rfl (fun hh => by exfalso; first | (rw [g2_] at hh; exact absurd hh (by decide)) | (revert hh; simp [g2_])) (fun _ => ?_)
          refine aops_guard 7 true 23 _ rfl rfl rfl rfl rfl (fun hh => by exfalso; first | (rw [g2_] at hh; exact absurd hh (by decide)) | (revert hh; simp [g2_])) (fun _ => ?_)
          refine aops_guard 7 true 23 _ rfl rfl rfl rfl rfl (fun hh => by exfalso; first | (rw [g2_] at hh; exact absurd hh (by decide)) | (revert hh; simp [g2_])) (fun _ => ?_)
      all_goals
        first
        | refine aops_cons rfl rfl (AOp.pick_t rfl rfl (by first | assumption | rfl) rfl ?_)
        | refine aops_cons rfl rfl (AOp.pick_f rfl rfl (by first | assumption | rfl) rfl ?_)
        refine aops_cons rfl rfl (AOp.move rfl rfl ?_)
        refine aops_guard 16 true 32 _ rfl rfl rfl rfl rfl (fun g3 => ?_) (fun g3 => ?_)
        focus
          have g3_ := g3
          try simp only [List.length_map, List.length_cons, List.length_nil, nrm] at g3
          all_goals try (exfalso; first | (simp at g3_; done) | omega)
          all_goals
            refine AOp.move rfl rfl ?_
            refine aops_guard 16 true 32 _ rfl rfl rfl rfl rfl (fun _ => ?_) (fun hh => by exfalso; first | (rw [g3_] at hh; exact absurd hh (by decide)) | (revert hh; simp [g3_]))
            refine AOp.move rfl rfl ?_
            refine aops_guard 16 true 32 _ rfl rfl rfl rfl rfl (fun _ => ?_) (fun hh => by exfalso; first | (rw [g3_] at hh; exact absurd hh (by decide)) | (revert hh; simp [g3_]))
            refine AOp.move rfl rfl ?_
            refine aops_guard 16 true 32 _ rfl rfl rfl rfl rfl (fun _ => ?_) (fun hh => by exfalso; first | (rw [g3_] at hh; exact absurd hh (by decide)) | (revert hh; simp [g3_]))
            refine AOp.indexLN Try.underlying27 Try.sizeOf111 rfl rfl rfl (by first | omega | (simp <;> omega) | (simp at * <;> omega)) (fun _ => rfl) ?_
            refine aops_guard 16 true 32 _ rfl rfl rfl rfl rfl (fun _ => ?_) (fun hh => by exfalso; first | (rw [g3_] at hh; exact absurd hh (by decide)) | (revert hh; simp [g3_]))
            refine AOp.fieldI Try.underlying111 rfl Try.sizeOf3 (by decide) rfl rfl rfl ?_
            refine aops_guard 16 true 32 _ rfl rfl rfl rfl rfl (fun _ => ?_) (fun hh => by exfalso; first | (rw [g3_] at hh; exact absurd hh (by decide)) | (revert hh; simp [g3_]))
            refine AOp.load1 Try.isAgg3 rfl rfl (reads_im _ _) rfl ?_
            refine aops_guard 16 true 32 _ rfl rfl rfl rfl rfl (fun _ => ?_) (fun hh => by exfalso; first | (rw [g3_] at hh; exact absurd hh (by decide)) | (revert hh; simp [g3_]))
            refine AOp.lss rfl rfl rfl ?_
        rotate_right
        focus
          have g3_ := g3
          try simp only [List.length_map, List.length_cons, List.length_nil, nrm] at g3
          all_goals try (exfalso; first | (simp at g3_; done) | omega)
          all_goals
            refine aops_guard 16 true 32 _ rfl rfl rfl rfl rfl (fun hh => by exfalso; first | (rw [g3_] at hh; exact absurd hh (by decide)) | (revert hh; simp [g3_])) (fun _ => ?_)
            refine aops_guard 16 true 32 _ rfl rfl rfl rfl rfl (fun hh => by exfalso; first | (rw [g3_] at hh; exact absurd hh (by decide)) | (revert hh; simp [g3_])) (fun _ => ?_)
            refine aops_guard 16 true 32 _ rfl rfl rfl rfl rfl (fun hh => by exfalso; first | (rw [g3_] at hh; exact absurd hh (by decide)) | (revert hh; simp [g3_])) (fun _ => ?_)
            refine aops_guard 16 true 32 _ rfl rfl rfl rfl rfl (fun hh => by exfalso; first | (rw [g3_] at hh; exact absurd hh (by decide)) | (revert hh; simp [g3_])) (fun _ => ?_)
            refine aops_guard 16 true 32 _ rfl rfl rfl rfl rfl (fun hh => by exfalso; first | (rw [g3_] at hh; exact absurd hh (by decide)) | (revert hh; simp [g3_])) (fun _ => ?_)
            refine aops_guard 16 true 32 _ rfl rfl rfl rfl rfl (fun hh => by exfalso; first | (rw [g3_] at hh; exact absurd hh (by decide)) | (revert hh; simp [g3_])) (fun _ => ?_)
        all_goals
          first
          | refine aops_cons rfl rfl (AOp.pick_t rfl rfl (by first | assumption | rfl) rfl ?_)
          | refine aops_cons rfl rfl (AOp.pick_f rfl rfl (by first | assumption | rfl) rfl ?_)
          refine aops_nil ?_
          refine aw_cond _ rfl (fun h4 => ?_) (fun h4 => ?_)
          focus
            have h4_ := h4
            try simp only [List.length_map, List.length_cons, List.length_nil, nrm] at h4
            all_goals try (exfalso; first | (simp at h4_; done) | omega)
            all_goals
              refine aw_seq ?_
              refine aw_region ?_
              refine aops_cons rfl rfl (AOp.move rfl rfl ?_)
              refine aops_cons rfl rfl (AOp.move rfl rfl ?_)
              refine aops_cons rfl rfl (AOp.indexLN Try.underlying27 Try.sizeOf111 rfl rfl rfl (by first | omega | (simp <;> omega) | (simp at * <;> omega)) (fun _ => rfl) ?_)
              refine aops_cons rfl rfl (AOp.fieldI Try.underlying111 rfl Try.sizeOf3 (by decide) rfl rfl rfl ?_)
              refine aops_cons rfl rfl (AOp.load1 Try.isAgg3 rfl rfl (reads_im _ _) rfl ?_)
              refine aops_cons rfl rfl (AOp.assign rfl rfl ?_)
              refine aops_nil ?_
              refine aw_weak (wk_drop (List.nil_sublist _)) ?_
              refine aw_ret ?_
              refine ⟨_, (res1 Try.results26 rfl), ?_⟩
              refine ⟨?_, rfl⟩
              rw [rhld_some (i := i) (by omega) ha (by unfold rhp; rw [decide_eq_true_eq]; omega)]
          rotate_right
          focus
            have h4_ := h4
            try simp only [List.length_map, List.length_cons, List.length_nil, nrm] at h4
            all_goals try (exfalso; first | (simp at h4_; done) | omega)
            all_goals
              refine aw_skip ?_
              skip
          all_goals
            refine aw_region ?_
            refine aops_cons rfl rfl (AOp.move rfl rfl ?_)
            refine aops_cons rfl rfl (AOp.addE rfl rfl rfl (by first | omega | (simp <;> omega) | (simp at * <;> omega)) (by first | omega | (simp <;> omega) | (simp at * <;> omega)) ?_)
            refine aops_cons rfl rfl (AOp.assign rfl rfl ?_)
            refine aops_nil ?_
            refine ⟨i + 1, ⟨by omega, fun k hk h => ?_⟩, by dsimp only; omega, (wk_env (sube_cons rfl (sube_cons rfl (sube_cons rfl (sube_cons rfl (sube_cons rfl (sube_nil _)))))))⟩
            rcases Nat.lt_or_ge k i with h0 | h0
            · exact ha k hk h0
            · have e : k = i := by omega
              subst e; unfold rhp; rw [decide_eq_false_iff_not]; omega

theorem refClash (l : List L) (now c f m : Int) (hl : l.length ≤ 1000000) : Pur Try.prog 63 [ls l, .sc (.int .i64 now), .sc (.int .i64 c), .sc (.int .i64 f), .sc (.int .i64 m)] (ints (rcl l now c f m)) := by
  refine acallsN Try.func63 rfl Try.ntmps63 rfl ?_
  refine aw_seq ?_
  refine aw_region ?_
  refine aops_cons rfl rfl (AOp.assign rfl rfl ?_)
  refine aops_nil ?_
  refine aw_seq ?_
  refine aw_region ?_
  refine aops_cons rfl rfl (AOp.assign rfl rfl ?_)
  refine aops_nil ?_
  refine aw_seq ?_
  refine aw_seq ?_
  refine aw_region ?_
  refine aops_cons rfl rfl (AOp.assign rfl rfl ?_)
  refine aops_nil ?_
  refine aw_block ?_
  refine aw_loop (β := Nat × Value) (S := (fun (z0 : Nat × Value) => match z0 with | (i, w) => [(0, ls l), (1, .sc (.int .i64 now)), (2, .sc (.int .i64 c)), (3, .sc (.int .i64 f)), (4, .sc (.int .i64 m)), (11, .sc w), (12, .sc (.int .i64 ((i : Int) + 1)))])) (B := (fun (z0 : Nat × Value) => match z0 with | (i, w) => [.row w 3 1 ((((List.range i).filter (rcq l now c f m)).map fun (j : Nat) => (j : Int) + 1).map ie)])) (pre := (fun (z0 : Nat × Value) => match z0 with | (i, w) => i ≤ 3)) (μ := (fun (z0 : Nat × Value) => match z0 with | (i, w) => 3 - i)) (0, .slice none 0 0) ((wk_nil 3 1).trans (wk_env (sube_cons rfl (sube_cons rfl (sube_cons rfl (sube_cons rfl (sube_cons rfl (sube_cons rfl (sube_cons rfl (sube_nil _)))))))))) ?_ ?_
  · exact Nat.zero_le _
  · rintro ⟨i, w⟩ hp
    change AW _ _ _ ([(0, ls l), (1, .sc (.int .i64 now)), (2, .sc (.int .i64 c)), (3, .sc (.int .i64 f)), (4, .sc (.int .i64 m)), (11, .sc w), (12, .sc (.int .i64 ((i : Int) + 1)))] : Env) ([.row w 3 1 ((((List.range i).filter (rcq l now c f m)).map fun (j : Nat) => (j : Int) + 1).map ie)] : List Blk) _
    replace hp : i ≤ 3 := hp
    refine aw_seq ?_
    refine aw_seq ?_
    refine aw_region ?_
    refine aops_cons rfl rfl (AOp.move rfl rfl ?_)
    refine aops_cons rfl rfl (AOp.leq rfl rfl rfl ?_)
    refine aops_nil ?_
    refine aw_cond _ rfl (fun h1 => ?_) (fun h1 => ?_)
    focus
      have h1_ := h1
      try simp only [List.length_map, List.length_cons, List.length_nil, nrm] at h1
      all_goals try (exfalso; first | (simp at h1_; done) | omega)
      all_goals
        refine aw_skip ?_
        skip
    rotate_right
    focus
      have h1_ := h1
      try simp only [List.length_map, List.length_cons, List.length_nil, nrm] at h1
      all_goals try (exfalso; first | (simp at h1_; done) | omega)
      all_goals
        refine aw_exit ?_
        refine aw_seq ?_
        refine aw_region ?_
        refine aops_cons rfl rfl (AOp.move rfl rfl ?_)
        refine aops_cons rfl rfl (AOp.assign rfl rfl ?_)
        refine aops_nil ?_
        refine aw_weak (wk_freeze (pull_here _ _) (subf_new (s := 10) rfl (subf_nil _ _ _))) ?_
        refine aw_weak (wk_drop (List.nil_sublist _)) ?_
        refine aw_ret ?_
        refine ⟨_, (res1 Try.results63 rfl), ?_⟩
        have e3 : i = 3 := by omega
        subst e3
        exact ⟨rfl, rfl⟩
    all_goals
      refine aw_seq ?_
      refine aw_block ?_
      refine aw_seq ?_
      refine aw_region ?_
      refine aops_cons rfl rfl (AOp.move rfl rfl ?_)
      refine aops_cons rfl rfl (AOp.move rfl rfl ?_)
      refine aops_cons rfl rfl (AOp.move rfl rfl ?_)
      refine aops_cons rfl rfl (AOp.move rfl rfl ?_)
      refine aops_cons rfl rfl (AOp.callP Try.call26 rfl rfl rfl (by exact refHolds l now _ f hl) ?_)
      refine aops_cons rfl rfl (AOp.assign rfl rfl ?_)
      refine aops_nil ?_
      refine aw_seq ?_
      refine aw_region ?_
      refine aops_cons rfl rfl (AOp.move rfl rfl ?_)
      refine aops_cons rfl rfl (AOp.move rfl rfl ?_)
      refine aops_cons rfl rfl (AOp.neq rfl rfl rfl ?_)
      refine aops_cons rfl rfl (AOp.move rfl rfl ?_)
      refine aops_guard 3 true 26 _ rfl rfl rfl rfl rfl (fun g2 => ?_) (fun g2 => ?_)
      focus
        have g2_ := g2
        try simp only [List.length_map, List.length_cons, List.length_nil, nrm] at g2
        all_goals try (exfalso; first | (simp at g2_; done) | omega)
        all_goals
          refine AOp.move rfl rfl ?_
          refine aops_guard 3 true 26 _ rfl rfl rfl rfl rfl (fun _ => ?_) (fun hh => by exfalso; first | (rw [g2_] at hh; exact absurd hh (by decide)) | (revert hh; simp [g2_]))
          refine AOp.neq rfl rfl rfl ?_
      rotate_right
      focus
        have g2_ := g2
        try simp only [List.length_map, List.length_cons, List.length_nil, nrm] at g2
        all_goals try (exfalso; first | (simp at g2_; done) | omega)
        all_goals
          refine aops_guard 3 true 26 _ rfl rfl rfl rfl rfl (fun hh => by exfalso; first | (rw [g2_] at hh; exact absurd hh (by decide)) | (revert hh; simp [g2_])) (fun _ => ?_)
      all_goals
        first
        | refine aops_cons rfl rfl (AOp.pick_t rfl rfl (by first | assumption | rfl) rfl ?_)
        | refine aops_cons rfl rfl (AOp.pick_f rfl rfl (by first | assumption | rfl) rfl ?_)
        refine aops_cons rfl rfl (AOp.move rfl rfl ?_)
        refine aops_guard 7 true 30 _ rfl rfl rfl rfl rfl (fun g3 => ?_) (fun g3 => ?_)
        focus
          have g3_ := g3
          try simp only [List.length_map, List.length_cons, List.length_nil, nrm] at g3
          all_goals try (exfalso; first | (simp at g3_; done) | omega)
          all_goals
            refine AOp.move rfl rfl ?_
            refine aops_guard 7 true 30 _ rfl rfl rfl rfl rfl (fun _ => ?_) (fun hh => by exfalso; first | (rw [g3_] at hh; exact absurd hh (by decide)) | (revert hh; simp [g3_]))
            refine AOp.eql rfl rfl rfl ?_
            refine aops_guard 7 true 30 _ rfl rfl rfl rfl rfl (fun _ => ?_) (fun hh => by exfalso; first | (rw [g3_] at hh; exact absurd hh (by decide)) | (revert hh; simp [g3_]))
            refine AOp.move rfl rfl ?_
        rotate_right
        focus
          have g3_ := g3
          try simp only [List.length_map, List.length_cons, List.length_nil, nrm] at g3
          all_goals try (exfalso; first | (simp at g3_; done) | omega)
          all_goals
            refine aops_guard 7 true 30 _ rfl rfl rfl rfl rfl (fun hh => by exfalso; first | (rw [g3_] at hh; exact absurd hh (by decide)) | (revert hh; simp [g3_])) (fun _ => ?_)
            refine aops_guard 7 true 30 _ rfl rfl rfl rfl rfl (fun hh => by exfalso; first | (rw [g3_] at hh; exact absurd hh (by decide)) | (revert hh; simp [g3_])) (fun _ => ?_)
        all_goals
          first
          | (refine aops_guardU 10 false 33 rfl rfl rfl rfl rfl ?_; refine aops_guardU 10 false 33 rfl rfl rfl rfl rfl ?_)
          | skip
            refine aops_guard 10 false 33 _ rfl rfl rfl rfl rfl (fun g4 => ?_) (fun g4 => ?_)
            focus
              have g4_ := g4
              try simp only [List.length_map, List.length_cons, List.length_nil, nrm] at g4
              all_goals try (exfalso; first | (simp at g4_; done) | omega)
              all_goals
                refine AOp.move rfl rfl ?_
                refine aops_guard 10 false 33 _ rfl rfl rfl rfl rfl (fun _ => ?_) (fun hh => by exfalso; first | (rw [g4_] at hh; exact absurd hh (by decide)) | (revert hh; simp [g4_]))
                refine AOp.eql rfl rfl rfl ?_
            rotate_right
            focus
              have g4_ := g4
              try simp only [List.length_map, List.length_cons, List.length_nil, nrm] at g4
              all_goals try (exfalso; first | (simp at g4_; done) | omega)
              all_goals
                refine aops_guard 10 false 33 _ rfl rfl rfl rfl rfl (fun hh => by exfalso; first | (rw [g4_] at hh; exact absurd hh (by decide)) | (revert hh; simp [g4_])) (fun _ => ?_)
          all_goals
            refine aops_guard 7 true 30 _ rfl rfl rfl rfl rfl (fun g5 => ?_) (fun g5 => ?_)
            focus
              have g5_ := g5
              try simp only [List.length_map, List.length_cons, List.length_nil, nrm] at g5
              all_goals try (exfalso; first | (simp at g5_; done) | omega)
              all_goals
                first
                | refine AOp.pick_t rfl rfl (by first | assumption | rfl) rfl ?_
                | refine AOp.pick_f rfl rfl (by first | assumption | rfl) rfl ?_
            rotate_right
            focus
              have g5_ := g5
              try simp only [List.length_map, List.length_cons, List.length_nil, nrm] at g5
              all_goals try (exfalso; first | (simp at g5_; done) | omega)
            all_goals
              first
              | refine aops_cons rfl rfl (AOp.pick_t rfl rfl (by first | assumption | rfl) rfl ?_)
              | refine aops_cons rfl rfl (AOp.pick_f rfl rfl (by first | assumption | rfl) rfl ?_)
              refine aops_nil ?_
              refine aw_cond _ rfl (fun h6 => ?_) (fun h6 => ?_)
              focus
                have h6_ := h6
                try simp only [List.length_map, List.length_cons, List.length_nil, nrm] at h6
                all_goals try (exfalso; first | (simp at h6_; done) | omega)
                all_goals
                  refine aw_region ?_
                  refine aops_cons rfl rfl (AOp.move rfl rfl ?_)
                  refine aops_cons rfl rfl (AOp.move rfl rfl ?_)
                  refine aops_cons rfl rfl (AOp.buildS' Try.underlying42 Try.sizeOf3 Try.zeroValue3 rfl rfl rfl rfl rfl rfl rfl rfl rfl rfl rfl ?_)
                  (refine aops_cons rfl rfl (AOp.append' (bytes := 8) Try.zeroValue3 Try.sizeOf3 Try.underlying42 (by kernel_rfl) rfl rfl rfl (pull_here _ _) rfl (src_sl Try.underlying42 (all_len rfl)) (by first | first | omega | (simp <;> omega) | (simp at * <;> omega) | (have := List.length_filter_le (rcq l now c f m) (List.range i); simp at this ⊢; omega)) (by decide) ?_); intro b1)
                  refine aops_cons rfl rfl (AOp.assign rfl rfl ?_)
                  refine aops_nil ?_
                  skip
              rotate_right
              focus
                have h6_ := h6
                try simp only [List.length_map, List.length_cons, List.length_nil, nrm] at h6
                all_goals try (exfalso; first | (simp at h6_; done) | omega)
                all_goals
                  refine aw_skip ?_
                  skip
              all_goals
                refine aw_region ?_
                refine aops_cons rfl rfl (AOp.move rfl rfl ?_)
                refine aops_cons rfl rfl (AOp.addE rfl rfl rfl (by first | first | omega | (simp <;> omega) | (simp at * <;> omega) | (have := List.length_filter_le (rcq l now c f m) (List.range i); simp at this ⊢; omega)) (by first | first | omega | (simp <;> omega) | (simp at * <;> omega) | (have := List.length_filter_le (rcq l now c f m) (List.range i); simp at this ⊢; omega)) ?_)
                refine aops_cons rfl rfl (AOp.assign rfl rfl ?_)
                refine aops_nil ?_
                first
                | (refine ⟨(i + 1, _), ?_, ?_, (wk_drop ?_).trans ((wk_roweq (A := []) (range_yes ?_)).trans (wk_env (sube_cons rfl (sube_cons rfl (sube_cons rfl (sube_cons rfl (sube_cons rfl (sube_cons rfl (sube_cons rfl (sube_nil _))))))))))⟩; (dsimp only; omega); (dsimp only; omega); (focus ((repeat (first | exact List.Sublist.slnil | apply List.Sublist.cons_cons | apply List.Sublist.cons)); done)); focus (unfold rcq; rw [decide_eq_true_eq]; omega))
                | (refine ⟨(i + 1, _), ?_, ?_, (wk_drop ?_).trans ((wk_roweq (A := []) (range_no ?_)).trans (wk_env (sube_cons rfl (sube_cons rfl (sube_cons rfl (sube_cons rfl (sube_cons rfl (sube_cons rfl (sube_cons rfl (sube_nil _))))))))))⟩; (dsimp only; omega); (dsimp only; omega); (focus ((repeat (first | exact List.Sublist.slnil | apply List.Sublist.cons_cons | apply List.Sublist.cons)); done)); focus (unfold rcq; rw [decide_eq_false_iff_not]; omega))

theorem refDrop (l : List L) (c f : Int) (hl : l.length ≤ 1000000) : ACalls Try.prog 52 [ls l, .sc (.int .i64 c), .sc (.int .i64 f)] [] (fun r A' => ∃ w, r = .sc w ∧ A' = [rowL w (drp l c f)]) (fun _ _ => False) := by
  refine acallsN Try.func52 rfl Try.ntmps52 rfl ?_
  refine aw_seq ?_
  refine aw_region ?_
  refine aops_cons rfl rfl (AOp.assign rfl rfl ?_)
  refine aops_nil ?_
  refine aw_seq ?_
  refine aw_region ?_
  refine aops_cons rfl rfl (AOp.assign rfl rfl ?_)
  refine aops_nil ?_
  refine aw_seq ?_
  refine aw_seq ?_
  refine aw_region ?_
  refine aops_cons rfl rfl (AOp.assign rfl rfl ?_)
  refine aops_nil ?_
  refine aw_block ?_
  refine aw_loop (β := Nat × Value) (S := (fun (z0 : Nat × Value) => match z0 with | (i, w) => [(0, ls l), (1, .sc (.int .i64 c)), (2, .sc (.int .i64 f)), (7, .sc w), (8, .sc (.int .i64 (i : Int)))])) (B := (fun (z0 : Nat × Value) => match z0 with | (i, w) => [.row w 111 4 (((l.take i).filter (fun (x : L) => !decide (x.c = c ∧ x.f = f))).map L.e)])) (pre := (fun (z0 : Nat × Value) => match z0 with | (i, w) => i ≤ l.length)) (μ := (fun (z0 : Nat × Value) => match z0 with | (i, w) => l.length - i)) (0, .slice none 0 0) ((wk_nil 111 4).trans (wk_env (sube_cons rfl (sube_cons rfl (sube_cons rfl (sube_cons rfl (sube_cons rfl (sube_nil _)))))))) ?_ ?_
  · exact Nat.zero_le _
  · rintro ⟨i, w⟩ hp
    change AW _ _ _ ([(0, ls l), (1, .sc (.int .i64 c)), (2, .sc (.int .i64 f)), (7, .sc w), (8, .sc (.int .i64 (i : Int)))] : Env) ([.row w 111 4 (((l.take i).filter (fun (x : L) => !decide (x.c = c ∧ x.f = f))).map L.e)] : List Blk) _
    replace hp : i ≤ l.length := hp
    refine aw_seq ?_
    refine aw_seq ?_
    refine aw_region ?_
    refine aops_cons rfl rfl (AOp.move rfl rfl ?_)
    refine aops_cons rfl rfl (AOp.move rfl rfl ?_)
    refine aops_cons rfl rfl (AOp.lenS (by first | exact List.length_map _ | rfl) Try.underlying27 rfl rfl ?_)
    refine aops_cons rfl rfl (AOp.lss rfl rfl rfl ?_)
    refine aops_nil ?_
    refine aw_cond _ rfl (fun h1 => ?_) (fun h1 => ?_)
    focus
      have h1_ := h1
      try simp only [List.length_map, List.length_cons, List.length_nil, nrm] at h1
      all_goals try (exfalso; first | (simp at h1_; done) | omega)
      all_goals
        refine aw_skip ?_
        skip
    rotate_right
    focus
      have h1_ := h1
      try simp only [List.length_map, List.length_cons, List.length_nil, nrm] at h1
      all_goals try (exfalso; first | (simp at h1_; done) | omega)
      all_goals
        refine aw_exit ?_
        refine aw_seq ?_
        refine aw_region ?_
        refine aops_cons rfl rfl (AOp.move rfl rfl ?_)
        refine aops_cons rfl rfl (AOp.assign rfl rfl ?_)
        refine aops_nil ?_
        refine aw_ret ?_
        refine ⟨_, (res1 Try.results52 rfl), ?_⟩
        refine ⟨w, rfl, ?_⟩
        rw [List.take_of_length_le (by omega)]; rfl
    all_goals
      refine aw_seq ?_
      refine aw_block ?_
      refine aw_seq ?_
      refine aw_region ?_
      refine aops_cons rfl rfl (AOp.move rfl rfl ?_)
      refine aops_cons rfl rfl (AOp.move rfl rfl ?_)
      refine aops_cons rfl rfl (AOp.indexLN Try.underlying27 Try.sizeOf111 rfl rfl rfl (by first | first | omega | (simp <;> omega) | (simp at * <;> omega) | (have := List.length_filter_le (fun (x : L) => !decide (x.c = c ∧ x.f = f)) (l.take i); simp at this ⊢; omega)) (fun _ => rfl) ?_)
      refine aops_cons rfl rfl (AOp.fieldI Try.underlying111 rfl Try.sizeOf3 (by decide) rfl rfl rfl ?_)
      refine aops_cons rfl rfl (AOp.load1 Try.isAgg3 rfl rfl (reads_im _ _) rfl ?_)
      refine aops_cons rfl rfl (AOp.move rfl rfl ?_)
      refine aops_cons rfl rfl (AOp.neq rfl rfl rfl ?_)
      refine aops_cons rfl rfl (AOp.move rfl rfl ?_)
      refine aops_guard 7 false 22 _ rfl rfl rfl rfl rfl (fun g2 => ?_) (fun g2 => ?_)
      focus
        have g2_ := g2
        try simp only [List.length_map, List.length_cons, List.length_nil, nrm] at g2
        all_goals try (exfalso; first | (simp at g2_; done) | omega)
        all_goals
          refine AOp.move rfl rfl ?_
          refine aops_guard 7 false 22 _ rfl rfl rfl rfl rfl (fun _ => ?_) (fun hh => by exfalso; first | (rw [g2_] at hh; exact absurd hh (by decide)) | (revert hh; simp [g2_]))
          refine AOp.move rfl rfl ?_
          refine aops_guard 7 false 22 _ rfl rfl rfl rfl rfl (fun _ => ?_) (fun hh => by exfalso; first | (rw [g2_] at hh; exact absurd hh (by decide)) | (revert hh; simp [g2_]))
          refine AOp.indexLN Try.underlying27 Try.sizeOf111 rfl rfl rfl (by first | first | omega | (simp <;> omega) | (simp at * <;> omega) | (have := List.length_filter_le (fun (x : L) => !decide (x.c = c ∧ x.f = f)) (l.take i); simp at this ⊢; omega)) (fun _ => rfl) ?_
          refine aops_guard 7 false 22 _ rfl rfl rfl rfl rfl (fun _ => ?_) (fun hh => by exfalso; first | (rw [g2_] at hh; exact absurd hh (by decide)) | (revert hh; simp [g2_]))
          refine AOp.fieldI Try.underlying111 rfl Try.sizeOf3 (by decide) rfl rfl rfl ?_
          refine aops_guard 7 false 22 _ rfl rfl rfl rfl rfl (fun _ => ?_) (fun hh => by exfalso; first | (rw [g2_] at hh; exact absurd hh (by decide)) | (revert hh; simp [g2_]))
          refine AOp.load1 Try.isAgg3 rfl rfl (reads_im _ _) rfl ?_
          refine aops_guard 7 false 22 _ rfl rfl rfl rfl rfl (fun _ => ?_) (fun hh => by exfalso; first | (rw [g2_] at hh; exact absurd hh (by decide)) | (revert hh; simp [g2_]))
          refine AOp.move rfl rfl ?_
          refine aops_guard 7 false 22 _ rfl rfl rfl rfl rfl (fun _ => ?_) (fun hh => by exfalso; first | (rw [g2_] at hh; exact absurd hh (by decide)) | (revert hh; simp [g2_]))
          refine AOp.neq rfl rfl rfl ?_
      rotate_right
      focus
        have g2_ := g2
        try simp only [List.length_map, List.length_cons, List.length_nil, nrm] at g2
        all_goals try (exfalso; first | (simp at g2_; done) | omega)
        all_goals
          refine aops_guard 7 false 22 _ rfl rfl rfl rfl rfl (fun hh => by exfalso; first | (rw [g2_] at hh; exact absurd hh (by decide)) | (revert hh; simp [g2_])) (fun _ => ?_)
          refine aops_guard 7 false 22 _ rfl rfl rfl rfl rfl (fun hh => by exfalso; first | (rw [g2_] at hh; exact absurd hh (by decide)) | (revert hh; simp [g2_])) (fun _ => ?_)
          refine aops_guard 7 false 22 _ rfl rfl rfl rfl rfl (fun hh => by exfalso; first | (rw [g2_] at hh; exact absurd hh (by decide)) | (revert hh; simp [g2_])) (fun _ => ?_)
          refine aops_guard 7 false 22 _ rfl rfl rfl rfl rfl (fun hh => by exfalso; first | (rw [g2_] at hh; exact absurd hh (by decide)) | (revert hh; simp [g2_])) (fun _ => ?_)
          refine aops_guard 7 false 22 _ rfl rfl rfl rfl rfl (fun hh => by exfalso; first | (rw [g2_] at hh; exact absurd hh (by decide)) | (revert hh; simp [g2_])) (fun _ => ?_)
          refine aops_guard 7 false 22 _ rfl rfl rfl rfl rfl (fun hh => by exfalso; first | (rw [g2_] at hh; exact absurd hh (by decide)) | (revert hh; simp [g2_])) (fun _ => ?_)
      all_goals
        first
        | refine aops_cons rfl rfl (AOp.pick_t rfl rfl (by first | assumption | rfl) rfl ?_)
        | refine aops_cons rfl rfl (AOp.pick_f rfl rfl (by first | assumption | rfl) rfl ?_)
        refine aops_nil ?_
        refine aw_cond _ rfl (fun h3 => ?_) (fun h3 => ?_)
        focus
          have h3_ := h3
          try simp only [List.length_map, List.length_cons, List.length_nil, nrm] at h3
          all_goals try (exfalso; first | (simp at h3_; done) | omega)
          all_goals
            refine aw_region ?_
            refine aops_cons rfl rfl (AOp.move rfl rfl ?_)
            refine aops_cons rfl rfl (AOp.move rfl rfl ?_)
            refine aops_cons rfl rfl (AOp.move rfl rfl ?_)
            refine aops_cons rfl rfl (AOp.indexLN Try.underlying27 Try.sizeOf111 rfl rfl rfl (by first | first | omega | (simp <;> omega) | (simp at * <;> omega) | (have := List.length_filter_le (fun (x : L) => !decide (x.c = c ∧ x.f = f)) (l.take i); simp at this ⊢; omega)) (fun _ => rfl) ?_)
            refine aops_cons rfl rfl (AOp.loadN Try.isAgg111 Try.sizeOf111 rfl rfl (reads_im _ _) rfl rfl ?_)
            refine aops_cons rfl rfl (AOp.buildS' Try.underlying27 Try.sizeOf111 Try.zeroValue111 rfl rfl rfl rfl rfl rfl rfl rfl rfl rfl rfl ?_)
            (refine aops_cons rfl rfl (AOp.append' (bytes := 32) Try.zeroValue111 Try.sizeOf111 Try.underlying27 (by kernel_rfl) rfl rfl rfl (pull_here _ _) rfl (src_sl Try.underlying27 (all_len rfl)) (by first | first | omega | (simp <;> omega) | (simp at * <;> omega) | (have := List.length_filter_le (fun (x : L) => !decide (x.c = c ∧ x.f = f)) (l.take i); simp at this ⊢; omega)) (by decide) ?_); intro b1)
            refine aops_cons rfl rfl (AOp.assign rfl rfl ?_)
            refine aops_nil ?_
            skip
        rotate_right
        focus
          have h3_ := h3
          try simp only [List.length_map, List.length_cons, List.length_nil, nrm] at h3
          all_goals try (exfalso; first | (simp at h3_; done) | omega)
          all_goals
            refine aw_skip ?_
            skip
        all_goals
          refine aw_region ?_
          refine aops_cons rfl rfl (AOp.move rfl rfl ?_)
          refine aops_cons rfl rfl (AOp.addE rfl rfl rfl (by first | first | omega | (simp <;> omega) | (simp at * <;> omega) | (have := List.length_filter_le (fun (x : L) => !decide (x.c = c ∧ x.f = f)) (l.take i); simp at this ⊢; omega)) (by first | first | omega | (simp <;> omega) | (simp at * <;> omega) | (have := List.length_filter_le (fun (x : L) => !decide (x.c = c ∧ x.f = f)) (l.take i); simp at this ⊢; omega)) ?_)
          refine aops_cons rfl rfl (AOp.assign rfl rfl ?_)
          refine aops_nil ?_
          first
          | (refine ⟨(i + 1, _), ?_, ?_, (wk_drop ?_).trans ((wk_roweq (A := []) (filter_yes' (p := fun (x : L) => !decide (x.c = c ∧ x.f = f)) ?_ ?_)).trans (wk_env (sube_cons rfl (sube_cons rfl (sube_cons rfl (sube_cons rfl (sube_cons rfl (sube_nil _))))))))⟩; (dsimp only; omega); (dsimp only; omega); (focus ((repeat (first | exact List.Sublist.slnil | apply List.Sublist.cons_cons | apply List.Sublist.cons)); done)); omega; focus ((try dsimp only); rw [Bool.not_eq_true', decide_eq_false_iff_not]; omega))
          | (refine ⟨(i + 1, _), ?_, ?_, (wk_drop ?_).trans ((wk_roweq (A := []) (filter_no' (p := fun (x : L) => !decide (x.c = c ∧ x.f = f)) ?_ ?_)).trans (wk_env (sube_cons rfl (sube_cons rfl (sube_cons rfl (sube_cons rfl (sube_cons rfl (sube_nil _))))))))⟩; (dsimp only; omega); (dsimp only; omega); (focus ((repeat (first | exact List.Sublist.slnil | apply List.Sublist.cons_cons | apply List.Sublist.cons)); done)); omega; focus ((try dsimp only); rw [Bool.not_eq_false', decide_eq_true_eq]; omega))

theorem refPrune (l : List L) (now : Int) (hl : l.length ≤ 1000000) : ACalls Try.prog 60 [ls l, .sc (.int .i64 now)] [] (fun r A' => ∃ w, r = .sc w ∧ A' = [rowL w (prn l now)]) (fun _ _ => False) := by
  refine acallsN Try.func60 rfl Try.ntmps60 rfl ?_
  refine aw_seq ?_
  refine aw_region ?_
  refine aops_cons rfl rfl (AOp.assign rfl rfl ?_)
  refine aops_nil ?_
  refine aw_seq ?_
  refine aw_region ?_
  refine aops_cons rfl rfl (AOp.assign rfl rfl ?_)
  refine aops_nil ?_
  refine aw_seq ?_
  refine aw_seq ?_
  refine aw_region ?_
  refine aops_cons rfl rfl (AOp.assign rfl rfl ?_)
  refine aops_nil ?_
  refine aw_block ?_
  refine aw_loop (β := Nat × Value) (S := (fun (z0 : Nat × Value) => match z0 with | (i, w) => [(0, ls l), (1, .sc (.int .i64 now)), (5, .sc w), (6, .sc (.int .i64 (i : Int)))])) (B := (fun (z0 : Nat × Value) => match z0 with | (i, w) => [.row w 111 4 (((l.take i).filter (fun (x : L) => !decide (x.u ≤ now))).map L.e)])) (pre := (fun (z0 : Nat × Value) => match z0 with | (i, w) => i ≤ l.length)) (μ := (fun (z0 : Nat × Value) => match z0 with | (i, w) => l.length - i)) (0, .slice none 0 0) ((wk_nil 111 4).trans (wk_env (sube_cons rfl (sube_cons rfl (sube_cons rfl (sube_cons rfl (sube_nil _))))))) ?_ ?_
  · exact Nat.zero_le _
  · rintro ⟨i, w⟩ hp
    change AW _ _ _ ([(0, ls l), (1, .sc (.int .i64 now)), (5, .sc w), (6, .sc (.int .i64 (i : Int)))] : Env) ([.row w 111 4 (((l.take i).filter (fun (x : L) => !decide (x.u ≤ now))).map L.e)] : List Blk) _
    replace hp : i ≤ l.length := hp
    refine aw_seq ?_
    refine aw_seq ?_
    refine aw_region ?_
    refine aops_cons rfl rfl (AOp.move rfl rfl ?_)
    refine aops_cons rfl rfl (AOp.move rfl rfl ?_)
    refine aops_cons rfl rfl (AOp.lenS (by first | exact List.length_map _ | rfl) Try.underlying27 rfl rfl ?_)
    refine aops_cons rfl rfl (AOp.lss rfl rfl rfl ?_)
    refine aops_nil ?_
    refine aw_cond _ rfl (fun h1 => ?_) (fun h1 => ?_)
    focus
      have h1_ := h1
      try simp only [List.length_map, List.length_cons, List.length_nil, nrm] at h1
      all_goals try (exfalso; first | (simp at h1_; done) | omega)
      all_goals
        refine aw_skip ?_
        skip
    rotate_right
    focus
      have h1_ := h1
      try simp only [List.length_map, List.length_cons, List.length_nil, nrm] at h1
      all_goals try (exfalso; first | (simp at h1_; done) | omega)
      all_goals
        refine aw_exit ?_
        refine aw_seq ?_
        refine aw_region ?_
        refine aops_cons rfl rfl (AOp.move rfl rfl ?_)
        refine aops_cons rfl rfl (AOp.assign rfl rfl ?_)
        refine aops_nil ?_
        refine aw_ret ?_
        refine ⟨_, (res1 Try.results60 rfl), ?_⟩
        refine ⟨w, rfl, ?_⟩
        rw [List.take_of_length_le (by omega)]; rfl
    all_goals
      refine aw_seq ?_
      refine aw_block ?_
      refine aw_seq ?_
      refine aw_region ?_
      refine aops_cons rfl rfl (AOp.move rfl rfl ?_)
      refine aops_cons rfl rfl (AOp.move rfl rfl ?_)
      refine aops_cons rfl rfl (AOp.move rfl rfl ?_)
      refine aops_cons rfl rfl (AOp.indexLN Try.underlying27 Try.sizeOf111 rfl rfl rfl (by first | first | omega | (simp <;> omega) | (simp at * <;> omega) | (have := List.length_filter_le (fun (x : L) => !decide (x.u ≤ now)) (l.take i); simp at this ⊢; omega)) (fun _ => rfl) ?_)
      refine aops_cons rfl rfl (AOp.fieldI Try.underlying111 rfl Try.sizeOf3 (by decide) rfl rfl rfl ?_)
      refine aops_cons rfl rfl (AOp.load1 Try.isAgg3 rfl rfl (reads_im _ _) rfl ?_)
      refine aops_cons rfl rfl (AOp.lss rfl rfl rfl ?_)
      refine aops_nil ?_
      refine aw_cond _ rfl (fun h2 => ?_) (fun h2 => ?_)
      focus
        have h2_ := h2
        try simp only [List.length_map, List.length_cons, List.length_nil, nrm] at h2
        all_goals try (exfalso; first | (simp at h2_; done) | omega)
        all_goals
          refine aw_region ?_
          refine aops_cons rfl rfl (AOp.move rfl rfl ?_)
          refine aops_cons rfl rfl (AOp.move rfl rfl ?_)
          refine aops_cons rfl rfl (AOp.move rfl rfl ?_)
          refine aops_cons rfl rfl (AOp.indexLN Try.underlying27 Try.sizeOf111 rfl rfl rfl (by first | first | omega | (simp <;> omega) | (simp at * <;> omega) | (have := List.length_filter_le (fun (x : L) => !decide (x.u ≤ now)) (l.take i); simp at this ⊢; omega)) (fun _ => rfl) ?_)
          refine aops_cons rfl rfl (AOp.loadN Try.isAgg111 Try.sizeOf111 rfl rfl (reads_im _ _) rfl rfl ?_)
          refine aops_cons rfl rfl (AOp.buildS' Try.underlying27 Try.sizeOf111 Try.zeroValue111 rfl rfl rfl rfl rfl rfl rfl rfl rfl rfl rfl ?_)
          (refine aops_cons rfl rfl (AOp.append' (bytes := 32) Try.zeroValue111 Try.sizeOf111 Try.underlying27 (by kernel_rfl) rfl rfl rfl (pull_here _ _) rfl (src_sl Try.underlying27 (all_len rfl)) (by first | first | omega | (simp <;> omega) | (simp at * <;> omega) | (have := List.length_filter_le (fun (x : L) => !decide (x.u ≤ now)) (l.take i); simp at this ⊢; omega)) (by decide) ?_); intro b1)
          refine aops_cons rfl rfl (AOp.assign rfl rfl ?_)
          refine aops_nil ?_
          skip
      rotate_right
      focus
        have h2_ := h2
        try simp only [List.length_map, List.length_cons, List.length_nil, nrm] at h2
        all_goals try (exfalso; first | (simp at h2_; done) | omega)
        all_goals
          refine aw_skip ?_
          skip
      all_goals
        refine aw_region ?_
        refine aops_cons rfl rfl (AOp.move rfl rfl ?_)
        refine aops_cons rfl rfl (AOp.addE rfl rfl rfl (by first | first | omega | (simp <;> omega) | (simp at * <;> omega) | (have := List.length_filter_le (fun (x : L) => !decide (x.u ≤ now)) (l.take i); simp at this ⊢; omega)) (by first | first | omega | (simp <;> omega) | (simp at * <;> omega) | (have := List.length_filter_le (fun (x : L) => !decide (x.u ≤ now)) (l.take i); simp at this ⊢; omega)) ?_)
        refine aops_cons rfl rfl (AOp.assign rfl rfl ?_)
        refine aops_nil ?_
        first
        | (refine ⟨(i + 1, _), ?_, ?_, (wk_drop ?_).trans ((wk_roweq (A := []) (filter_yes' (p := fun (x : L) => !decide (x.u ≤ now)) ?_ ?_)).trans (wk_env (sube_cons rfl (sube_cons rfl (sube_cons rfl (sube_cons rfl (sube_nil _)))))))⟩; (dsimp only; omega); (dsimp only; omega); (focus ((repeat (first | exact List.Sublist.slnil | apply List.Sublist.cons_cons | apply List.Sublist.cons)); done)); omega; focus ((try dsimp only); rw [Bool.not_eq_true', decide_eq_false_iff_not]; omega))
        | (refine ⟨(i + 1, _), ?_, ?_, (wk_drop ?_).trans ((wk_roweq (A := []) (filter_no' (p := fun (x : L) => !decide (x.u ≤ now)) ?_ ?_)).trans (wk_env (sube_cons rfl (sube_cons rfl (sube_cons rfl (sube_cons rfl (sube_nil _)))))))⟩; (dsimp only; omega); (dsimp only; omega); (focus ((repeat (first | exact List.Sublist.slnil | apply List.Sublist.cons_cons | apply List.Sublist.cons)); done)); omega; focus ((try dsimp only); rw [Bool.not_eq_false', decide_eq_true_eq]; omega))

theorem sameLeases (a b : List L) (ha : a.length ≤ 1000000) (hb : b.length ≤ 1000000) : Pur Try.prog 66 [ls a, ls b] (.sc (.bool (decide (a = b)))) := by
  refine acallsN Try.func66 rfl Try.ntmps66 rfl ?_
  refine aw_seq ?_
  refine aw_region ?_
  refine aops_cons rfl rfl (AOp.assign rfl rfl ?_)
  refine aops_nil ?_
  refine aw_seq ?_
  refine aw_seq ?_
  refine aw_region ?_
  refine aops_cons rfl rfl (AOp.move rfl rfl ?_)
  refine aops_cons rfl rfl (AOp.lenS (by first | exact List.length_map _ | rfl) Try.underlying27 rfl rfl ?_)
  refine aops_cons rfl rfl (AOp.move rfl rfl ?_)
  refine aops_cons rfl rfl (AOp.lenS (by first | exact List.length_map _ | rfl) Try.underlying27 rfl rfl ?_)
  refine aops_cons rfl rfl (AOp.neq rfl rfl rfl ?_)
  refine aops_nil ?_
  refine aw_cond _ rfl (fun h1 => ?_) (fun h1 => ?_)
  focus
    have h1_ := h1
    try simp only [List.length_map, List.length_cons, List.length_nil, nrm] at h1
    all_goals try (exfalso; first | (simp at h1_; done) | omega)
    all_goals
      refine aw_seq ?_
      refine aw_region ?_
      refine aops_cons rfl rfl (AOp.assign rfl rfl ?_)
      refine aops_nil ?_
      refine aw_weak (wk_drop (List.nil_sublist _)) ?_
      refine aw_ret ?_
      refine ⟨_, (res1 Try.results66 rfl), ?_⟩
      refine ⟨?_, rfl⟩
      rw [decide_eq_false (fun e => by subst e; omega)]; rfl
  rotate_right
  focus
    have h1_ := h1
    try simp only [List.length_map, List.length_cons, List.length_nil, nrm] at h1
    all_goals try (exfalso; first | (simp at h1_; done) | omega)
    all_goals
      refine aw_skip ?_
      skip
  all_goals
    refine aw_seq ?_
    refine aw_seq ?_
    refine aw_region ?_
    refine aops_cons rfl rfl (AOp.assign rfl rfl ?_)
    refine aops_nil ?_
    refine aw_block ?_
    refine aw_loop (β := Nat) (S := (fun (z0 : Nat) => match z0 with | i => [(0, ls a), (1, ls b), (5, .sc (.int .i64 (i : Int)))])) (B := (fun (z0 : Nat) => match z0 with | i => [])) (pre := (fun (z0 : Nat) => match z0 with | i => i ≤ a.length ∧ ∀ k (h1 : k < a.length) (h2 : k < b.length), k < i → a[k] = b[k])) (μ := (fun (z0 : Nat) => match z0 with | i => a.length - i)) 0 (wk_env (sube_cons rfl (sube_cons rfl (sube_cons rfl (sube_nil _))))) ?_ ?_
    · exact ⟨Nat.zero_le _, fun k h1 h2 h => by omega⟩
    · rintro i ⟨hi, hk⟩
      change AW _ _ _ ([(0, ls a), (1, ls b), (5, .sc (.int .i64 (i : Int)))] : Env) ([] : List Blk) _
      refine aw_seq ?_
      refine aw_seq ?_
      refine aw_region ?_
      refine aops_cons rfl rfl (AOp.move rfl rfl ?_)
      refine aops_cons rfl rfl (AOp.move rfl rfl ?_)
      refine aops_cons rfl rfl (AOp.lenS (by first | exact List.length_map _ | rfl) Try.underlying27 rfl rfl ?_)
      refine aops_cons rfl rfl (AOp.lss rfl rfl rfl ?_)
      refine aops_nil ?_
      refine aw_cond _ rfl (fun h2 => ?_) (fun h2 => ?_)
      focus
        have h2_ := h2
        try simp only [List.length_map, List.length_cons, List.length_nil, nrm] at h2
        all_goals try (exfalso; first | (simp at h2_; done) | omega)
        all_goals
          refine aw_skip ?_
          skip
      rotate_right
      focus
        have h2_ := h2
        try simp only [List.length_map, List.length_cons, List.length_nil, nrm] at h2
        all_goals try (exfalso; first | (simp at h2_; done) | omega)
        all_goals
          refine aw_exit ?_
          refine aw_seq ?_
          refine aw_region ?_
          refine aops_cons rfl rfl (AOp.assign rfl rfl ?_)
          refine aops_nil ?_
          refine aw_weak (wk_drop (List.nil_sublist _)) ?_
          refine aw_ret ?_
          refine ⟨_, (res1 Try.results66 rfl), ?_⟩
          refine ⟨?_, rfl⟩
          rw [decide_eq_true (List.ext_getElem (by omega) (fun k h1 h2 => hk k h1 h2 (by omega)))]; rfl
      all_goals
        refine aw_seq ?_
        refine aw_block ?_
        refine aw_seq ?_
        refine aw_draw 8 [0, 0, 0, 0, 0, 0, 0, 0] (by kernel_rfl) (by kernel_rfl) ?_
        refine psq_cons _ rfl (core0 (AOp.move rfl rfl ⟨rfl, rfl⟩)) ?_
        refine psq_cons _ rfl (core0 (AOp.move rfl rfl ⟨rfl, rfl⟩)) ?_
        refine psq_cons _ rfl (core0 (AOp.indexLN Try.underlying27 Try.sizeOf111 rfl rfl rfl (by first | omega | (simp <;> omega) | (simp at * <;> omega)) (fun _ => rfl) ⟨rfl, rfl⟩)) ?_
        refine psq_cons _ rfl (core0 (AOp.loadN Try.isAgg111 Try.sizeOf111 rfl rfl (reads_im _ _) rfl rfl ⟨rfl, rfl⟩)) ?_
        refine psq_cons _ rfl (core0 (AOp.move rfl rfl ⟨rfl, rfl⟩)) ?_
        refine psq_cons _ rfl (core0 (AOp.move rfl rfl ⟨rfl, rfl⟩)) ?_
        refine psq_cons _ rfl (core0 (AOp.indexLN Try.underlying27 Try.sizeOf111 rfl rfl rfl (by first | omega | (simp <;> omega) | (simp at * <;> omega)) (fun _ => rfl) ⟨rfl, rfl⟩)) ?_
        refine psq_cons _ rfl (core0 (AOp.loadN Try.isAgg111 Try.sizeOf111 rfl rfl (reads_im _ _) rfl rfl ⟨rfl, rfl⟩)) ?_
        refine psq_nil ?_
        refine aops_cons rfl rfl (AOp.neL rfl rfl rfl rfl rfl ?_)
        refine aops_nil ?_
        refine aw_cond _ rfl (fun h3 => ?_) (fun h3 => ?_)
        focus
          have h3_ := h3
          try simp only [List.length_map, List.length_cons, List.length_nil, nrm] at h3
          all_goals try (exfalso; first | (simp at h3_; done) | omega)
          all_goals
            refine aw_seq ?_
            refine aw_region ?_
            refine aops_cons rfl rfl (AOp.assign rfl rfl ?_)
            refine aops_nil ?_
            refine aw_weak (wk_drop (List.nil_sublist _)) ?_
            refine aw_ret ?_
            refine ⟨_, (res1 Try.results66 rfl), ?_⟩
            refine ⟨?_, rfl⟩
            rw [decide_eq_false (fun e => by subst e; exact absurd rfl (by assumption))]; rfl
        rotate_right
        focus
          have h3_ := h3
          try simp only [List.length_map, List.length_cons, List.length_nil, nrm] at h3
          all_goals try (exfalso; first | (simp at h3_; done) | omega)
          all_goals
            refine aw_skip ?_
            skip
        all_goals
          refine aw_region ?_
          refine aops_cons rfl rfl (AOp.move rfl rfl ?_)
          refine aops_cons rfl rfl (AOp.addE rfl rfl rfl (by first | omega | (simp <;> omega) | (simp at * <;> omega)) (by first | omega | (simp <;> omega) | (simp at * <;> omega)) ?_)
          refine aops_cons rfl rfl (AOp.assign rfl rfl ?_)
          refine aops_nil ?_
          refine ⟨i + 1, ⟨by omega, fun k h1 h2 h => ?_⟩, by dsimp only; omega, (wk_env (sube_cons rfl (sube_cons rfl (sube_cons rfl (sube_nil _)))))⟩
          rcases Nat.lt_or_ge k i with h0 | h0
          · exact hk k h1 h2 h0
          · have e : k = i := by omega
            subst e; assumption

theorem sameInts (a b : List Int) (ha : a.length ≤ 1000000) (hb : b.length ≤ 1000000) : Pur Try.prog 23 [ints a, ints b] (.sc (.bool (decide (a = b)))) := by
  refine acallsN Try.func23 rfl Try.ntmps23 rfl ?_
  refine aw_seq ?_
  refine aw_region ?_
  refine aops_cons rfl rfl (AOp.assign rfl rfl ?_)
  refine aops_nil ?_
  refine aw_seq ?_
  refine aw_seq ?_
  refine aw_region ?_
  refine aops_cons rfl rfl (AOp.move rfl rfl ?_)
  refine aops_cons rfl rfl (AOp.lenS (by first | exact List.length_map _ | rfl) Try.underlying42 rfl rfl ?_)
  refine aops_cons rfl rfl (AOp.move rfl rfl ?_)
  refine aops_cons rfl rfl (AOp.lenS (by first | exact List.length_map _ | rfl) Try.underlying42 rfl rfl ?_)
  refine aops_cons rfl rfl (AOp.neq rfl rfl rfl ?_)
  refine aops_nil ?_
  refine aw_cond _ rfl (fun h1 => ?_) (fun h1 => ?_)
  focus
    have h1_ := h1
    try simp only [List.length_map, List.length_cons, List.length_nil, nrm] at h1
    all_goals try (exfalso; first | (simp at h1_; done) | omega)
    all_goals
      refine aw_seq ?_
      refine aw_region ?_
      refine aops_cons rfl rfl (AOp.assign rfl rfl ?_)
      refine aops_nil ?_
      refine aw_weak (wk_drop (List.nil_sublist _)) ?_
      refine aw_ret ?_
      refine ⟨_, (res1 Try.results23 rfl), ?_⟩
      refine ⟨?_, rfl⟩
      rw [decide_eq_false (fun e => by subst e; omega)]; rfl
  rotate_right
  focus
    have h1_ := h1
    try simp only [List.length_map, List.length_cons, List.length_nil, nrm] at h1
    all_goals try (exfalso; first | (simp at h1_; done) | omega)
    all_goals
      refine aw_skip ?_
      skip
  all_goals
    refine aw_seq ?_
    refine aw_seq ?_
    refine aw_region ?_
    refine aops_cons rfl rfl (AOp.assign rfl rfl ?_)
    refine aops_nil ?_
    refine aw_block ?_
    refine aw_loop (β := Nat) (S := (fun (z0 : Nat) => match z0 with | i => [(0, ints a), (1, ints b), (5, .sc (.int .i64 (i : Int)))])) (B := (fun (z0 : Nat) => match z0 with | i => [])) (pre := (fun (z0 : Nat) => match z0 with | i => i ≤ a.length ∧ ∀ k (h1 : k < a.length) (h2 : k < b.length), k < i → a[k] = b[k])) (μ := (fun (z0 : Nat) => match z0 with | i => a.length - i)) 0 (wk_env (sube_cons rfl (sube_cons rfl (sube_cons rfl (sube_nil _))))) ?_ ?_
    · exact ⟨Nat.zero_le _, fun k h1 h2 h => by omega⟩
    · rintro i ⟨hi, hk⟩
      change AW _ _ _ ([(0, ints a), (1, ints b), (5, .sc (.int .i64 (i : Int)))] : Env) ([] : List Blk) _
      refine aw_seq ?_
      refine aw_seq ?_
      refine aw_region ?_
      refine aops_cons rfl rfl (AOp.move rfl rfl ?_)
      refine aops_cons rfl rfl (AOp.move rfl rfl ?_)
      refine aops_cons rfl rfl (AOp.lenS (by first | exact List.length_map _ | rfl) Try.underlying42 rfl rfl ?_)
      refine aops_cons rfl rfl (AOp.lss rfl rfl rfl ?_)
      refine aops_nil ?_
      refine aw_cond _ rfl (fun h2 => ?_) (fun h2 => ?_)
      focus
        have h2_ := h2
        try simp only [List.length_map, List.length_cons, List.length_nil, nrm] at h2
        all_goals try (exfalso; first | (simp at h2_; done) | omega)
        all_goals
          refine aw_skip ?_
          skip
      rotate_right
      focus
        have h2_ := h2
        try simp only [List.length_map, List.length_cons, List.length_nil, nrm] at h2
        all_goals try (exfalso; first | (simp at h2_; done) | omega)
        all_goals
          refine aw_exit ?_
          refine aw_seq ?_
          refine aw_region ?_
          refine aops_cons rfl rfl (AOp.assign rfl rfl ?_)
          refine aops_nil ?_
          refine aw_weak (wk_drop (List.nil_sublist _)) ?_
          refine aw_ret ?_
          refine ⟨_, (res1 Try.results23 rfl), ?_⟩
          refine ⟨?_, rfl⟩
          rw [decide_eq_true (List.ext_getElem (by omega) (fun k h1 h2 => hk k h1 h2 (by omega)))]; rfl
      all_goals
        refine aw_seq ?_
        refine aw_block ?_
        refine aw_seq ?_
        refine aw_draw 8 [0, 0, 0, 0, 0, 0, 0, 0] (by kernel_rfl) (by kernel_rfl) ?_
        refine psq_cons _ rfl (core0 (AOp.move rfl rfl ⟨rfl, rfl⟩)) ?_
        refine psq_cons _ rfl (core0 (AOp.move rfl rfl ⟨rfl, rfl⟩)) ?_
        refine psq_cons _ rfl (core0 (AOp.indexLN Try.underlying42 Try.sizeOf3 rfl rfl rfl (by first | omega | (simp <;> omega) | (simp at * <;> omega)) (fun _ => rfl) ⟨rfl, rfl⟩)) ?_
        refine psq_cons _ rfl (core0 (AOp.load1 Try.isAgg3 rfl rfl (reads_im _ _) rfl ⟨rfl, rfl⟩)) ?_
        refine psq_cons _ rfl (core0 (AOp.move rfl rfl ⟨rfl, rfl⟩)) ?_
        refine psq_cons _ rfl (core0 (AOp.move rfl rfl ⟨rfl, rfl⟩)) ?_
        refine psq_cons _ rfl (core0 (AOp.indexLN Try.underlying42 Try.sizeOf3 rfl rfl rfl (by first | omega | (simp <;> omega) | (simp at * <;> omega)) (fun _ => rfl) ⟨rfl, rfl⟩)) ?_
        refine psq_cons _ rfl (core0 (AOp.load1 Try.isAgg3 rfl rfl (reads_im _ _) rfl ⟨rfl, rfl⟩)) ?_
        refine psq_nil ?_
        refine aops_cons rfl rfl (AOp.neq rfl rfl rfl ?_)
        refine aops_nil ?_
        refine aw_cond _ rfl (fun h3 => ?_) (fun h3 => ?_)
        focus
          have h3_ := h3
          try simp only [List.length_map, List.length_cons, List.length_nil, nrm] at h3
          all_goals try (exfalso; first | (simp at h3_; done) | omega)
          all_goals
            refine aw_seq ?_
            refine aw_region ?_
            refine aops_cons rfl rfl (AOp.assign rfl rfl ?_)
            refine aops_nil ?_
            refine aw_weak (wk_drop (List.nil_sublist _)) ?_
            refine aw_ret ?_
            refine ⟨_, (res1 Try.results23 rfl), ?_⟩
            refine ⟨?_, rfl⟩
            rw [decide_eq_false (fun e => by subst e; exact absurd rfl (by assumption))]; rfl
        rotate_right
        focus
          have h3_ := h3
          try simp only [List.length_map, List.length_cons, List.length_nil, nrm] at h3
          all_goals try (exfalso; first | (simp at h3_; done) | omega)
          all_goals
            refine aw_skip ?_
            skip
        all_goals
          refine aw_region ?_
          refine aops_cons rfl rfl (AOp.move rfl rfl ?_)
          refine aops_cons rfl rfl (AOp.addE rfl rfl rfl (by first | omega | (simp <;> omega) | (simp at * <;> omega)) (by first | omega | (simp <;> omega) | (simp at * <;> omega)) ?_)
          refine aops_cons rfl rfl (AOp.assign rfl rfl ?_)
          refine aops_nil ?_
          refine ⟨i + 1, ⟨by omega, fun k h1 h2 h => ?_⟩, by dsimp only; omega, (wk_env (sube_cons rfl (sube_cons rfl (sube_cons rfl (sube_nil _)))))⟩
          rcases Nat.lt_or_ge k i with h0 | h0
          · exact hk k h1 h2 h0
          · have e : k = i := by omega
            subst e; assumption

end Go.Proofs.Ytdacnebhlgibhaa
