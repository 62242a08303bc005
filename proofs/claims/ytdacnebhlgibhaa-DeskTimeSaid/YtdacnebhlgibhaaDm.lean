/- Own text: who waits first is let have it in time. -/
import Derived.Test.YtdacnebhlgibhaaDu
set_option linter.unusedVariables false
set_option linter.unusedSimpArgs false
set_option linter.all false
set_option maxRecDepth 100000
set_option maxHeartbeats 2000000
namespace Go.Proofs.Ytdacnebhlgibhaa
open Go Go.Aw

section
variable {P : Program} {o : Oper} {n : Nat} {v : Env} {A : List Blk} {K : AV → List Blk → Prop} {E : AV → List Blk → Prop}
theorem AOp.min2 {t t' : TypeId} {x y : Operand} {k k' : IntKind} {a b : Int} (hop : o.op = .call { callee := .builtin .min, args := #[x, y], argTypes := #[t, t'] }) (hx : ev v x = some (.sc (.int k a))) (hy : ev v y = some (.sc (.int k' b))) (q : K (.sc (.int k (min a b))) A) : AOp P o n v A K E :=
  AOp.val (fun H G W ac s e => ⟨_, by
    have h1 := rel_sc (ev_rel e hx); have h2 := rel_sc (ev_rel e hy)
    simp [execOp, hop, resolve, invoke, builtin, h1, h2, run_min_int2]
    rfl, by
    have : (if b < a then b else a) = min a b := by rw [Int.min_def]; split <;> split <;> omega
    rw [this]; exact .sc _⟩) q
end
theorem put_in {l : List Wt} {w : Wt} (h : (putW l w).2 = true) : w ∈ (putW l w).1 := by
  unfold putW at h ⊢
  split
  · rename_i i hi
    rw [List.findIdx?_eq_some_iff_getElem] at hi
    obtain ⟨hi, _⟩ := hi
    exact List.mem_iff_getElem.2 ⟨i, by simpa using hi, by simp⟩
  · rename_i hi
    rw [hi] at h
    dsimp only at h
    split
    · rename_i h4; rw [if_pos h4] at h; cases h
    · simp
theorem ask_err {d : Dk} {now : Int} {w : Wt} : (askD d now w).2.2.2 = 0 ∨ (askD d now w).2.2.2 = 3 := by
  unfold askD
  split
  · exact .inl rfl
  · split
    · exact .inl rfl
    · exact .inr rfl
theorem ask_first {k : Int} {d : Dk} {a now : Int} {w : Wt} (hg : GD k d a) (han : a ≤ now) (h0 : 0 ≤ now) (hw : okWt k w) (h1 : (askD d now w).2.1 = false) (h2 : (askD d now w).2.2.2 = 0) (h3 : ahead (askD d now w).1.w w.c w.f = false) : Frst (askD d now w).1 w ∧ Clr (askD d now w).1 w (now + 60) := by
  have hg' := gd_ask hg han h0 hw
  have hm : w ∈ (askD d now w).1.w := by
    unfold askD at h1 h2 ⊢
    split
    · rename_i h; rw [if_pos h] at h1; cases h1
    · rename_i h
      split
      · rename_i h'; exact put_in h'
      · rename_i h'; rw [if_neg h, if_neg h'] at h2; exact absurd h2 (by simp)
  exact ⟨ahead_no hg'.u hm h3, fun y hy _ => by have := hg'.live y hy; omega⟩
theorem wk_yes {l : List Wt} {p : Wt} {k : Nat} (h : p ∈ l.take k) : some (AV.sc (.bool true)) = some (AV.sc (.bool (decide (p ∈ l.take (k + 1))))) := by
  rw [decide_eq_true]
  rw [List.take_add_one]
  exact List.mem_append_left _ h
theorem wk_no {l : List Wt} {p : Wt} {k : Nat} (hk : k < l.length) (h : ¬ p ∈ l.take k) : some (AV.sc (.bool (decide (l[k] = p)))) = some (AV.sc (.bool (decide (p ∈ l.take (k + 1))))) := by
  have : (l[k] = p) ↔ p ∈ l.take (k + 1) := by
    rw [List.take_add_one, List.getElem?_eq_getElem hk, List.mem_append]
    constructor
    · intro e; right; simp [e]
    · rintro (h' | h')
      · exact absurd h' h
      · simp at h'; exact h'.symm
  simp only [this]
theorem run_first {k : Int} {d : Dk} {a T : Int} {w : Wt} (hg : GD k d a) (h : a ≤ T) (hT : 0 ≤ T) (hf : Frst d w) (hc : Clr d w T) : w ∈ (runOf d T).2 ∧ w.m ≤ hld (runOf d T).1.l T w.c w.f :=
  time_run hT d.w.length ⟨prn d.l T, d.w⟩ [] (gd_prn hg h) hf (clr_prn hc) (Nat.le_refl _)
theorem run_out {k : Int} {d : Dk} {a T : Int} (hg : GD k d a) (h : a ≤ T) : (runOf d T).2.length ≤ d.w.length := by
  have := (run_keep T d.w.length ⟨prn d.l T, d.w⟩ [] hg.u).2
  show (runD T d.w.length ⟨prn d.l T, d.w⟩ []).2.length ≤ _
  simp only [List.length_nil] at this
  omega

theorem deskTimeWalk (p : List UInt8) (xc xf xm : UInt8) (l : List Q3) : ACalls Try.prog 4 [bytes p, i8 xc, i8 xf, i8 xm, q3s l] [] (fun r A' => r = .sc (.bool true)) (fun _ _ => False) := by
  unfold bytes i8 q3s
  have uc := UInt8.toNat_lt xc
  have uf := UInt8.toNat_lt xf
  have um := UInt8.toNat_lt xm
  refine acallsN Try.func4 rfl Try.ntmps4 rfl ?_
  refine aw_seq ?_
  refine aw_region ?_
  refine aops_cons rfl rfl (AOp.assign rfl rfl ?_)
  refine aops_nil ?_
  refine aw_seq ?_
  refine aw_seq ?_
  refine aw_region ?_
  refine aops_cons rfl rfl (AOp.callP Try.call13 rfl rfl rfl begun ?_)
  refine aops_cons rfl rfl (AOp.not rfl rfl ?_)
  refine aops_nil ?_
  refine aw_cond _ rfl (fun h1 => ?_) (fun h1 => ?_)
  focus
    have h1_ := h1
    try simp only [List.length_map, List.length_cons, List.length_nil, nrm] at h1
    all_goals try (exfalso; first | contradiction | (simp at h1_; done) | omega)
    all_goals
      refine aw_seq ?_
      refine aw_region ?_
      refine aops_cons rfl rfl (AOp.assign rfl rfl ?_)
      refine aops_nil ?_
      refine aw_ret ?_
      refine ⟨_, (res1 Try.results4 rfl), ?_⟩
      first | rfl | (simp; done) | (simp; omega) | (rcases herr with e0 | e0 <;> simp_all; done) | (dsimp only at hr2 ⊢; rw [decide_eq_true hr2])
  rotate_right
  focus
    have h1_ := h1
    try simp only [List.length_map, List.length_cons, List.length_nil, nrm] at h1
    all_goals try (exfalso; first | contradiction | (simp at h1_; done) | omega)
    all_goals
      refine aw_skip ?_
      skip
  all_goals
    refine aw_seq ?_
    refine aw_seq ?_
    refine aw_region ?_
    refine aops_cons rfl rfl (AOp.move rfl rfl ?_)
    first
    | refine aops_cons rfl rfl (AOp.lenS (by first | exact List.length_map _ | rfl) Try.underlying22 rfl rfl ?_)
    | refine aops_cons rfl rfl (AOp.lenN Try.underlying22 rfl rfl ?_)
    | refine aops_cons rfl rfl (AOp.lenR (by first | exact List.length_map _ | rfl) Try.underlying22 (.head _) rfl rfl ?_)
    | refine aops_cons rfl rfl (AOp.lenR (by first | exact List.length_map _ | rfl) Try.underlying22 (.tail _ (.head _)) rfl rfl ?_)
    | refine aops_cons rfl rfl (AOp.lenR (by first | exact List.length_map _ | rfl) Try.underlying22 (.tail _ (.tail _ (.head _))) rfl rfl ?_)
    refine aops_cons rfl rfl (AOp.gtr rfl rfl rfl ?_)
    refine aops_cons rfl rfl (AOp.move rfl rfl ?_)
    refine aops_guard 3 false 30 _ rfl rfl rfl rfl rfl (fun g2 => ?_) (fun g2 => ?_)
    focus
      have g2_ := g2
      try simp only [List.length_map, List.length_cons, List.length_nil, nrm] at g2
      all_goals try (exfalso; first | contradiction | (simp at g2_; done) | omega)
      all_goals
        refine AOp.move rfl rfl ?_
        refine aops_guard 3 false 30 _ rfl rfl rfl rfl rfl (fun _ => ?_) (fun hh => by exfalso; first | (rw [g2_] at hh; exact absurd hh (by decide)) | (revert hh; simp [g2_]))
        first
        | refine AOp.lenS (by first | exact List.length_map _ | rfl) Try.underlying49 rfl rfl ?_
        | refine AOp.lenN Try.underlying49 rfl rfl ?_
        | refine AOp.lenR (by first | exact List.length_map _ | rfl) Try.underlying49 (.head _) rfl rfl ?_
        | refine AOp.lenR (by first | exact List.length_map _ | rfl) Try.underlying49 (.tail _ (.head _)) rfl rfl ?_
        | refine AOp.lenR (by first | exact List.length_map _ | rfl) Try.underlying49 (.tail _ (.tail _ (.head _))) rfl rfl ?_
        refine aops_guard 3 false 30 _ rfl rfl rfl rfl rfl (fun _ => ?_) (fun hh => by exfalso; first | (rw [g2_] at hh; exact absurd hh (by decide)) | (revert hh; simp [g2_]))
        refine AOp.gtr rfl rfl rfl ?_
    rotate_right
    focus
      have g2_ := g2
      try simp only [List.length_map, List.length_cons, List.length_nil, nrm] at g2
      all_goals try (exfalso; first | contradiction | (simp at g2_; done) | omega)
      all_goals
        refine aops_guard 3 false 30 _ rfl rfl rfl rfl rfl (fun hh => by exfalso; first | (rw [g2_] at hh; exact absurd hh (by decide)) | (revert hh; simp [g2_])) (fun _ => ?_)
        refine aops_guard 3 false 30 _ rfl rfl rfl rfl rfl (fun hh => by exfalso; first | (rw [g2_] at hh; exact absurd hh (by decide)) | (revert hh; simp [g2_])) (fun _ => ?_)
    all_goals
      first
      | refine aops_cons rfl rfl (AOp.pick_t rfl rfl (by first | assumption | rfl) rfl ?_)
      | refine aops_cons rfl rfl (AOp.pick_f rfl rfl (by first | assumption | rfl) rfl ?_)
      refine aops_nil ?_
      refine aw_cond _ rfl (fun h3 => ?_) (fun h3 => ?_)
      focus
        have h3_ := h3
        try simp only [List.length_map, List.length_cons, List.length_nil, nrm] at h3
        all_goals try (exfalso; first | contradiction | (simp at h3_; done) | omega)
        all_goals
          refine aw_seq ?_
          refine aw_region ?_
          refine aops_cons rfl rfl (AOp.assign rfl rfl ?_)
          refine aops_nil ?_
          refine aw_ret ?_
          refine ⟨_, (res1 Try.results4 rfl), ?_⟩
          first | rfl | (simp; done) | (simp; omega) | (rcases herr with e0 | e0 <;> simp_all; done) | (dsimp only at hr2 ⊢; rw [decide_eq_true hr2])
      rotate_right
      focus
        have h3_ := h3
        try simp only [List.length_map, List.length_cons, List.length_nil, nrm] at h3
        all_goals try (exfalso; first | contradiction | (simp at h3_; done) | omega)
        all_goals
          refine aw_skip ?_
          skip
      all_goals
        refine aw_seq ?_
        refine aw_region ?_
        refine aops_cons rfl rfl (AOp.move rfl rfl ?_)
        refine aops_cons rfl rfl (AOp.callN (Af := []) Try.call14 rfl rfl rfl (List.Perm.refl _) (by exact made p) (fun r' A'' hr => ?_))
        obtain ⟨b, rfl, rfl⟩ := hr
        refine aops_cons rfl rfl (AOp.callN (Af := []) Try.call15 rfl rfl rfl (List.Perm.refl _) (by exact desk p b (by first | omega | (simp <;> omega) | (simp at * <;> omega))) (fun r' A'' hr => ?_))
        obtain ⟨d, now, n', rfl, hg, k0, kn, k1, rfl⟩ := hr
        refine aops_cons rfl rfl (AOp.move rfl rfl ?_)
        refine aops_cons rfl rfl (AOp.extract rfl rfl rfl ?_)
        refine aops_cons rfl rfl (AOp.extract rfl rfl rfl ?_)
        refine aops_cons rfl rfl (AOp.alloc Try.zeroValue30 (by kernel_rfl) rfl rfl ?_); intro b1
        first
        | refine aops_cons rfl rfl (AOp.storeB' Try.sizeOf30 rfl rfl rfl rfl rfl (pull_here _ _) rfl rfl ?_)
        | refine aops_cons rfl rfl (AOp.storeB' Try.sizeOf30 rfl rfl rfl rfl rfl (pull_there (pull_here _ _)) rfl rfl ?_)
        | refine aops_cons rfl rfl (AOp.storeB' Try.sizeOf30 rfl rfl rfl rfl rfl (pull_there (pull_there (pull_here _ _))) rfl rfl ?_)
        | refine aops_cons rfl rfl (AOp.storeR' Try.sizeOf30 rfl rfl rfl rfl rfl (pull_here _ _) (by first | exact idx_nat (by first | omega | (simp <;> omega) | (simp at * <;> omega)) | exact idx_map (by first | omega | (simp <;> omega) | (simp at * <;> omega)) | assumption) rfl rfl rfl ?_)
        | refine aops_cons rfl rfl (AOp.storeR' Try.sizeOf30 rfl rfl rfl rfl rfl (pull_there (pull_here _ _)) (by first | exact idx_nat (by first | omega | (simp <;> omega) | (simp at * <;> omega)) | exact idx_map (by first | omega | (simp <;> omega) | (simp at * <;> omega)) | assumption) rfl rfl rfl ?_)
        | refine aops_cons rfl rfl (AOp.storeR' Try.sizeOf30 rfl rfl rfl rfl rfl (pull_there (pull_there (pull_here _ _))) (by first | exact idx_nat (by first | omega | (simp <;> omega) | (simp at * <;> omega)) | exact idx_map (by first | omega | (simp <;> omega) | (simp at * <;> omega)) | assumption) rfl rfl rfl ?_)
        refine aops_cons rfl rfl (AOp.assign rfl rfl ?_)
        refine aops_nil ?_
        refine aw_seq ?_
        refine aw_region ?_
        refine aops_cons rfl rfl (AOp.move rfl rfl ?_)
        refine aops_cons rfl rfl (AOp.remE rfl rfl rfl (by first | decide | omega) (by first | omega | (simp <;> omega) | (simp at * <;> omega)) ?_)
        first
        | refine aops_cons rfl rfl (AOp.conviI Try.underlying5 Try.underlying3 rfl rfl (by first | omega | (simp <;> omega) | (simp at * <;> omega)) (by first | omega | (simp <;> omega) | (simp at * <;> omega)) ?_)
        | refine aops_cons rfl rfl (AOp.convi Try.underlying5 Try.underlying3 rfl rfl rfl ?_)
        first
        | refine aops_cons rfl rfl (AOp.addE rfl rfl rfl (by first | omega | (simp <;> omega) | (simp at * <;> omega)) (by first | omega | (simp <;> omega) | (simp at * <;> omega)) ?_)
        | refine aops_cons rfl rfl (AOp.add rfl rfl rfl rfl ?_)
        refine aops_cons rfl rfl (AOp.move rfl rfl ?_)
        refine aops_cons rfl rfl (AOp.remE rfl rfl rfl (by first | decide | omega) (by first | omega | (simp <;> omega) | (simp at * <;> omega)) ?_)
        first
        | refine aops_cons rfl rfl (AOp.conviI Try.underlying5 Try.underlying3 rfl rfl (by first | omega | (simp <;> omega) | (simp at * <;> omega)) (by first | omega | (simp <;> omega) | (simp at * <;> omega)) ?_)
        | refine aops_cons rfl rfl (AOp.convi Try.underlying5 Try.underlying3 rfl rfl rfl ?_)
        first
        | refine aops_cons rfl rfl (AOp.addE rfl rfl rfl (by first | omega | (simp <;> omega) | (simp at * <;> omega)) (by first | omega | (simp <;> omega) | (simp at * <;> omega)) ?_)
        | refine aops_cons rfl rfl (AOp.add rfl rfl rfl rfl ?_)
        refine aops_cons rfl rfl (AOp.move rfl rfl ?_)
        refine aops_cons rfl rfl (AOp.remE rfl rfl rfl (by first | decide | omega) (by first | omega | (simp <;> omega) | (simp at * <;> omega)) ?_)
        first
        | refine aops_cons rfl rfl (AOp.conviI Try.underlying5 Try.underlying3 rfl rfl (by first | omega | (simp <;> omega) | (simp at * <;> omega)) (by first | omega | (simp <;> omega) | (simp at * <;> omega)) ?_)
        | refine aops_cons rfl rfl (AOp.convi Try.underlying5 Try.underlying3 rfl rfl rfl ?_)
        first
        | refine aops_cons rfl rfl (AOp.addE rfl rfl rfl (by first | omega | (simp <;> omega) | (simp at * <;> omega)) (by first | omega | (simp <;> omega) | (simp at * <;> omega)) ?_)
        | refine aops_cons rfl rfl (AOp.add rfl rfl rfl rfl ?_)
        refine aops_cons rfl rfl (AOp.build' (places := [(0, 1), (1, 1), (2, 1), (3, 1)]) Try.zeroValue25 (by kernel_rfl) (by kernel_rfl) Try.underlying25 (by kernel_rfl) rfl rfl rfl rfl ?_)
        refine aops_cons rfl rfl (AOp.alloc Try.zeroValue25 (by kernel_rfl) rfl rfl ?_); intro b2
        first
        | refine aops_cons rfl rfl (AOp.storeB' Try.sizeOf25 rfl rfl rfl rfl rfl (pull_here _ _) rfl rfl ?_)
        | refine aops_cons rfl rfl (AOp.storeB' Try.sizeOf25 rfl rfl rfl rfl rfl (pull_there (pull_here _ _)) rfl rfl ?_)
        | refine aops_cons rfl rfl (AOp.storeB' Try.sizeOf25 rfl rfl rfl rfl rfl (pull_there (pull_there (pull_here _ _))) rfl rfl ?_)
        | refine aops_cons rfl rfl (AOp.storeR' Try.sizeOf25 rfl rfl rfl rfl rfl (pull_here _ _) (by first | exact idx_nat (by first | omega | (simp <;> omega) | (simp at * <;> omega)) | exact idx_map (by first | omega | (simp <;> omega) | (simp at * <;> omega)) | assumption) rfl rfl rfl ?_)
        | refine aops_cons rfl rfl (AOp.storeR' Try.sizeOf25 rfl rfl rfl rfl rfl (pull_there (pull_here _ _)) (by first | exact idx_nat (by first | omega | (simp <;> omega) | (simp at * <;> omega)) | exact idx_map (by first | omega | (simp <;> omega) | (simp at * <;> omega)) | assumption) rfl rfl rfl ?_)
        | refine aops_cons rfl rfl (AOp.storeR' Try.sizeOf25 rfl rfl rfl rfl rfl (pull_there (pull_there (pull_here _ _))) (by first | exact idx_nat (by first | omega | (simp <;> omega) | (simp at * <;> omega)) | exact idx_map (by first | omega | (simp <;> omega) | (simp at * <;> omega)) | assumption) rfl rfl rfl ?_)
        refine aops_nil ?_
        refine aw_seq ?_
        have hgl := hg.lenl (by decide)
        have hgw := hg.lenw
        have ok0 : okWt 3 (⟨1 + (xc.toNat : Int) % 3, 500, 1 + (xf.toNat : Int) % 3, 1 + (xm.toNat : Int) % 2⟩ : Wt) := by unfold okWt; dsimp only; omega
        have hg0 := gd_ask hg (Int.le_refl _) k0 ok0
        have hg0l := hg0.lenl (by decide)
        have hg0w := hg0.lenw
        have herr := ask_err (d := d) (now := now) (w := (⟨1 + (xc.toNat : Int) % 3, 500, 1 + (xf.toNat : Int) % 3, 1 + (xm.toNat : Int) % 2⟩ : Wt))
        refine aw_region ?_
        first
        | refine aops_cons rfl rfl (AOp.loadN Try.isAgg30 Try.sizeOf30 rfl rfl (reads_im _ _) rfl rfl ?_)
        | refine aops_cons rfl rfl (AOp.loadN Try.isAgg30 Try.sizeOf30 rfl rfl (reads_box _ (.head _)) rfl rfl ?_)
        | refine aops_cons rfl rfl (AOp.loadN Try.isAgg30 Try.sizeOf30 rfl rfl (reads_box _ (.tail _ (.head _))) rfl rfl ?_)
        | refine aops_cons rfl rfl (AOp.loadN Try.isAgg30 Try.sizeOf30 rfl rfl (reads_box _ (.tail _ (.tail _ (.head _)))) rfl rfl ?_)
        | refine aops_cons rfl rfl (AOp.loadN Try.isAgg30 Try.sizeOf30 rfl rfl (reads_row _ (.head _) (idx_nat (by first | omega | (simp <;> omega) | (simp at * <;> omega))) (by first | omega | (simp <;> omega) | (simp at * <;> omega))) rfl rfl ?_)
        | refine aops_cons rfl rfl (AOp.loadN Try.isAgg30 Try.sizeOf30 rfl rfl (reads_row _ (.head _) (idx_map (by first | omega | (simp <;> omega) | (simp at * <;> omega))) (by first | omega | (simp <;> omega) | (simp at * <;> omega))) rfl rfl ?_)
        | refine aops_cons rfl rfl (AOp.loadN Try.isAgg30 Try.sizeOf30 rfl rfl (reads_row _ (.head _) (by assumption) (by first | omega | (simp <;> omega) | (simp at * <;> omega))) rfl rfl ?_)
        | refine aops_cons rfl rfl (AOp.loadN Try.isAgg30 Try.sizeOf30 rfl rfl (reads_row _ (.tail _ (.head _)) (idx_nat (by first | omega | (simp <;> omega) | (simp at * <;> omega))) (by first | omega | (simp <;> omega) | (simp at * <;> omega))) rfl rfl ?_)
        | refine aops_cons rfl rfl (AOp.loadN Try.isAgg30 Try.sizeOf30 rfl rfl (reads_row _ (.tail _ (.head _)) (idx_map (by first | omega | (simp <;> omega) | (simp at * <;> omega))) (by first | omega | (simp <;> omega) | (simp at * <;> omega))) rfl rfl ?_)
        | refine aops_cons rfl rfl (AOp.loadN Try.isAgg30 Try.sizeOf30 rfl rfl (reads_row _ (.tail _ (.head _)) (by assumption) (by first | omega | (simp <;> omega) | (simp at * <;> omega))) rfl rfl ?_)
        | refine aops_cons rfl rfl (AOp.loadN Try.isAgg30 Try.sizeOf30 rfl rfl (reads_row _ (.tail _ (.tail _ (.head _))) (idx_nat (by first | omega | (simp <;> omega) | (simp at * <;> omega))) (by first | omega | (simp <;> omega) | (simp at * <;> omega))) rfl rfl ?_)
        | refine aops_cons rfl rfl (AOp.loadN Try.isAgg30 Try.sizeOf30 rfl rfl (reads_row _ (.tail _ (.tail _ (.head _))) (idx_map (by first | omega | (simp <;> omega) | (simp at * <;> omega))) (by first | omega | (simp <;> omega) | (simp at * <;> omega))) rfl rfl ?_)
        | refine aops_cons rfl rfl (AOp.loadN Try.isAgg30 Try.sizeOf30 rfl rfl (reads_row _ (.tail _ (.tail _ (.head _))) (by assumption) (by first | omega | (simp <;> omega) | (simp at * <;> omega))) rfl rfl ?_)
        refine aops_cons rfl rfl (AOp.move rfl rfl ?_)
        first
        | refine aops_cons rfl rfl (AOp.loadN Try.isAgg25 Try.sizeOf25 rfl rfl (reads_im _ _) rfl rfl ?_)
        | refine aops_cons rfl rfl (AOp.loadN Try.isAgg25 Try.sizeOf25 rfl rfl (reads_box _ (.head _)) rfl rfl ?_)
        | refine aops_cons rfl rfl (AOp.loadN Try.isAgg25 Try.sizeOf25 rfl rfl (reads_box _ (.tail _ (.head _))) rfl rfl ?_)
        | refine aops_cons rfl rfl (AOp.loadN Try.isAgg25 Try.sizeOf25 rfl rfl (reads_box _ (.tail _ (.tail _ (.head _)))) rfl rfl ?_)
        | refine aops_cons rfl rfl (AOp.loadN Try.isAgg25 Try.sizeOf25 rfl rfl (reads_row _ (.head _) (idx_nat (by first | omega | (simp <;> omega) | (simp at * <;> omega))) (by first | omega | (simp <;> omega) | (simp at * <;> omega))) rfl rfl ?_)
        | refine aops_cons rfl rfl (AOp.loadN Try.isAgg25 Try.sizeOf25 rfl rfl (reads_row _ (.head _) (idx_map (by first | omega | (simp <;> omega) | (simp at * <;> omega))) (by first | omega | (simp <;> omega) | (simp at * <;> omega))) rfl rfl ?_)
        | refine aops_cons rfl rfl (AOp.loadN Try.isAgg25 Try.sizeOf25 rfl rfl (reads_row _ (.head _) (by assumption) (by first | omega | (simp <;> omega) | (simp at * <;> omega))) rfl rfl ?_)
        | refine aops_cons rfl rfl (AOp.loadN Try.isAgg25 Try.sizeOf25 rfl rfl (reads_row _ (.tail _ (.head _)) (idx_nat (by first | omega | (simp <;> omega) | (simp at * <;> omega))) (by first | omega | (simp <;> omega) | (simp at * <;> omega))) rfl rfl ?_)
        | refine aops_cons rfl rfl (AOp.loadN Try.isAgg25 Try.sizeOf25 rfl rfl (reads_row _ (.tail _ (.head _)) (idx_map (by first | omega | (simp <;> omega) | (simp at * <;> omega))) (by first | omega | (simp <;> omega) | (simp at * <;> omega))) rfl rfl ?_)
        | refine aops_cons rfl rfl (AOp.loadN Try.isAgg25 Try.sizeOf25 rfl rfl (reads_row _ (.tail _ (.head _)) (by assumption) (by first | omega | (simp <;> omega) | (simp at * <;> omega))) rfl rfl ?_)
        | refine aops_cons rfl rfl (AOp.loadN Try.isAgg25 Try.sizeOf25 rfl rfl (reads_row _ (.tail _ (.tail _ (.head _))) (idx_nat (by first | omega | (simp <;> omega) | (simp at * <;> omega))) (by first | omega | (simp <;> omega) | (simp at * <;> omega))) rfl rfl ?_)
        | refine aops_cons rfl rfl (AOp.loadN Try.isAgg25 Try.sizeOf25 rfl rfl (reads_row _ (.tail _ (.tail _ (.head _))) (idx_map (by first | omega | (simp <;> omega) | (simp at * <;> omega))) (by first | omega | (simp <;> omega) | (simp at * <;> omega))) rfl rfl ?_)
        | refine aops_cons rfl rfl (AOp.loadN Try.isAgg25 Try.sizeOf25 rfl rfl (reads_row _ (.tail _ (.tail _ (.head _))) (by assumption) (by first | omega | (simp <;> omega) | (simp at * <;> omega))) rfl rfl ?_)
        refine aops_cons rfl rfl (AOp.callP Try.call21 rfl rfl rfl (by exact ask d now (⟨1 + (xc.toNat : Int) % 3, 500, 1 + (xf.toNat : Int) % 3, 1 + (xm.toNat : Int) % 2⟩ : Wt) hg.s hg.u k0 (by first | omega | (simp <;> omega) | (simp at * <;> omega)) (by first | omega | (simp <;> omega) | (simp at * <;> omega)) (by first | omega | (simp <;> omega) | (simp at * <;> omega))) ?_)
        refine aops_cons rfl rfl (AOp.move rfl rfl ?_)
        refine aops_cons rfl rfl (AOp.extract rfl rfl rfl ?_)
        refine aops_cons rfl rfl (AOp.extract rfl rfl rfl ?_)
        refine aops_cons rfl rfl (AOp.extract rfl rfl rfl ?_)
        refine aops_cons rfl rfl (AOp.extract rfl rfl rfl ?_)
        first
        | refine aops_cons rfl rfl (AOp.storeB' Try.sizeOf30 rfl rfl rfl rfl rfl (pull_here _ _) rfl rfl ?_)
        | refine aops_cons rfl rfl (AOp.storeB' Try.sizeOf30 rfl rfl rfl rfl rfl (pull_there (pull_here _ _)) rfl rfl ?_)
        | refine aops_cons rfl rfl (AOp.storeB' Try.sizeOf30 rfl rfl rfl rfl rfl (pull_there (pull_there (pull_here _ _))) rfl rfl ?_)
        | refine aops_cons rfl rfl (AOp.storeR' Try.sizeOf30 rfl rfl rfl rfl rfl (pull_here _ _) (by first | exact idx_nat (by first | omega | (simp <;> omega) | (simp at * <;> omega)) | exact idx_map (by first | omega | (simp <;> omega) | (simp at * <;> omega)) | assumption) rfl rfl rfl ?_)
        | refine aops_cons rfl rfl (AOp.storeR' Try.sizeOf30 rfl rfl rfl rfl rfl (pull_there (pull_here _ _)) (by first | exact idx_nat (by first | omega | (simp <;> omega) | (simp at * <;> omega)) | exact idx_map (by first | omega | (simp <;> omega) | (simp at * <;> omega)) | assumption) rfl rfl rfl ?_)
        | refine aops_cons rfl rfl (AOp.storeR' Try.sizeOf30 rfl rfl rfl rfl rfl (pull_there (pull_there (pull_here _ _))) (by first | exact idx_nat (by first | omega | (simp <;> omega) | (simp at * <;> omega)) | exact idx_map (by first | omega | (simp <;> omega) | (simp at * <;> omega)) | assumption) rfl rfl rfl ?_)
        refine aops_cons rfl rfl (AOp.assign rfl rfl ?_)
        refine aops_cons rfl rfl (AOp.assign rfl rfl ?_)
        refine aops_cons rfl rfl (AOp.assign rfl rfl ?_)
        refine aops_nil ?_
        refine aw_seq ?_
        refine aw_seq ?_
        refine aw_region ?_
        refine aops_cons rfl rfl (AOp.move rfl rfl ?_)
        refine aops_cons rfl rfl (AOp.move rfl rfl ?_)
        refine aops_guard 1 false 64 _ rfl rfl rfl rfl rfl (fun g4 => ?_) (fun g4 => ?_)
        focus
          have g4_ := g4
          try simp only [List.length_map, List.length_cons, List.length_nil, nrm] at g4
          all_goals try (exfalso; first | contradiction | (simp at g4_; done) | omega)
          all_goals
            refine AOp.move rfl rfl ?_
            refine aops_guard 1 false 64 _ rfl rfl rfl rfl rfl (fun _ => ?_) (fun hh => by exfalso; first | (rw [g4_] at hh; exact absurd hh (by decide)) | (revert hh; simp [g4_]))
            refine AOp.neq rfl rfl rfl ?_
        rotate_right
        focus
          have g4_ := g4
          try simp only [List.length_map, List.length_cons, List.length_nil, nrm] at g4
          all_goals try (exfalso; first | contradiction | (simp at g4_; done) | omega)
          all_goals
            refine aops_guard 1 false 64 _ rfl rfl rfl rfl rfl (fun hh => by exfalso; first | (rw [g4_] at hh; exact absurd hh (by decide)) | (revert hh; simp [g4_])) (fun _ => ?_)
        all_goals
          first
          | refine aops_cons rfl rfl (AOp.pick_t rfl rfl (by first | assumption | rfl) rfl ?_)
          | refine aops_cons rfl rfl (AOp.pick_f rfl rfl (by first | assumption | rfl) rfl ?_)
          refine aops_cons rfl rfl (AOp.move rfl rfl ?_)
          refine aops_guard 5 false 68 _ rfl rfl rfl rfl rfl (fun g5 => ?_) (fun g5 => ?_)
          focus
            have g5_ := g5
            try simp only [List.length_map, List.length_cons, List.length_nil, nrm] at g5
            all_goals try (exfalso; first | contradiction | (simp at g5_; done) | omega)
            all_goals
              first
              | refine AOp.fieldI Try.underlying30 rfl Try.sizeOf28 (by decide) rfl rfl rfl ?_
              | refine AOp.fieldB Try.underlying30 rfl Try.sizeOf28 (by decide) rfl rfl rfl ?_
              | refine AOp.fieldR Try.underlying30 rfl Try.sizeOf28 (by decide) rfl rfl rfl ?_
              refine aops_guard 5 false 68 _ rfl rfl rfl rfl rfl (fun _ => ?_) (fun hh => by exfalso; first | (rw [g5_] at hh; exact absurd hh (by decide)) | (revert hh; simp [g5_]))
              first
              | refine AOp.load1 Try.isAgg28 rfl rfl (reads_im _ _) rfl ?_
              | refine AOp.load1 Try.isAgg28 rfl rfl (reads_box _ (.head _)) rfl ?_
              | refine AOp.load1 Try.isAgg28 rfl rfl (reads_box _ (.tail _ (.head _))) rfl ?_
              | refine AOp.load1 Try.isAgg28 rfl rfl (reads_box _ (.tail _ (.tail _ (.head _)))) rfl ?_
              | refine AOp.load1 Try.isAgg28 rfl rfl (reads_row _ (.head _) (idx_nat (by first | omega | (simp <;> omega) | (simp at * <;> omega))) (by first | omega | (simp <;> omega) | (simp at * <;> omega))) rfl ?_
              | refine AOp.load1 Try.isAgg28 rfl rfl (reads_row _ (.head _) (idx_map (by first | omega | (simp <;> omega) | (simp at * <;> omega))) (by first | omega | (simp <;> omega) | (simp at * <;> omega))) rfl ?_
              | refine AOp.load1 Try.isAgg28 rfl rfl (reads_row _ (.head _) (by assumption) (by first | omega | (simp <;> omega) | (simp at * <;> omega))) rfl ?_
              | refine AOp.load1 Try.isAgg28 rfl rfl (reads_row _ (.tail _ (.head _)) (idx_nat (by first | omega | (simp <;> omega) | (simp at * <;> omega))) (by first | omega | (simp <;> omega) | (simp at * <;> omega))) rfl ?_
              | refine AOp.load1 Try.isAgg28 rfl rfl (reads_row _ (.tail _ (.head _)) (idx_map (by first | omega | (simp <;> omega) | (simp at * <;> omega))) (by first | omega | (simp <;> omega) | (simp at * <;> omega))) rfl ?_
              | refine AOp.load1 Try.isAgg28 rfl rfl (reads_row _ (.tail _ (.head _)) (by assumption) (by first | omega | (simp <;> omega) | (simp at * <;> omega))) rfl ?_
              | refine AOp.load1 Try.isAgg28 rfl rfl (reads_row _ (.tail _ (.tail _ (.head _))) (idx_nat (by first | omega | (simp <;> omega) | (simp at * <;> omega))) (by first | omega | (simp <;> omega) | (simp at * <;> omega))) rfl ?_
              | refine AOp.load1 Try.isAgg28 rfl rfl (reads_row _ (.tail _ (.tail _ (.head _))) (idx_map (by first | omega | (simp <;> omega) | (simp at * <;> omega))) (by first | omega | (simp <;> omega) | (simp at * <;> omega))) rfl ?_
              | refine AOp.load1 Try.isAgg28 rfl rfl (reads_row _ (.tail _ (.tail _ (.head _))) (by assumption) (by first | omega | (simp <;> omega) | (simp at * <;> omega))) rfl ?_
              refine aops_guard 5 false 68 _ rfl rfl rfl rfl rfl (fun _ => ?_) (fun hh => by exfalso; first | (rw [g5_] at hh; exact absurd hh (by decide)) | (revert hh; simp [g5_]))
              first
              | refine AOp.fieldI Try.underlying25 rfl Try.sizeOf3 (by decide) rfl rfl rfl ?_
              | refine AOp.fieldB Try.underlying25 rfl Try.sizeOf3 (by decide) rfl rfl rfl ?_
              | refine AOp.fieldR Try.underlying25 rfl Try.sizeOf3 (by decide) rfl rfl rfl ?_
              refine aops_guard 5 false 68 _ rfl rfl rfl rfl rfl (fun _ => ?_) (fun hh => by exfalso; first | (rw [g5_] at hh; exact absurd hh (by decide)) | (revert hh; simp [g5_]))
              first
              | refine AOp.load1 Try.isAgg3 rfl rfl (reads_im _ _) rfl ?_
              | refine AOp.load1 Try.isAgg3 rfl rfl (reads_box _ (.head _)) rfl ?_
              | refine AOp.load1 Try.isAgg3 rfl rfl (reads_box _ (.tail _ (.head _))) rfl ?_
              | refine AOp.load1 Try.isAgg3 rfl rfl (reads_box _ (.tail _ (.tail _ (.head _)))) rfl ?_
              | refine AOp.load1 Try.isAgg3 rfl rfl (reads_row _ (.head _) (idx_nat (by first | omega | (simp <;> omega) | (simp at * <;> omega))) (by first | omega | (simp <;> omega) | (simp at * <;> omega))) rfl ?_
              | refine AOp.load1 Try.isAgg3 rfl rfl (reads_row _ (.head _) (idx_map (by first | omega | (simp <;> omega) | (simp at * <;> omega))) (by first | omega | (simp <;> omega) | (simp at * <;> omega))) rfl ?_
              | refine AOp.load1 Try.isAgg3 rfl rfl (reads_row _ (.head _) (by assumption) (by first | omega | (simp <;> omega) | (simp at * <;> omega))) rfl ?_
              | refine AOp.load1 Try.isAgg3 rfl rfl (reads_row _ (.tail _ (.head _)) (idx_nat (by first | omega | (simp <;> omega) | (simp at * <;> omega))) (by first | omega | (simp <;> omega) | (simp at * <;> omega))) rfl ?_
              | refine AOp.load1 Try.isAgg3 rfl rfl (reads_row _ (.tail _ (.head _)) (idx_map (by first | omega | (simp <;> omega) | (simp at * <;> omega))) (by first | omega | (simp <;> omega) | (simp at * <;> omega))) rfl ?_
              | refine AOp.load1 Try.isAgg3 rfl rfl (reads_row _ (.tail _ (.head _)) (by assumption) (by first | omega | (simp <;> omega) | (simp at * <;> omega))) rfl ?_
              | refine AOp.load1 Try.isAgg3 rfl rfl (reads_row _ (.tail _ (.tail _ (.head _))) (idx_nat (by first | omega | (simp <;> omega) | (simp at * <;> omega))) (by first | omega | (simp <;> omega) | (simp at * <;> omega))) rfl ?_
              | refine AOp.load1 Try.isAgg3 rfl rfl (reads_row _ (.tail _ (.tail _ (.head _))) (idx_map (by first | omega | (simp <;> omega) | (simp at * <;> omega))) (by first | omega | (simp <;> omega) | (simp at * <;> omega))) rfl ?_
              | refine AOp.load1 Try.isAgg3 rfl rfl (reads_row _ (.tail _ (.tail _ (.head _))) (by assumption) (by first | omega | (simp <;> omega) | (simp at * <;> omega))) rfl ?_
              refine aops_guard 5 false 68 _ rfl rfl rfl rfl rfl (fun _ => ?_) (fun hh => by exfalso; first | (rw [g5_] at hh; exact absurd hh (by decide)) | (revert hh; simp [g5_]))
              first
              | refine AOp.fieldI Try.underlying25 rfl Try.sizeOf3 (by decide) rfl rfl rfl ?_
              | refine AOp.fieldB Try.underlying25 rfl Try.sizeOf3 (by decide) rfl rfl rfl ?_
              | refine AOp.fieldR Try.underlying25 rfl Try.sizeOf3 (by decide) rfl rfl rfl ?_
              refine aops_guard 5 false 68 _ rfl rfl rfl rfl rfl (fun _ => ?_) (fun hh => by exfalso; first | (rw [g5_] at hh; exact absurd hh (by decide)) | (revert hh; simp [g5_]))
              first
              | refine AOp.load1 Try.isAgg3 rfl rfl (reads_im _ _) rfl ?_
              | refine AOp.load1 Try.isAgg3 rfl rfl (reads_box _ (.head _)) rfl ?_
              | refine AOp.load1 Try.isAgg3 rfl rfl (reads_box _ (.tail _ (.head _))) rfl ?_
              | refine AOp.load1 Try.isAgg3 rfl rfl (reads_box _ (.tail _ (.tail _ (.head _)))) rfl ?_
              | refine AOp.load1 Try.isAgg3 rfl rfl (reads_row _ (.head _) (idx_nat (by first | omega | (simp <;> omega) | (simp at * <;> omega))) (by first | omega | (simp <;> omega) | (simp at * <;> omega))) rfl ?_
              | refine AOp.load1 Try.isAgg3 rfl rfl (reads_row _ (.head _) (idx_map (by first | omega | (simp <;> omega) | (simp at * <;> omega))) (by first | omega | (simp <;> omega) | (simp at * <;> omega))) rfl ?_
              | refine AOp.load1 Try.isAgg3 rfl rfl (reads_row _ (.head _) (by assumption) (by first | omega | (simp <;> omega) | (simp at * <;> omega))) rfl ?_
              | refine AOp.load1 Try.isAgg3 rfl rfl (reads_row _ (.tail _ (.head _)) (idx_nat (by first | omega | (simp <;> omega) | (simp at * <;> omega))) (by first | omega | (simp <;> omega) | (simp at * <;> omega))) rfl ?_
              | refine AOp.load1 Try.isAgg3 rfl rfl (reads_row _ (.tail _ (.head _)) (idx_map (by first | omega | (simp <;> omega) | (simp at * <;> omega))) (by first | omega | (simp <;> omega) | (simp at * <;> omega))) rfl ?_
              | refine AOp.load1 Try.isAgg3 rfl rfl (reads_row _ (.tail _ (.head _)) (by assumption) (by first | omega | (simp <;> omega) | (simp at * <;> omega))) rfl ?_
              | refine AOp.load1 Try.isAgg3 rfl rfl (reads_row _ (.tail _ (.tail _ (.head _))) (idx_nat (by first | omega | (simp <;> omega) | (simp at * <;> omega))) (by first | omega | (simp <;> omega) | (simp at * <;> omega))) rfl ?_
              | refine AOp.load1 Try.isAgg3 rfl rfl (reads_row _ (.tail _ (.tail _ (.head _))) (idx_map (by first | omega | (simp <;> omega) | (simp at * <;> omega))) (by first | omega | (simp <;> omega) | (simp at * <;> omega))) rfl ?_
              | refine AOp.load1 Try.isAgg3 rfl rfl (reads_row _ (.tail _ (.tail _ (.head _))) (by assumption) (by first | omega | (simp <;> omega) | (simp at * <;> omega))) rfl ?_
              refine aops_guard 5 false 68 _ rfl rfl rfl rfl rfl (fun _ => ?_) (fun hh => by exfalso; first | (rw [g5_] at hh; exact absurd hh (by decide)) | (revert hh; simp [g5_]))
              refine AOp.callP Try.call25 rfl rfl rfl (by exact rAheadL (askD d now (⟨1 + (xc.toNat : Int) % 3, 500, 1 + (xf.toNat : Int) % 3, 1 + (xm.toNat : Int) % 2⟩ : Wt)).1.w _ _ (by first | omega | (simp <;> omega) | (simp at * <;> omega))) ?_
          rotate_right
          focus
            have g5_ := g5
            try simp only [List.length_map, List.length_cons, List.length_nil, nrm] at g5
            all_goals try (exfalso; first | contradiction | (simp at g5_; done) | omega)
            all_goals
              refine aops_guard 5 false 68 _ rfl rfl rfl rfl rfl (fun hh => by exfalso; first | (rw [g5_] at hh; exact absurd hh (by decide)) | (revert hh; simp [g5_])) (fun _ => ?_)
              refine aops_guard 5 false 68 _ rfl rfl rfl rfl rfl (fun hh => by exfalso; first | (rw [g5_] at hh; exact absurd hh (by decide)) | (revert hh; simp [g5_])) (fun _ => ?_)
              refine aops_guard 5 false 68 _ rfl rfl rfl rfl rfl (fun hh => by exfalso; first | (rw [g5_] at hh; exact absurd hh (by decide)) | (revert hh; simp [g5_])) (fun _ => ?_)
              refine aops_guard 5 false 68 _ rfl rfl rfl rfl rfl (fun hh => by exfalso; first | (rw [g5_] at hh; exact absurd hh (by decide)) | (revert hh; simp [g5_])) (fun _ => ?_)
              refine aops_guard 5 false 68 _ rfl rfl rfl rfl rfl (fun hh => by exfalso; first | (rw [g5_] at hh; exact absurd hh (by decide)) | (revert hh; simp [g5_])) (fun _ => ?_)
              refine aops_guard 5 false 68 _ rfl rfl rfl rfl rfl (fun hh => by exfalso; first | (rw [g5_] at hh; exact absurd hh (by decide)) | (revert hh; simp [g5_])) (fun _ => ?_)
          all_goals
            first
            | refine aops_cons rfl rfl (AOp.pick_t rfl rfl (by first | assumption | rfl) rfl ?_)
            | refine aops_cons rfl rfl (AOp.pick_f rfl rfl (by first | assumption | rfl) rfl ?_)
            refine aops_nil ?_
            refine aw_cond _ rfl (fun h6 => ?_) (fun h6 => ?_)
            focus
              have h6_ := h6
              try simp only [List.length_map, List.length_cons, List.length_nil, nrm] at h6
              all_goals try (exfalso; first | contradiction | (simp at h6_; done) | omega)
              all_goals
                refine aw_seq ?_
                refine aw_region ?_
                refine aops_cons rfl rfl (AOp.move rfl rfl ?_)
                refine aops_cons rfl rfl (AOp.eql rfl rfl rfl ?_)
                refine aops_cons rfl rfl (AOp.move rfl rfl ?_)
                refine aops_guard 2 false 79 _ rfl rfl rfl rfl rfl (fun g7 => ?_) (fun g7 => ?_)
                focus
                  have g7_ := g7
                  try simp only [List.length_map, List.length_cons, List.length_nil, nrm] at g7
                  all_goals try (exfalso; first | contradiction | (simp at g7_; done) | omega)
                  all_goals
                    refine AOp.move rfl rfl ?_
                    refine aops_guard 2 false 79 _ rfl rfl rfl rfl rfl (fun _ => ?_) (fun hh => by exfalso; first | (rw [g7_] at hh; exact absurd hh (by decide)) | (revert hh; simp [g7_]))
                    refine AOp.eql rfl rfl rfl ?_
                rotate_right
                focus
                  have g7_ := g7
                  try simp only [List.length_map, List.length_cons, List.length_nil, nrm] at g7
                  all_goals try (exfalso; first | contradiction | (simp at g7_; done) | omega)
                  all_goals
                    refine aops_guard 2 false 79 _ rfl rfl rfl rfl rfl (fun hh => by exfalso; first | (rw [g7_] at hh; exact absurd hh (by decide)) | (revert hh; simp [g7_])) (fun _ => ?_)
                all_goals
                  first
                  | refine aops_cons rfl rfl (AOp.pick_t rfl rfl (by first | assumption | rfl) rfl ?_)
                  | refine aops_cons rfl rfl (AOp.pick_f rfl rfl (by first | assumption | rfl) rfl ?_)
                  refine aops_cons rfl rfl (AOp.assign rfl rfl ?_)
                  refine aops_nil ?_
                  refine aw_ret ?_
                  refine ⟨_, (res1 Try.results4 rfl), ?_⟩
                  first | rfl | (simp; done) | (simp; omega) | (rcases herr with e0 | e0 <;> simp_all; done) | (dsimp only at hr2 ⊢; rw [decide_eq_true hr2])
            rotate_right
            focus
              have h6_ := h6
              try simp only [List.length_map, List.length_cons, List.length_nil, nrm] at h6
              all_goals try (exfalso; first | contradiction | (simp at h6_; done) | omega)
              all_goals
                refine aw_skip ?_
                skip
            all_goals
              refine aw_seq ?_
              obtain ⟨hf0, hk0⟩ := ask_first hg (Int.le_refl _) k0 ok0 (by first | assumption | (simp_all; done)) (by first | assumption | omega | (simp_all; done)) (by first | assumption | (simp_all; done))
              refine aw_region ?_
              refine aops_cons rfl rfl (AOp.move rfl rfl ?_)
              refine aops_cons rfl rfl (AOp.assign rfl rfl ?_)
              refine aops_nil ?_
              refine aw_seq ?_
              refine aw_seq ?_
              refine aw_region ?_
              refine aops_cons rfl rfl (AOp.assign rfl rfl ?_)
              refine aops_nil ?_
              refine aw_block ?_
              first
              | (refine aw_loop (β := Nat × Int × Int × Dk) (S := (fun (z0 : Nat × Int × Int × Dk) => match z0 with | (i, t, te, e) => [(4, q3s l), (11, .sc (.pointer (some ⟨b1, 0, none⟩))), (12, .sc (.int .i64 now)), (13, .sc (.pointer (some ⟨b2, 0, none⟩))), (17, .sc (.int .i64 t)), (18, .sc (.int .i64 (i : Int)))])) (B := (fun (z0 : Nat × Int × Int × Dk) => match z0 with | (i, t, te, e) => [.box b1 30 e.e, .box b2 25 (Wt.e (⟨1 + (xc.toNat : Int) % 3, 500, 1 + (xf.toNat : Int) % 3, 1 + (xm.toNat : Int) % 2⟩ : Wt))])) (pre := (fun (z0 : Nat × Int × Int × Dk) => match z0 with | (i, t, te, e) => i ≤ l.length ∧ now ≤ t ∧ t ≤ now + 59 ∧ te ≤ t ∧ GD 3 e te ∧ Frst e (⟨1 + (xc.toNat : Int) % 3, 500, 1 + (xf.toNat : Int) % 3, 1 + (xm.toNat : Int) % 2⟩ : Wt) ∧ Clr e (⟨1 + (xc.toNat : Int) % 3, 500, 1 + (xf.toNat : Int) % 3, 1 + (xm.toNat : Int) % 2⟩ : Wt) (now + 60))) (μ := (fun (z0 : Nat × Int × Int × Dk) => match z0 with | (i, t, te, e) => l.length - i)) (0, now, now, (askD d now (⟨1 + (xc.toNat : Int) % 3, 500, 1 + (xf.toNat : Int) % 3, 1 + (xm.toNat : Int) % 2⟩ : Wt)).1) ((wk_drop (A' := [.box b1 30 (Dk.e (askD d now (⟨1 + (xc.toNat : Int) % 3, 500, 1 + (xf.toNat : Int) % 3, 1 + (xm.toNat : Int) % 2⟩ : Wt)).1), .box b2 25 (Wt.e (⟨1 + (xc.toNat : Int) % 3, 500, 1 + (xf.toNat : Int) % 3, 1 + (xm.toNat : Int) % 2⟩ : Wt))]) ?_).trans (wk_env (sube_cons rfl (sube_cons rfl (sube_cons rfl (sube_cons rfl (sube_cons rfl (sube_cons rfl (sube_nil _))))))))) ?_ ?_; (focus ((repeat (first | exact List.Sublist.slnil | apply List.Sublist.cons_cons | apply List.Sublist.cons)); done)))
              | (refine aw_loop (β := Nat × Int × Int × Dk) (S := (fun (z0 : Nat × Int × Int × Dk) => match z0 with | (i, t, te, e) => [(4, q3s l), (11, .sc (.pointer (some ⟨b1, 0, none⟩))), (12, .sc (.int .i64 now)), (13, .sc (.pointer (some ⟨b2, 0, none⟩))), (17, .sc (.int .i64 t)), (18, .sc (.int .i64 (i : Int)))])) (B := (fun (z0 : Nat × Int × Int × Dk) => match z0 with | (i, t, te, e) => [.box b1 30 e.e, .box b2 25 (Wt.e (⟨1 + (xc.toNat : Int) % 3, 500, 1 + (xf.toNat : Int) % 3, 1 + (xm.toNat : Int) % 2⟩ : Wt))])) (pre := (fun (z0 : Nat × Int × Int × Dk) => match z0 with | (i, t, te, e) => i ≤ l.length ∧ now ≤ t ∧ t ≤ now + 59 ∧ te ≤ t ∧ GD 3 e te ∧ Frst e (⟨1 + (xc.toNat : Int) % 3, 500, 1 + (xf.toNat : Int) % 3, 1 + (xm.toNat : Int) % 2⟩ : Wt) ∧ Clr e (⟨1 + (xc.toNat : Int) % 3, 500, 1 + (xf.toNat : Int) % 3, 1 + (xm.toNat : Int) % 2⟩ : Wt) (now + 60))) (μ := (fun (z0 : Nat × Int × Int × Dk) => match z0 with | (i, t, te, e) => l.length - i)) (0, now, now, (askD d now (⟨1 + (xc.toNat : Int) % 3, 500, 1 + (xf.toNat : Int) % 3, 1 + (xm.toNat : Int) % 2⟩ : Wt)).1) ((wk_drop (A' := [.box b2 25 (Wt.e (⟨1 + (xc.toNat : Int) % 3, 500, 1 + (xf.toNat : Int) % 3, 1 + (xm.toNat : Int) % 2⟩ : Wt)), .box b1 30 (Dk.e (askD d now (⟨1 + (xc.toNat : Int) % 3, 500, 1 + (xf.toNat : Int) % 3, 1 + (xm.toNat : Int) % 2⟩ : Wt)).1)]) ?_).trans ((wk_perm (List.Perm.swap _ _ _)).trans (wk_env (sube_cons rfl (sube_cons rfl (sube_cons rfl (sube_cons rfl (sube_cons rfl (sube_cons rfl (sube_nil _)))))))))) ?_ ?_; (focus ((repeat (first | exact List.Sublist.slnil | apply List.Sublist.cons_cons | apply List.Sublist.cons)); done)))
              · exact ⟨Nat.zero_le _, Int.le_refl _, by omega, Int.le_refl _, hg0, hf0, hk0⟩
              · rintro ⟨i, t, te, e⟩ ⟨hi, ht0, ht1, hte, hg1, hf1, hk1⟩
                change AW _ _ _ ([(4, q3s l), (11, .sc (.pointer (some ⟨b1, 0, none⟩))), (12, .sc (.int .i64 now)), (13, .sc (.pointer (some ⟨b2, 0, none⟩))), (17, .sc (.int .i64 t)), (18, .sc (.int .i64 (i : Int)))] : Env) ([.box b1 30 e.e, .box b2 25 (Wt.e (⟨1 + (xc.toNat : Int) % 3, 500, 1 + (xf.toNat : Int) % 3, 1 + (xm.toNat : Int) % 2⟩ : Wt))] : List Blk) _
                have hel := hg1.lenl (by decide)
                have hew := hg1.lenw
                refine aw_seq ?_
                refine aw_seq ?_
                refine aw_region ?_
                refine aops_cons rfl rfl (AOp.move rfl rfl ?_)
                refine aops_cons rfl rfl (AOp.move rfl rfl ?_)
                first
                | refine aops_cons rfl rfl (AOp.lenS (by first | exact List.length_map _ | rfl) Try.underlying49 rfl rfl ?_)
                | refine aops_cons rfl rfl (AOp.lenN Try.underlying49 rfl rfl ?_)
                | refine aops_cons rfl rfl (AOp.lenR (by first | exact List.length_map _ | rfl) Try.underlying49 (.head _) rfl rfl ?_)
                | refine aops_cons rfl rfl (AOp.lenR (by first | exact List.length_map _ | rfl) Try.underlying49 (.tail _ (.head _)) rfl rfl ?_)
                | refine aops_cons rfl rfl (AOp.lenR (by first | exact List.length_map _ | rfl) Try.underlying49 (.tail _ (.tail _ (.head _))) rfl rfl ?_)
                refine aops_cons rfl rfl (AOp.lss rfl rfl rfl ?_)
                refine aops_nil ?_
                refine aw_cond _ rfl (fun h8 => ?_) (fun h8 => ?_)
                focus
                  have h8_ := h8
                  try simp only [List.length_map, List.length_cons, List.length_nil, nrm] at h8
                  all_goals try (exfalso; first | contradiction | (simp at h8_; done) | omega)
                  all_goals
                    refine aw_skip ?_
                    skip
                rotate_right
                focus
                  have h8_ := h8
                  try simp only [List.length_map, List.length_cons, List.length_nil, nrm] at h8
                  all_goals try (exfalso; first | contradiction | (simp at h8_; done) | omega)
                  all_goals
                    refine aw_exit ?_
                    refine aw_seq ?_
                    have hel := hg1.lenl (by decide)
                    have hew := hg1.lenw
                    have hgR := gd_runOf hg1 (show te ≤ now + 60 by omega) (by omega)
                    have hRl := hgR.lenl (by decide)
                    have hro := run_out hg1 (show te ≤ now + 60 by omega)
                    obtain ⟨hr1, hr2⟩ := run_first hg1 (show te ≤ now + 60 by omega) (by omega) hf1 hk1
                    refine aw_region ?_
                    first
                    | refine aops_cons rfl rfl (AOp.loadN Try.isAgg30 Try.sizeOf30 rfl rfl (reads_im _ _) rfl rfl ?_)
                    | refine aops_cons rfl rfl (AOp.loadN Try.isAgg30 Try.sizeOf30 rfl rfl (reads_box _ (.head _)) rfl rfl ?_)
                    | refine aops_cons rfl rfl (AOp.loadN Try.isAgg30 Try.sizeOf30 rfl rfl (reads_box _ (.tail _ (.head _))) rfl rfl ?_)
                    | refine aops_cons rfl rfl (AOp.loadN Try.isAgg30 Try.sizeOf30 rfl rfl (reads_box _ (.tail _ (.tail _ (.head _)))) rfl rfl ?_)
                    | refine aops_cons rfl rfl (AOp.loadN Try.isAgg30 Try.sizeOf30 rfl rfl (reads_row _ (.head _) (idx_nat (by first | omega | (simp <;> omega) | (simp at * <;> omega))) (by first | omega | (simp <;> omega) | (simp at * <;> omega))) rfl rfl ?_)
                    | refine aops_cons rfl rfl (AOp.loadN Try.isAgg30 Try.sizeOf30 rfl rfl (reads_row _ (.head _) (idx_map (by first | omega | (simp <;> omega) | (simp at * <;> omega))) (by first | omega | (simp <;> omega) | (simp at * <;> omega))) rfl rfl ?_)
                    | refine aops_cons rfl rfl (AOp.loadN Try.isAgg30 Try.sizeOf30 rfl rfl (reads_row _ (.head _) (by assumption) (by first | omega | (simp <;> omega) | (simp at * <;> omega))) rfl rfl ?_)
                    | refine aops_cons rfl rfl (AOp.loadN Try.isAgg30 Try.sizeOf30 rfl rfl (reads_row _ (.tail _ (.head _)) (idx_nat (by first | omega | (simp <;> omega) | (simp at * <;> omega))) (by first | omega | (simp <;> omega) | (simp at * <;> omega))) rfl rfl ?_)
                    | refine aops_cons rfl rfl (AOp.loadN Try.isAgg30 Try.sizeOf30 rfl rfl (reads_row _ (.tail _ (.head _)) (idx_map (by first | omega | (simp <;> omega) | (simp at * <;> omega))) (by first | omega | (simp <;> omega) | (simp at * <;> omega))) rfl rfl ?_)
                    | refine aops_cons rfl rfl (AOp.loadN Try.isAgg30 Try.sizeOf30 rfl rfl (reads_row _ (.tail _ (.head _)) (by assumption) (by first | omega | (simp <;> omega) | (simp at * <;> omega))) rfl rfl ?_)
                    | refine aops_cons rfl rfl (AOp.loadN Try.isAgg30 Try.sizeOf30 rfl rfl (reads_row _ (.tail _ (.tail _ (.head _))) (idx_nat (by first | omega | (simp <;> omega) | (simp at * <;> omega))) (by first | omega | (simp <;> omega) | (simp at * <;> omega))) rfl rfl ?_)
                    | refine aops_cons rfl rfl (AOp.loadN Try.isAgg30 Try.sizeOf30 rfl rfl (reads_row _ (.tail _ (.tail _ (.head _))) (idx_map (by first | omega | (simp <;> omega) | (simp at * <;> omega))) (by first | omega | (simp <;> omega) | (simp at * <;> omega))) rfl rfl ?_)
                    | refine aops_cons rfl rfl (AOp.loadN Try.isAgg30 Try.sizeOf30 rfl rfl (reads_row _ (.tail _ (.tail _ (.head _))) (by assumption) (by first | omega | (simp <;> omega) | (simp at * <;> omega))) rfl rfl ?_)
                    refine aops_cons rfl rfl (AOp.move rfl rfl ?_)
                    first
                    | refine aops_cons rfl rfl (AOp.addE rfl rfl rfl (by first | omega | (simp <;> omega) | (simp at * <;> omega)) (by first | omega | (simp <;> omega) | (simp at * <;> omega)) ?_)
                    | refine aops_cons rfl rfl (AOp.add rfl rfl rfl rfl ?_)
                    refine aops_cons rfl rfl (AOp.callP Try.call18 rfl rfl rfl (by exact runL e (now + 60) hg1.s (by first | omega | (simp <;> omega) | (simp at * <;> omega)) (by first | omega | (simp <;> omega) | (simp at * <;> omega)) (by first | omega | (simp <;> omega) | (simp at * <;> omega)) (by first | omega | (simp <;> omega) | (simp at * <;> omega))) ?_)
                    refine aops_cons rfl rfl (AOp.move rfl rfl ?_)
                    refine aops_cons rfl rfl (AOp.extract rfl rfl rfl ?_)
                    refine aops_cons rfl rfl (AOp.extract rfl rfl rfl ?_)
                    refine aops_cons rfl rfl (AOp.extract rfl rfl rfl ?_)
                    refine aops_cons rfl rfl (AOp.alloc Try.zeroValue30 (by kernel_rfl) rfl rfl ?_); intro b3
                    first
                    | refine aops_cons rfl rfl (AOp.storeB' Try.sizeOf30 rfl rfl rfl rfl rfl (pull_here _ _) rfl rfl ?_)
                    | refine aops_cons rfl rfl (AOp.storeB' Try.sizeOf30 rfl rfl rfl rfl rfl (pull_there (pull_here _ _)) rfl rfl ?_)
                    | refine aops_cons rfl rfl (AOp.storeB' Try.sizeOf30 rfl rfl rfl rfl rfl (pull_there (pull_there (pull_here _ _))) rfl rfl ?_)
                    | refine aops_cons rfl rfl (AOp.storeR' Try.sizeOf30 rfl rfl rfl rfl rfl (pull_here _ _) (by first | exact idx_nat (by first | omega | (simp <;> omega) | (simp at * <;> omega)) | exact idx_map (by first | omega | (simp <;> omega) | (simp at * <;> omega)) | assumption) rfl rfl rfl ?_)
                    | refine aops_cons rfl rfl (AOp.storeR' Try.sizeOf30 rfl rfl rfl rfl rfl (pull_there (pull_here _ _)) (by first | exact idx_nat (by first | omega | (simp <;> omega) | (simp at * <;> omega)) | exact idx_map (by first | omega | (simp <;> omega) | (simp at * <;> omega)) | assumption) rfl rfl rfl ?_)
                    | refine aops_cons rfl rfl (AOp.storeR' Try.sizeOf30 rfl rfl rfl rfl rfl (pull_there (pull_there (pull_here _ _))) (by first | exact idx_nat (by first | omega | (simp <;> omega) | (simp at * <;> omega)) | exact idx_map (by first | omega | (simp <;> omega) | (simp at * <;> omega)) | assumption) rfl rfl rfl ?_)
                    refine aops_cons rfl rfl (AOp.assign rfl rfl ?_)
                    refine aops_cons rfl rfl (AOp.assign rfl rfl ?_)
                    refine aops_nil ?_
                    refine aw_seq ?_
                    refine aw_region ?_
                    refine aops_cons rfl rfl (AOp.assign rfl rfl ?_)
                    refine aops_nil ?_
                    refine aw_seq ?_
                    refine aw_seq ?_
                    refine aw_region ?_
                    refine aops_cons rfl rfl (AOp.assign rfl rfl ?_)
                    refine aops_nil ?_
                    refine aw_block ?_
                    refine aw_loop (β := Nat) (S := (fun (z0 : Nat) => match z0 with | j => [(12, .sc (.int .i64 now)), (13, .sc (.pointer (some ⟨b2, 0, none⟩))), (20, .sc (.pointer (some ⟨b3, 0, none⟩))), (21, ws (runOf e (now + 60)).2), (23, .sc (.bool (decide ((⟨1 + (xc.toNat : Int) % 3, 500, 1 + (xf.toNat : Int) % 3, 1 + (xm.toNat : Int) % 2⟩ : Wt) ∈ (runOf e (now + 60)).2.take j)))), (24, .sc (.int .i64 (j : Int)))])) (B := (fun (z0 : Nat) => match z0 with | j => [.box b3 30 (Dk.e (runOf e (now + 60)).1), .box b2 25 (Wt.e (⟨1 + (xc.toNat : Int) % 3, 500, 1 + (xf.toNat : Int) % 3, 1 + (xm.toNat : Int) % 2⟩ : Wt))])) (pre := (fun (z0 : Nat) => match z0 with | j => j ≤ (runOf e (now + 60)).2.length)) (μ := (fun (z0 : Nat) => match z0 with | j => (runOf e (now + 60)).2.length - j)) 0 ((wk_drop (by (focus ((repeat (first | exact List.Sublist.slnil | apply List.Sublist.cons_cons | apply List.Sublist.cons)); done)))).trans (wk_env (sube_cons rfl (sube_cons rfl (sube_cons rfl (sube_cons rfl (sube_cons rfl (sube_cons rfl (sube_nil _))))))))) ?_ ?_
                    · exact Nat.zero_le _
                    · rintro j hj
                      change AW _ _ _ ([(12, .sc (.int .i64 now)), (13, .sc (.pointer (some ⟨b2, 0, none⟩))), (20, .sc (.pointer (some ⟨b3, 0, none⟩))), (21, ws (runOf e (now + 60)).2), (23, .sc (.bool (decide ((⟨1 + (xc.toNat : Int) % 3, 500, 1 + (xf.toNat : Int) % 3, 1 + (xm.toNat : Int) % 2⟩ : Wt) ∈ (runOf e (now + 60)).2.take j)))), (24, .sc (.int .i64 (j : Int)))] : Env) ([.box b3 30 (Dk.e (runOf e (now + 60)).1), .box b2 25 (Wt.e (⟨1 + (xc.toNat : Int) % 3, 500, 1 + (xf.toNat : Int) % 3, 1 + (xm.toNat : Int) % 2⟩ : Wt))] : List Blk) _
                      replace hj : j ≤ (runOf e (now + 60)).2.length := hj
                      refine aw_seq ?_
                      refine aw_seq ?_
                      refine aw_region ?_
                      refine aops_cons rfl rfl (AOp.move rfl rfl ?_)
                      refine aops_cons rfl rfl (AOp.move rfl rfl ?_)
                      first
                      | refine aops_cons rfl rfl (AOp.lenS (by first | exact List.length_map _ | rfl) Try.underlying28 rfl rfl ?_)
                      | refine aops_cons rfl rfl (AOp.lenN Try.underlying28 rfl rfl ?_)
                      | refine aops_cons rfl rfl (AOp.lenR (by first | exact List.length_map _ | rfl) Try.underlying28 (.head _) rfl rfl ?_)
                      | refine aops_cons rfl rfl (AOp.lenR (by first | exact List.length_map _ | rfl) Try.underlying28 (.tail _ (.head _)) rfl rfl ?_)
                      | refine aops_cons rfl rfl (AOp.lenR (by first | exact List.length_map _ | rfl) Try.underlying28 (.tail _ (.tail _ (.head _))) rfl rfl ?_)
                      refine aops_cons rfl rfl (AOp.lss rfl rfl rfl ?_)
                      refine aops_nil ?_
                      refine aw_cond _ rfl (fun h9 => ?_) (fun h9 => ?_)
                      focus
                        have h9_ := h9
                        try simp only [List.length_map, List.length_cons, List.length_nil, nrm] at h9
                        all_goals try (exfalso; first | contradiction | (simp at h9_; done) | omega)
                        all_goals
                          refine aw_skip ?_
                          skip
                      rotate_right
                      focus
                        have h9_ := h9
                        try simp only [List.length_map, List.length_cons, List.length_nil, nrm] at h9
                        all_goals try (exfalso; first | contradiction | (simp at h9_; done) | omega)
                        all_goals
                          refine aw_exit ?_
                          refine aw_seq ?_
                          have hin : (⟨1 + (xc.toNat : Int) % 3, 500, 1 + (xf.toNat : Int) % 3, 1 + (xm.toNat : Int) % 2⟩ : Wt) ∈ (runOf e (now + 60)).2.take j := by rw [List.take_of_length_le (by omega)]; exact hr1
                          refine aw_draw 13 [0, 0, 0, 0, 0, 0, 0, 0, 0, 0, 0, 0, 0] (by kernel_rfl) (by kernel_rfl) ?_
                          refine psq_cons _ rfl (core0 (AOp.move rfl rfl ⟨rfl, rfl⟩)) ?_
                          refine psq_cons _ rfl (core0 (AOp.move rfl rfl ⟨rfl, rfl⟩)) ?_
                          refine psq_guard 1 true 167 _ rfl rfl rfl rfl (fun g10 => ?_) (fun g10 => ?_)
                          focus
                            have g10_ := g10
                            try simp only [List.length_map, List.length_cons, List.length_nil, nrm] at g10
                            all_goals try (exfalso; first | contradiction | (simp at g10_; done) | omega)
                            all_goals
                              first
                              | refine psg _ (core0 (AOp.fieldI Try.underlying30 rfl Try.sizeOf27 (by decide) rfl rfl rfl ⟨rfl, rfl⟩)) ?_
                              | refine psg _ (core0 (AOp.fieldB Try.underlying30 rfl Try.sizeOf27 (by decide) rfl rfl rfl ⟨rfl, rfl⟩)) ?_
                              | refine psg _ (core0 (AOp.fieldR Try.underlying30 rfl Try.sizeOf27 (by decide) rfl rfl rfl ⟨rfl, rfl⟩)) ?_
                              refine psq_guard 1 true 167 _ rfl rfl rfl rfl (fun _ => ?_) (fun hh => by exfalso; first | (rw [g10_] at hh; exact absurd hh (by decide)) | (revert hh; simp [g10_]))
                              first
                              | refine psg _ (core0 (AOp.load1 Try.isAgg27 rfl rfl (reads_im _ _) rfl ⟨rfl, rfl⟩)) ?_
                              | refine psg _ (core0 (AOp.load1 Try.isAgg27 rfl rfl (reads_box _ (.head _)) rfl ⟨rfl, rfl⟩)) ?_
                              | refine psg _ (core0 (AOp.load1 Try.isAgg27 rfl rfl (reads_box _ (.tail _ (.head _))) rfl ⟨rfl, rfl⟩)) ?_
                              | refine psg _ (core0 (AOp.load1 Try.isAgg27 rfl rfl (reads_box _ (.tail _ (.tail _ (.head _)))) rfl ⟨rfl, rfl⟩)) ?_
                              | refine psg _ (core0 (AOp.load1 Try.isAgg27 rfl rfl (reads_row _ (.head _) (idx_nat (by first | omega | (simp <;> omega) | (simp at * <;> omega))) (by first | omega | (simp <;> omega) | (simp at * <;> omega))) rfl ⟨rfl, rfl⟩)) ?_
                              | refine psg _ (core0 (AOp.load1 Try.isAgg27 rfl rfl (reads_row _ (.head _) (idx_map (by first | omega | (simp <;> omega) | (simp at * <;> omega))) (by first | omega | (simp <;> omega) | (simp at * <;> omega))) rfl ⟨rfl, rfl⟩)) ?_
                              | refine psg _ (core0 (AOp.load1 Try.isAgg27 rfl rfl (reads_row _ (.head _) (by assumption) (by first | omega | (simp <;> omega) | (simp at * <;> omega))) rfl ⟨rfl, rfl⟩)) ?_
                              | refine psg _ (core0 (AOp.load1 Try.isAgg27 rfl rfl (reads_row _ (.tail _ (.head _)) (idx_nat (by first | omega | (simp <;> omega) | (simp at * <;> omega))) (by first | omega | (simp <;> omega) | (simp at * <;> omega))) rfl ⟨rfl, rfl⟩)) ?_
                              | refine psg _ (core0 (AOp.load1 Try.isAgg27 rfl rfl (reads_row _ (.tail _ (.head _)) (idx_map (by first | omega | (simp <;> omega) | (simp at * <;> omega))) (by first | omega | (simp <;> omega) | (simp at * <;> omega))) rfl ⟨rfl, rfl⟩)) ?_
                              | refine psg _ (core0 (AOp.load1 Try.isAgg27 rfl rfl (reads_row _ (.tail _ (.head _)) (by assumption) (by first | omega | (simp <;> omega) | (simp at * <;> omega))) rfl ⟨rfl, rfl⟩)) ?_
                              | refine psg _ (core0 (AOp.load1 Try.isAgg27 rfl rfl (reads_row _ (.tail _ (.tail _ (.head _))) (idx_nat (by first | omega | (simp <;> omega) | (simp at * <;> omega))) (by first | omega | (simp <;> omega) | (simp at * <;> omega))) rfl ⟨rfl, rfl⟩)) ?_
                              | refine psg _ (core0 (AOp.load1 Try.isAgg27 rfl rfl (reads_row _ (.tail _ (.tail _ (.head _))) (idx_map (by first | omega | (simp <;> omega) | (simp at * <;> omega))) (by first | omega | (simp <;> omega) | (simp at * <;> omega))) rfl ⟨rfl, rfl⟩)) ?_
                              | refine psg _ (core0 (AOp.load1 Try.isAgg27 rfl rfl (reads_row _ (.tail _ (.tail _ (.head _))) (by assumption) (by first | omega | (simp <;> omega) | (simp at * <;> omega))) rfl ⟨rfl, rfl⟩)) ?_
                              refine psq_guard 1 true 167 _ rfl rfl rfl rfl (fun _ => ?_) (fun hh => by exfalso; first | (rw [g10_] at hh; exact absurd hh (by decide)) | (revert hh; simp [g10_]))
                              refine psg _ (core0 (AOp.move rfl rfl ⟨rfl, rfl⟩)) ?_
                              refine psq_guard 1 true 167 _ rfl rfl rfl rfl (fun _ => ?_) (fun hh => by exfalso; first | (rw [g10_] at hh; exact absurd hh (by decide)) | (revert hh; simp [g10_]))
                              first
                              | refine psg _ (core0 (AOp.addE rfl rfl rfl (by first | omega | (simp <;> omega) | (simp at * <;> omega)) (by first | omega | (simp <;> omega) | (simp at * <;> omega)) ⟨rfl, rfl⟩)) ?_
                              | refine psg _ (core0 (AOp.add rfl rfl rfl rfl ⟨rfl, rfl⟩)) ?_
                              refine psq_guard 1 true 167 _ rfl rfl rfl rfl (fun _ => ?_) (fun hh => by exfalso; first | (rw [g10_] at hh; exact absurd hh (by decide)) | (revert hh; simp [g10_]))
                              first
                              | refine psg _ (core0 (AOp.fieldI Try.underlying25 rfl Try.sizeOf3 (by decide) rfl rfl rfl ⟨rfl, rfl⟩)) ?_
                              | refine psg _ (core0 (AOp.fieldB Try.underlying25 rfl Try.sizeOf3 (by decide) rfl rfl rfl ⟨rfl, rfl⟩)) ?_
                              | refine psg _ (core0 (AOp.fieldR Try.underlying25 rfl Try.sizeOf3 (by decide) rfl rfl rfl ⟨rfl, rfl⟩)) ?_
                              refine psq_guard 1 true 167 _ rfl rfl rfl rfl (fun _ => ?_) (fun hh => by exfalso; first | (rw [g10_] at hh; exact absurd hh (by decide)) | (revert hh; simp [g10_]))
                              first
                              | refine psg _ (core0 (AOp.load1 Try.isAgg3 rfl rfl (reads_im _ _) rfl ⟨rfl, rfl⟩)) ?_
                              | refine psg _ (core0 (AOp.load1 Try.isAgg3 rfl rfl (reads_box _ (.head _)) rfl ⟨rfl, rfl⟩)) ?_
                              | refine psg _ (core0 (AOp.load1 Try.isAgg3 rfl rfl (reads_box _ (.tail _ (.head _))) rfl ⟨rfl, rfl⟩)) ?_
                              | refine psg _ (core0 (AOp.load1 Try.isAgg3 rfl rfl (reads_box _ (.tail _ (.tail _ (.head _)))) rfl ⟨rfl, rfl⟩)) ?_
                              | refine psg _ (core0 (AOp.load1 Try.isAgg3 rfl rfl (reads_row _ (.head _) (idx_nat (by first | omega | (simp <;> omega) | (simp at * <;> omega))) (by first | omega | (simp <;> omega) | (simp at * <;> omega))) rfl ⟨rfl, rfl⟩)) ?_
                              | refine psg _ (core0 (AOp.load1 Try.isAgg3 rfl rfl (reads_row _ (.head _) (idx_map (by first | omega | (simp <;> omega) | (simp at * <;> omega))) (by first | omega | (simp <;> omega) | (simp at * <;> omega))) rfl ⟨rfl, rfl⟩)) ?_
                              | refine psg _ (core0 (AOp.load1 Try.isAgg3 rfl rfl (reads_row _ (.head _) (by assumption) (by first | omega | (simp <;> omega) | (simp at * <;> omega))) rfl ⟨rfl, rfl⟩)) ?_
                              | refine psg _ (core0 (AOp.load1 Try.isAgg3 rfl rfl (reads_row _ (.tail _ (.head _)) (idx_nat (by first | omega | (simp <;> omega) | (simp at * <;> omega))) (by first | omega | (simp <;> omega) | (simp at * <;> omega))) rfl ⟨rfl, rfl⟩)) ?_
                              | refine psg _ (core0 (AOp.load1 Try.isAgg3 rfl rfl (reads_row _ (.tail _ (.head _)) (idx_map (by first | omega | (simp <;> omega) | (simp at * <;> omega))) (by first | omega | (simp <;> omega) | (simp at * <;> omega))) rfl ⟨rfl, rfl⟩)) ?_
                              | refine psg _ (core0 (AOp.load1 Try.isAgg3 rfl rfl (reads_row _ (.tail _ (.head _)) (by assumption) (by first | omega | (simp <;> omega) | (simp at * <;> omega))) rfl ⟨rfl, rfl⟩)) ?_
                              | refine psg _ (core0 (AOp.load1 Try.isAgg3 rfl rfl (reads_row _ (.tail _ (.tail _ (.head _))) (idx_nat (by first | omega | (simp <;> omega) | (simp at * <;> omega))) (by first | omega | (simp <;> omega) | (simp at * <;> omega))) rfl ⟨rfl, rfl⟩)) ?_
                              | refine psg _ (core0 (AOp.load1 Try.isAgg3 rfl rfl (reads_row _ (.tail _ (.tail _ (.head _))) (idx_map (by first | omega | (simp <;> omega) | (simp at * <;> omega))) (by first | omega | (simp <;> omega) | (simp at * <;> omega))) rfl ⟨rfl, rfl⟩)) ?_
                              | refine psg _ (core0 (AOp.load1 Try.isAgg3 rfl rfl (reads_row _ (.tail _ (.tail _ (.head _))) (by assumption) (by first | omega | (simp <;> omega) | (simp at * <;> omega))) rfl ⟨rfl, rfl⟩)) ?_
                              refine psq_guard 1 true 167 _ rfl rfl rfl rfl (fun _ => ?_) (fun hh => by exfalso; first | (rw [g10_] at hh; exact absurd hh (by decide)) | (revert hh; simp [g10_]))
                              first
                              | refine psg _ (core0 (AOp.fieldI Try.underlying25 rfl Try.sizeOf3 (by decide) rfl rfl rfl ⟨rfl, rfl⟩)) ?_
                              | refine psg _ (core0 (AOp.fieldB Try.underlying25 rfl Try.sizeOf3 (by decide) rfl rfl rfl ⟨rfl, rfl⟩)) ?_
                              | refine psg _ (core0 (AOp.fieldR Try.underlying25 rfl Try.sizeOf3 (by decide) rfl rfl rfl ⟨rfl, rfl⟩)) ?_
                              refine psq_guard 1 true 167 _ rfl rfl rfl rfl (fun _ => ?_) (fun hh => by exfalso; first | (rw [g10_] at hh; exact absurd hh (by decide)) | (revert hh; simp [g10_]))
                              first
                              | refine psg _ (core0 (AOp.load1 Try.isAgg3 rfl rfl (reads_im _ _) rfl ⟨rfl, rfl⟩)) ?_
                              | refine psg _ (core0 (AOp.load1 Try.isAgg3 rfl rfl (reads_box _ (.head _)) rfl ⟨rfl, rfl⟩)) ?_
                              | refine psg _ (core0 (AOp.load1 Try.isAgg3 rfl rfl (reads_box _ (.tail _ (.head _))) rfl ⟨rfl, rfl⟩)) ?_
                              | refine psg _ (core0 (AOp.load1 Try.isAgg3 rfl rfl (reads_box _ (.tail _ (.tail _ (.head _)))) rfl ⟨rfl, rfl⟩)) ?_
                              | refine psg _ (core0 (AOp.load1 Try.isAgg3 rfl rfl (reads_row _ (.head _) (idx_nat (by first | omega | (simp <;> omega) | (simp at * <;> omega))) (by first | omega | (simp <;> omega) | (simp at * <;> omega))) rfl ⟨rfl, rfl⟩)) ?_
                              | refine psg _ (core0 (AOp.load1 Try.isAgg3 rfl rfl (reads_row _ (.head _) (idx_map (by first | omega | (simp <;> omega) | (simp at * <;> omega))) (by first | omega | (simp <;> omega) | (simp at * <;> omega))) rfl ⟨rfl, rfl⟩)) ?_
                              | refine psg _ (core0 (AOp.load1 Try.isAgg3 rfl rfl (reads_row _ (.head _) (by assumption) (by first | omega | (simp <;> omega) | (simp at * <;> omega))) rfl ⟨rfl, rfl⟩)) ?_
                              | refine psg _ (core0 (AOp.load1 Try.isAgg3 rfl rfl (reads_row _ (.tail _ (.head _)) (idx_nat (by first | omega | (simp <;> omega) | (simp at * <;> omega))) (by first | omega | (simp <;> omega) | (simp at * <;> omega))) rfl ⟨rfl, rfl⟩)) ?_
                              | refine psg _ (core0 (AOp.load1 Try.isAgg3 rfl rfl (reads_row _ (.tail _ (.head _)) (idx_map (by first | omega | (simp <;> omega) | (simp at * <;> omega))) (by first | omega | (simp <;> omega) | (simp at * <;> omega))) rfl ⟨rfl, rfl⟩)) ?_
                              | refine psg _ (core0 (AOp.load1 Try.isAgg3 rfl rfl (reads_row _ (.tail _ (.head _)) (by assumption) (by first | omega | (simp <;> omega) | (simp at * <;> omega))) rfl ⟨rfl, rfl⟩)) ?_
                              | refine psg _ (core0 (AOp.load1 Try.isAgg3 rfl rfl (reads_row _ (.tail _ (.tail _ (.head _))) (idx_nat (by first | omega | (simp <;> omega) | (simp at * <;> omega))) (by first | omega | (simp <;> omega) | (simp at * <;> omega))) rfl ⟨rfl, rfl⟩)) ?_
                              | refine psg _ (core0 (AOp.load1 Try.isAgg3 rfl rfl (reads_row _ (.tail _ (.tail _ (.head _))) (idx_map (by first | omega | (simp <;> omega) | (simp at * <;> omega))) (by first | omega | (simp <;> omega) | (simp at * <;> omega))) rfl ⟨rfl, rfl⟩)) ?_
                              | refine psg _ (core0 (AOp.load1 Try.isAgg3 rfl rfl (reads_row _ (.tail _ (.tail _ (.head _))) (by assumption) (by first | omega | (simp <;> omega) | (simp at * <;> omega))) rfl ⟨rfl, rfl⟩)) ?_
                              refine psq_guard 1 true 167 _ rfl rfl rfl rfl (fun _ => ?_) (fun hh => by exfalso; first | (rw [g10_] at hh; exact absurd hh (by decide)) | (revert hh; simp [g10_]))
                              refine psg _ (core0 (AOp.callP Try.call26 rfl rfl rfl (by exact rHolds (runOf e (now + 60)).1.l _ _ _ hgR.s (by first | omega | (simp <;> omega) | (simp at * <;> omega))) ⟨rfl, rfl⟩)) ?_
                              refine psq_guard 1 true 167 _ rfl rfl rfl rfl (fun _ => ?_) (fun hh => by exfalso; first | (rw [g10_] at hh; exact absurd hh (by decide)) | (revert hh; simp [g10_]))
                              first
                              | refine psg _ (core0 (AOp.fieldI Try.underlying25 rfl Try.sizeOf3 (by decide) rfl rfl rfl ⟨rfl, rfl⟩)) ?_
                              | refine psg _ (core0 (AOp.fieldB Try.underlying25 rfl Try.sizeOf3 (by decide) rfl rfl rfl ⟨rfl, rfl⟩)) ?_
                              | refine psg _ (core0 (AOp.fieldR Try.underlying25 rfl Try.sizeOf3 (by decide) rfl rfl rfl ⟨rfl, rfl⟩)) ?_
                              refine psq_guard 1 true 167 _ rfl rfl rfl rfl (fun _ => ?_) (fun hh => by exfalso; first | (rw [g10_] at hh; exact absurd hh (by decide)) | (revert hh; simp [g10_]))
                              first
                              | refine psg _ (core0 (AOp.load1 Try.isAgg3 rfl rfl (reads_im _ _) rfl ⟨rfl, rfl⟩)) ?_
                              | refine psg _ (core0 (AOp.load1 Try.isAgg3 rfl rfl (reads_box _ (.head _)) rfl ⟨rfl, rfl⟩)) ?_
                              | refine psg _ (core0 (AOp.load1 Try.isAgg3 rfl rfl (reads_box _ (.tail _ (.head _))) rfl ⟨rfl, rfl⟩)) ?_
                              | refine psg _ (core0 (AOp.load1 Try.isAgg3 rfl rfl (reads_box _ (.tail _ (.tail _ (.head _)))) rfl ⟨rfl, rfl⟩)) ?_
                              | refine psg _ (core0 (AOp.load1 Try.isAgg3 rfl rfl (reads_row _ (.head _) (idx_nat (by first | omega | (simp <;> omega) | (simp at * <;> omega))) (by first | omega | (simp <;> omega) | (simp at * <;> omega))) rfl ⟨rfl, rfl⟩)) ?_
                              | refine psg _ (core0 (AOp.load1 Try.isAgg3 rfl rfl (reads_row _ (.head _) (idx_map (by first | omega | (simp <;> omega) | (simp at * <;> omega))) (by first | omega | (simp <;> omega) | (simp at * <;> omega))) rfl ⟨rfl, rfl⟩)) ?_
                              | refine psg _ (core0 (AOp.load1 Try.isAgg3 rfl rfl (reads_row _ (.head _) (by assumption) (by first | omega | (simp <;> omega) | (simp at * <;> omega))) rfl ⟨rfl, rfl⟩)) ?_
                              | refine psg _ (core0 (AOp.load1 Try.isAgg3 rfl rfl (reads_row _ (.tail _ (.head _)) (idx_nat (by first | omega | (simp <;> omega) | (simp at * <;> omega))) (by first | omega | (simp <;> omega) | (simp at * <;> omega))) rfl ⟨rfl, rfl⟩)) ?_
                              | refine psg _ (core0 (AOp.load1 Try.isAgg3 rfl rfl (reads_row _ (.tail _ (.head _)) (idx_map (by first | omega | (simp <;> omega) | (simp at * <;> omega))) (by first | omega | (simp <;> omega) | (simp at * <;> omega))) rfl ⟨rfl, rfl⟩)) ?_
                              | refine psg _ (core0 (AOp.load1 Try.isAgg3 rfl rfl (reads_row _ (.tail _ (.head _)) (by assumption) (by first | omega | (simp <;> omega) | (simp at * <;> omega))) rfl ⟨rfl, rfl⟩)) ?_
                              | refine psg _ (core0 (AOp.load1 Try.isAgg3 rfl rfl (reads_row _ (.tail _ (.tail _ (.head _))) (idx_nat (by first | omega | (simp <;> omega) | (simp at * <;> omega))) (by first | omega | (simp <;> omega) | (simp at * <;> omega))) rfl ⟨rfl, rfl⟩)) ?_
                              | refine psg _ (core0 (AOp.load1 Try.isAgg3 rfl rfl (reads_row _ (.tail _ (.tail _ (.head _))) (idx_map (by first | omega | (simp <;> omega) | (simp at * <;> omega))) (by first | omega | (simp <;> omega) | (simp at * <;> omega))) rfl ⟨rfl, rfl⟩)) ?_
                              | refine psg _ (core0 (AOp.load1 Try.isAgg3 rfl rfl (reads_row _ (.tail _ (.tail _ (.head _))) (by assumption) (by first | omega | (simp <;> omega) | (simp at * <;> omega))) rfl ⟨rfl, rfl⟩)) ?_
                          rotate_right
                          focus
                            have g10_ := g10
                            try simp only [List.length_map, List.length_cons, List.length_nil, nrm] at g10
                            all_goals try (exfalso; first | contradiction | (simp at g10_; done) | omega)
                            all_goals
                              refine psq_guard 1 true 167 _ rfl rfl rfl rfl (fun hh => by exfalso; first | (rw [g10_] at hh; exact absurd hh (by decide)) | (revert hh; simp [g10_])) (fun _ => ?_)
                              refine psq_guard 1 true 167 _ rfl rfl rfl rfl (fun hh => by exfalso; first | (rw [g10_] at hh; exact absurd hh (by decide)) | (revert hh; simp [g10_])) (fun _ => ?_)
                              refine psq_guard 1 true 167 _ rfl rfl rfl rfl (fun hh => by exfalso; first | (rw [g10_] at hh; exact absurd hh (by decide)) | (revert hh; simp [g10_])) (fun _ => ?_)
                              refine psq_guard 1 true 167 _ rfl rfl rfl rfl (fun hh => by exfalso; first | (rw [g10_] at hh; exact absurd hh (by decide)) | (revert hh; simp [g10_])) (fun _ => ?_)
                              refine psq_guard 1 true 167 _ rfl rfl rfl rfl (fun hh => by exfalso; first | (rw [g10_] at hh; exact absurd hh (by decide)) | (revert hh; simp [g10_])) (fun _ => ?_)
                              refine psq_guard 1 true 167 _ rfl rfl rfl rfl (fun hh => by exfalso; first | (rw [g10_] at hh; exact absurd hh (by decide)) | (revert hh; simp [g10_])) (fun _ => ?_)
                              refine psq_guard 1 true 167 _ rfl rfl rfl rfl (fun hh => by exfalso; first | (rw [g10_] at hh; exact absurd hh (by decide)) | (revert hh; simp [g10_])) (fun _ => ?_)
                              refine psq_guard 1 true 167 _ rfl rfl rfl rfl (fun hh => by exfalso; first | (rw [g10_] at hh; exact absurd hh (by decide)) | (revert hh; simp [g10_])) (fun _ => ?_)
                              refine psq_guard 1 true 167 _ rfl rfl rfl rfl (fun hh => by exfalso; first | (rw [g10_] at hh; exact absurd hh (by decide)) | (revert hh; simp [g10_])) (fun _ => ?_)
                              refine psq_guard 1 true 167 _ rfl rfl rfl rfl (fun hh => by exfalso; first | (rw [g10_] at hh; exact absurd hh (by decide)) | (revert hh; simp [g10_])) (fun _ => ?_)
                          all_goals
                            refine psq_nil ?_
                            refine aops_guard 1 true 167 _ rfl rfl rfl rfl rfl (fun g11 => ?_) (fun g11 => ?_)
                            focus
                              have g11_ := g11
                              try simp only [List.length_map, List.length_cons, List.length_nil, nrm] at g11
                              all_goals try (exfalso; first | contradiction | (simp at g11_; done) | omega)
                              all_goals
                                refine AOp.geq rfl rfl rfl ?_
                            rotate_right
                            focus
                              have g11_ := g11
                              try simp only [List.length_map, List.length_cons, List.length_nil, nrm] at g11
                              all_goals try (exfalso; first | contradiction | (simp at g11_; done) | omega)
                            all_goals
                              first
                              | refine aops_cons rfl rfl (AOp.pick_t rfl rfl (by first | assumption | rfl) rfl ?_)
                              | refine aops_cons rfl rfl (AOp.pick_f rfl rfl (by first | assumption | rfl) rfl ?_)
                              refine aops_cons rfl rfl (AOp.assign rfl rfl ?_)
                              refine aops_nil ?_
                              refine aw_ret ?_
                              refine ⟨_, (res1 Try.results4 rfl), ?_⟩
                              first | rfl | (simp; done) | (simp; omega) | (rcases herr with e0 | e0 <;> simp_all; done) | (dsimp only at hr2 ⊢; rw [decide_eq_true hr2])
                      all_goals
                        refine aw_seq ?_
                        refine aw_block ?_
                        refine aw_draw 7 [0, 0, 0, 0, 0, 0, 0] (by kernel_rfl) (by kernel_rfl) ?_
                        refine psq_cons _ rfl (core0 (AOp.move rfl rfl ⟨rfl, rfl⟩)) ?_
                        refine psq_cons _ rfl (core0 (AOp.move rfl rfl ⟨rfl, rfl⟩)) ?_
                        refine psq_guard 1 false 158 _ rfl rfl rfl rfl (fun g12 => ?_) (fun g12 => ?_)
                        focus
                          have g12_ := g12
                          try simp only [List.length_map, List.length_cons, List.length_nil, nrm] at g12
                          all_goals try (exfalso; first | contradiction | (simp at g12_; done) | omega)
                          all_goals
                            refine psg _ (core0 (AOp.move rfl rfl ⟨rfl, rfl⟩)) ?_
                            refine psq_guard 1 false 158 _ rfl rfl rfl rfl (fun _ => ?_) (fun hh => by exfalso; first | (rw [g12_] at hh; exact absurd hh (by decide)) | (revert hh; simp [g12_]))
                            refine psg _ (core0 (AOp.move rfl rfl ⟨rfl, rfl⟩)) ?_
                            refine psq_guard 1 false 158 _ rfl rfl rfl rfl (fun _ => ?_) (fun hh => by exfalso; first | (rw [g12_] at hh; exact absurd hh (by decide)) | (revert hh; simp [g12_]))
                            first
                            | refine psg _ (core0 (AOp.indexLN Try.underlying28 Try.sizeOf25 rfl rfl rfl (by first | omega | (simp <;> omega) | (simp at * <;> omega)) (fun _ => rfl) ⟨rfl, rfl⟩)) ?_
                            | refine psg _ (core0 (AOp.indexLI Try.underlying28 Try.sizeOf25 rfl rfl rfl (by first | omega | (simp <;> omega) | (simp at * <;> omega)) (by first | omega | (simp <;> omega) | (simp at * <;> omega)) (fun _ => rfl) ⟨rfl, rfl⟩)) ?_
                            | refine psg _ (core0 (AOp.indexS Try.underlying28 Try.sizeOf25 (by assumption) rfl rfl rfl (by first | omega | (simp <;> omega) | (simp at * <;> omega)) (by assumption) ⟨rfl, rfl⟩)) ?_
                            | refine psg _ (core0 (AOp.indexS Try.underlying28 Try.sizeOf25 (by assumption) rfl rfl rfl (by first | omega | (simp <;> omega) | (simp at * <;> omega)) (List.getElem?_eq_getElem (by first | omega | (simp <;> omega) | (simp at * <;> omega))) ⟨rfl, rfl⟩)) ?_
                            | refine psg _ (core0 (AOp.indexS Try.underlying28 Try.sizeOf25 (by exact all_len rfl) rfl rfl rfl (by first | omega | (simp <;> omega) | (simp at * <;> omega)) rfl ⟨rfl, rfl⟩)) ?_
                            | refine psg _ (core0 (AOp.indexR Try.underlying28 Try.sizeOf25 (.head _) rfl rfl rfl (by first | omega | (simp <;> omega) | (simp at * <;> omega)) (by first | omega | (simp <;> omega) | (simp at * <;> omega)) ⟨rfl, rfl⟩)) ?_
                            | refine psg _ (core0 (AOp.indexR Try.underlying28 Try.sizeOf25 (.tail _ (.head _)) rfl rfl rfl (by first | omega | (simp <;> omega) | (simp at * <;> omega)) (by first | omega | (simp <;> omega) | (simp at * <;> omega)) ⟨rfl, rfl⟩)) ?_
                            | refine psg _ (core0 (AOp.indexR Try.underlying28 Try.sizeOf25 (.tail _ (.tail _ (.head _))) rfl rfl rfl (by first | omega | (simp <;> omega) | (simp at * <;> omega)) (by first | omega | (simp <;> omega) | (simp at * <;> omega)) ⟨rfl, rfl⟩)) ?_
                            refine psq_guard 1 false 158 _ rfl rfl rfl rfl (fun _ => ?_) (fun hh => by exfalso; first | (rw [g12_] at hh; exact absurd hh (by decide)) | (revert hh; simp [g12_]))
                            first
                            | refine psg _ (core0 (AOp.loadN Try.isAgg25 Try.sizeOf25 rfl rfl (reads_im _ _) rfl rfl ⟨rfl, rfl⟩)) ?_
                            | refine psg _ (core0 (AOp.loadN Try.isAgg25 Try.sizeOf25 rfl rfl (reads_box _ (.head _)) rfl rfl ⟨rfl, rfl⟩)) ?_
                            | refine psg _ (core0 (AOp.loadN Try.isAgg25 Try.sizeOf25 rfl rfl (reads_box _ (.tail _ (.head _))) rfl rfl ⟨rfl, rfl⟩)) ?_
                            | refine psg _ (core0 (AOp.loadN Try.isAgg25 Try.sizeOf25 rfl rfl (reads_box _ (.tail _ (.tail _ (.head _)))) rfl rfl ⟨rfl, rfl⟩)) ?_
                            | refine psg _ (core0 (AOp.loadN Try.isAgg25 Try.sizeOf25 rfl rfl (reads_row _ (.head _) (idx_nat (by first | omega | (simp <;> omega) | (simp at * <;> omega))) (by first | omega | (simp <;> omega) | (simp at * <;> omega))) rfl rfl ⟨rfl, rfl⟩)) ?_
                            | refine psg _ (core0 (AOp.loadN Try.isAgg25 Try.sizeOf25 rfl rfl (reads_row _ (.head _) (idx_map (by first | omega | (simp <;> omega) | (simp at * <;> omega))) (by first | omega | (simp <;> omega) | (simp at * <;> omega))) rfl rfl ⟨rfl, rfl⟩)) ?_
                            | refine psg _ (core0 (AOp.loadN Try.isAgg25 Try.sizeOf25 rfl rfl (reads_row _ (.head _) (by assumption) (by first | omega | (simp <;> omega) | (simp at * <;> omega))) rfl rfl ⟨rfl, rfl⟩)) ?_
                            | refine psg _ (core0 (AOp.loadN Try.isAgg25 Try.sizeOf25 rfl rfl (reads_row _ (.tail _ (.head _)) (idx_nat (by first | omega | (simp <;> omega) | (simp at * <;> omega))) (by first | omega | (simp <;> omega) | (simp at * <;> omega))) rfl rfl ⟨rfl, rfl⟩)) ?_
                            | refine psg _ (core0 (AOp.loadN Try.isAgg25 Try.sizeOf25 rfl rfl (reads_row _ (.tail _ (.head _)) (idx_map (by first | omega | (simp <;> omega) | (simp at * <;> omega))) (by first | omega | (simp <;> omega) | (simp at * <;> omega))) rfl rfl ⟨rfl, rfl⟩)) ?_
                            | refine psg _ (core0 (AOp.loadN Try.isAgg25 Try.sizeOf25 rfl rfl (reads_row _ (.tail _ (.head _)) (by assumption) (by first | omega | (simp <;> omega) | (simp at * <;> omega))) rfl rfl ⟨rfl, rfl⟩)) ?_
                            | refine psg _ (core0 (AOp.loadN Try.isAgg25 Try.sizeOf25 rfl rfl (reads_row _ (.tail _ (.tail _ (.head _))) (idx_nat (by first | omega | (simp <;> omega) | (simp at * <;> omega))) (by first | omega | (simp <;> omega) | (simp at * <;> omega))) rfl rfl ⟨rfl, rfl⟩)) ?_
                            | refine psg _ (core0 (AOp.loadN Try.isAgg25 Try.sizeOf25 rfl rfl (reads_row _ (.tail _ (.tail _ (.head _))) (idx_map (by first | omega | (simp <;> omega) | (simp at * <;> omega))) (by first | omega | (simp <;> omega) | (simp at * <;> omega))) rfl rfl ⟨rfl, rfl⟩)) ?_
                            | refine psg _ (core0 (AOp.loadN Try.isAgg25 Try.sizeOf25 rfl rfl (reads_row _ (.tail _ (.tail _ (.head _))) (by assumption) (by first | omega | (simp <;> omega) | (simp at * <;> omega))) rfl rfl ⟨rfl, rfl⟩)) ?_
                            refine psq_guard 1 false 158 _ rfl rfl rfl rfl (fun _ => ?_) (fun hh => by exfalso; first | (rw [g12_] at hh; exact absurd hh (by decide)) | (revert hh; simp [g12_]))
                            first
                            | refine psg _ (core0 (AOp.loadN Try.isAgg25 Try.sizeOf25 rfl rfl (reads_im _ _) rfl rfl ⟨rfl, rfl⟩)) ?_
                            | refine psg _ (core0 (AOp.loadN Try.isAgg25 Try.sizeOf25 rfl rfl (reads_box _ (.head _)) rfl rfl ⟨rfl, rfl⟩)) ?_
                            | refine psg _ (core0 (AOp.loadN Try.isAgg25 Try.sizeOf25 rfl rfl (reads_box _ (.tail _ (.head _))) rfl rfl ⟨rfl, rfl⟩)) ?_
                            | refine psg _ (core0 (AOp.loadN Try.isAgg25 Try.sizeOf25 rfl rfl (reads_box _ (.tail _ (.tail _ (.head _)))) rfl rfl ⟨rfl, rfl⟩)) ?_
                            | refine psg _ (core0 (AOp.loadN Try.isAgg25 Try.sizeOf25 rfl rfl (reads_row _ (.head _) (idx_nat (by first | omega | (simp <;> omega) | (simp at * <;> omega))) (by first | omega | (simp <;> omega) | (simp at * <;> omega))) rfl rfl ⟨rfl, rfl⟩)) ?_
                            | refine psg _ (core0 (AOp.loadN Try.isAgg25 Try.sizeOf25 rfl rfl (reads_row _ (.head _) (idx_map (by first | omega | (simp <;> omega) | (simp at * <;> omega))) (by first | omega | (simp <;> omega) | (simp at * <;> omega))) rfl rfl ⟨rfl, rfl⟩)) ?_
                            | refine psg _ (core0 (AOp.loadN Try.isAgg25 Try.sizeOf25 rfl rfl (reads_row _ (.head _) (by assumption) (by first | omega | (simp <;> omega) | (simp at * <;> omega))) rfl rfl ⟨rfl, rfl⟩)) ?_
                            | refine psg _ (core0 (AOp.loadN Try.isAgg25 Try.sizeOf25 rfl rfl (reads_row _ (.tail _ (.head _)) (idx_nat (by first | omega | (simp <;> omega) | (simp at * <;> omega))) (by first | omega | (simp <;> omega) | (simp at * <;> omega))) rfl rfl ⟨rfl, rfl⟩)) ?_
                            | refine psg _ (core0 (AOp.loadN Try.isAgg25 Try.sizeOf25 rfl rfl (reads_row _ (.tail _ (.head _)) (idx_map (by first | omega | (simp <;> omega) | (simp at * <;> omega))) (by first | omega | (simp <;> omega) | (simp at * <;> omega))) rfl rfl ⟨rfl, rfl⟩)) ?_
                            | refine psg _ (core0 (AOp.loadN Try.isAgg25 Try.sizeOf25 rfl rfl (reads_row _ (.tail _ (.head _)) (by assumption) (by first | omega | (simp <;> omega) | (simp at * <;> omega))) rfl rfl ⟨rfl, rfl⟩)) ?_
                            | refine psg _ (core0 (AOp.loadN Try.isAgg25 Try.sizeOf25 rfl rfl (reads_row _ (.tail _ (.tail _ (.head _))) (idx_nat (by first | omega | (simp <;> omega) | (simp at * <;> omega))) (by first | omega | (simp <;> omega) | (simp at * <;> omega))) rfl rfl ⟨rfl, rfl⟩)) ?_
                            | refine psg _ (core0 (AOp.loadN Try.isAgg25 Try.sizeOf25 rfl rfl (reads_row _ (.tail _ (.tail _ (.head _))) (idx_map (by first | omega | (simp <;> omega) | (simp at * <;> omega))) (by first | omega | (simp <;> omega) | (simp at * <;> omega))) rfl rfl ⟨rfl, rfl⟩)) ?_
                            | refine psg _ (core0 (AOp.loadN Try.isAgg25 Try.sizeOf25 rfl rfl (reads_row _ (.tail _ (.tail _ (.head _))) (by assumption) (by first | omega | (simp <;> omega) | (simp at * <;> omega))) rfl rfl ⟨rfl, rfl⟩)) ?_
                        rotate_right
                        focus
                          have g12_ := g12
                          try simp only [List.length_map, List.length_cons, List.length_nil, nrm] at g12
                          all_goals try (exfalso; first | contradiction | (simp at g12_; done) | omega)
                          all_goals
                            refine psq_guard 1 false 158 _ rfl rfl rfl rfl (fun hh => by exfalso; first | (rw [g12_] at hh; exact absurd hh (by decide)) | (revert hh; simp [g12_])) (fun _ => ?_)
                            refine psq_guard 1 false 158 _ rfl rfl rfl rfl (fun hh => by exfalso; first | (rw [g12_] at hh; exact absurd hh (by decide)) | (revert hh; simp [g12_])) (fun _ => ?_)
                            refine psq_guard 1 false 158 _ rfl rfl rfl rfl (fun hh => by exfalso; first | (rw [g12_] at hh; exact absurd hh (by decide)) | (revert hh; simp [g12_])) (fun _ => ?_)
                            refine psq_guard 1 false 158 _ rfl rfl rfl rfl (fun hh => by exfalso; first | (rw [g12_] at hh; exact absurd hh (by decide)) | (revert hh; simp [g12_])) (fun _ => ?_)
                        all_goals
                          refine psq_nil ?_
                          refine aops_guard 1 false 158 _ rfl rfl rfl rfl rfl (fun g13 => ?_) (fun g13 => ?_)
                          focus
                            have g13_ := g13
                            try simp only [List.length_map, List.length_cons, List.length_nil, nrm] at g13
                            all_goals try (exfalso; first | contradiction | (simp at g13_; done) | omega)
                            all_goals
                              refine AOp.eqW rfl rfl rfl rfl rfl ?_
                          rotate_right
                          focus
                            have g13_ := g13
                            try simp only [List.length_map, List.length_cons, List.length_nil, nrm] at g13
                            all_goals try (exfalso; first | contradiction | (simp at g13_; done) | omega)
                          all_goals
                            first
                            | refine aops_cons rfl rfl (AOp.pick_t rfl rfl (by first | assumption | rfl) rfl ?_)
                            | refine aops_cons rfl rfl (AOp.pick_f rfl rfl (by first | assumption | rfl) rfl ?_)
                            refine aops_cons rfl rfl (AOp.assign rfl rfl ?_)
                            refine aops_nil ?_
                            refine aw_region ?_
                            refine aops_cons rfl rfl (AOp.move rfl rfl ?_)
                            first
                            | refine aops_cons rfl rfl (AOp.addE rfl rfl rfl (by first | omega | (simp <;> omega) | (simp at * <;> omega)) (by first | omega | (simp <;> omega) | (simp at * <;> omega)) ?_)
                            | refine aops_cons rfl rfl (AOp.add rfl rfl rfl rfl ?_)
                            refine aops_cons rfl rfl (AOp.assign rfl rfl ?_)
                            refine aops_nil ?_
                            refine ⟨j + 1, ?_, ?_, (wk_env (sube_cons rfl (sube_cons rfl (sube_cons rfl (sube_cons rfl (sube_cons (by first | exact wk_yes (by assumption) | exact wk_no (by omega) (by assumption)) (sube_cons rfl (sube_nil _))))))))⟩
                            · dsimp only; omega
                            · dsimp only; omega
                all_goals
                  refine aw_seq ?_
                  refine aw_block ?_
                  refine aw_seq ?_
                  refine aw_region ?_
                  refine aops_cons rfl rfl (AOp.move rfl rfl ?_)
                  refine aops_cons rfl rfl (AOp.move rfl rfl ?_)
                  refine aops_cons rfl rfl (AOp.move rfl rfl ?_)
                  first
                  | refine aops_cons rfl rfl (AOp.indexLN Try.underlying49 Try.sizeOf51 rfl rfl rfl (by first | omega | (simp <;> omega) | (simp at * <;> omega)) (fun _ => rfl) ?_)
                  | refine aops_cons rfl rfl (AOp.indexLI Try.underlying49 Try.sizeOf51 rfl rfl rfl (by first | omega | (simp <;> omega) | (simp at * <;> omega)) (by first | omega | (simp <;> omega) | (simp at * <;> omega)) (fun _ => rfl) ?_)
                  | refine aops_cons rfl rfl (AOp.indexS Try.underlying49 Try.sizeOf51 (by assumption) rfl rfl rfl (by first | omega | (simp <;> omega) | (simp at * <;> omega)) (by assumption) ?_)
                  | refine aops_cons rfl rfl (AOp.indexS Try.underlying49 Try.sizeOf51 (by assumption) rfl rfl rfl (by first | omega | (simp <;> omega) | (simp at * <;> omega)) (List.getElem?_eq_getElem (by first | omega | (simp <;> omega) | (simp at * <;> omega))) ?_)
                  | refine aops_cons rfl rfl (AOp.indexS Try.underlying49 Try.sizeOf51 (by exact all_len rfl) rfl rfl rfl (by first | omega | (simp <;> omega) | (simp at * <;> omega)) rfl ?_)
                  | refine aops_cons rfl rfl (AOp.indexR Try.underlying49 Try.sizeOf51 (.head _) rfl rfl rfl (by first | omega | (simp <;> omega) | (simp at * <;> omega)) (by first | omega | (simp <;> omega) | (simp at * <;> omega)) ?_)
                  | refine aops_cons rfl rfl (AOp.indexR Try.underlying49 Try.sizeOf51 (.tail _ (.head _)) rfl rfl rfl (by first | omega | (simp <;> omega) | (simp at * <;> omega)) (by first | omega | (simp <;> omega) | (simp at * <;> omega)) ?_)
                  | refine aops_cons rfl rfl (AOp.indexR Try.underlying49 Try.sizeOf51 (.tail _ (.tail _ (.head _))) rfl rfl rfl (by first | omega | (simp <;> omega) | (simp at * <;> omega)) (by first | omega | (simp <;> omega) | (simp at * <;> omega)) ?_)
                  first
                  | refine aops_cons rfl rfl (AOp.indexAI Try.underlying51 Try.sizeOf5 rfl rfl rfl (by first | omega | (simp <;> omega) | (simp at * <;> omega)) (by first | omega | (simp <;> omega) | (simp at * <;> omega)) rfl ?_)
                  | refine aops_cons rfl rfl (AOp.indexAB Try.underlying51 Try.sizeOf5 rfl rfl rfl (by first | omega | (simp <;> omega) | (simp at * <;> omega)) (by first | omega | (simp <;> omega) | (simp at * <;> omega)) rfl ?_)
                  first
                  | refine aops_cons rfl rfl (AOp.load1 Try.isAgg5 rfl rfl (reads_im _ _) rfl ?_)
                  | refine aops_cons rfl rfl (AOp.load1 Try.isAgg5 rfl rfl (reads_box _ (.head _)) rfl ?_)
                  | refine aops_cons rfl rfl (AOp.load1 Try.isAgg5 rfl rfl (reads_box _ (.tail _ (.head _))) rfl ?_)
                  | refine aops_cons rfl rfl (AOp.load1 Try.isAgg5 rfl rfl (reads_box _ (.tail _ (.tail _ (.head _)))) rfl ?_)
                  | refine aops_cons rfl rfl (AOp.load1 Try.isAgg5 rfl rfl (reads_row _ (.head _) (idx_nat (by first | omega | (simp <;> omega) | (simp at * <;> omega))) (by first | omega | (simp <;> omega) | (simp at * <;> omega))) rfl ?_)
                  | refine aops_cons rfl rfl (AOp.load1 Try.isAgg5 rfl rfl (reads_row _ (.head _) (idx_map (by first | omega | (simp <;> omega) | (simp at * <;> omega))) (by first | omega | (simp <;> omega) | (simp at * <;> omega))) rfl ?_)
                  | refine aops_cons rfl rfl (AOp.load1 Try.isAgg5 rfl rfl (reads_row _ (.head _) (by assumption) (by first | omega | (simp <;> omega) | (simp at * <;> omega))) rfl ?_)
                  | refine aops_cons rfl rfl (AOp.load1 Try.isAgg5 rfl rfl (reads_row _ (.tail _ (.head _)) (idx_nat (by first | omega | (simp <;> omega) | (simp at * <;> omega))) (by first | omega | (simp <;> omega) | (simp at * <;> omega))) rfl ?_)
                  | refine aops_cons rfl rfl (AOp.load1 Try.isAgg5 rfl rfl (reads_row _ (.tail _ (.head _)) (idx_map (by first | omega | (simp <;> omega) | (simp at * <;> omega))) (by first | omega | (simp <;> omega) | (simp at * <;> omega))) rfl ?_)
                  | refine aops_cons rfl rfl (AOp.load1 Try.isAgg5 rfl rfl (reads_row _ (.tail _ (.head _)) (by assumption) (by first | omega | (simp <;> omega) | (simp at * <;> omega))) rfl ?_)
                  | refine aops_cons rfl rfl (AOp.load1 Try.isAgg5 rfl rfl (reads_row _ (.tail _ (.tail _ (.head _))) (idx_nat (by first | omega | (simp <;> omega) | (simp at * <;> omega))) (by first | omega | (simp <;> omega) | (simp at * <;> omega))) rfl ?_)
                  | refine aops_cons rfl rfl (AOp.load1 Try.isAgg5 rfl rfl (reads_row _ (.tail _ (.tail _ (.head _))) (idx_map (by first | omega | (simp <;> omega) | (simp at * <;> omega))) (by first | omega | (simp <;> omega) | (simp at * <;> omega))) rfl ?_)
                  | refine aops_cons rfl rfl (AOp.load1 Try.isAgg5 rfl rfl (reads_row _ (.tail _ (.tail _ (.head _))) (by assumption) (by first | omega | (simp <;> omega) | (simp at * <;> omega))) rfl ?_)
                  refine aops_cons rfl rfl (AOp.remE rfl rfl rfl (by first | decide | omega) (by first | omega | (simp <;> omega) | (simp at * <;> omega)) ?_)
                  first
                  | refine aops_cons rfl rfl (AOp.conviI Try.underlying5 Try.underlying3 rfl rfl (by first | omega | (simp <;> omega) | (simp at * <;> omega)) (by first | omega | (simp <;> omega) | (simp at * <;> omega)) ?_)
                  | refine aops_cons rfl rfl (AOp.convi Try.underlying5 Try.underlying3 rfl rfl rfl ?_)
                  first
                  | refine aops_cons rfl rfl (AOp.addE rfl rfl rfl (by first | omega | (simp <;> omega) | (simp at * <;> omega)) (by first | omega | (simp <;> omega) | (simp at * <;> omega)) ?_)
                  | refine aops_cons rfl rfl (AOp.add rfl rfl rfl rfl ?_)
                  refine aops_cons rfl rfl (AOp.move rfl rfl ?_)
                  first
                  | refine aops_cons rfl rfl (AOp.addE rfl rfl rfl (by first | omega | (simp <;> omega) | (simp at * <;> omega)) (by first | omega | (simp <;> omega) | (simp at * <;> omega)) ?_)
                  | refine aops_cons rfl rfl (AOp.add rfl rfl rfl rfl ?_)
                  first
                  | refine aops_cons rfl rfl (AOp.subE rfl rfl rfl (by first | omega | (simp <;> omega) | (simp at * <;> omega)) (by first | omega | (simp <;> omega) | (simp at * <;> omega)) ?_)
                  | refine aops_cons rfl rfl (AOp.sub rfl rfl rfl rfl ?_)
                  refine aops_cons rfl rfl (AOp.min2 rfl rfl rfl ?_)
                  refine aops_cons rfl rfl (AOp.assign rfl rfl ?_)
                  refine aops_nil ?_
                  refine aw_seq ?_
                  refine aw_region ?_
                  refine aops_cons rfl rfl (AOp.move rfl rfl ?_)
                  refine aops_cons rfl rfl (AOp.move rfl rfl ?_)
                  first
                  | refine aops_cons rfl rfl (AOp.indexLN Try.underlying49 Try.sizeOf51 rfl rfl rfl (by first | omega | (simp <;> omega) | (simp at * <;> omega)) (fun _ => rfl) ?_)
                  | refine aops_cons rfl rfl (AOp.indexLI Try.underlying49 Try.sizeOf51 rfl rfl rfl (by first | omega | (simp <;> omega) | (simp at * <;> omega)) (by first | omega | (simp <;> omega) | (simp at * <;> omega)) (fun _ => rfl) ?_)
                  | refine aops_cons rfl rfl (AOp.indexS Try.underlying49 Try.sizeOf51 (by assumption) rfl rfl rfl (by first | omega | (simp <;> omega) | (simp at * <;> omega)) (by assumption) ?_)
                  | refine aops_cons rfl rfl (AOp.indexS Try.underlying49 Try.sizeOf51 (by assumption) rfl rfl rfl (by first | omega | (simp <;> omega) | (simp at * <;> omega)) (List.getElem?_eq_getElem (by first | omega | (simp <;> omega) | (simp at * <;> omega))) ?_)
                  | refine aops_cons rfl rfl (AOp.indexS Try.underlying49 Try.sizeOf51 (by exact all_len rfl) rfl rfl rfl (by first | omega | (simp <;> omega) | (simp at * <;> omega)) rfl ?_)
                  | refine aops_cons rfl rfl (AOp.indexR Try.underlying49 Try.sizeOf51 (.head _) rfl rfl rfl (by first | omega | (simp <;> omega) | (simp at * <;> omega)) (by first | omega | (simp <;> omega) | (simp at * <;> omega)) ?_)
                  | refine aops_cons rfl rfl (AOp.indexR Try.underlying49 Try.sizeOf51 (.tail _ (.head _)) rfl rfl rfl (by first | omega | (simp <;> omega) | (simp at * <;> omega)) (by first | omega | (simp <;> omega) | (simp at * <;> omega)) ?_)
                  | refine aops_cons rfl rfl (AOp.indexR Try.underlying49 Try.sizeOf51 (.tail _ (.tail _ (.head _))) rfl rfl rfl (by first | omega | (simp <;> omega) | (simp at * <;> omega)) (by first | omega | (simp <;> omega) | (simp at * <;> omega)) ?_)
                  first
                  | refine aops_cons rfl rfl (AOp.indexAI Try.underlying51 Try.sizeOf5 rfl rfl rfl (by first | omega | (simp <;> omega) | (simp at * <;> omega)) (by first | omega | (simp <;> omega) | (simp at * <;> omega)) rfl ?_)
                  | refine aops_cons rfl rfl (AOp.indexAB Try.underlying51 Try.sizeOf5 rfl rfl rfl (by first | omega | (simp <;> omega) | (simp at * <;> omega)) (by first | omega | (simp <;> omega) | (simp at * <;> omega)) rfl ?_)
                  first
                  | refine aops_cons rfl rfl (AOp.load1 Try.isAgg5 rfl rfl (reads_im _ _) rfl ?_)
                  | refine aops_cons rfl rfl (AOp.load1 Try.isAgg5 rfl rfl (reads_box _ (.head _)) rfl ?_)
                  | refine aops_cons rfl rfl (AOp.load1 Try.isAgg5 rfl rfl (reads_box _ (.tail _ (.head _))) rfl ?_)
                  | refine aops_cons rfl rfl (AOp.load1 Try.isAgg5 rfl rfl (reads_box _ (.tail _ (.tail _ (.head _)))) rfl ?_)
                  | refine aops_cons rfl rfl (AOp.load1 Try.isAgg5 rfl rfl (reads_row _ (.head _) (idx_nat (by first | omega | (simp <;> omega) | (simp at * <;> omega))) (by first | omega | (simp <;> omega) | (simp at * <;> omega))) rfl ?_)
                  | refine aops_cons rfl rfl (AOp.load1 Try.isAgg5 rfl rfl (reads_row _ (.head _) (idx_map (by first | omega | (simp <;> omega) | (simp at * <;> omega))) (by first | omega | (simp <;> omega) | (simp at * <;> omega))) rfl ?_)
                  | refine aops_cons rfl rfl (AOp.load1 Try.isAgg5 rfl rfl (reads_row _ (.head _) (by assumption) (by first | omega | (simp <;> omega) | (simp at * <;> omega))) rfl ?_)
                  | refine aops_cons rfl rfl (AOp.load1 Try.isAgg5 rfl rfl (reads_row _ (.tail _ (.head _)) (idx_nat (by first | omega | (simp <;> omega) | (simp at * <;> omega))) (by first | omega | (simp <;> omega) | (simp at * <;> omega))) rfl ?_)
                  | refine aops_cons rfl rfl (AOp.load1 Try.isAgg5 rfl rfl (reads_row _ (.tail _ (.head _)) (idx_map (by first | omega | (simp <;> omega) | (simp at * <;> omega))) (by first | omega | (simp <;> omega) | (simp at * <;> omega))) rfl ?_)
                  | refine aops_cons rfl rfl (AOp.load1 Try.isAgg5 rfl rfl (reads_row _ (.tail _ (.head _)) (by assumption) (by first | omega | (simp <;> omega) | (simp at * <;> omega))) rfl ?_)
                  | refine aops_cons rfl rfl (AOp.load1 Try.isAgg5 rfl rfl (reads_row _ (.tail _ (.tail _ (.head _))) (idx_nat (by first | omega | (simp <;> omega) | (simp at * <;> omega))) (by first | omega | (simp <;> omega) | (simp at * <;> omega))) rfl ?_)
                  | refine aops_cons rfl rfl (AOp.load1 Try.isAgg5 rfl rfl (reads_row _ (.tail _ (.tail _ (.head _))) (idx_map (by first | omega | (simp <;> omega) | (simp at * <;> omega))) (by first | omega | (simp <;> omega) | (simp at * <;> omega))) rfl ?_)
                  | refine aops_cons rfl rfl (AOp.load1 Try.isAgg5 rfl rfl (reads_row _ (.tail _ (.tail _ (.head _))) (by assumption) (by first | omega | (simp <;> omega) | (simp at * <;> omega))) rfl ?_)
                  refine aops_cons rfl rfl (AOp.remE rfl rfl rfl (by first | decide | omega) (by first | omega | (simp <;> omega) | (simp at * <;> omega)) ?_)
                  first
                  | refine aops_cons rfl rfl (AOp.conviI Try.underlying5 Try.underlying3 rfl rfl (by first | omega | (simp <;> omega) | (simp at * <;> omega)) (by first | omega | (simp <;> omega) | (simp at * <;> omega)) ?_)
                  | refine aops_cons rfl rfl (AOp.convi Try.underlying5 Try.underlying3 rfl rfl rfl ?_)
                  first
                  | refine aops_cons rfl rfl (AOp.addE rfl rfl rfl (by first | omega | (simp <;> omega) | (simp at * <;> omega)) (by first | omega | (simp <;> omega) | (simp at * <;> omega)) ?_)
                  | refine aops_cons rfl rfl (AOp.add rfl rfl rfl rfl ?_)
                  refine aops_cons rfl rfl (AOp.assign rfl rfl ?_)
                  refine aops_nil ?_
                  refine aw_seq ?_
                  refine aw_seq ?_
                  refine aw_region ?_
                  refine aops_cons rfl rfl (AOp.move rfl rfl ?_)
                  first
                  | refine aops_cons rfl rfl (AOp.fieldI Try.underlying25 rfl Try.sizeOf3 (by decide) rfl rfl rfl ?_)
                  | refine aops_cons rfl rfl (AOp.fieldB Try.underlying25 rfl Try.sizeOf3 (by decide) rfl rfl rfl ?_)
                  | refine aops_cons rfl rfl (AOp.fieldR Try.underlying25 rfl Try.sizeOf3 (by decide) rfl rfl rfl ?_)
                  first
                  | refine aops_cons rfl rfl (AOp.load1 Try.isAgg3 rfl rfl (reads_im _ _) rfl ?_)
                  | refine aops_cons rfl rfl (AOp.load1 Try.isAgg3 rfl rfl (reads_box _ (.head _)) rfl ?_)
                  | refine aops_cons rfl rfl (AOp.load1 Try.isAgg3 rfl rfl (reads_box _ (.tail _ (.head _))) rfl ?_)
                  | refine aops_cons rfl rfl (AOp.load1 Try.isAgg3 rfl rfl (reads_box _ (.tail _ (.tail _ (.head _)))) rfl ?_)
                  | refine aops_cons rfl rfl (AOp.load1 Try.isAgg3 rfl rfl (reads_row _ (.head _) (idx_nat (by first | omega | (simp <;> omega) | (simp at * <;> omega))) (by first | omega | (simp <;> omega) | (simp at * <;> omega))) rfl ?_)
                  | refine aops_cons rfl rfl (AOp.load1 Try.isAgg3 rfl rfl (reads_row _ (.head _) (idx_map (by first | omega | (simp <;> omega) | (simp at * <;> omega))) (by first | omega | (simp <;> omega) | (simp at * <;> omega))) rfl ?_)
                  | refine aops_cons rfl rfl (AOp.load1 Try.isAgg3 rfl rfl (reads_row _ (.head _) (by assumption) (by first | omega | (simp <;> omega) | (simp at * <;> omega))) rfl ?_)
                  | refine aops_cons rfl rfl (AOp.load1 Try.isAgg3 rfl rfl (reads_row _ (.tail _ (.head _)) (idx_nat (by first | omega | (simp <;> omega) | (simp at * <;> omega))) (by first | omega | (simp <;> omega) | (simp at * <;> omega))) rfl ?_)
                  | refine aops_cons rfl rfl (AOp.load1 Try.isAgg3 rfl rfl (reads_row _ (.tail _ (.head _)) (idx_map (by first | omega | (simp <;> omega) | (simp at * <;> omega))) (by first | omega | (simp <;> omega) | (simp at * <;> omega))) rfl ?_)
                  | refine aops_cons rfl rfl (AOp.load1 Try.isAgg3 rfl rfl (reads_row _ (.tail _ (.head _)) (by assumption) (by first | omega | (simp <;> omega) | (simp at * <;> omega))) rfl ?_)
                  | refine aops_cons rfl rfl (AOp.load1 Try.isAgg3 rfl rfl (reads_row _ (.tail _ (.tail _ (.head _))) (idx_nat (by first | omega | (simp <;> omega) | (simp at * <;> omega))) (by first | omega | (simp <;> omega) | (simp at * <;> omega))) rfl ?_)
                  | refine aops_cons rfl rfl (AOp.load1 Try.isAgg3 rfl rfl (reads_row _ (.tail _ (.tail _ (.head _))) (idx_map (by first | omega | (simp <;> omega) | (simp at * <;> omega))) (by first | omega | (simp <;> omega) | (simp at * <;> omega))) rfl ?_)
                  | refine aops_cons rfl rfl (AOp.load1 Try.isAgg3 rfl rfl (reads_row _ (.tail _ (.tail _ (.head _))) (by assumption) (by first | omega | (simp <;> omega) | (simp at * <;> omega))) rfl ?_)
                  refine aops_cons rfl rfl (AOp.eql rfl rfl rfl ?_)
                  refine aops_nil ?_
                  refine aw_cond _ rfl (fun h14 => ?_) (fun h14 => ?_)
                  focus
                    have h14_ := h14
                    try simp only [List.length_map, List.length_cons, List.length_nil, nrm] at h14
                    all_goals try (exfalso; first | contradiction | (simp at h14_; done) | omega)
                    all_goals
                      refine aw_exit ?_
                      refine aw_region ?_
                      refine aops_cons rfl rfl (AOp.move rfl rfl ?_)
                      first
                      | refine aops_cons rfl rfl (AOp.addE rfl rfl rfl (by first | omega | (simp <;> omega) | (simp at * <;> omega)) (by first | omega | (simp <;> omega) | (simp at * <;> omega)) ?_)
                      | refine aops_cons rfl rfl (AOp.add rfl rfl rfl rfl ?_)
                      refine aops_cons rfl rfl (AOp.assign rfl rfl ?_)
                      refine aops_nil ?_
                      first
                      | (refine ⟨(i + 1, (min (t + (l[i].c.toNat : Int) % 9) (now + 60 - 1)), te, e), ⟨by omega, by omega, by omega, by omega, hg1, hf1, hk1⟩, by dsimp only; omega, (wk_env (sube_cons rfl (sube_cons rfl (sube_cons rfl (sube_cons rfl (sube_cons rfl (sube_cons rfl (sube_nil _))))))))⟩)
                      | (refine ⟨(i + 1, (min (t + (l[i].c.toNat : Int) % 9) (now + 60 - 1)), (min (t + (l[i].c.toNat : Int) % 9) (now + 60 - 1)), (askD e (min (t + (l[i].c.toNat : Int) % 9) (now + 60 - 1)) (⟨1 + (l[i].a.toNat : Int) % 3, 600 + (i : Int), 1 + (l[i].b.toNat : Int) % 3, 1 + (l[i].c.toNat : Int) % 2⟩ : Wt)).1), ⟨by omega, by omega, by omega, by omega, gd_ask hg1 (by omega) (by omega) (by unfold okWt; dsimp only; omega), (time_ask (k := 3) hf1 (by dsimp only; omega) hk1).1, (time_ask (k := 3) hf1 (by dsimp only; omega) hk1).2⟩, by dsimp only; omega, (wk_env (sube_cons rfl (sube_cons rfl (sube_cons rfl (sube_cons rfl (sube_cons rfl (sube_cons rfl (sube_nil _))))))))⟩)
                      | (refine ⟨(i + 1, (min (t + (l[i].c.toNat : Int) % 9) (now + 60 - 1)), (min (t + (l[i].c.toNat : Int) % 9) (now + 60 - 1)), (askD e (min (t + (l[i].c.toNat : Int) % 9) (now + 60 - 1)) (⟨1 + (l[i].a.toNat : Int) % 3, 600 + (i : Int), 1 + (l[i].b.toNat : Int) % 3, 1 + (l[i].c.toNat : Int) % 2⟩ : Wt)).1), ⟨by omega, by omega, by omega, by omega, gd_ask hg1 (by omega) (by omega) (by unfold okWt; dsimp only; omega), (time_ask (k := 3) hf1 (by dsimp only; omega) hk1).1, (time_ask (k := 3) hf1 (by dsimp only; omega) hk1).2⟩, by dsimp only; omega, ((wk_perm (List.Perm.swap _ _ _)).trans (wk_env (sube_cons rfl (sube_cons rfl (sube_cons rfl (sube_cons rfl (sube_cons rfl (sube_cons rfl (sube_nil _)))))))))⟩)
                  rotate_right
                  focus
                    have h14_ := h14
                    try simp only [List.length_map, List.length_cons, List.length_nil, nrm] at h14
                    all_goals try (exfalso; first | contradiction | (simp at h14_; done) | omega)
                    all_goals
                      refine aw_skip ?_
                      skip
                  all_goals
                    refine aw_draw 29 [0, 1, 1, 1, 1, 1, 1, 2, 2, 0, 1, 1, 1, 1, 1, 2, 2, 0, 1, 1, 1, 0, 0, 1, 1, 1, 1, 1, 3] (by kernel_rfl) (by kernel_rfl) ?_
                    first
                    | refine psq_cons _ rfl (core0 (AOp.loadN Try.isAgg30 Try.sizeOf30 rfl rfl (reads_im _ _) rfl rfl ⟨rfl, rfl⟩)) ?_
                    | refine psq_cons _ rfl (core0 (AOp.loadN Try.isAgg30 Try.sizeOf30 rfl rfl (reads_box _ (.head _)) rfl rfl ⟨rfl, rfl⟩)) ?_
                    | refine psq_cons _ rfl (core0 (AOp.loadN Try.isAgg30 Try.sizeOf30 rfl rfl (reads_box _ (.tail _ (.head _))) rfl rfl ⟨rfl, rfl⟩)) ?_
                    | refine psq_cons _ rfl (core0 (AOp.loadN Try.isAgg30 Try.sizeOf30 rfl rfl (reads_box _ (.tail _ (.tail _ (.head _)))) rfl rfl ⟨rfl, rfl⟩)) ?_
                    | refine psq_cons _ rfl (core0 (AOp.loadN Try.isAgg30 Try.sizeOf30 rfl rfl (reads_row _ (.head _) (idx_nat (by first | omega | (simp <;> omega) | (simp at * <;> omega))) (by first | omega | (simp <;> omega) | (simp at * <;> omega))) rfl rfl ⟨rfl, rfl⟩)) ?_
                    | refine psq_cons _ rfl (core0 (AOp.loadN Try.isAgg30 Try.sizeOf30 rfl rfl (reads_row _ (.head _) (idx_map (by first | omega | (simp <;> omega) | (simp at * <;> omega))) (by first | omega | (simp <;> omega) | (simp at * <;> omega))) rfl rfl ⟨rfl, rfl⟩)) ?_
                    | refine psq_cons _ rfl (core0 (AOp.loadN Try.isAgg30 Try.sizeOf30 rfl rfl (reads_row _ (.head _) (by assumption) (by first | omega | (simp <;> omega) | (simp at * <;> omega))) rfl rfl ⟨rfl, rfl⟩)) ?_
                    | refine psq_cons _ rfl (core0 (AOp.loadN Try.isAgg30 Try.sizeOf30 rfl rfl (reads_row _ (.tail _ (.head _)) (idx_nat (by first | omega | (simp <;> omega) | (simp at * <;> omega))) (by first | omega | (simp <;> omega) | (simp at * <;> omega))) rfl rfl ⟨rfl, rfl⟩)) ?_
                    | refine psq_cons _ rfl (core0 (AOp.loadN Try.isAgg30 Try.sizeOf30 rfl rfl (reads_row _ (.tail _ (.head _)) (idx_map (by first | omega | (simp <;> omega) | (simp at * <;> omega))) (by first | omega | (simp <;> omega) | (simp at * <;> omega))) rfl rfl ⟨rfl, rfl⟩)) ?_
                    | refine psq_cons _ rfl (core0 (AOp.loadN Try.isAgg30 Try.sizeOf30 rfl rfl (reads_row _ (.tail _ (.head _)) (by assumption) (by first | omega | (simp <;> omega) | (simp at * <;> omega))) rfl rfl ⟨rfl, rfl⟩)) ?_
                    | refine psq_cons _ rfl (core0 (AOp.loadN Try.isAgg30 Try.sizeOf30 rfl rfl (reads_row _ (.tail _ (.tail _ (.head _))) (idx_nat (by first | omega | (simp <;> omega) | (simp at * <;> omega))) (by first | omega | (simp <;> omega) | (simp at * <;> omega))) rfl rfl ⟨rfl, rfl⟩)) ?_
                    | refine psq_cons _ rfl (core0 (AOp.loadN Try.isAgg30 Try.sizeOf30 rfl rfl (reads_row _ (.tail _ (.tail _ (.head _))) (idx_map (by first | omega | (simp <;> omega) | (simp at * <;> omega))) (by first | omega | (simp <;> omega) | (simp at * <;> omega))) rfl rfl ⟨rfl, rfl⟩)) ?_
                    | refine psq_cons _ rfl (core0 (AOp.loadN Try.isAgg30 Try.sizeOf30 rfl rfl (reads_row _ (.tail _ (.tail _ (.head _))) (by assumption) (by first | omega | (simp <;> omega) | (simp at * <;> omega))) rfl rfl ⟨rfl, rfl⟩)) ?_
                    refine psq_cons _ rfl (core1 (fun _ _ => AOp.move rfl rfl ⟨rfl, rfl⟩)) ?_
                    refine psq_cons _ rfl (core1 (fun _ _ => AOp.move rfl rfl ⟨rfl, rfl⟩)) ?_
                    refine psq_cons _ rfl (core1 (fun _ _ => AOp.move rfl rfl ⟨rfl, rfl⟩)) ?_
                    first
                    | refine psq_cons _ rfl (core1 (fun _ _ => AOp.addE rfl rfl rfl (by first | omega | (simp <;> omega) | (simp at * <;> omega)) (by first | omega | (simp <;> omega) | (simp at * <;> omega)) ⟨rfl, rfl⟩)) ?_
                    | refine psq_cons _ rfl (core1 (fun _ _ => AOp.add rfl rfl rfl rfl ⟨rfl, rfl⟩)) ?_
                    refine psq_cons _ rfl (core1 (fun _ _ => AOp.move rfl rfl ⟨rfl, rfl⟩)) ?_
                    refine psq_cons _ rfl (core1 (fun _ _ => AOp.move rfl rfl ⟨rfl, rfl⟩)) ?_
                    first
                    | refine psq_cons _ rfl (core2 ⟨AOp.indexLN Try.underlying49 Try.sizeOf51 rfl rfl rfl (by first | omega | (simp <;> omega) | (simp at * <;> omega)) (fun _ => rfl) ⟨rfl, rfl⟩, trivial⟩) ?_
                    | refine psq_cons _ rfl (core2 ⟨AOp.indexLI Try.underlying49 Try.sizeOf51 rfl rfl rfl (by first | omega | (simp <;> omega) | (simp at * <;> omega)) (by first | omega | (simp <;> omega) | (simp at * <;> omega)) (fun _ => rfl) ⟨rfl, rfl⟩, trivial⟩) ?_
                    | refine psq_cons _ rfl (core2 ⟨AOp.indexS Try.underlying49 Try.sizeOf51 (by assumption) rfl rfl rfl (by first | omega | (simp <;> omega) | (simp at * <;> omega)) (by assumption) ⟨rfl, rfl⟩, trivial⟩) ?_
                    | refine psq_cons _ rfl (core2 ⟨AOp.indexS Try.underlying49 Try.sizeOf51 (by assumption) rfl rfl rfl (by first | omega | (simp <;> omega) | (simp at * <;> omega)) (List.getElem?_eq_getElem (by first | omega | (simp <;> omega) | (simp at * <;> omega))) ⟨rfl, rfl⟩, trivial⟩) ?_
                    | refine psq_cons _ rfl (core2 ⟨AOp.indexS Try.underlying49 Try.sizeOf51 (by exact all_len rfl) rfl rfl rfl (by first | omega | (simp <;> omega) | (simp at * <;> omega)) rfl ⟨rfl, rfl⟩, trivial⟩) ?_
                    | refine psq_cons _ rfl (core2 ⟨AOp.indexR Try.underlying49 Try.sizeOf51 (.head _) rfl rfl rfl (by first | omega | (simp <;> omega) | (simp at * <;> omega)) (by first | omega | (simp <;> omega) | (simp at * <;> omega)) ⟨rfl, rfl⟩, trivial⟩) ?_
                    | refine psq_cons _ rfl (core2 ⟨AOp.indexR Try.underlying49 Try.sizeOf51 (.tail _ (.head _)) rfl rfl rfl (by first | omega | (simp <;> omega) | (simp at * <;> omega)) (by first | omega | (simp <;> omega) | (simp at * <;> omega)) ⟨rfl, rfl⟩, trivial⟩) ?_
                    | refine psq_cons _ rfl (core2 ⟨AOp.indexR Try.underlying49 Try.sizeOf51 (.tail _ (.tail _ (.head _))) rfl rfl rfl (by first | omega | (simp <;> omega) | (simp at * <;> omega)) (by first | omega | (simp <;> omega) | (simp at * <;> omega)) ⟨rfl, rfl⟩, trivial⟩) ?_
                    first
                    | refine psq_cons _ rfl (core2 ⟨AOp.indexAI Try.underlying51 Try.sizeOf5 rfl rfl rfl (by first | omega | (simp <;> omega) | (simp at * <;> omega)) (by first | omega | (simp <;> omega) | (simp at * <;> omega)) rfl ⟨rfl, rfl⟩, trivial⟩) ?_
                    | refine psq_cons _ rfl (core2 ⟨AOp.indexAB Try.underlying51 Try.sizeOf5 rfl rfl rfl (by first | omega | (simp <;> omega) | (simp at * <;> omega)) (by first | omega | (simp <;> omega) | (simp at * <;> omega)) rfl ⟨rfl, rfl⟩, trivial⟩) ?_
                    first
                    | refine psq_cons _ rfl (core0 (AOp.load1 Try.isAgg5 rfl rfl (reads_im _ _) rfl ⟨rfl, rfl⟩)) ?_
                    | refine psq_cons _ rfl (core0 (AOp.load1 Try.isAgg5 rfl rfl (reads_box _ (.head _)) rfl ⟨rfl, rfl⟩)) ?_
                    | refine psq_cons _ rfl (core0 (AOp.load1 Try.isAgg5 rfl rfl (reads_box _ (.tail _ (.head _))) rfl ⟨rfl, rfl⟩)) ?_
                    | refine psq_cons _ rfl (core0 (AOp.load1 Try.isAgg5 rfl rfl (reads_box _ (.tail _ (.tail _ (.head _)))) rfl ⟨rfl, rfl⟩)) ?_
                    | refine psq_cons _ rfl (core0 (AOp.load1 Try.isAgg5 rfl rfl (reads_row _ (.head _) (idx_nat (by first | omega | (simp <;> omega) | (simp at * <;> omega))) (by first | omega | (simp <;> omega) | (simp at * <;> omega))) rfl ⟨rfl, rfl⟩)) ?_
                    | refine psq_cons _ rfl (core0 (AOp.load1 Try.isAgg5 rfl rfl (reads_row _ (.head _) (idx_map (by first | omega | (simp <;> omega) | (simp at * <;> omega))) (by first | omega | (simp <;> omega) | (simp at * <;> omega))) rfl ⟨rfl, rfl⟩)) ?_
                    | refine psq_cons _ rfl (core0 (AOp.load1 Try.isAgg5 rfl rfl (reads_row _ (.head _) (by assumption) (by first | omega | (simp <;> omega) | (simp at * <;> omega))) rfl ⟨rfl, rfl⟩)) ?_
                    | refine psq_cons _ rfl (core0 (AOp.load1 Try.isAgg5 rfl rfl (reads_row _ (.tail _ (.head _)) (idx_nat (by first | omega | (simp <;> omega) | (simp at * <;> omega))) (by first | omega | (simp <;> omega) | (simp at * <;> omega))) rfl ⟨rfl, rfl⟩)) ?_
                    | refine psq_cons _ rfl (core0 (AOp.load1 Try.isAgg5 rfl rfl (reads_row _ (.tail _ (.head _)) (idx_map (by first | omega | (simp <;> omega) | (simp at * <;> omega))) (by first | omega | (simp <;> omega) | (simp at * <;> omega))) rfl ⟨rfl, rfl⟩)) ?_
                    | refine psq_cons _ rfl (core0 (AOp.load1 Try.isAgg5 rfl rfl (reads_row _ (.tail _ (.head _)) (by assumption) (by first | omega | (simp <;> omega) | (simp at * <;> omega))) rfl ⟨rfl, rfl⟩)) ?_
                    | refine psq_cons _ rfl (core0 (AOp.load1 Try.isAgg5 rfl rfl (reads_row _ (.tail _ (.tail _ (.head _))) (idx_nat (by first | omega | (simp <;> omega) | (simp at * <;> omega))) (by first | omega | (simp <;> omega) | (simp at * <;> omega))) rfl ⟨rfl, rfl⟩)) ?_
                    | refine psq_cons _ rfl (core0 (AOp.load1 Try.isAgg5 rfl rfl (reads_row _ (.tail _ (.tail _ (.head _))) (idx_map (by first | omega | (simp <;> omega) | (simp at * <;> omega))) (by first | omega | (simp <;> omega) | (simp at * <;> omega))) rfl ⟨rfl, rfl⟩)) ?_
                    | refine psq_cons _ rfl (core0 (AOp.load1 Try.isAgg5 rfl rfl (reads_row _ (.tail _ (.tail _ (.head _))) (by assumption) (by first | omega | (simp <;> omega) | (simp at * <;> omega))) rfl ⟨rfl, rfl⟩)) ?_
                    refine psq_cons _ rfl (core1 (fun _ _ => AOp.remE rfl rfl rfl (by first | decide | omega) (by first | omega | (simp <;> omega) | (simp at * <;> omega)) ⟨rfl, rfl⟩)) ?_
                    first
                    | refine psq_cons _ rfl (core1 (fun _ _ => AOp.conviI Try.underlying5 Try.underlying3 rfl rfl (by first | omega | (simp <;> omega) | (simp at * <;> omega)) (by first | omega | (simp <;> omega) | (simp at * <;> omega)) ⟨rfl, rfl⟩)) ?_
                    | refine psq_cons _ rfl (core1 (fun _ _ => AOp.convi Try.underlying5 Try.underlying3 rfl rfl rfl ⟨rfl, rfl⟩)) ?_
                    first
                    | refine psq_cons _ rfl (core1 (fun _ _ => AOp.addE rfl rfl rfl (by first | omega | (simp <;> omega) | (simp at * <;> omega)) (by first | omega | (simp <;> omega) | (simp at * <;> omega)) ⟨rfl, rfl⟩)) ?_
                    | refine psq_cons _ rfl (core1 (fun _ _ => AOp.add rfl rfl rfl rfl ⟨rfl, rfl⟩)) ?_
                    refine psq_cons _ rfl (core1 (fun _ _ => AOp.move rfl rfl ⟨rfl, rfl⟩)) ?_
                    refine psq_cons _ rfl (core1 (fun _ _ => AOp.move rfl rfl ⟨rfl, rfl⟩)) ?_
                    first
                    | refine psq_cons _ rfl (core2 ⟨AOp.indexLN Try.underlying49 Try.sizeOf51 rfl rfl rfl (by first | omega | (simp <;> omega) | (simp at * <;> omega)) (fun _ => rfl) ⟨rfl, rfl⟩, trivial⟩) ?_
                    | refine psq_cons _ rfl (core2 ⟨AOp.indexLI Try.underlying49 Try.sizeOf51 rfl rfl rfl (by first | omega | (simp <;> omega) | (simp at * <;> omega)) (by first | omega | (simp <;> omega) | (simp at * <;> omega)) (fun _ => rfl) ⟨rfl, rfl⟩, trivial⟩) ?_
                    | refine psq_cons _ rfl (core2 ⟨AOp.indexS Try.underlying49 Try.sizeOf51 (by assumption) rfl rfl rfl (by first | omega | (simp <;> omega) | (simp at * <;> omega)) (by assumption) ⟨rfl, rfl⟩, trivial⟩) ?_
                    | refine psq_cons _ rfl (core2 ⟨AOp.indexS Try.underlying49 Try.sizeOf51 (by assumption) rfl rfl rfl (by first | omega | (simp <;> omega) | (simp at * <;> omega)) (List.getElem?_eq_getElem (by first | omega | (simp <;> omega) | (simp at * <;> omega))) ⟨rfl, rfl⟩, trivial⟩) ?_
                    | refine psq_cons _ rfl (core2 ⟨AOp.indexS Try.underlying49 Try.sizeOf51 (by exact all_len rfl) rfl rfl rfl (by first | omega | (simp <;> omega) | (simp at * <;> omega)) rfl ⟨rfl, rfl⟩, trivial⟩) ?_
                    | refine psq_cons _ rfl (core2 ⟨AOp.indexR Try.underlying49 Try.sizeOf51 (.head _) rfl rfl rfl (by first | omega | (simp <;> omega) | (simp at * <;> omega)) (by first | omega | (simp <;> omega) | (simp at * <;> omega)) ⟨rfl, rfl⟩, trivial⟩) ?_
                    | refine psq_cons _ rfl (core2 ⟨AOp.indexR Try.underlying49 Try.sizeOf51 (.tail _ (.head _)) rfl rfl rfl (by first | omega | (simp <;> omega) | (simp at * <;> omega)) (by first | omega | (simp <;> omega) | (simp at * <;> omega)) ⟨rfl, rfl⟩, trivial⟩) ?_
                    | refine psq_cons _ rfl (core2 ⟨AOp.indexR Try.underlying49 Try.sizeOf51 (.tail _ (.tail _ (.head _))) rfl rfl rfl (by first | omega | (simp <;> omega) | (simp at * <;> omega)) (by first | omega | (simp <;> omega) | (simp at * <;> omega)) ⟨rfl, rfl⟩, trivial⟩) ?_
                    first
                    | refine psq_cons _ rfl (core2 ⟨AOp.indexAI Try.underlying51 Try.sizeOf5 rfl rfl rfl (by first | omega | (simp <;> omega) | (simp at * <;> omega)) (by first | omega | (simp <;> omega) | (simp at * <;> omega)) rfl ⟨rfl, rfl⟩, trivial⟩) ?_
                    | refine psq_cons _ rfl (core2 ⟨AOp.indexAB Try.underlying51 Try.sizeOf5 rfl rfl rfl (by first | omega | (simp <;> omega) | (simp at * <;> omega)) (by first | omega | (simp <;> omega) | (simp at * <;> omega)) rfl ⟨rfl, rfl⟩, trivial⟩) ?_
                    first
                    | refine psq_cons _ rfl (core0 (AOp.load1 Try.isAgg5 rfl rfl (reads_im _ _) rfl ⟨rfl, rfl⟩)) ?_
                    | refine psq_cons _ rfl (core0 (AOp.load1 Try.isAgg5 rfl rfl (reads_box _ (.head _)) rfl ⟨rfl, rfl⟩)) ?_
                    | refine psq_cons _ rfl (core0 (AOp.load1 Try.isAgg5 rfl rfl (reads_box _ (.tail _ (.head _))) rfl ⟨rfl, rfl⟩)) ?_
                    | refine psq_cons _ rfl (core0 (AOp.load1 Try.isAgg5 rfl rfl (reads_box _ (.tail _ (.tail _ (.head _)))) rfl ⟨rfl, rfl⟩)) ?_
                    | refine psq_cons _ rfl (core0 (AOp.load1 Try.isAgg5 rfl rfl (reads_row _ (.head _) (idx_nat (by first | omega | (simp <;> omega) | (simp at * <;> omega))) (by first | omega | (simp <;> omega) | (simp at * <;> omega))) rfl ⟨rfl, rfl⟩)) ?_
                    | refine psq_cons _ rfl (core0 (AOp.load1 Try.isAgg5 rfl rfl (reads_row _ (.head _) (idx_map (by first | omega | (simp <;> omega) | (simp at * <;> omega))) (by first | omega | (simp <;> omega) | (simp at * <;> omega))) rfl ⟨rfl, rfl⟩)) ?_
                    | refine psq_cons _ rfl (core0 (AOp.load1 Try.isAgg5 rfl rfl (reads_row _ (.head _) (by assumption) (by first | omega | (simp <;> omega) | (simp at * <;> omega))) rfl ⟨rfl, rfl⟩)) ?_
                    | refine psq_cons _ rfl (core0 (AOp.load1 Try.isAgg5 rfl rfl (reads_row _ (.tail _ (.head _)) (idx_nat (by first | omega | (simp <;> omega) | (simp at * <;> omega))) (by first | omega | (simp <;> omega) | (simp at * <;> omega))) rfl ⟨rfl, rfl⟩)) ?_
                    | refine psq_cons _ rfl (core0 (AOp.load1 Try.isAgg5 rfl rfl (reads_row _ (.tail _ (.head _)) (idx_map (by first | omega | (simp <;> omega) | (simp at * <;> omega))) (by first | omega | (simp <;> omega) | (simp at * <;> omega))) rfl ⟨rfl, rfl⟩)) ?_
                    | refine psq_cons _ rfl (core0 (AOp.load1 Try.isAgg5 rfl rfl (reads_row _ (.tail _ (.head _)) (by assumption) (by first | omega | (simp <;> omega) | (simp at * <;> omega))) rfl ⟨rfl, rfl⟩)) ?_
                    | refine psq_cons _ rfl (core0 (AOp.load1 Try.isAgg5 rfl rfl (reads_row _ (.tail _ (.tail _ (.head _))) (idx_nat (by first | omega | (simp <;> omega) | (simp at * <;> omega))) (by first | omega | (simp <;> omega) | (simp at * <;> omega))) rfl ⟨rfl, rfl⟩)) ?_
                    | refine psq_cons _ rfl (core0 (AOp.load1 Try.isAgg5 rfl rfl (reads_row _ (.tail _ (.tail _ (.head _))) (idx_map (by first | omega | (simp <;> omega) | (simp at * <;> omega))) (by first | omega | (simp <;> omega) | (simp at * <;> omega))) rfl ⟨rfl, rfl⟩)) ?_
                    | refine psq_cons _ rfl (core0 (AOp.load1 Try.isAgg5 rfl rfl (reads_row _ (.tail _ (.tail _ (.head _))) (by assumption) (by first | omega | (simp <;> omega) | (simp at * <;> omega))) rfl ⟨rfl, rfl⟩)) ?_
                    refine psq_cons _ rfl (core1 (fun _ _ => AOp.remE rfl rfl rfl (by first | decide | omega) (by first | omega | (simp <;> omega) | (simp at * <;> omega)) ⟨rfl, rfl⟩)) ?_
                    first
                    | refine psq_cons _ rfl (core1 (fun _ _ => AOp.conviI Try.underlying5 Try.underlying3 rfl rfl (by first | omega | (simp <;> omega) | (simp at * <;> omega)) (by first | omega | (simp <;> omega) | (simp at * <;> omega)) ⟨rfl, rfl⟩)) ?_
                    | refine psq_cons _ rfl (core1 (fun _ _ => AOp.convi Try.underlying5 Try.underlying3 rfl rfl rfl ⟨rfl, rfl⟩)) ?_
                    first
                    | refine psq_cons _ rfl (core1 (fun _ _ => AOp.addE rfl rfl rfl (by first | omega | (simp <;> omega) | (simp at * <;> omega)) (by first | omega | (simp <;> omega) | (simp at * <;> omega)) ⟨rfl, rfl⟩)) ?_
                    | refine psq_cons _ rfl (core1 (fun _ _ => AOp.add rfl rfl rfl rfl ⟨rfl, rfl⟩)) ?_
                    refine psq_cons _ rfl (core0 (AOp.build' (places := [(0, 1), (1, 1), (2, 1), (3, 1)]) Try.zeroValue25 (by kernel_rfl) (by kernel_rfl) Try.underlying25 (by kernel_rfl) rfl rfl rfl rfl ⟨rfl, rfl⟩)) ?_
                    refine psq_cons _ rfl (core0 (AOp.callP Try.call21 rfl rfl rfl (by exact ask e (min (t + (l[i].c.toNat : Int) % 9) (now + 60 - 1)) (⟨1 + (l[i].a.toNat : Int) % 3, 600 + (i : Int), 1 + (l[i].b.toNat : Int) % 3, 1 + (l[i].c.toNat : Int) % 2⟩ : Wt) hg1.s hg1.u (by first | omega | (simp <;> omega) | (simp at * <;> omega)) (by first | omega | (simp <;> omega) | (simp at * <;> omega)) (by first | omega | (simp <;> omega) | (simp at * <;> omega)) (by first | omega | (simp <;> omega) | (simp at * <;> omega))) ⟨rfl, rfl⟩)) ?_
                    refine psq_cons _ rfl (core1 (fun _ _ => AOp.move rfl rfl ⟨rfl, rfl⟩)) ?_
                    refine psq_cons _ rfl (core1 (fun _ _ => AOp.extract rfl rfl rfl ⟨rfl, rfl⟩)) ?_
                    refine psq_cons _ rfl (core1 (fun _ _ => AOp.extract rfl rfl rfl ⟨rfl, rfl⟩)) ?_
                    refine psq_cons _ rfl (core1 (fun _ _ => AOp.extract rfl rfl rfl ⟨rfl, rfl⟩)) ?_
                    refine psq_cons _ rfl (core1 (fun _ _ => AOp.extract rfl rfl rfl ⟨rfl, rfl⟩)) ?_
                    first
                    | refine psq_cons _ rfl (core3 (AOp.storeB' Try.sizeOf30 rfl rfl rfl rfl rfl (pull_here _ _) rfl rfl ⟨rfl, rfl⟩) trivial) ?_
                    | refine psq_cons _ rfl (core3 (AOp.storeB' Try.sizeOf30 rfl rfl rfl rfl rfl (pull_there (pull_here _ _)) rfl rfl ⟨rfl, rfl⟩) trivial) ?_
                    | refine psq_cons _ rfl (core3 (AOp.storeB' Try.sizeOf30 rfl rfl rfl rfl rfl (pull_there (pull_there (pull_here _ _))) rfl rfl ⟨rfl, rfl⟩) trivial) ?_
                    | refine psq_cons _ rfl (core3 (AOp.storeR' Try.sizeOf30 rfl rfl rfl rfl rfl (pull_here _ _) (by first | exact idx_nat (by first | omega | (simp <;> omega) | (simp at * <;> omega)) | exact idx_map (by first | omega | (simp <;> omega) | (simp at * <;> omega)) | assumption) rfl rfl rfl ⟨rfl, rfl⟩) trivial) ?_
                    | refine psq_cons _ rfl (core3 (AOp.storeR' Try.sizeOf30 rfl rfl rfl rfl rfl (pull_there (pull_here _ _)) (by first | exact idx_nat (by first | omega | (simp <;> omega) | (simp at * <;> omega)) | exact idx_map (by first | omega | (simp <;> omega) | (simp at * <;> omega)) | assumption) rfl rfl rfl ⟨rfl, rfl⟩) trivial) ?_
                    | refine psq_cons _ rfl (core3 (AOp.storeR' Try.sizeOf30 rfl rfl rfl rfl rfl (pull_there (pull_there (pull_here _ _))) (by first | exact idx_nat (by first | omega | (simp <;> omega) | (simp at * <;> omega)) | exact idx_map (by first | omega | (simp <;> omega) | (simp at * <;> omega)) | assumption) rfl rfl rfl ⟨rfl, rfl⟩) trivial) ?_
                    refine psq_nil ?_
                    refine aops_nil ?_
                    refine aw_region ?_
                    refine aops_cons rfl rfl (AOp.move rfl rfl ?_)
                    first
                    | refine aops_cons rfl rfl (AOp.addE rfl rfl rfl (by first | omega | (simp <;> omega) | (simp at * <;> omega)) (by first | omega | (simp <;> omega) | (simp at * <;> omega)) ?_)
                    | refine aops_cons rfl rfl (AOp.add rfl rfl rfl rfl ?_)
                    refine aops_cons rfl rfl (AOp.assign rfl rfl ?_)
                    refine aops_nil ?_
                    first
                    | (refine ⟨(i + 1, (min (t + (l[i].c.toNat : Int) % 9) (now + 60 - 1)), te, e), ⟨by omega, by omega, by omega, by omega, hg1, hf1, hk1⟩, by dsimp only; omega, (wk_env (sube_cons rfl (sube_cons rfl (sube_cons rfl (sube_cons rfl (sube_cons rfl (sube_cons rfl (sube_nil _))))))))⟩)
                    | (refine ⟨(i + 1, (min (t + (l[i].c.toNat : Int) % 9) (now + 60 - 1)), (min (t + (l[i].c.toNat : Int) % 9) (now + 60 - 1)), (askD e (min (t + (l[i].c.toNat : Int) % 9) (now + 60 - 1)) (⟨1 + (l[i].a.toNat : Int) % 3, 600 + (i : Int), 1 + (l[i].b.toNat : Int) % 3, 1 + (l[i].c.toNat : Int) % 2⟩ : Wt)).1), ⟨by omega, by omega, by omega, by omega, gd_ask hg1 (by omega) (by omega) (by unfold okWt; dsimp only; omega), (time_ask (k := 3) hf1 (by dsimp only; omega) hk1).1, (time_ask (k := 3) hf1 (by dsimp only; omega) hk1).2⟩, by dsimp only; omega, (wk_env (sube_cons rfl (sube_cons rfl (sube_cons rfl (sube_cons rfl (sube_cons rfl (sube_cons rfl (sube_nil _))))))))⟩)
                    | (refine ⟨(i + 1, (min (t + (l[i].c.toNat : Int) % 9) (now + 60 - 1)), (min (t + (l[i].c.toNat : Int) % 9) (now + 60 - 1)), (askD e (min (t + (l[i].c.toNat : Int) % 9) (now + 60 - 1)) (⟨1 + (l[i].a.toNat : Int) % 3, 600 + (i : Int), 1 + (l[i].b.toNat : Int) % 3, 1 + (l[i].c.toNat : Int) % 2⟩ : Wt)).1), ⟨by omega, by omega, by omega, by omega, gd_ask hg1 (by omega) (by omega) (by unfold okWt; dsimp only; omega), (time_ask (k := 3) hf1 (by dsimp only; omega) hk1).1, (time_ask (k := 3) hf1 (by dsimp only; omega) hk1).2⟩, by dsimp only; omega, ((wk_perm (List.Perm.swap _ _ _)).trans (wk_env (sube_cons rfl (sube_cons rfl (sube_cons rfl (sube_cons rfl (sube_cons rfl (sube_cons rfl (sube_nil _)))))))))⟩)

end Go.Proofs.Ytdacnebhlgibhaa
