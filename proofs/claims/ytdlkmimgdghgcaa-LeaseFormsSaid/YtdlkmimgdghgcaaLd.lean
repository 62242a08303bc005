/- Own text: which leases may be. -/
import Derived.Test.YtdlkmimgdghgcaaLc
set_option linter.unusedVariables false
set_option linter.unusedSimpArgs false
set_option linter.all false
set_option maxRecDepth 100000
set_option maxHeartbeats 2000000
namespace Go.Proofs.Ytdlkmimgdghgcaa
open Go Go.Aw

def okL (x : L) : Prop := 1 ≤ x.c ∧ x.c ≤ 3 ∧ 1 ≤ x.f ∧ x.f ≤ 6 ∧ 1 ≤ x.m ∧ x.m ≤ 2 ∧ 0 ≤ x.u
def mayP (l : List L) : Prop := ∀ i (h : i < l.length), okL l[i] ∧ (0 < i → ordI (l[i - 1]'(by omega)) l[i] < 0)
noncomputable def may (l : List L) : Bool := @decide (mayP l) (Classical.propDecidable _)
theorem may_yes {l : List L} (h : mayP l) : may l = true := by unfold may; simpa using h
theorem may_no {l : List L} (h : ¬ mayP l) : may l = false := by unfold may; simpa using h

theorem mayWalk (l : List L) (hl : l.length ≤ 1000000) : Pur Try.prog 30 [ls l] (.sc (.bool (may l))) := by
  refine acallsN Try.func30 rfl Try.ntmps30 rfl ?_
  refine aw_seq ?_
  refine aw_region ?_
  refine aops_cons rfl rfl (AOp.assign rfl rfl ?_)
  refine aops_nil ?_
  refine aw_seq ?_
  refine aw_seq ?_
  refine aw_region ?_
  refine aops_cons rfl rfl (AOp.move rfl rfl ?_)
  first
  | refine aops_cons rfl rfl (AOp.lenS (by first | exact List.length_map _ | rfl) Try.underlying36 rfl rfl ?_)
  | refine aops_cons rfl rfl (AOp.lenN Try.underlying36 rfl rfl ?_)
  | refine aops_cons rfl rfl (AOp.lenR (by first | exact List.length_map _ | rfl) Try.underlying36 (.head _) rfl rfl ?_)
  | refine aops_cons rfl rfl (AOp.lenR (by first | exact List.length_map _ | rfl) Try.underlying36 (.tail _ (.head _)) rfl rfl ?_)
  | refine aops_cons rfl rfl (AOp.lenR (by first | exact List.length_map _ | rfl) Try.underlying36 (.tail _ (.tail _ (.head _))) rfl rfl ?_)
  | refine aops_cons rfl rfl (AOp.lenR (by first | exact List.length_map _ | rfl) Try.underlying36 (.tail _ (.tail _ (.tail _ (.head _)))) rfl rfl ?_)
  refine aops_cons rfl rfl (AOp.move rfl rfl ?_)
  refine aops_nil ?_
  refine aw_block ?_
  refine aw_loop (β := Nat) (S := (fun (z0 : Nat) => match z0 with | i => [(0, ls l), (5, ls l), (6, .sc (.int .i64 (l.length : Nat))), (7, .sc (.int .i64 (i : Int)))])) (B := (fun (z0 : Nat) => match z0 with | i => [])) (pre := (fun (z0 : Nat) => match z0 with | i => i ≤ l.length ∧ ∀ k (h : k < l.length), k < i → okL l[k] ∧ (0 < k → ordI (l[k - 1]'(by omega)) l[k] < 0))) (μ := (fun (z0 : Nat) => match z0 with | i => l.length - i)) 0 (wk_env (sube_cons rfl (sube_cons rfl (sube_cons rfl (sube_cons rfl (sube_nil _)))))) ?_ ?_
  · exact ⟨Nat.zero_le _, fun k h h0 => by omega⟩
  · rintro i ⟨hp, ha⟩
    change AW _ _ _ ([(0, ls l), (5, ls l), (6, .sc (.int .i64 (l.length : Nat))), (7, .sc (.int .i64 (i : Int)))] : Env) ([] : List Blk) _
    refine aw_seq ?_
    refine aw_region ?_
    refine aops_cons rfl rfl (AOp.lss rfl rfl rfl ?_)
    refine aops_nil ?_
    refine aw_seq ?_
    refine aw_cond _ rfl (fun h1 => ?_) (fun h1 => ?_)
    focus
      have h1_ := h1
      try simp only [List.length_map, List.length_cons, List.length_nil, nrm] at h1
      all_goals try (exfalso; first | (simp at h1_; done) | omega)
      all_goals
        refine aw_skip ?_
        skip
    rotate_right
    focus
      have h1_ := h1
      try simp only [List.length_map, List.length_cons, List.length_nil, nrm] at h1
      all_goals try (exfalso; first | (simp at h1_; done) | omega)
      all_goals
        refine aw_exit ?_
        refine aw_seq ?_
        refine aw_region ?_
        refine aops_cons rfl rfl (AOp.assign rfl rfl ?_)
        refine aops_nil ?_
        refine aw_weak (wk_drop (List.nil_sublist _)) ?_
        refine aw_ret ?_
        refine ⟨_, (res1 Try.results30 rfl), ?_⟩
        refine ⟨?_, rfl⟩
        rw [may_yes (fun k h => ha k h (by omega))]; rfl
    all_goals
      refine aw_seq ?_
      refine aw_block ?_
      refine aw_seq ?_
      refine aw_region ?_
      refine aops_cons rfl rfl (AOp.move rfl rfl ?_)
      first
      | refine aops_cons rfl rfl (AOp.indexLN Try.underlying36 Try.sizeOf58 rfl rfl rfl (by first | omega | (simp <;> omega) | (simp at * <;> omega)) (fun _ => rfl) ?_)
      | refine aops_cons rfl rfl (AOp.indexLI Try.underlying36 Try.sizeOf58 rfl rfl rfl (by first | omega | (simp <;> omega) | (simp at * <;> omega)) (by first | omega | (simp <;> omega) | (simp at * <;> omega)) (fun _ => rfl) ?_)
      | refine aops_cons rfl rfl (AOp.indexS Try.underlying36 Try.sizeOf58 (by assumption) rfl rfl rfl (by first | omega | (simp <;> omega) | (simp at * <;> omega)) (by assumption) ?_)
      | refine aops_cons rfl rfl (AOp.indexS Try.underlying36 Try.sizeOf58 (by assumption) rfl rfl rfl (by first | omega | (simp <;> omega) | (simp at * <;> omega)) (List.getElem?_eq_getElem (by first | omega | (simp <;> omega) | (simp at * <;> omega))) ?_)
      | refine aops_cons rfl rfl (AOp.indexS Try.underlying36 Try.sizeOf58 (by exact all_len rfl) rfl rfl rfl (by first | omega | (simp <;> omega) | (simp at * <;> omega)) rfl ?_)
      | refine aops_cons rfl rfl (AOp.indexR Try.underlying36 Try.sizeOf58 (.head _) rfl rfl rfl (by first | omega | (simp <;> omega) | (simp at * <;> omega)) (by first | omega | (simp <;> omega) | (simp at * <;> omega)) ?_)
      | refine aops_cons rfl rfl (AOp.indexR Try.underlying36 Try.sizeOf58 (.tail _ (.head _)) rfl rfl rfl (by first | omega | (simp <;> omega) | (simp at * <;> omega)) (by first | omega | (simp <;> omega) | (simp at * <;> omega)) ?_)
      | refine aops_cons rfl rfl (AOp.indexR Try.underlying36 Try.sizeOf58 (.tail _ (.tail _ (.head _))) rfl rfl rfl (by first | omega | (simp <;> omega) | (simp at * <;> omega)) (by first | omega | (simp <;> omega) | (simp at * <;> omega)) ?_)
      | refine aops_cons rfl rfl (AOp.indexR Try.underlying36 Try.sizeOf58 (.tail _ (.tail _ (.tail _ (.head _)))) rfl rfl rfl (by first | omega | (simp <;> omega) | (simp at * <;> omega)) (by first | omega | (simp <;> omega) | (simp at * <;> omega)) ?_)
      first
      | refine aops_cons rfl rfl (AOp.loadN Try.isAgg58 Try.sizeOf58 rfl rfl (reads_im _ _) rfl rfl ?_)
      | refine aops_cons rfl rfl (AOp.loadN Try.isAgg58 Try.sizeOf58 rfl rfl (reads_box _ (.head _)) rfl rfl ?_)
      | refine aops_cons rfl rfl (AOp.loadN Try.isAgg58 Try.sizeOf58 rfl rfl (reads_box _ (.tail _ (.head _))) rfl rfl ?_)
      | refine aops_cons rfl rfl (AOp.loadN Try.isAgg58 Try.sizeOf58 rfl rfl (reads_box _ (.tail _ (.tail _ (.head _)))) rfl rfl ?_)
      | refine aops_cons rfl rfl (AOp.loadN Try.isAgg58 Try.sizeOf58 rfl rfl (reads_box _ (.tail _ (.tail _ (.tail _ (.head _))))) rfl rfl ?_)
      | refine aops_cons rfl rfl (AOp.loadN Try.isAgg58 Try.sizeOf58 rfl rfl (reads_row _ (.head _) (idx_nat (by first | omega | (simp <;> omega) | (simp at * <;> omega))) (by first | omega | (simp <;> omega) | (simp at * <;> omega))) rfl rfl ?_)
      | refine aops_cons rfl rfl (AOp.loadN Try.isAgg58 Try.sizeOf58 rfl rfl (reads_row _ (.head _) (idx_map (by first | omega | (simp <;> omega) | (simp at * <;> omega))) (by first | omega | (simp <;> omega) | (simp at * <;> omega))) rfl rfl ?_)
      | refine aops_cons rfl rfl (AOp.loadN Try.isAgg58 Try.sizeOf58 rfl rfl (reads_row _ (.head _) (by assumption) (by first | omega | (simp <;> omega) | (simp at * <;> omega))) rfl rfl ?_)
      | refine aops_cons rfl rfl (AOp.loadN Try.isAgg58 Try.sizeOf58 rfl rfl (reads_row _ (.tail _ (.head _)) (idx_nat (by first | omega | (simp <;> omega) | (simp at * <;> omega))) (by first | omega | (simp <;> omega) | (simp at * <;> omega))) rfl rfl ?_)
      | refine aops_cons rfl rfl (AOp.loadN Try.isAgg58 Try.sizeOf58 rfl rfl (reads_row _ (.tail _ (.head _)) (idx_map (by first | omega | (simp <;> omega) | (simp at * <;> omega))) (by first | omega | (simp <;> omega) | (simp at * <;> omega))) rfl rfl ?_)
      | refine aops_cons rfl rfl (AOp.loadN Try.isAgg58 Try.sizeOf58 rfl rfl (reads_row _ (.tail _ (.head _)) (by assumption) (by first | omega | (simp <;> omega) | (simp at * <;> omega))) rfl rfl ?_)
      | refine aops_cons rfl rfl (AOp.loadN Try.isAgg58 Try.sizeOf58 rfl rfl (reads_row _ (.tail _ (.tail _ (.head _))) (idx_nat (by first | omega | (simp <;> omega) | (simp at * <;> omega))) (by first | omega | (simp <;> omega) | (simp at * <;> omega))) rfl rfl ?_)
      | refine aops_cons rfl rfl (AOp.loadN Try.isAgg58 Try.sizeOf58 rfl rfl (reads_row _ (.tail _ (.tail _ (.head _))) (idx_map (by first | omega | (simp <;> omega) | (simp at * <;> omega))) (by first | omega | (simp <;> omega) | (simp at * <;> omega))) rfl rfl ?_)
      | refine aops_cons rfl rfl (AOp.loadN Try.isAgg58 Try.sizeOf58 rfl rfl (reads_row _ (.tail _ (.tail _ (.head _))) (by assumption) (by first | omega | (simp <;> omega) | (simp at * <;> omega))) rfl rfl ?_)
      | refine aops_cons rfl rfl (AOp.loadN Try.isAgg58 Try.sizeOf58 rfl rfl (reads_row _ (.tail _ (.tail _ (.tail _ (.head _)))) (idx_nat (by first | omega | (simp <;> omega) | (simp at * <;> omega))) (by first | omega | (simp <;> omega) | (simp at * <;> omega))) rfl rfl ?_)
      | refine aops_cons rfl rfl (AOp.loadN Try.isAgg58 Try.sizeOf58 rfl rfl (reads_row _ (.tail _ (.tail _ (.tail _ (.head _)))) (idx_map (by first | omega | (simp <;> omega) | (simp at * <;> omega))) (by first | omega | (simp <;> omega) | (simp at * <;> omega))) rfl rfl ?_)
      | refine aops_cons rfl rfl (AOp.loadN Try.isAgg58 Try.sizeOf58 rfl rfl (reads_row _ (.tail _ (.tail _ (.tail _ (.head _)))) (by assumption) (by first | omega | (simp <;> omega) | (simp at * <;> omega))) rfl rfl ?_)
      refine aops_cons rfl rfl (AOp.alloc Try.zeroValue58 (by kernel_rfl) rfl rfl ?_); intro b1
      refine aops_cons rfl rfl (AOp.assign rfl rfl ?_)
      first
      | refine aops_cons rfl rfl (AOp.storeB' Try.sizeOf58 rfl rfl rfl rfl rfl (pull_here _ _) rfl rfl ?_)
      | refine aops_cons rfl rfl (AOp.storeB' Try.sizeOf58 rfl rfl rfl rfl rfl (pull_there (pull_here _ _)) rfl rfl ?_)
      | refine aops_cons rfl rfl (AOp.storeB' Try.sizeOf58 rfl rfl rfl rfl rfl (pull_there (pull_there (pull_here _ _))) rfl rfl ?_)
      | refine aops_cons rfl rfl (AOp.storeB' Try.sizeOf58 rfl rfl rfl rfl rfl (pull_there (pull_there (pull_there (pull_here _ _)))) rfl rfl ?_)
      | refine aops_cons rfl rfl (AOp.storeR' Try.sizeOf58 rfl rfl rfl rfl rfl (pull_here _ _) (by first | exact idx_nat (by first | omega | (simp <;> omega) | (simp at * <;> omega)) | exact idx_map (by first | omega | (simp <;> omega) | (simp at * <;> omega)) | assumption) rfl rfl rfl ?_)
      | refine aops_cons rfl rfl (AOp.storeR' Try.sizeOf58 rfl rfl rfl rfl rfl (pull_there (pull_here _ _)) (by first | exact idx_nat (by first | omega | (simp <;> omega) | (simp at * <;> omega)) | exact idx_map (by first | omega | (simp <;> omega) | (simp at * <;> omega)) | assumption) rfl rfl rfl ?_)
      | refine aops_cons rfl rfl (AOp.storeR' Try.sizeOf58 rfl rfl rfl rfl rfl (pull_there (pull_there (pull_here _ _))) (by first | exact idx_nat (by first | omega | (simp <;> omega) | (simp at * <;> omega)) | exact idx_map (by first | omega | (simp <;> omega) | (simp at * <;> omega)) | assumption) rfl rfl rfl ?_)
      | refine aops_cons rfl rfl (AOp.storeR' Try.sizeOf58 rfl rfl rfl rfl rfl (pull_there (pull_there (pull_there (pull_here _ _)))) (by first | exact idx_nat (by first | omega | (simp <;> omega) | (simp at * <;> omega)) | exact idx_map (by first | omega | (simp <;> omega) | (simp at * <;> omega)) | assumption) rfl rfl rfl ?_)
      refine aops_nil ?_
      refine aw_seq ?_
      refine aw_seq ?_
      refine aw_region ?_
      first
      | refine aops_cons rfl rfl (AOp.fieldI Try.underlying58 rfl Try.sizeOf3 (by decide) rfl rfl rfl ?_)
      | refine aops_cons rfl rfl (AOp.fieldB Try.underlying58 rfl Try.sizeOf3 (by decide) rfl rfl rfl ?_)
      | refine aops_cons rfl rfl (AOp.fieldR Try.underlying58 rfl Try.sizeOf3 (by decide) rfl rfl rfl ?_)
      first
      | refine aops_cons rfl rfl (AOp.load1 Try.isAgg3 rfl rfl (reads_im _ _) rfl ?_)
      | refine aops_cons rfl rfl (AOp.load1 Try.isAgg3 rfl rfl (reads_box _ (.head _)) rfl ?_)
      | refine aops_cons rfl rfl (AOp.load1 Try.isAgg3 rfl rfl (reads_box _ (.tail _ (.head _))) rfl ?_)
      | refine aops_cons rfl rfl (AOp.load1 Try.isAgg3 rfl rfl (reads_box _ (.tail _ (.tail _ (.head _)))) rfl ?_)
      | refine aops_cons rfl rfl (AOp.load1 Try.isAgg3 rfl rfl (reads_box _ (.tail _ (.tail _ (.tail _ (.head _))))) rfl ?_)
      | refine aops_cons rfl rfl (AOp.load1 Try.isAgg3 rfl rfl (reads_row _ (.head _) (idx_nat (by first | omega | (simp <;> omega) | (simp at * <;> omega))) (by first | omega | (simp <;> omega) | (simp at * <;> omega))) rfl ?_)
      | refine aops_cons rfl rfl (AOp.load1 Try.isAgg3 rfl rfl (reads_row _ (.head _) (idx_map (by first | omega | (simp <;> omega) | (simp at * <;> omega))) (by first | omega | (simp <;> omega) | (simp at * <;> omega))) rfl ?_)
      | refine aops_cons rfl rfl (AOp.load1 Try.isAgg3 rfl rfl (reads_row _ (.head _) (by assumption) (by first | omega | (simp <;> omega) | (simp at * <;> omega))) rfl ?_)
      | refine aops_cons rfl rfl (AOp.load1 Try.isAgg3 rfl rfl (reads_row _ (.tail _ (.head _)) (idx_nat (by first | omega | (simp <;> omega) | (simp at * <;> omega))) (by first | omega | (simp <;> omega) | (simp at * <;> omega))) rfl ?_)
      | refine aops_cons rfl rfl (AOp.load1 Try.isAgg3 rfl rfl (reads_row _ (.tail _ (.head _)) (idx_map (by first | omega | (simp <;> omega) | (simp at * <;> omega))) (by first | omega | (simp <;> omega) | (simp at * <;> omega))) rfl ?_)
      | refine aops_cons rfl rfl (AOp.load1 Try.isAgg3 rfl rfl (reads_row _ (.tail _ (.head _)) (by assumption) (by first | omega | (simp <;> omega) | (simp at * <;> omega))) rfl ?_)
      | refine aops_cons rfl rfl (AOp.load1 Try.isAgg3 rfl rfl (reads_row _ (.tail _ (.tail _ (.head _))) (idx_nat (by first | omega | (simp <;> omega) | (simp at * <;> omega))) (by first | omega | (simp <;> omega) | (simp at * <;> omega))) rfl ?_)
      | refine aops_cons rfl rfl (AOp.load1 Try.isAgg3 rfl rfl (reads_row _ (.tail _ (.tail _ (.head _))) (idx_map (by first | omega | (simp <;> omega) | (simp at * <;> omega))) (by first | omega | (simp <;> omega) | (simp at * <;> omega))) rfl ?_)
      | refine aops_cons rfl rfl (AOp.load1 Try.isAgg3 rfl rfl (reads_row _ (.tail _ (.tail _ (.head _))) (by assumption) (by first | omega | (simp <;> omega) | (simp at * <;> omega))) rfl ?_)
      | refine aops_cons rfl rfl (AOp.load1 Try.isAgg3 rfl rfl (reads_row _ (.tail _ (.tail _ (.tail _ (.head _)))) (idx_nat (by first | omega | (simp <;> omega) | (simp at * <;> omega))) (by first | omega | (simp <;> omega) | (simp at * <;> omega))) rfl ?_)
      | refine aops_cons rfl rfl (AOp.load1 Try.isAgg3 rfl rfl (reads_row _ (.tail _ (.tail _ (.tail _ (.head _)))) (idx_map (by first | omega | (simp <;> omega) | (simp at * <;> omega))) (by first | omega | (simp <;> omega) | (simp at * <;> omega))) rfl ?_)
      | refine aops_cons rfl rfl (AOp.load1 Try.isAgg3 rfl rfl (reads_row _ (.tail _ (.tail _ (.tail _ (.head _)))) (by assumption) (by first | omega | (simp <;> omega) | (simp at * <;> omega))) rfl ?_)
      refine aops_cons rfl rfl (AOp.lss rfl rfl rfl ?_)
      refine aops_cons rfl rfl (AOp.move rfl rfl ?_)
      refine aops_guard 3 false 15 _ rfl rfl rfl rfl rfl (fun g2 => ?_) (fun g2 => ?_)
      focus
        have g2_ := g2
        try simp only [List.length_map, List.length_cons, List.length_nil, nrm] at g2
        all_goals try (exfalso; first | (simp at g2_; done) | omega)
        all_goals
          first
          | refine AOp.fieldI Try.underlying58 rfl Try.sizeOf3 (by decide) rfl rfl rfl ?_
          | refine AOp.fieldB Try.underlying58 rfl Try.sizeOf3 (by decide) rfl rfl rfl ?_
          | refine AOp.fieldR Try.underlying58 rfl Try.sizeOf3 (by decide) rfl rfl rfl ?_
          refine aops_guard 3 false 15 _ rfl rfl rfl rfl rfl (fun _ => ?_) (fun hh => by exfalso; first | (rw [g2_] at hh; exact absurd hh (by decide)) | (revert hh; simp [g2_]))
          first
          | refine AOp.load1 Try.isAgg3 rfl rfl (reads_im _ _) rfl ?_
          | refine AOp.load1 Try.isAgg3 rfl rfl (reads_box _ (.head _)) rfl ?_
          | refine AOp.load1 Try.isAgg3 rfl rfl (reads_box _ (.tail _ (.head _))) rfl ?_
          | refine AOp.load1 Try.isAgg3 rfl rfl (reads_box _ (.tail _ (.tail _ (.head _)))) rfl ?_
          | refine AOp.load1 Try.isAgg3 rfl rfl (reads_box _ (.tail _ (.tail _ (.tail _ (.head _))))) rfl ?_
          | refine AOp.load1 Try.isAgg3 rfl rfl (reads_row _ (.head _) (idx_nat (by first | omega | (simp <;> omega) | (simp at * <;> omega))) (by first | omega | (simp <;> omega) | (simp at * <;> omega))) rfl ?_
          | refine AOp.load1 Try.isAgg3 rfl rfl (reads_row _ (.head _) (idx_map (by first | omega | (simp <;> omega) | (simp at * <;> omega))) (by first | omega | (simp <;> omega) | (simp at * <;> omega))) rfl ?_
          | refine AOp.load1 Try.isAgg3 rfl rfl (reads_row _ (.head _) (by assumption) (by first | omega | (simp <;> omega) | (simp at * <;> omega))) rfl ?_
          | refine AOp.load1 Try.isAgg3 rfl rfl (reads_row _ (.tail _ (.head _)) (idx_nat (by first | omega | (simp <;> omega) | (simp at * <;> omega))) (by first | omega | (simp <;> omega) | (simp at * <;> omega))) rfl ?_
          | refine AOp.load1 Try.isAgg3 rfl rfl (reads_row _ (.tail _ (.head _)) (idx_map (by first | omega | (simp <;> omega) | (simp at * <;> omega))) (by first | omega | (simp <;> omega) | (simp at * <;> omega))) rfl ?_
          | refine AOp.load1 Try.isAgg3 rfl rfl (reads_row _ (.tail _ (.head _)) (by assumption) (by first | omega | (simp <;> omega) | (simp at * <;> omega))) rfl ?_
          | refine AOp.load1 Try.isAgg3 rfl rfl (reads_row _ (.tail _ (.tail _ (.head _))) (idx_nat (by first | omega | (simp <;> omega) | (simp at * <;> omega))) (by first | omega | (simp <;> omega) | (simp at * <;> omega))) rfl ?_
          | refine AOp.load1 Try.isAgg3 rfl rfl (reads_row _ (.tail _ (.tail _ (.head _))) (idx_map (by first | omega | (simp <;> omega) | (simp at * <;> omega))) (by first | omega | (simp <;> omega) | (simp at * <;> omega))) rfl ?_
          | refine AOp.load1 Try.isAgg3 rfl rfl (reads_row _ (.tail _ (.tail _ (.head _))) (by assumption) (by first | omega | (simp <;> omega) | (simp at * <;> omega))) rfl ?_
          | refine AOp.load1 Try.isAgg3 rfl rfl (reads_row _ (.tail _ (.tail _ (.tail _ (.head _)))) (idx_nat (by first | omega | (simp <;> omega) | (simp at * <;> omega))) (by first | omega | (simp <;> omega) | (simp at * <;> omega))) rfl ?_
          | refine AOp.load1 Try.isAgg3 rfl rfl (reads_row _ (.tail _ (.tail _ (.tail _ (.head _)))) (idx_map (by first | omega | (simp <;> omega) | (simp at * <;> omega))) (by first | omega | (simp <;> omega) | (simp at * <;> omega))) rfl ?_
          | refine AOp.load1 Try.isAgg3 rfl rfl (reads_row _ (.tail _ (.tail _ (.tail _ (.head _)))) (by assumption) (by first | omega | (simp <;> omega) | (simp at * <;> omega))) rfl ?_
          refine aops_guard 3 false 15 _ rfl rfl rfl rfl rfl (fun _ => ?_) (fun hh => by exfalso; first | (rw [g2_] at hh; exact absurd hh (by decide)) | (revert hh; simp [g2_]))
          refine AOp.gtr rfl rfl rfl ?_
      rotate_right
      focus
        have g2_ := g2
        try simp only [List.length_map, List.length_cons, List.length_nil, nrm] at g2
        all_goals try (exfalso; first | (simp at g2_; done) | omega)
        all_goals
          refine aops_guard 3 false 15 _ rfl rfl rfl rfl rfl (fun hh => by exfalso; first | (rw [g2_] at hh; exact absurd hh (by decide)) | (revert hh; simp [g2_])) (fun _ => ?_)
          refine aops_guard 3 false 15 _ rfl rfl rfl rfl rfl (fun hh => by exfalso; first | (rw [g2_] at hh; exact absurd hh (by decide)) | (revert hh; simp [g2_])) (fun _ => ?_)
      all_goals
        first
        | refine aops_cons rfl rfl (AOp.pick_t rfl rfl (by first | assumption | rfl) rfl ?_)
        | refine aops_cons rfl rfl (AOp.pick_f rfl rfl (by first | assumption | rfl) rfl ?_)
        refine aops_cons rfl rfl (AOp.move rfl rfl ?_)
        refine aops_guard 8 false 20 _ rfl rfl rfl rfl rfl (fun g3 => ?_) (fun g3 => ?_)
        focus
          have g3_ := g3
          try simp only [List.length_map, List.length_cons, List.length_nil, nrm] at g3
          all_goals try (exfalso; first | (simp at g3_; done) | omega)
          all_goals
            first
            | refine AOp.fieldI Try.underlying58 rfl Try.sizeOf3 (by decide) rfl rfl rfl ?_
            | refine AOp.fieldB Try.underlying58 rfl Try.sizeOf3 (by decide) rfl rfl rfl ?_
            | refine AOp.fieldR Try.underlying58 rfl Try.sizeOf3 (by decide) rfl rfl rfl ?_
            refine aops_guard 8 false 20 _ rfl rfl rfl rfl rfl (fun _ => ?_) (fun hh => by exfalso; first | (rw [g3_] at hh; exact absurd hh (by decide)) | (revert hh; simp [g3_]))
            first
            | refine AOp.load1 Try.isAgg3 rfl rfl (reads_im _ _) rfl ?_
            | refine AOp.load1 Try.isAgg3 rfl rfl (reads_box _ (.head _)) rfl ?_
            | refine AOp.load1 Try.isAgg3 rfl rfl (reads_box _ (.tail _ (.head _))) rfl ?_
            | refine AOp.load1 Try.isAgg3 rfl rfl (reads_box _ (.tail _ (.tail _ (.head _)))) rfl ?_
            | refine AOp.load1 Try.isAgg3 rfl rfl (reads_box _ (.tail _ (.tail _ (.tail _ (.head _))))) rfl ?_
            | refine AOp.load1 Try.isAgg3 rfl rfl (reads_row _ (.head _) (idx_nat (by first | omega | (simp <;> omega) | (simp at * <;> omega))) (by first | omega | (simp <;> omega) | (simp at * <;> omega))) rfl ?_
            | refine AOp.load1 Try.isAgg3 rfl rfl (reads_row _ (.head _) (idx_map (by first | omega | (simp <;> omega) | (simp at * <;> omega))) (by first | omega | (simp <;> omega) | (simp at * <;> omega))) rfl ?_
            | refine AOp.load1 Try.isAgg3 rfl rfl (reads_row _ (.head _) (by assumption) (by first | omega | (simp <;> omega) | (simp at * <;> omega))) rfl ?_
            | refine AOp.load1 Try.isAgg3 rfl rfl (reads_row _ (.tail _ (.head _)) (idx_nat (by first | omega | (simp <;> omega) | (simp at * <;> omega))) (by first | omega | (simp <;> omega) | (simp at * <;> omega))) rfl ?_
            | refine AOp.load1 Try.isAgg3 rfl rfl (reads_row _ (.tail _ (.head _)) (idx_map (by first | omega | (simp <;> omega) | (simp at * <;> omega))) (by first | omega | (simp <;> omega) | (simp at * <;> omega))) rfl ?_
            | refine AOp.load1 Try.isAgg3 rfl rfl (reads_row _ (.tail _ (.head _)) (by assumption) (by first | omega | (simp <;> omega) | (simp at * <;> omega))) rfl ?_
            | refine AOp.load1 Try.isAgg3 rfl rfl (reads_row _ (.tail _ (.tail _ (.head _))) (idx_nat (by first | omega | (simp <;> omega) | (simp at * <;> omega))) (by first | omega | (simp <;> omega) | (simp at * <;> omega))) rfl ?_
            | refine AOp.load1 Try.isAgg3 rfl rfl (reads_row _ (.tail _ (.tail _ (.head _))) (idx_map (by first | omega | (simp <;> omega) | (simp at * <;> omega))) (by first | omega | (simp <;> omega) | (simp at * <;> omega))) rfl ?_
            | refine AOp.load1 Try.isAgg3 rfl rfl (reads_row _ (.tail _ (.tail _ (.head _))) (by assumption) (by first | omega | (simp <;> omega) | (simp at * <;> omega))) rfl ?_
            | refine AOp.load1 Try.isAgg3 rfl rfl (reads_row _ (.tail _ (.tail _ (.tail _ (.head _)))) (idx_nat (by first | omega | (simp <;> omega) | (simp at * <;> omega))) (by first | omega | (simp <;> omega) | (simp at * <;> omega))) rfl ?_
            | refine AOp.load1 Try.isAgg3 rfl rfl (reads_row _ (.tail _ (.tail _ (.tail _ (.head _)))) (idx_map (by first | omega | (simp <;> omega) | (simp at * <;> omega))) (by first | omega | (simp <;> omega) | (simp at * <;> omega))) rfl ?_
            | refine AOp.load1 Try.isAgg3 rfl rfl (reads_row _ (.tail _ (.tail _ (.tail _ (.head _)))) (by assumption) (by first | omega | (simp <;> omega) | (simp at * <;> omega))) rfl ?_
            refine aops_guard 8 false 20 _ rfl rfl rfl rfl rfl (fun _ => ?_) (fun hh => by exfalso; first | (rw [g3_] at hh; exact absurd hh (by decide)) | (revert hh; simp [g3_]))
            refine AOp.lss rfl rfl rfl ?_
        rotate_right
        focus
          have g3_ := g3
          try simp only [List.length_map, List.length_cons, List.length_nil, nrm] at g3
          all_goals try (exfalso; first | (simp at g3_; done) | omega)
          all_goals
            refine aops_guard 8 false 20 _ rfl rfl rfl rfl rfl (fun hh => by exfalso; first | (rw [g3_] at hh; exact absurd hh (by decide)) | (revert hh; simp [g3_])) (fun _ => ?_)
            refine aops_guard 8 false 20 _ rfl rfl rfl rfl rfl (fun hh => by exfalso; first | (rw [g3_] at hh; exact absurd hh (by decide)) | (revert hh; simp [g3_])) (fun _ => ?_)
        all_goals
          first
          | refine aops_cons rfl rfl (AOp.pick_t rfl rfl (by first | assumption | rfl) rfl ?_)
          | refine aops_cons rfl rfl (AOp.pick_f rfl rfl (by first | assumption | rfl) rfl ?_)
          refine aops_cons rfl rfl (AOp.move rfl rfl ?_)
          refine aops_guard 13 false 25 _ rfl rfl rfl rfl rfl (fun g4 => ?_) (fun g4 => ?_)
          focus
            have g4_ := g4
            try simp only [List.length_map, List.length_cons, List.length_nil, nrm] at g4
            all_goals try (exfalso; first | (simp at g4_; done) | omega)
            all_goals
              first
              | refine AOp.fieldI Try.underlying58 rfl Try.sizeOf3 (by decide) rfl rfl rfl ?_
              | refine AOp.fieldB Try.underlying58 rfl Try.sizeOf3 (by decide) rfl rfl rfl ?_
              | refine AOp.fieldR Try.underlying58 rfl Try.sizeOf3 (by decide) rfl rfl rfl ?_
              refine aops_guard 13 false 25 _ rfl rfl rfl rfl rfl (fun _ => ?_) (fun hh => by exfalso; first | (rw [g4_] at hh; exact absurd hh (by decide)) | (revert hh; simp [g4_]))
              first
              | refine AOp.load1 Try.isAgg3 rfl rfl (reads_im _ _) rfl ?_
              | refine AOp.load1 Try.isAgg3 rfl rfl (reads_box _ (.head _)) rfl ?_
              | refine AOp.load1 Try.isAgg3 rfl rfl (reads_box _ (.tail _ (.head _))) rfl ?_
              | refine AOp.load1 Try.isAgg3 rfl rfl (reads_box _ (.tail _ (.tail _ (.head _)))) rfl ?_
              | refine AOp.load1 Try.isAgg3 rfl rfl (reads_box _ (.tail _ (.tail _ (.tail _ (.head _))))) rfl ?_
              | refine AOp.load1 Try.isAgg3 rfl rfl (reads_row _ (.head _) (idx_nat (by first | omega | (simp <;> omega) | (simp at * <;> omega))) (by first | omega | (simp <;> omega) | (simp at * <;> omega))) rfl ?_
              | refine AOp.load1 Try.isAgg3 rfl rfl (reads_row _ (.head _) (idx_map (by first | omega | (simp <;> omega) | (simp at * <;> omega))) (by first | omega | (simp <;> omega) | (simp at * <;> omega))) rfl ?_
              | refine AOp.load1 Try.isAgg3 rfl rfl (reads_row _ (.head _) (by assumption) (by first | omega | (simp <;> omega) | (simp at * <;> omega))) rfl ?_
              | refine AOp.load1 Try.isAgg3 rfl rfl (reads_row _ (.tail _ (.head _)) (idx_nat (by first | omega | (simp <;> omega) | (simp at * <;> omega))) (by first | omega | (simp <;> omega) | (simp at * <;> omega))) rfl ?_
              | refine AOp.load1 Try.isAgg3 rfl rfl (reads_row _ (.tail _ (.head _)) (idx_map (by first | omega | (simp <;> omega) | (simp at * <;> omega))) (by first | omega | (simp <;> omega) | (simp at * <;> omega))) rfl ?_
              | refine AOp.load1 Try.isAgg3 rfl rfl (reads_row _ (.tail _ (.head _)) (by assumption) (by first | omega | (simp <;> omega) | (simp at * <;> omega))) rfl ?_
              | refine AOp.load1 Try.isAgg3 rfl rfl (reads_row _ (.tail _ (.tail _ (.head _))) (idx_nat (by first | omega | (simp <;> omega) | (simp at * <;> omega))) (by first | omega | (simp <;> omega) | (simp at * <;> omega))) rfl ?_
              | refine AOp.load1 Try.isAgg3 rfl rfl (reads_row _ (.tail _ (.tail _ (.head _))) (idx_map (by first | omega | (simp <;> omega) | (simp at * <;> omega))) (by first | omega | (simp <;> omega) | (simp at * <;> omega))) rfl ?_
              | refine AOp.load1 Try.isAgg3 rfl rfl (reads_row _ (.tail _ (.tail _ (.head _))) (by assumption) (by first | omega | (simp <;> omega) | (simp at * <;> omega))) rfl ?_
              | refine AOp.load1 Try.isAgg3 rfl rfl (reads_row _ (.tail _ (.tail _ (.tail _ (.head _)))) (idx_nat (by first | omega | (simp <;> omega) | (simp at * <;> omega))) (by first | omega | (simp <;> omega) | (simp at * <;> omega))) rfl ?_
              | refine AOp.load1 Try.isAgg3 rfl rfl (reads_row _ (.tail _ (.tail _ (.tail _ (.head _)))) (idx_map (by first | omega | (simp <;> omega) | (simp at * <;> omega))) (by first | omega | (simp <;> omega) | (simp at * <;> omega))) rfl ?_
              | refine AOp.load1 Try.isAgg3 rfl rfl (reads_row _ (.tail _ (.tail _ (.tail _ (.head _)))) (by assumption) (by first | omega | (simp <;> omega) | (simp at * <;> omega))) rfl ?_
              refine aops_guard 13 false 25 _ rfl rfl rfl rfl rfl (fun _ => ?_) (fun hh => by exfalso; first | (rw [g4_] at hh; exact absurd hh (by decide)) | (revert hh; simp [g4_]))
              refine AOp.gtr rfl rfl rfl ?_
          rotate_right
          focus
            have g4_ := g4
            try simp only [List.length_map, List.length_cons, List.length_nil, nrm] at g4
            all_goals try (exfalso; first | (simp at g4_; done) | omega)
            all_goals
              refine aops_guard 13 false 25 _ rfl rfl rfl rfl rfl (fun hh => by exfalso; first | (rw [g4_] at hh; exact absurd hh (by decide)) | (revert hh; simp [g4_])) (fun _ => ?_)
              refine aops_guard 13 false 25 _ rfl rfl rfl rfl rfl (fun hh => by exfalso; first | (rw [g4_] at hh; exact absurd hh (by decide)) | (revert hh; simp [g4_])) (fun _ => ?_)
          all_goals
            first
            | refine aops_cons rfl rfl (AOp.pick_t rfl rfl (by first | assumption | rfl) rfl ?_)
            | refine aops_cons rfl rfl (AOp.pick_f rfl rfl (by first | assumption | rfl) rfl ?_)
            refine aops_cons rfl rfl (AOp.move rfl rfl ?_)
            refine aops_guard 18 false 30 _ rfl rfl rfl rfl rfl (fun g5 => ?_) (fun g5 => ?_)
            focus
              have g5_ := g5
              try simp only [List.length_map, List.length_cons, List.length_nil, nrm] at g5
              all_goals try (exfalso; first | (simp at g5_; done) | omega)
              all_goals
                first
                | refine AOp.fieldI Try.underlying58 rfl Try.sizeOf3 (by decide) rfl rfl rfl ?_
                | refine AOp.fieldB Try.underlying58 rfl Try.sizeOf3 (by decide) rfl rfl rfl ?_
                | refine AOp.fieldR Try.underlying58 rfl Try.sizeOf3 (by decide) rfl rfl rfl ?_
                refine aops_guard 18 false 30 _ rfl rfl rfl rfl rfl (fun _ => ?_) (fun hh => by exfalso; first | (rw [g5_] at hh; exact absurd hh (by decide)) | (revert hh; simp [g5_]))
                first
                | refine AOp.load1 Try.isAgg3 rfl rfl (reads_im _ _) rfl ?_
                | refine AOp.load1 Try.isAgg3 rfl rfl (reads_box _ (.head _)) rfl ?_
                | refine AOp.load1 Try.isAgg3 rfl rfl (reads_box _ (.tail _ (.head _))) rfl ?_
                | refine AOp.load1 Try.isAgg3 rfl rfl (reads_box _ (.tail _ (.tail _ (.head _)))) rfl ?_
                | refine AOp.load1 Try.isAgg3 rfl rfl (reads_box _ (.tail _ (.tail _ (.tail _ (.head _))))) rfl ?_
                | refine AOp.load1 Try.isAgg3 rfl rfl (reads_row _ (.head _) (idx_nat (by first | omega | (simp <;> omega) | (simp at * <;> omega))) (by first | omega | (simp <;> omega) | (simp at * <;> omega))) rfl ?_
                | refine AOp.load1 Try.isAgg3 rfl rfl (reads_row _ (.head _) (idx_map (by first | omega | (simp <;> omega) | (simp at * <;> omega))) (by first | omega | (simp <;> omega) | (simp at * <;> omega))) rfl ?_
                | refine AOp.load1 Try.isAgg3 rfl rfl (reads_row _ (.head _) (by assumption) (by first | omega | (simp <;> omega) | (simp at * <;> omega))) rfl ?_
                | refine AOp.load1 Try.isAgg3 rfl rfl (reads_row _ (.tail _ (.head _)) (idx_nat (by first | omega | (simp <;> omega) | (simp at * <;> omega))) (by first | omega | (simp <;> omega) | (simp at * <;> omega))) rfl ?_
                | refine AOp.load1 Try.isAgg3 rfl rfl (reads_row _ (.tail _ (.head _)) (idx_map (by first | omega | (simp <;> omega) | (simp at * <;> omega))) (by first | omega | (simp <;> omega) | (simp at * <;> omega))) rfl ?_
                | refine AOp.load1 Try.isAgg3 rfl rfl (reads_row _ (.tail _ (.head _)) (by assumption) (by first | omega | (simp <;> omega) | (simp at * <;> omega))) rfl ?_
                | refine AOp.load1 Try.isAgg3 rfl rfl (reads_row _ (.tail _ (.tail _ (.head _))) (idx_nat (by first | omega | (simp <;> omega) | (simp at * <;> omega))) (by first | omega | (simp <;> omega) | (simp at * <;> omega))) rfl ?_
                | refine AOp.load1 Try.isAgg3 rfl rfl (reads_row _ (.tail _ (.tail _ (.head _))) (idx_map (by first | omega | (simp <;> omega) | (simp at * <;> omega))) (by first | omega | (simp <;> omega) | (simp at * <;> omega))) rfl ?_
                | refine AOp.load1 Try.isAgg3 rfl rfl (reads_row _ (.tail _ (.tail _ (.head _))) (by assumption) (by first | omega | (simp <;> omega) | (simp at * <;> omega))) rfl ?_
                | refine AOp.load1 Try.isAgg3 rfl rfl (reads_row _ (.tail _ (.tail _ (.tail _ (.head _)))) (idx_nat (by first | omega | (simp <;> omega) | (simp at * <;> omega))) (by first | omega | (simp <;> omega) | (simp at * <;> omega))) rfl ?_
                | refine AOp.load1 Try.isAgg3 rfl rfl (reads_row _ (.tail _ (.tail _ (.tail _ (.head _)))) (idx_map (by first | omega | (simp <;> omega) | (simp at * <;> omega))) (by first | omega | (simp <;> omega) | (simp at * <;> omega))) rfl ?_
                | refine AOp.load1 Try.isAgg3 rfl rfl (reads_row _ (.tail _ (.tail _ (.tail _ (.head _)))) (by assumption) (by first | omega | (simp <;> omega) | (simp at * <;> omega))) rfl ?_
                refine aops_guard 18 false 30 _ rfl rfl rfl rfl rfl (fun _ => ?_) (fun hh => by exfalso; first | (rw [g5_] at hh; exact absurd hh (by decide)) | (revert hh; simp [g5_]))
                refine AOp.lss rfl rfl rfl ?_
            rotate_right
            focus
              have g5_ := g5
              try simp only [List.length_map, List.length_cons, List.length_nil, nrm] at g5
              all_goals try (exfalso; first | (simp at g5_; done) | omega)
              all_goals
                refine aops_guard 18 false 30 _ rfl rfl rfl rfl rfl (fun hh => by exfalso; first | (rw [g5_] at hh; exact absurd hh (by decide)) | (revert hh; simp [g5_])) (fun _ => ?_)
                refine aops_guard 18 false 30 _ rfl rfl rfl rfl rfl (fun hh => by exfalso; first | (rw [g5_] at hh; exact absurd hh (by decide)) | (revert hh; simp [g5_])) (fun _ => ?_)
            all_goals
              first
              | refine aops_cons rfl rfl (AOp.pick_t rfl rfl (by first | assumption | rfl) rfl ?_)
              | refine aops_cons rfl rfl (AOp.pick_f rfl rfl (by first | assumption | rfl) rfl ?_)
              refine aops_cons rfl rfl (AOp.move rfl rfl ?_)
              refine aops_guard 23 false 35 _ rfl rfl rfl rfl rfl (fun g6 => ?_) (fun g6 => ?_)
              focus
                have g6_ := g6
                try simp only [List.length_map, List.length_cons, List.length_nil, nrm] at g6
                all_goals try (exfalso; first | (simp at g6_; done) | omega)
                all_goals
                  first
                  | refine AOp.fieldI Try.underlying58 rfl Try.sizeOf3 (by decide) rfl rfl rfl ?_
                  | refine AOp.fieldB Try.underlying58 rfl Try.sizeOf3 (by decide) rfl rfl rfl ?_
                  | refine AOp.fieldR Try.underlying58 rfl Try.sizeOf3 (by decide) rfl rfl rfl ?_
                  refine aops_guard 23 false 35 _ rfl rfl rfl rfl rfl (fun _ => ?_) (fun hh => by exfalso; first | (rw [g6_] at hh; exact absurd hh (by decide)) | (revert hh; simp [g6_]))
                  first
                  | refine AOp.load1 Try.isAgg3 rfl rfl (reads_im _ _) rfl ?_
                  | refine AOp.load1 Try.isAgg3 rfl rfl (reads_box _ (.head _)) rfl ?_
                  | refine AOp.load1 Try.isAgg3 rfl rfl (reads_box _ (.tail _ (.head _))) rfl ?_
                  | refine AOp.load1 Try.isAgg3 rfl rfl (reads_box _ (.tail _ (.tail _ (.head _)))) rfl ?_
                  | refine AOp.load1 Try.isAgg3 rfl rfl (reads_box _ (.tail _ (.tail _ (.tail _ (.head _))))) rfl ?_
                  | refine AOp.load1 Try.isAgg3 rfl rfl (reads_row _ (.head _) (idx_nat (by first | omega | (simp <;> omega) | (simp at * <;> omega))) (by first | omega | (simp <;> omega) | (simp at * <;> omega))) rfl ?_
                  | refine AOp.load1 Try.isAgg3 rfl rfl (reads_row _ (.head _) (idx_map (by first | omega | (simp <;> omega) | (simp at * <;> omega))) (by first | omega | (simp <;> omega) | (simp at * <;> omega))) rfl ?_
                  | refine AOp.load1 Try.isAgg3 rfl rfl (reads_row _ (.head _) (by assumption) (by first | omega | (simp <;> omega) | (simp at * <;> omega))) rfl ?_
                  | refine AOp.load1 Try.isAgg3 rfl rfl (reads_row _ (.tail _ (.head _)) (idx_nat (by first | omega | (simp <;> omega) | (simp at * <;> omega))) (by first | omega | (simp <;> omega) | (simp at * <;> omega))) rfl ?_
                  | refine AOp.load1 Try.isAgg3 rfl rfl (reads_row _ (.tail _ (.head _)) (idx_map (by first | omega | (simp <;> omega) | (simp at * <;> omega))) (by first | omega | (simp <;> omega) | (simp at * <;> omega))) rfl ?_
                  | refine AOp.load1 Try.isAgg3 rfl rfl (reads_row _ (.tail _ (.head _)) (by assumption) (by first | omega | (simp <;> omega) | (simp at * <;> omega))) rfl ?_
                  | refine AOp.load1 Try.isAgg3 rfl rfl (reads_row _ (.tail _ (.tail _ (.head _))) (idx_nat (by first | omega | (simp <;> omega) | (simp at * <;> omega))) (by first | omega | (simp <;> omega) | (simp at * <;> omega))) rfl ?_
                  | refine AOp.load1 Try.isAgg3 rfl rfl (reads_row _ (.tail _ (.tail _ (.head _))) (idx_map (by first | omega | (simp <;> omega) | (simp at * <;> omega))) (by first | omega | (simp <;> omega) | (simp at * <;> omega))) rfl ?_
                  | refine AOp.load1 Try.isAgg3 rfl rfl (reads_row _ (.tail _ (.tail _ (.head _))) (by assumption) (by first | omega | (simp <;> omega) | (simp at * <;> omega))) rfl ?_
                  | refine AOp.load1 Try.isAgg3 rfl rfl (reads_row _ (.tail _ (.tail _ (.tail _ (.head _)))) (idx_nat (by first | omega | (simp <;> omega) | (simp at * <;> omega))) (by first | omega | (simp <;> omega) | (simp at * <;> omega))) rfl ?_
                  | refine AOp.load1 Try.isAgg3 rfl rfl (reads_row _ (.tail _ (.tail _ (.tail _ (.head _)))) (idx_map (by first | omega | (simp <;> omega) | (simp at * <;> omega))) (by first | omega | (simp <;> omega) | (simp at * <;> omega))) rfl ?_
                  | refine AOp.load1 Try.isAgg3 rfl rfl (reads_row _ (.tail _ (.tail _ (.tail _ (.head _)))) (by assumption) (by first | omega | (simp <;> omega) | (simp at * <;> omega))) rfl ?_
                  refine aops_guard 23 false 35 _ rfl rfl rfl rfl rfl (fun _ => ?_) (fun hh => by exfalso; first | (rw [g6_] at hh; exact absurd hh (by decide)) | (revert hh; simp [g6_]))
                  refine AOp.gtr rfl rfl rfl ?_
              rotate_right
              focus
                have g6_ := g6
                try simp only [List.length_map, List.length_cons, List.length_nil, nrm] at g6
                all_goals try (exfalso; first | (simp at g6_; done) | omega)
                all_goals
                  refine aops_guard 23 false 35 _ rfl rfl rfl rfl rfl (fun hh => by exfalso; first | (rw [g6_] at hh; exact absurd hh (by decide)) | (revert hh; simp [g6_])) (fun _ => ?_)
                  refine aops_guard 23 false 35 _ rfl rfl rfl rfl rfl (fun hh => by exfalso; first | (rw [g6_] at hh; exact absurd hh (by decide)) | (revert hh; simp [g6_])) (fun _ => ?_)
              all_goals
                first
                | refine aops_cons rfl rfl (AOp.pick_t rfl rfl (by first | assumption | rfl) rfl ?_)
                | refine aops_cons rfl rfl (AOp.pick_f rfl rfl (by first | assumption | rfl) rfl ?_)
                refine aops_cons rfl rfl (AOp.move rfl rfl ?_)
                refine aops_guard 28 false 40 _ rfl rfl rfl rfl rfl (fun g7 => ?_) (fun g7 => ?_)
                focus
                  have g7_ := g7
                  try simp only [List.length_map, List.length_cons, List.length_nil, nrm] at g7
                  all_goals try (exfalso; first | (simp at g7_; done) | omega)
                  all_goals
                    first
                    | refine AOp.fieldI Try.underlying58 rfl Try.sizeOf3 (by decide) rfl rfl rfl ?_
                    | refine AOp.fieldB Try.underlying58 rfl Try.sizeOf3 (by decide) rfl rfl rfl ?_
                    | refine AOp.fieldR Try.underlying58 rfl Try.sizeOf3 (by decide) rfl rfl rfl ?_
                    refine aops_guard 28 false 40 _ rfl rfl rfl rfl rfl (fun _ => ?_) (fun hh => by exfalso; first | (rw [g7_] at hh; exact absurd hh (by decide)) | (revert hh; simp [g7_]))
                    first
                    | refine AOp.load1 Try.isAgg3 rfl rfl (reads_im _ _) rfl ?_
                    | refine AOp.load1 Try.isAgg3 rfl rfl (reads_box _ (.head _)) rfl ?_
                    | refine AOp.load1 Try.isAgg3 rfl rfl (reads_box _ (.tail _ (.head _))) rfl ?_
                    | refine AOp.load1 Try.isAgg3 rfl rfl (reads_box _ (.tail _ (.tail _ (.head _)))) rfl ?_
                    | refine AOp.load1 Try.isAgg3 rfl rfl (reads_box _ (.tail _ (.tail _ (.tail _ (.head _))))) rfl ?_
                    | refine AOp.load1 Try.isAgg3 rfl rfl (reads_row _ (.head _) (idx_nat (by first | omega | (simp <;> omega) | (simp at * <;> omega))) (by first | omega | (simp <;> omega) | (simp at * <;> omega))) rfl ?_
                    | refine AOp.load1 Try.isAgg3 rfl rfl (reads_row _ (.head _) (idx_map (by first | omega | (simp <;> omega) | (simp at * <;> omega))) (by first | omega | (simp <;> omega) | (simp at * <;> omega))) rfl ?_
                    | refine AOp.load1 Try.isAgg3 rfl rfl (reads_row _ (.head _) (by assumption) (by first | omega | (simp <;> omega) | (simp at * <;> omega))) rfl ?_
                    | refine AOp.load1 Try.isAgg3 rfl rfl (reads_row _ (.tail _ (.head _)) (idx_nat (by first | omega | (simp <;> omega) | (simp at * <;> omega))) (by first | omega | (simp <;> omega) | (simp at * <;> omega))) rfl ?_
                    | refine AOp.load1 Try.isAgg3 rfl rfl (reads_row _ (.tail _ (.head _)) (idx_map (by first | omega | (simp <;> omega) | (simp at * <;> omega))) (by first | omega | (simp <;> omega) | (simp at * <;> omega))) rfl ?_
                    | refine AOp.load1 Try.isAgg3 rfl rfl (reads_row _ (.tail _ (.head _)) (by assumption) (by first | omega | (simp <;> omega) | (simp at * <;> omega))) rfl ?_
                    | refine AOp.load1 Try.isAgg3 rfl rfl (reads_row _ (.tail _ (.tail _ (.head _))) (idx_nat (by first | omega | (simp <;> omega) | (simp at * <;> omega))) (by first | omega | (simp <;> omega) | (simp at * <;> omega))) rfl ?_
                    | refine AOp.load1 Try.isAgg3 rfl rfl (reads_row _ (.tail _ (.tail _ (.head _))) (idx_map (by first | omega | (simp <;> omega) | (simp at * <;> omega))) (by first | omega | (simp <;> omega) | (simp at * <;> omega))) rfl ?_
                    | refine AOp.load1 Try.isAgg3 rfl rfl (reads_row _ (.tail _ (.tail _ (.head _))) (by assumption) (by first | omega | (simp <;> omega) | (simp at * <;> omega))) rfl ?_
                    | refine AOp.load1 Try.isAgg3 rfl rfl (reads_row _ (.tail _ (.tail _ (.tail _ (.head _)))) (idx_nat (by first | omega | (simp <;> omega) | (simp at * <;> omega))) (by first | omega | (simp <;> omega) | (simp at * <;> omega))) rfl ?_
                    | refine AOp.load1 Try.isAgg3 rfl rfl (reads_row _ (.tail _ (.tail _ (.tail _ (.head _)))) (idx_map (by first | omega | (simp <;> omega) | (simp at * <;> omega))) (by first | omega | (simp <;> omega) | (simp at * <;> omega))) rfl ?_
                    | refine AOp.load1 Try.isAgg3 rfl rfl (reads_row _ (.tail _ (.tail _ (.tail _ (.head _)))) (by assumption) (by first | omega | (simp <;> omega) | (simp at * <;> omega))) rfl ?_
                    refine aops_guard 28 false 40 _ rfl rfl rfl rfl rfl (fun _ => ?_) (fun hh => by exfalso; first | (rw [g7_] at hh; exact absurd hh (by decide)) | (revert hh; simp [g7_]))
                    refine AOp.lss rfl rfl rfl ?_
                rotate_right
                focus
                  have g7_ := g7
                  try simp only [List.length_map, List.length_cons, List.length_nil, nrm] at g7
                  all_goals try (exfalso; first | (simp at g7_; done) | omega)
                  all_goals
                    refine aops_guard 28 false 40 _ rfl rfl rfl rfl rfl (fun hh => by exfalso; first | (rw [g7_] at hh; exact absurd hh (by decide)) | (revert hh; simp [g7_])) (fun _ => ?_)
                    refine aops_guard 28 false 40 _ rfl rfl rfl rfl rfl (fun hh => by exfalso; first | (rw [g7_] at hh; exact absurd hh (by decide)) | (revert hh; simp [g7_])) (fun _ => ?_)
                all_goals
                  first
                  | refine aops_cons rfl rfl (AOp.pick_t rfl rfl (by first | assumption | rfl) rfl ?_)
                  | refine aops_cons rfl rfl (AOp.pick_f rfl rfl (by first | assumption | rfl) rfl ?_)
                  refine aops_nil ?_
                  refine aw_cond _ rfl (fun h8 => ?_) (fun h8 => ?_)
                  focus
                    have h8_ := h8
                    try simp only [List.length_map, List.length_cons, List.length_nil, nrm] at h8
                    all_goals try (exfalso; first | (simp at h8_; done) | omega)
                    all_goals
                      refine aw_seq ?_
                      refine aw_region ?_
                      refine aops_cons rfl rfl (AOp.assign rfl rfl ?_)
                      refine aops_nil ?_
                      refine aw_weak (wk_drop (List.nil_sublist _)) ?_
                      refine aw_ret ?_
                      refine ⟨_, (res1 Try.results30 rfl), ?_⟩
                      refine ⟨?_, rfl⟩
                      rw [may_no]; · rfl
                      intro h
                      have h1 := (h i (by omega)).1
                      unfold okL at h1
                      omega
                  rotate_right
                  focus
                    have h8_ := h8
                    try simp only [List.length_map, List.length_cons, List.length_nil, nrm] at h8
                    all_goals try (exfalso; first | (simp at h8_; done) | omega)
                    all_goals
                      refine aw_skip ?_
                      skip
                  all_goals
                    refine aw_seq ?_
                    refine aw_draw 9 [0, 0, 0, 0, 0, 0, 0, 0, 0] (by kernel_rfl) (by kernel_rfl) ?_
                    refine psq_cons _ rfl (core0 (AOp.move rfl rfl ⟨rfl, rfl⟩)) ?_
                    refine psq_cons _ rfl (core0 (AOp.gtr rfl rfl rfl ⟨rfl, rfl⟩)) ?_
                    refine psq_cons _ rfl (core0 (AOp.move rfl rfl ⟨rfl, rfl⟩)) ?_
                    refine psq_guard 2 true 47 _ rfl rfl rfl rfl (fun g9 => ?_) (fun g9 => ?_)
                    focus
                      have g9_ := g9
                      try simp only [List.length_map, List.length_cons, List.length_nil, nrm] at g9
                      all_goals try (exfalso; first | (simp at g9_; done) | omega)
                      all_goals
                        refine psg _ (core0 (AOp.move rfl rfl ⟨rfl, rfl⟩)) ?_
                        refine psq_guard 2 true 47 _ rfl rfl rfl rfl (fun _ => ?_) (fun hh => by exfalso; first | (rw [g9_] at hh; exact absurd hh (by decide)) | (revert hh; simp [g9_]))
                        refine psg _ (core0 (AOp.move rfl rfl ⟨rfl, rfl⟩)) ?_
                        refine psq_guard 2 true 47 _ rfl rfl rfl rfl (fun _ => ?_) (fun hh => by exfalso; first | (rw [g9_] at hh; exact absurd hh (by decide)) | (revert hh; simp [g9_]))
                        first
                        | refine psg _ (core0 (AOp.subE rfl rfl rfl (by first | omega | (simp <;> omega) | (simp at * <;> omega)) (by first | omega | (simp <;> omega) | (simp at * <;> omega)) ⟨rfl, rfl⟩)) ?_
                        | refine psg _ (core0 (AOp.sub rfl rfl rfl rfl ⟨rfl, rfl⟩)) ?_
                        refine psq_guard 2 true 47 _ rfl rfl rfl rfl (fun _ => ?_) (fun hh => by exfalso; first | (rw [g9_] at hh; exact absurd hh (by decide)) | (revert hh; simp [g9_]))
                        first
                        | refine psg _ (core0 (AOp.indexLN Try.underlying36 Try.sizeOf58 rfl rfl rfl (by first | omega | (simp <;> omega) | (simp at * <;> omega)) (fun _ => rfl) ⟨rfl, rfl⟩)) ?_
                        | refine psg _ (core0 (AOp.indexLI Try.underlying36 Try.sizeOf58 rfl rfl rfl (by first | omega | (simp <;> omega) | (simp at * <;> omega)) (by first | omega | (simp <;> omega) | (simp at * <;> omega)) (fun _ => rfl) ⟨rfl, rfl⟩)) ?_
                        | refine psg _ (core0 (AOp.indexS Try.underlying36 Try.sizeOf58 (by assumption) rfl rfl rfl (by first | omega | (simp <;> omega) | (simp at * <;> omega)) (by assumption) ⟨rfl, rfl⟩)) ?_
                        | refine psg _ (core0 (AOp.indexS Try.underlying36 Try.sizeOf58 (by assumption) rfl rfl rfl (by first | omega | (simp <;> omega) | (simp at * <;> omega)) (List.getElem?_eq_getElem (by first | omega | (simp <;> omega) | (simp at * <;> omega))) ⟨rfl, rfl⟩)) ?_
                        | refine psg _ (core0 (AOp.indexS Try.underlying36 Try.sizeOf58 (by exact all_len rfl) rfl rfl rfl (by first | omega | (simp <;> omega) | (simp at * <;> omega)) rfl ⟨rfl, rfl⟩)) ?_
                        | refine psg _ (core0 (AOp.indexR Try.underlying36 Try.sizeOf58 (.head _) rfl rfl rfl (by first | omega | (simp <;> omega) | (simp at * <;> omega)) (by first | omega | (simp <;> omega) | (simp at * <;> omega)) ⟨rfl, rfl⟩)) ?_
                        | refine psg _ (core0 (AOp.indexR Try.underlying36 Try.sizeOf58 (.tail _ (.head _)) rfl rfl rfl (by first | omega | (simp <;> omega) | (simp at * <;> omega)) (by first | omega | (simp <;> omega) | (simp at * <;> omega)) ⟨rfl, rfl⟩)) ?_
                        | refine psg _ (core0 (AOp.indexR Try.underlying36 Try.sizeOf58 (.tail _ (.tail _ (.head _))) rfl rfl rfl (by first | omega | (simp <;> omega) | (simp at * <;> omega)) (by first | omega | (simp <;> omega) | (simp at * <;> omega)) ⟨rfl, rfl⟩)) ?_
                        | refine psg _ (core0 (AOp.indexR Try.underlying36 Try.sizeOf58 (.tail _ (.tail _ (.tail _ (.head _)))) rfl rfl rfl (by first | omega | (simp <;> omega) | (simp at * <;> omega)) (by first | omega | (simp <;> omega) | (simp at * <;> omega)) ⟨rfl, rfl⟩)) ?_
                        refine psq_guard 2 true 47 _ rfl rfl rfl rfl (fun _ => ?_) (fun hh => by exfalso; first | (rw [g9_] at hh; exact absurd hh (by decide)) | (revert hh; simp [g9_]))
                        first
                        | refine psg _ (core0 (AOp.loadN Try.isAgg58 Try.sizeOf58 rfl rfl (reads_im _ _) rfl rfl ⟨rfl, rfl⟩)) ?_
                        | refine psg _ (core0 (AOp.loadN Try.isAgg58 Try.sizeOf58 rfl rfl (reads_box _ (.head _)) rfl rfl ⟨rfl, rfl⟩)) ?_
                        | refine psg _ (core0 (AOp.loadN Try.isAgg58 Try.sizeOf58 rfl rfl (reads_box _ (.tail _ (.head _))) rfl rfl ⟨rfl, rfl⟩)) ?_
                        | refine psg _ (core0 (AOp.loadN Try.isAgg58 Try.sizeOf58 rfl rfl (reads_box _ (.tail _ (.tail _ (.head _)))) rfl rfl ⟨rfl, rfl⟩)) ?_
                        | refine psg _ (core0 (AOp.loadN Try.isAgg58 Try.sizeOf58 rfl rfl (reads_box _ (.tail _ (.tail _ (.tail _ (.head _))))) rfl rfl ⟨rfl, rfl⟩)) ?_
                        | refine psg _ (core0 (AOp.loadN Try.isAgg58 Try.sizeOf58 rfl rfl (reads_row _ (.head _) (idx_nat (by first | omega | (simp <;> omega) | (simp at * <;> omega))) (by first | omega | (simp <;> omega) | (simp at * <;> omega))) rfl rfl ⟨rfl, rfl⟩)) ?_
                        | refine psg _ (core0 (AOp.loadN Try.isAgg58 Try.sizeOf58 rfl rfl (reads_row _ (.head _) (idx_map (by first | omega | (simp <;> omega) | (simp at * <;> omega))) (by first | omega | (simp <;> omega) | (simp at * <;> omega))) rfl rfl ⟨rfl, rfl⟩)) ?_
                        | refine psg _ (core0 (AOp.loadN Try.isAgg58 Try.sizeOf58 rfl rfl (reads_row _ (.head _) (by assumption) (by first | omega | (simp <;> omega) | (simp at * <;> omega))) rfl rfl ⟨rfl, rfl⟩)) ?_
                        | refine psg _ (core0 (AOp.loadN Try.isAgg58 Try.sizeOf58 rfl rfl (reads_row _ (.tail _ (.head _)) (idx_nat (by first | omega | (simp <;> omega) | (simp at * <;> omega))) (by first | omega | (simp <;> omega) | (simp at * <;> omega))) rfl rfl ⟨rfl, rfl⟩)) ?_
                        | refine psg _ (core0 (AOp.loadN Try.isAgg58 Try.sizeOf58 rfl rfl (reads_row _ (.tail _ (.head _)) (idx_map (by first | omega | (simp <;> omega) | (simp at * <;> omega))) (by first | omega | (simp <;> omega) | (simp at * <;> omega))) rfl rfl ⟨rfl, rfl⟩)) ?_
                        | refine psg _ (core0 (AOp.loadN Try.isAgg58 Try.sizeOf58 rfl rfl (reads_row _ (.tail _ (.head _)) (by assumption) (by first | omega | (simp <;> omega) | (simp at * <;> omega))) rfl rfl ⟨rfl, rfl⟩)) ?_
                        | refine psg _ (core0 (AOp.loadN Try.isAgg58 Try.sizeOf58 rfl rfl (reads_row _ (.tail _ (.tail _ (.head _))) (idx_nat (by first | omega | (simp <;> omega) | (simp at * <;> omega))) (by first | omega | (simp <;> omega) | (simp at * <;> omega))) rfl rfl ⟨rfl, rfl⟩)) ?_
                        | refine psg _ (core0 (AOp.loadN Try.isAgg58 Try.sizeOf58 rfl rfl (reads_row _ (.tail _ (.tail _ (.head _))) (idx_map (by first | omega | (simp <;> omega) | (simp at * <;> omega))) (by first | omega | (simp <;> omega) | (simp at * <;> omega))) rfl rfl ⟨rfl, rfl⟩)) ?_
                        | refine psg _ (core0 (AOp.loadN Try.isAgg58 Try.sizeOf58 rfl rfl (reads_row _ (.tail _ (.tail _ (.head _))) (by assumption) (by first | omega | (simp <;> omega) | (simp at * <;> omega))) rfl rfl ⟨rfl, rfl⟩)) ?_
                        | refine psg _ (core0 (AOp.loadN Try.isAgg58 Try.sizeOf58 rfl rfl (reads_row _ (.tail _ (.tail _ (.tail _ (.head _)))) (idx_nat (by first | omega | (simp <;> omega) | (simp at * <;> omega))) (by first | omega | (simp <;> omega) | (simp at * <;> omega))) rfl rfl ⟨rfl, rfl⟩)) ?_
                        | refine psg _ (core0 (AOp.loadN Try.isAgg58 Try.sizeOf58 rfl rfl (reads_row _ (.tail _ (.tail _ (.tail _ (.head _)))) (idx_map (by first | omega | (simp <;> omega) | (simp at * <;> omega))) (by first | omega | (simp <;> omega) | (simp at * <;> omega))) rfl rfl ⟨rfl, rfl⟩)) ?_
                        | refine psg _ (core0 (AOp.loadN Try.isAgg58 Try.sizeOf58 rfl rfl (reads_row _ (.tail _ (.tail _ (.tail _ (.head _)))) (by assumption) (by first | omega | (simp <;> omega) | (simp at * <;> omega))) rfl rfl ⟨rfl, rfl⟩)) ?_
                        refine psq_guard 2 true 47 _ rfl rfl rfl rfl (fun _ => ?_) (fun hh => by exfalso; first | (rw [g9_] at hh; exact absurd hh (by decide)) | (revert hh; simp [g9_]))
                        first
                        | refine psg _ (core0 (AOp.loadN Try.isAgg58 Try.sizeOf58 rfl rfl (reads_im _ _) rfl rfl ⟨rfl, rfl⟩)) ?_
                        | refine psg _ (core0 (AOp.loadN Try.isAgg58 Try.sizeOf58 rfl rfl (reads_box _ (.head _)) rfl rfl ⟨rfl, rfl⟩)) ?_
                        | refine psg _ (core0 (AOp.loadN Try.isAgg58 Try.sizeOf58 rfl rfl (reads_box _ (.tail _ (.head _))) rfl rfl ⟨rfl, rfl⟩)) ?_
                        | refine psg _ (core0 (AOp.loadN Try.isAgg58 Try.sizeOf58 rfl rfl (reads_box _ (.tail _ (.tail _ (.head _)))) rfl rfl ⟨rfl, rfl⟩)) ?_
                        | refine psg _ (core0 (AOp.loadN Try.isAgg58 Try.sizeOf58 rfl rfl (reads_box _ (.tail _ (.tail _ (.tail _ (.head _))))) rfl rfl ⟨rfl, rfl⟩)) ?_
                        | refine psg _ (core0 (AOp.loadN Try.isAgg58 Try.sizeOf58 rfl rfl (reads_row _ (.head _) (idx_nat (by first | omega | (simp <;> omega) | (simp at * <;> omega))) (by first | omega | (simp <;> omega) | (simp at * <;> omega))) rfl rfl ⟨rfl, rfl⟩)) ?_
                        | refine psg _ (core0 (AOp.loadN Try.isAgg58 Try.sizeOf58 rfl rfl (reads_row _ (.head _) (idx_map (by first | omega | (simp <;> omega) | (simp at * <;> omega))) (by first | omega | (simp <;> omega) | (simp at * <;> omega))) rfl rfl ⟨rfl, rfl⟩)) ?_
                        | refine psg _ (core0 (AOp.loadN Try.isAgg58 Try.sizeOf58 rfl rfl (reads_row _ (.head _) (by assumption) (by first | omega | (simp <;> omega) | (simp at * <;> omega))) rfl rfl ⟨rfl, rfl⟩)) ?_
                        | refine psg _ (core0 (AOp.loadN Try.isAgg58 Try.sizeOf58 rfl rfl (reads_row _ (.tail _ (.head _)) (idx_nat (by first | omega | (simp <;> omega) | (simp at * <;> omega))) (by first | omega | (simp <;> omega) | (simp at * <;> omega))) rfl rfl ⟨rfl, rfl⟩)) ?_
                        | refine psg _ (core0 (AOp.loadN Try.isAgg58 Try.sizeOf58 rfl rfl (reads_row _ (.tail _ (.head _)) (idx_map (by first | omega | (simp <;> omega) | (simp at * <;> omega))) (by first | omega | (simp <;> omega) | (simp at * <;> omega))) rfl rfl ⟨rfl, rfl⟩)) ?_
                        | refine psg _ (core0 (AOp.loadN Try.isAgg58 Try.sizeOf58 rfl rfl (reads_row _ (.tail _ (.head _)) (by assumption) (by first | omega | (simp <;> omega) | (simp at * <;> omega))) rfl rfl ⟨rfl, rfl⟩)) ?_
                        | refine psg _ (core0 (AOp.loadN Try.isAgg58 Try.sizeOf58 rfl rfl (reads_row _ (.tail _ (.tail _ (.head _))) (idx_nat (by first | omega | (simp <;> omega) | (simp at * <;> omega))) (by first | omega | (simp <;> omega) | (simp at * <;> omega))) rfl rfl ⟨rfl, rfl⟩)) ?_
                        | refine psg _ (core0 (AOp.loadN Try.isAgg58 Try.sizeOf58 rfl rfl (reads_row _ (.tail _ (.tail _ (.head _))) (idx_map (by first | omega | (simp <;> omega) | (simp at * <;> omega))) (by first | omega | (simp <;> omega) | (simp at * <;> omega))) rfl rfl ⟨rfl, rfl⟩)) ?_
                        | refine psg _ (core0 (AOp.loadN Try.isAgg58 Try.sizeOf58 rfl rfl (reads_row _ (.tail _ (.tail _ (.head _))) (by assumption) (by first | omega | (simp <;> omega) | (simp at * <;> omega))) rfl rfl ⟨rfl, rfl⟩)) ?_
                        | refine psg _ (core0 (AOp.loadN Try.isAgg58 Try.sizeOf58 rfl rfl (reads_row _ (.tail _ (.tail _ (.tail _ (.head _)))) (idx_nat (by first | omega | (simp <;> omega) | (simp at * <;> omega))) (by first | omega | (simp <;> omega) | (simp at * <;> omega))) rfl rfl ⟨rfl, rfl⟩)) ?_
                        | refine psg _ (core0 (AOp.loadN Try.isAgg58 Try.sizeOf58 rfl rfl (reads_row _ (.tail _ (.tail _ (.tail _ (.head _)))) (idx_map (by first | omega | (simp <;> omega) | (simp at * <;> omega))) (by first | omega | (simp <;> omega) | (simp at * <;> omega))) rfl rfl ⟨rfl, rfl⟩)) ?_
                        | refine psg _ (core0 (AOp.loadN Try.isAgg58 Try.sizeOf58 rfl rfl (reads_row _ (.tail _ (.tail _ (.tail _ (.head _)))) (by assumption) (by first | omega | (simp <;> omega) | (simp at * <;> omega))) rfl rfl ⟨rfl, rfl⟩)) ?_
                    rotate_right
                    focus
                      have g9_ := g9
                      try simp only [List.length_map, List.length_cons, List.length_nil, nrm] at g9
                      all_goals try (exfalso; first | (simp at g9_; done) | omega)
                      all_goals
                        refine psq_guard 2 true 47 _ rfl rfl rfl rfl (fun hh => by exfalso; first | (rw [g9_] at hh; exact absurd hh (by decide)) | (revert hh; simp [g9_])) (fun _ => ?_)
                        refine psq_guard 2 true 47 _ rfl rfl rfl rfl (fun hh => by exfalso; first | (rw [g9_] at hh; exact absurd hh (by decide)) | (revert hh; simp [g9_])) (fun _ => ?_)
                        refine psq_guard 2 true 47 _ rfl rfl rfl rfl (fun hh => by exfalso; first | (rw [g9_] at hh; exact absurd hh (by decide)) | (revert hh; simp [g9_])) (fun _ => ?_)
                        refine psq_guard 2 true 47 _ rfl rfl rfl rfl (fun hh => by exfalso; first | (rw [g9_] at hh; exact absurd hh (by decide)) | (revert hh; simp [g9_])) (fun _ => ?_)
                        refine psq_guard 2 true 47 _ rfl rfl rfl rfl (fun hh => by exfalso; first | (rw [g9_] at hh; exact absurd hh (by decide)) | (revert hh; simp [g9_])) (fun _ => ?_)
                    all_goals
                      refine psq_nil ?_
                      refine aops_guard 2 true 47 _ rfl rfl rfl rfl rfl (fun g10 => ?_) (fun g10 => ?_)
                      focus
                        have g10_ := g10
                        try simp only [List.length_map, List.length_cons, List.length_nil, nrm] at g10
                        all_goals try (exfalso; first | (simp at g10_; done) | omega)
                        all_goals
                          refine AOp.callP Try.call59 rfl rfl rfl (by exact order _ _) ?_
                          refine aops_guard 2 true 47 _ rfl rfl rfl rfl rfl (fun _ => ?_) (fun hh => by exfalso; first | (rw [g10_] at hh; exact absurd hh (by decide)) | (revert hh; simp [g10_]))
                          refine AOp.geq rfl rfl rfl ?_
                      rotate_right
                      focus
                        have g10_ := g10
                        try simp only [List.length_map, List.length_cons, List.length_nil, nrm] at g10
                        all_goals try (exfalso; first | (simp at g10_; done) | omega)
                        all_goals
                          refine aops_guard 2 true 47 _ rfl rfl rfl rfl rfl (fun hh => by exfalso; first | (rw [g10_] at hh; exact absurd hh (by decide)) | (revert hh; simp [g10_])) (fun _ => ?_)
                      all_goals
                        first
                        | refine aops_cons rfl rfl (AOp.pick_t rfl rfl (by first | assumption | rfl) rfl ?_)
                        | refine aops_cons rfl rfl (AOp.pick_f rfl rfl (by first | assumption | rfl) rfl ?_)
                        refine aops_nil ?_
                        refine aw_cond _ rfl (fun h11 => ?_) (fun h11 => ?_)
                        focus
                          have h11_ := h11
                          try simp only [List.length_map, List.length_cons, List.length_nil, nrm] at h11
                          all_goals try (exfalso; first | (simp at h11_; done) | omega)
                          all_goals
                            refine aw_seq ?_
                            refine aw_region ?_
                            refine aops_cons rfl rfl (AOp.assign rfl rfl ?_)
                            refine aops_nil ?_
                            refine aw_weak (wk_drop (List.nil_sublist _)) ?_
                            refine aw_ret ?_
                            refine ⟨_, (res1 Try.results30 rfl), ?_⟩
                            refine ⟨?_, rfl⟩
                            rw [may_no]; · rfl
                            intro h
                            have h1 := (h i (by omega)).2 (by omega)
                            have hg : 0 ≤ ordI (l[(↑i - 1 : Int).toNat]'(by omega)) l[i] := by assumption
                            have e : (↑i - 1 : Int).toNat = i - 1 := by omega
                            simp only [e] at hg
                            omega
                        rotate_right
                        focus
                          have h11_ := h11
                          try simp only [List.length_map, List.length_cons, List.length_nil, nrm] at h11
                          all_goals try (exfalso; first | (simp at h11_; done) | omega)
                          all_goals
                            refine aw_skip ?_
                            skip
                        all_goals
                          refine aw_region ?_
                          first
                          | refine aops_cons rfl rfl (AOp.addE rfl rfl rfl (by first | omega | (simp <;> omega) | (simp at * <;> omega)) (by first | omega | (simp <;> omega) | (simp at * <;> omega)) ?_)
                          | refine aops_cons rfl rfl (AOp.add rfl rfl rfl rfl ?_)
                          refine aops_cons rfl rfl (AOp.move rfl rfl ?_)
                          refine aops_nil ?_
                          refine ⟨i + 1, ⟨by omega, fun k h hk => ?_⟩, by dsimp only; omega, ((wk_drop (by (focus ((repeat (first | exact List.Sublist.slnil | apply List.Sublist.cons_cons | apply List.Sublist.cons)); done)))).trans (wk_env (sube_cons rfl (sube_cons rfl (sube_cons rfl (sube_cons rfl (sube_nil _)))))))⟩
                          rcases Nat.lt_or_ge k i with h0 | h0
                          · exact ha k h h0
                          · have hki : k = i := by omega
                            subst hki
                            refine ⟨by unfold okL; omega, fun hk0 => ?_⟩
                            have hg : ordI (l[(↑k - 1 : Int).toNat]'(by omega)) l[k] < 0 := by first | assumption | (exfalso; omega)
                            have e : (↑k - 1 : Int).toNat = k - 1 := by omega
                            simpa only [e] using hg

end Go.Proofs.Ytdlkmimgdghgcaa
