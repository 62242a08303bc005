/- Own text: who else holds it. -/
import Derived.Test.YtdlkmimgdghgcaaLb
set_option linter.unusedVariables false
set_option linter.unusedSimpArgs false
set_option linter.all false
set_option maxRecDepth 100000
set_option maxHeartbeats 2000000
namespace Go.Proofs.Ytdlkmimgdghgcaa
open Go Go.Aw

def clp (l : List L) (now c f m : Int) (x : L) : Bool := decide (x.f = f ∧ x.c ≠ c) && decide (hld l now x.c f ≠ 0 ∧ (m = 2 ∨ hld l now x.c f = 2))
def cls (l : List L) (now c f m : Int) : List Int := (l.filter (clp l now c f m)).map (·.c)

theorem clash (l : List L) (now c f m : Int) (hs : srt l) (hl : l.length ≤ 1000000) : Pur Try.prog 28 [ls l, .sc (.int .i64 now), .sc (.int .i64 c), .sc (.int .i64 f), .sc (.int .i64 m)] (ints (cls l now c f m)) := by
  refine acallsN Try.func28 rfl Try.ntmps28 rfl ?_
  refine aw_seq ?_
  refine aw_region ?_
  refine aops_cons rfl rfl (AOp.assign rfl rfl ?_)
  refine aops_nil ?_
  refine aw_seq ?_
  refine aw_seq ?_
  refine aw_region ?_
  refine aops_cons rfl rfl (AOp.move rfl rfl ?_)
  first
  | refine aops_cons rfl rfl (AOp.lenS (by first | exact List.length_map _ | rfl) Try.underlying36 rfl rfl ?_)
  | refine aops_cons rfl rfl (AOp.lenN Try.underlying36 rfl rfl ?_)
  | refine aops_cons rfl rfl (AOp.lenR (by first | exact List.length_map _ | rfl) Try.underlying36 (.head _) rfl rfl ?_)
  | refine aops_cons rfl rfl (AOp.lenR (by first | exact List.length_map _ | rfl) Try.underlying36 (.tail _ (.head _)) rfl rfl ?_)
  | refine aops_cons rfl rfl (AOp.lenR (by first | exact List.length_map _ | rfl) Try.underlying36 (.tail _ (.tail _ (.head _))) rfl rfl ?_)
  | refine aops_cons rfl rfl (AOp.lenR (by first | exact List.length_map _ | rfl) Try.underlying36 (.tail _ (.tail _ (.tail _ (.head _)))) rfl rfl ?_)
  refine aops_cons rfl rfl (AOp.move rfl rfl ?_)
  refine aops_nil ?_
  refine aw_block ?_
  refine aw_loop (β := Nat × Value) (S := (fun (z0 : Nat × Value) => match z0 with | (i, w) => [(0, ls l), (1, .sc (.int .i64 now)), (2, .sc (.int .i64 c)), (3, .sc (.int .i64 f)), (4, .sc (.int .i64 m)), (10, .sc w), (14, ls l), (15, .sc (.int .i64 (l.length : Nat))), (16, .sc (.int .i64 (i : Int)))])) (B := (fun (z0 : Nat × Value) => match z0 with | (i, w) => [.row w 3 1 ((((l.take i).filter (clp l now c f m)).map (·.c)).map ie)])) (pre := (fun (z0 : Nat × Value) => match z0 with | (i, w) => i ≤ l.length)) (μ := (fun (z0 : Nat × Value) => match z0 with | (i, w) => l.length - i)) (0, .slice none 0 0) ((wk_nil 3 1).trans (wk_env (sube_cons rfl (sube_cons rfl (sube_cons rfl (sube_cons rfl (sube_cons rfl (sube_cons rfl (sube_cons rfl (sube_cons rfl (sube_cons rfl (sube_nil _)))))))))))) ?_ ?_
  · exact Nat.zero_le _
  · rintro ⟨i, w⟩ hp
    change AW _ _ _ ([(0, ls l), (1, .sc (.int .i64 now)), (2, .sc (.int .i64 c)), (3, .sc (.int .i64 f)), (4, .sc (.int .i64 m)), (10, .sc w), (14, ls l), (15, .sc (.int .i64 (l.length : Nat))), (16, .sc (.int .i64 (i : Int)))] : Env) ([.row w 3 1 ((((l.take i).filter (clp l now c f m)).map (·.c)).map ie)] : List Blk) _
    replace hp : i ≤ l.length := hp
    refine aw_seq ?_
    refine aw_region ?_
    refine aops_cons rfl rfl (AOp.lss rfl rfl rfl ?_)
    refine aops_nil ?_
    refine aw_seq ?_
    refine aw_cond _ rfl (fun h1 => ?_) (fun h1 => ?_)
    focus
      have h1_ := h1
      try simp only [List.length_map, List.length_cons, List.length_nil, nrm] at h1
      all_goals try (exfalso; first | (simp at h1_; done) | omega)
      all_goals
        refine aw_skip ?_
        skip
    rotate_right
    focus
      have h1_ := h1
      try simp only [List.length_map, List.length_cons, List.length_nil, nrm] at h1
      all_goals try (exfalso; first | (simp at h1_; done) | omega)
      all_goals
        refine aw_exit ?_
        refine aw_seq ?_
        refine aw_region ?_
        refine aops_cons rfl rfl (AOp.move rfl rfl ?_)
        refine aops_cons rfl rfl (AOp.assign rfl rfl ?_)
        refine aops_nil ?_
        refine aw_weak (wk_freeze (pull_here _ _) (subf_new (s := 10) rfl (subf_nil _ _ _))) ?_
        refine aw_weak (wk_drop (List.nil_sublist _)) ?_
        refine aw_ret ?_
        refine ⟨_, (res1 Try.results28 rfl), ?_⟩
        refine ⟨?_, rfl⟩
        rw [List.take_of_length_le (by omega)]; rfl
    all_goals
      refine aw_seq ?_
      refine aw_block ?_
      refine aw_seq ?_
      refine aw_region ?_
      first
      | refine aops_cons rfl rfl (AOp.indexLN Try.underlying36 Try.sizeOf58 rfl rfl rfl (by first | first | omega | (simp <;> omega) | (simp at * <;> omega) | (have := List.length_filter_le (clp l now c f m) (l.take i); simp at this ⊢; omega)) (fun _ => rfl) ?_)
      | refine aops_cons rfl rfl (AOp.indexLI Try.underlying36 Try.sizeOf58 rfl rfl rfl (by first | first | omega | (simp <;> omega) | (simp at * <;> omega) | (have := List.length_filter_le (clp l now c f m) (l.take i); simp at this ⊢; omega)) (by first | first | omega | (simp <;> omega) | (simp at * <;> omega) | (have := List.length_filter_le (clp l now c f m) (l.take i); simp at this ⊢; omega)) (fun _ => rfl) ?_)
      | refine aops_cons rfl rfl (AOp.indexS Try.underlying36 Try.sizeOf58 (by assumption) rfl rfl rfl (by first | first | omega | (simp <;> omega) | (simp at * <;> omega) | (have := List.length_filter_le (clp l now c f m) (l.take i); simp at this ⊢; omega)) (by assumption) ?_)
      | refine aops_cons rfl rfl (AOp.indexS Try.underlying36 Try.sizeOf58 (by assumption) rfl rfl rfl (by first | first | omega | (simp <;> omega) | (simp at * <;> omega) | (have := List.length_filter_le (clp l now c f m) (l.take i); simp at this ⊢; omega)) (List.getElem?_eq_getElem (by first | first | omega | (simp <;> omega) | (simp at * <;> omega) | (have := List.length_filter_le (clp l now c f m) (l.take i); simp at this ⊢; omega))) ?_)
      | refine aops_cons rfl rfl (AOp.indexS Try.underlying36 Try.sizeOf58 (by exact all_len rfl) rfl rfl rfl (by first | first | omega | (simp <;> omega) | (simp at * <;> omega) | (have := List.length_filter_le (clp l now c f m) (l.take i); simp at this ⊢; omega)) rfl ?_)
      | refine aops_cons rfl rfl (AOp.indexR Try.underlying36 Try.sizeOf58 (.head _) rfl rfl rfl (by first | first | omega | (simp <;> omega) | (simp at * <;> omega) | (have := List.length_filter_le (clp l now c f m) (l.take i); simp at this ⊢; omega)) (by first | first | omega | (simp <;> omega) | (simp at * <;> omega) | (have := List.length_filter_le (clp l now c f m) (l.take i); simp at this ⊢; omega)) ?_)
      | refine aops_cons rfl rfl (AOp.indexR Try.underlying36 Try.sizeOf58 (.tail _ (.head _)) rfl rfl rfl (by first | first | omega | (simp <;> omega) | (simp at * <;> omega) | (have := List.length_filter_le (clp l now c f m) (l.take i); simp at this ⊢; omega)) (by first | first | omega | (simp <;> omega) | (simp at * <;> omega) | (have := List.length_filter_le (clp l now c f m) (l.take i); simp at this ⊢; omega)) ?_)
      | refine aops_cons rfl rfl (AOp.indexR Try.underlying36 Try.sizeOf58 (.tail _ (.tail _ (.head _))) rfl rfl rfl (by first | first | omega | (simp <;> omega) | (simp at * <;> omega) | (have := List.length_filter_le (clp l now c f m) (l.take i); simp at this ⊢; omega)) (by first | first | omega | (simp <;> omega) | (simp at * <;> omega) | (have := List.length_filter_le (clp l now c f m) (l.take i); simp at this ⊢; omega)) ?_)
      | refine aops_cons rfl rfl (AOp.indexR Try.underlying36 Try.sizeOf58 (.tail _ (.tail _ (.tail _ (.head _)))) rfl rfl rfl (by first | first | omega | (simp <;> omega) | (simp at * <;> omega) | (have := List.length_filter_le (clp l now c f m) (l.take i); simp at this ⊢; omega)) (by first | first | omega | (simp <;> omega) | (simp at * <;> omega) | (have := List.length_filter_le (clp l now c f m) (l.take i); simp at this ⊢; omega)) ?_)
      first
      | refine aops_cons rfl rfl (AOp.loadN Try.isAgg58 Try.sizeOf58 rfl rfl (reads_im _ _) rfl rfl ?_)
      | refine aops_cons rfl rfl (AOp.loadN Try.isAgg58 Try.sizeOf58 rfl rfl (reads_box _ (.head _)) rfl rfl ?_)
      | refine aops_cons rfl rfl (AOp.loadN Try.isAgg58 Try.sizeOf58 rfl rfl (reads_box _ (.tail _ (.head _))) rfl rfl ?_)
      | refine aops_cons rfl rfl (AOp.loadN Try.isAgg58 Try.sizeOf58 rfl rfl (reads_box _ (.tail _ (.tail _ (.head _)))) rfl rfl ?_)
      | refine aops_cons rfl rfl (AOp.loadN Try.isAgg58 Try.sizeOf58 rfl rfl (reads_box _ (.tail _ (.tail _ (.tail _ (.head _))))) rfl rfl ?_)
      | refine aops_cons rfl rfl (AOp.loadN Try.isAgg58 Try.sizeOf58 rfl rfl (reads_row _ (.head _) (idx_nat (by first | first | omega | (simp <;> omega) | (simp at * <;> omega) | (have := List.length_filter_le (clp l now c f m) (l.take i); simp at this ⊢; omega))) (by first | first | omega | (simp <;> omega) | (simp at * <;> omega) | (have := List.length_filter_le (clp l now c f m) (l.take i); simp at this ⊢; omega))) rfl rfl ?_)
      | refine aops_cons rfl rfl (AOp.loadN Try.isAgg58 Try.sizeOf58 rfl rfl (reads_row _ (.head _) (idx_map (by first | first | omega | (simp <;> omega) | (simp at * <;> omega) | (have := List.length_filter_le (clp l now c f m) (l.take i); simp at this ⊢; omega))) (by first | first | omega | (simp <;> omega) | (simp at * <;> omega) | (have := List.length_filter_le (clp l now c f m) (l.take i); simp at this ⊢; omega))) rfl rfl ?_)
      | refine aops_cons rfl rfl (AOp.loadN Try.isAgg58 Try.sizeOf58 rfl rfl (reads_row _ (.head _) (by assumption) (by first | first | omega | (simp <;> omega) | (simp at * <;> omega) | (have := List.length_filter_le (clp l now c f m) (l.take i); simp at this ⊢; omega))) rfl rfl ?_)
      | refine aops_cons rfl rfl (AOp.loadN Try.isAgg58 Try.sizeOf58 rfl rfl (reads_row _ (.tail _ (.head _)) (idx_nat (by first | first | omega | (simp <;> omega) | (simp at * <;> omega) | (have := List.length_filter_le (clp l now c f m) (l.take i); simp at this ⊢; omega))) (by first | first | omega | (simp <;> omega) | (simp at * <;> omega) | (have := List.length_filter_le (clp l now c f m) (l.take i); simp at this ⊢; omega))) rfl rfl ?_)
      | refine aops_cons rfl rfl (AOp.loadN Try.isAgg58 Try.sizeOf58 rfl rfl (reads_row _ (.tail _ (.head _)) (idx_map (by first | first | omega | (simp <;> omega) | (simp at * <;> omega) | (have := List.length_filter_le (clp l now c f m) (l.take i); simp at this ⊢; omega))) (by first | first | omega | (simp <;> omega) | (simp at * <;> omega) | (have := List.length_filter_le (clp l now c f m) (l.take i); simp at this ⊢; omega))) rfl rfl ?_)
      | refine aops_cons rfl rfl (AOp.loadN Try.isAgg58 Try.sizeOf58 rfl rfl (reads_row _ (.tail _ (.head _)) (by assumption) (by first | first | omega | (simp <;> omega) | (simp at * <;> omega) | (have := List.length_filter_le (clp l now c f m) (l.take i); simp at this ⊢; omega))) rfl rfl ?_)
      | refine aops_cons rfl rfl (AOp.loadN Try.isAgg58 Try.sizeOf58 rfl rfl (reads_row _ (.tail _ (.tail _ (.head _))) (idx_nat (by first | first | omega | (simp <;> omega) | (simp at * <;> omega) | (have := List.length_filter_le (clp l now c f m) (l.take i); simp at this ⊢; omega))) (by first | first | omega | (simp <;> omega) | (simp at * <;> omega) | (have := List.length_filter_le (clp l now c f m) (l.take i); simp at this ⊢; omega))) rfl rfl ?_)
      | refine aops_cons rfl rfl (AOp.loadN Try.isAgg58 Try.sizeOf58 rfl rfl (reads_row _ (.tail _ (.tail _ (.head _))) (idx_map (by first | first | omega | (simp <;> omega) | (simp at * <;> omega) | (have := List.length_filter_le (clp l now c f m) (l.take i); simp at this ⊢; omega))) (by first | first | omega | (simp <;> omega) | (simp at * <;> omega) | (have := List.length_filter_le (clp l now c f m) (l.take i); simp at this ⊢; omega))) rfl rfl ?_)
      | refine aops_cons rfl rfl (AOp.loadN Try.isAgg58 Try.sizeOf58 rfl rfl (reads_row _ (.tail _ (.tail _ (.head _))) (by assumption) (by first | first | omega | (simp <;> omega) | (simp at * <;> omega) | (have := List.length_filter_le (clp l now c f m) (l.take i); simp at this ⊢; omega))) rfl rfl ?_)
      | refine aops_cons rfl rfl (AOp.loadN Try.isAgg58 Try.sizeOf58 rfl rfl (reads_row _ (.tail _ (.tail _ (.tail _ (.head _)))) (idx_nat (by first | first | omega | (simp <;> omega) | (simp at * <;> omega) | (have := List.length_filter_le (clp l now c f m) (l.take i); simp at this ⊢; omega))) (by first | first | omega | (simp <;> omega) | (simp at * <;> omega) | (have := List.length_filter_le (clp l now c f m) (l.take i); simp at this ⊢; omega))) rfl rfl ?_)
      | refine aops_cons rfl rfl (AOp.loadN Try.isAgg58 Try.sizeOf58 rfl rfl (reads_row _ (.tail _ (.tail _ (.tail _ (.head _)))) (idx_map (by first | first | omega | (simp <;> omega) | (simp at * <;> omega) | (have := List.length_filter_le (clp l now c f m) (l.take i); simp at this ⊢; omega))) (by first | first | omega | (simp <;> omega) | (simp at * <;> omega) | (have := List.length_filter_le (clp l now c f m) (l.take i); simp at this ⊢; omega))) rfl rfl ?_)
      | refine aops_cons rfl rfl (AOp.loadN Try.isAgg58 Try.sizeOf58 rfl rfl (reads_row _ (.tail _ (.tail _ (.tail _ (.head _)))) (by assumption) (by first | first | omega | (simp <;> omega) | (simp at * <;> omega) | (have := List.length_filter_le (clp l now c f m) (l.take i); simp at this ⊢; omega))) rfl rfl ?_)
      refine aops_cons rfl rfl (AOp.alloc Try.zeroValue58 (by kernel_rfl) rfl rfl ?_); intro b1
      first
      | refine aops_cons rfl rfl (AOp.storeB' Try.sizeOf58 rfl rfl rfl rfl rfl (pull_here _ _) rfl rfl ?_)
      | refine aops_cons rfl rfl (AOp.storeB' Try.sizeOf58 rfl rfl rfl rfl rfl (pull_there (pull_here _ _)) rfl rfl ?_)
      | refine aops_cons rfl rfl (AOp.storeB' Try.sizeOf58 rfl rfl rfl rfl rfl (pull_there (pull_there (pull_here _ _))) rfl rfl ?_)
      | refine aops_cons rfl rfl (AOp.storeB' Try.sizeOf58 rfl rfl rfl rfl rfl (pull_there (pull_there (pull_there (pull_here _ _)))) rfl rfl ?_)
      | refine aops_cons rfl rfl (AOp.storeR' Try.sizeOf58 rfl rfl rfl rfl rfl (pull_here _ _) (by first | exact idx_nat (by first | first | omega | (simp <;> omega) | (simp at * <;> omega) | (have := List.length_filter_le (clp l now c f m) (l.take i); simp at this ⊢; omega)) | exact idx_map (by first | first | omega | (simp <;> omega) | (simp at * <;> omega) | (have := List.length_filter_le (clp l now c f m) (l.take i); simp at this ⊢; omega)) | assumption) rfl rfl rfl ?_)
      | refine aops_cons rfl rfl (AOp.storeR' Try.sizeOf58 rfl rfl rfl rfl rfl (pull_there (pull_here _ _)) (by first | exact idx_nat (by first | first | omega | (simp <;> omega) | (simp at * <;> omega) | (have := List.length_filter_le (clp l now c f m) (l.take i); simp at this ⊢; omega)) | exact idx_map (by first | first | omega | (simp <;> omega) | (simp at * <;> omega) | (have := List.length_filter_le (clp l now c f m) (l.take i); simp at this ⊢; omega)) | assumption) rfl rfl rfl ?_)
      | refine aops_cons rfl rfl (AOp.storeR' Try.sizeOf58 rfl rfl rfl rfl rfl (pull_there (pull_there (pull_here _ _))) (by first | exact idx_nat (by first | first | omega | (simp <;> omega) | (simp at * <;> omega) | (have := List.length_filter_le (clp l now c f m) (l.take i); simp at this ⊢; omega)) | exact idx_map (by first | first | omega | (simp <;> omega) | (simp at * <;> omega) | (have := List.length_filter_le (clp l now c f m) (l.take i); simp at this ⊢; omega)) | assumption) rfl rfl rfl ?_)
      | refine aops_cons rfl rfl (AOp.storeR' Try.sizeOf58 rfl rfl rfl rfl rfl (pull_there (pull_there (pull_there (pull_here _ _)))) (by first | exact idx_nat (by first | first | omega | (simp <;> omega) | (simp at * <;> omega) | (have := List.length_filter_le (clp l now c f m) (l.take i); simp at this ⊢; omega)) | exact idx_map (by first | first | omega | (simp <;> omega) | (simp at * <;> omega) | (have := List.length_filter_le (clp l now c f m) (l.take i); simp at this ⊢; omega)) | assumption) rfl rfl rfl ?_)
      refine aops_nil ?_
      refine aw_seq ?_
      refine aw_seq ?_
      refine aw_region ?_
      first
      | refine aops_cons rfl rfl (AOp.fieldI Try.underlying58 rfl Try.sizeOf3 (by decide) rfl rfl rfl ?_)
      | refine aops_cons rfl rfl (AOp.fieldB Try.underlying58 rfl Try.sizeOf3 (by decide) rfl rfl rfl ?_)
      | refine aops_cons rfl rfl (AOp.fieldR Try.underlying58 rfl Try.sizeOf3 (by decide) rfl rfl rfl ?_)
      first
      | refine aops_cons rfl rfl (AOp.load1 Try.isAgg3 rfl rfl (reads_im _ _) rfl ?_)
      | refine aops_cons rfl rfl (AOp.load1 Try.isAgg3 rfl rfl (reads_box _ (.head _)) rfl ?_)
      | refine aops_cons rfl rfl (AOp.load1 Try.isAgg3 rfl rfl (reads_box _ (.tail _ (.head _))) rfl ?_)
      | refine aops_cons rfl rfl (AOp.load1 Try.isAgg3 rfl rfl (reads_box _ (.tail _ (.tail _ (.head _)))) rfl ?_)
      | refine aops_cons rfl rfl (AOp.load1 Try.isAgg3 rfl rfl (reads_box _ (.tail _ (.tail _ (.tail _ (.head _))))) rfl ?_)
      | refine aops_cons rfl rfl (AOp.load1 Try.isAgg3 rfl rfl (reads_row _ (.head _) (idx_nat (by first | first | omega | (simp <;> omega) | (simp at * <;> omega) | (have := List.length_filter_le (clp l now c f m) (l.take i); simp at this ⊢; omega))) (by first | first | omega | (simp <;> omega) | (simp at * <;> omega) | (have := List.length_filter_le (clp l now c f m) (l.take i); simp at this ⊢; omega))) rfl ?_)
      | refine aops_cons rfl rfl (AOp.load1 Try.isAgg3 rfl rfl (reads_row _ (.head _) (idx_map (by first | first | omega | (simp <;> omega) | (simp at * <;> omega) | (have := List.length_filter_le (clp l now c f m) (l.take i); simp at this ⊢; omega))) (by first | first | omega | (simp <;> omega) | (simp at * <;> omega) | (have := List.length_filter_le (clp l now c f m) (l.take i); simp at this ⊢; omega))) rfl ?_)
      | refine aops_cons rfl rfl (AOp.load1 Try.isAgg3 rfl rfl (reads_row _ (.head _) (by assumption) (by first | first | omega | (simp <;> omega) | (simp at * <;> omega) | (have := List.length_filter_le (clp l now c f m) (l.take i); simp at this ⊢; omega))) rfl ?_)
      | refine aops_cons rfl rfl (AOp.load1 Try.isAgg3 rfl rfl (reads_row _ (.tail _ (.head _)) (idx_nat (by first | first | omega | (simp <;> omega) | (simp at * <;> omega) | (have := List.length_filter_le (clp l now c f m) (l.take i); simp at this ⊢; omega))) (by first | first | omega | (simp <;> omega) | (simp at * <;> omega) | (have := List.length_filter_le (clp l now c f m) (l.take i); simp at this ⊢; omega))) rfl ?_)
      | refine aops_cons rfl rfl (AOp.load1 Try.isAgg3 rfl rfl (reads_row _ (.tail _ (.head _)) (idx_map (by first | first | omega | (simp <;> omega) | (simp at * <;> omega) | (have := List.length_filter_le (clp l now c f m) (l.take i); simp at this ⊢; omega))) (by first | first | omega | (simp <;> omega) | (simp at * <;> omega) | (have := List.length_filter_le (clp l now c f m) (l.take i); simp at this ⊢; omega))) rfl ?_)
      | refine aops_cons rfl rfl (AOp.load1 Try.isAgg3 rfl rfl (reads_row _ (.tail _ (.head _)) (by assumption) (by first | first | omega | (simp <;> omega) | (simp at * <;> omega) | (have := List.length_filter_le (clp l now c f m) (l.take i); simp at this ⊢; omega))) rfl ?_)
      | refine aops_cons rfl rfl (AOp.load1 Try.isAgg3 rfl rfl (reads_row _ (.tail _ (.tail _ (.head _))) (idx_nat (by first | first | omega | (simp <;> omega) | (simp at * <;> omega) | (have := List.length_filter_le (clp l now c f m) (l.take i); simp at this ⊢; omega))) (by first | first | omega | (simp <;> omega) | (simp at * <;> omega) | (have := List.length_filter_le (clp l now c f m) (l.take i); simp at this ⊢; omega))) rfl ?_)
      | refine aops_cons rfl rfl (AOp.load1 Try.isAgg3 rfl rfl (reads_row _ (.tail _ (.tail _ (.head _))) (idx_map (by first | first | omega | (simp <;> omega) | (simp at * <;> omega) | (have := List.length_filter_le (clp l now c f m) (l.take i); simp at this ⊢; omega))) (by first | first | omega | (simp <;> omega) | (simp at * <;> omega) | (have := List.length_filter_le (clp l now c f m) (l.take i); simp at this ⊢; omega))) rfl ?_)
      | refine aops_cons rfl rfl (AOp.load1 Try.isAgg3 rfl rfl (reads_row _ (.tail _ (.tail _ (.head _))) (by assumption) (by first | first | omega | (simp <;> omega) | (simp at * <;> omega) | (have := List.length_filter_le (clp l now c f m) (l.take i); simp at this ⊢; omega))) rfl ?_)
      | refine aops_cons rfl rfl (AOp.load1 Try.isAgg3 rfl rfl (reads_row _ (.tail _ (.tail _ (.tail _ (.head _)))) (idx_nat (by first | first | omega | (simp <;> omega) | (simp at * <;> omega) | (have := List.length_filter_le (clp l now c f m) (l.take i); simp at this ⊢; omega))) (by first | first | omega | (simp <;> omega) | (simp at * <;> omega) | (have := List.length_filter_le (clp l now c f m) (l.take i); simp at this ⊢; omega))) rfl ?_)
      | refine aops_cons rfl rfl (AOp.load1 Try.isAgg3 rfl rfl (reads_row _ (.tail _ (.tail _ (.tail _ (.head _)))) (idx_map (by first | first | omega | (simp <;> omega) | (simp at * <;> omega) | (have := List.length_filter_le (clp l now c f m) (l.take i); simp at this ⊢; omega))) (by first | first | omega | (simp <;> omega) | (simp at * <;> omega) | (have := List.length_filter_le (clp l now c f m) (l.take i); simp at this ⊢; omega))) rfl ?_)
      | refine aops_cons rfl rfl (AOp.load1 Try.isAgg3 rfl rfl (reads_row _ (.tail _ (.tail _ (.tail _ (.head _)))) (by assumption) (by first | first | omega | (simp <;> omega) | (simp at * <;> omega) | (have := List.length_filter_le (clp l now c f m) (l.take i); simp at this ⊢; omega))) rfl ?_)
      refine aops_cons rfl rfl (AOp.move rfl rfl ?_)
      refine aops_cons rfl rfl (AOp.neq rfl rfl rfl ?_)
      refine aops_cons rfl rfl (AOp.move rfl rfl ?_)
      refine aops_guard 4 false 24 _ rfl rfl rfl rfl rfl (fun g2 => ?_) (fun g2 => ?_)
      focus
        have g2_ := g2
        try simp only [List.length_map, List.length_cons, List.length_nil, nrm] at g2
        all_goals try (exfalso; first | (simp at g2_; done) | omega)
        all_goals
          first
          | refine AOp.fieldI Try.underlying58 rfl Try.sizeOf3 (by decide) rfl rfl rfl ?_
          | refine AOp.fieldB Try.underlying58 rfl Try.sizeOf3 (by decide) rfl rfl rfl ?_
          | refine AOp.fieldR Try.underlying58 rfl Try.sizeOf3 (by decide) rfl rfl rfl ?_
          refine aops_guard 4 false 24 _ rfl rfl rfl rfl rfl (fun _ => ?_) (fun hh => by exfalso; first | (rw [g2_] at hh; exact absurd hh (by decide)) | (revert hh; simp [g2_]))
          first
          | refine AOp.load1 Try.isAgg3 rfl rfl (reads_im _ _) rfl ?_
          | refine AOp.load1 Try.isAgg3 rfl rfl (reads_box _ (.head _)) rfl ?_
          | refine AOp.load1 Try.isAgg3 rfl rfl (reads_box _ (.tail _ (.head _))) rfl ?_
          | refine AOp.load1 Try.isAgg3 rfl rfl (reads_box _ (.tail _ (.tail _ (.head _)))) rfl ?_
          | refine AOp.load1 Try.isAgg3 rfl rfl (reads_box _ (.tail _ (.tail _ (.tail _ (.head _))))) rfl ?_
          | refine AOp.load1 Try.isAgg3 rfl rfl (reads_row _ (.head _) (idx_nat (by first | first | omega | (simp <;> omega) | (simp at * <;> omega) | (have := List.length_filter_le (clp l now c f m) (l.take i); simp at this ⊢; omega))) (by first | first | omega | (simp <;> omega) | (simp at * <;> omega) | (have := List.length_filter_le (clp l now c f m) (l.take i); simp at this ⊢; omega))) rfl ?_
          | refine AOp.load1 Try.isAgg3 rfl rfl (reads_row _ (.head _) (idx_map (by first | first | omega | (simp <;> omega) | (simp at * <;> omega) | (have := List.length_filter_le (clp l now c f m) (l.take i); simp at this ⊢; omega))) (by first | first | omega | (simp <;> omega) | (simp at * <;> omega) | (have := List.length_filter_le (clp l now c f m) (l.take i); simp at this ⊢; omega))) rfl ?_
          | refine AOp.load1 Try.isAgg3 rfl rfl (reads_row _ (.head _) (by assumption) (by first | first | omega | (simp <;> omega) | (simp at * <;> omega) | (have := List.length_filter_le (clp l now c f m) (l.take i); simp at this ⊢; omega))) rfl ?_
          | refine AOp.load1 Try.isAgg3 rfl rfl (reads_row _ (.tail _ (.head _)) (idx_nat (by first | first | omega | (simp <;> omega) | (simp at * <;> omega) | (have := List.length_filter_le (clp l now c f m) (l.take i); simp at this ⊢; omega))) (by first | first | omega | (simp <;> omega) | (simp at * <;> omega) | (have := List.length_filter_le (clp l now c f m) (l.take i); simp at this ⊢; omega))) rfl ?_
          | refine AOp.load1 Try.isAgg3 rfl rfl (reads_row _ (.tail _ (.head _)) (idx_map (by first | first | omega | (simp <;> omega) | (simp at * <;> omega) | (have := List.length_filter_le (clp l now c f m) (l.take i); simp at this ⊢; omega))) (by first | first | omega | (simp <;> omega) | (simp at * <;> omega) | (have := List.length_filter_le (clp l now c f m) (l.take i); simp at this ⊢; omega))) rfl ?_
          | refine AOp.load1 Try.isAgg3 rfl rfl (reads_row _ (.tail _ (.head _)) (by assumption) (by first | first | omega | (simp <;> omega) | (simp at * <;> omega) | (have := List.length_filter_le (clp l now c f m) (l.take i); simp at this ⊢; omega))) rfl ?_
          | refine AOp.load1 Try.isAgg3 rfl rfl (reads_row _ (.tail _ (.tail _ (.head _))) (idx_nat (by first | first | omega | (simp <;> omega) | (simp at * <;> omega) | (have := List.length_filter_le (clp l now c f m) (l.take i); simp at this ⊢; omega))) (by first | first | omega | (simp <;> omega) | (simp at * <;> omega) | (have := List.length_filter_le (clp l now c f m) (l.take i); simp at this ⊢; omega))) rfl ?_
          | refine AOp.load1 Try.isAgg3 rfl rfl (reads_row _ (.tail _ (.tail _ (.head _))) (idx_map (by first | first | omega | (simp <;> omega) | (simp at * <;> omega) | (have := List.length_filter_le (clp l now c f m) (l.take i); simp at this ⊢; omega))) (by first | first | omega | (simp <;> omega) | (simp at * <;> omega) | (have := List.length_filter_le (clp l now c f m) (l.take i); simp at this ⊢; omega))) rfl ?_
          | refine AOp.load1 Try.isAgg3 rfl rfl (reads_row _ (.tail _ (.tail _ (.head _))) (by assumption) (by first | first | omega | (simp <;> omega) | (simp at * <;> omega) | (have := List.length_filter_le (clp l now c f m) (l.take i); simp at this ⊢; omega))) rfl ?_
          | refine AOp.load1 Try.isAgg3 rfl rfl (reads_row _ (.tail _ (.tail _ (.tail _ (.head _)))) (idx_nat (by first | first | omega | (simp <;> omega) | (simp at * <;> omega) | (have := List.length_filter_le (clp l now c f m) (l.take i); simp at this ⊢; omega))) (by first | first | omega | (simp <;> omega) | (simp at * <;> omega) | (have := List.length_filter_le (clp l now c f m) (l.take i); simp at this ⊢; omega))) rfl ?_
          | refine AOp.load1 Try.isAgg3 rfl rfl (reads_row _ (.tail _ (.tail _ (.tail _ (.head _)))) (idx_map (by first | first | omega | (simp <;> omega) | (simp at * <;> omega) | (have := List.length_filter_le (clp l now c f m) (l.take i); simp at this ⊢; omega))) (by first | first | omega | (simp <;> omega) | (simp at * <;> omega) | (have := List.length_filter_le (clp l now c f m) (l.take i); simp at this ⊢; omega))) rfl ?_
          | refine AOp.load1 Try.isAgg3 rfl rfl (reads_row _ (.tail _ (.tail _ (.tail _ (.head _)))) (by assumption) (by first | first | omega | (simp <;> omega) | (simp at * <;> omega) | (have := List.length_filter_le (clp l now c f m) (l.take i); simp at this ⊢; omega))) rfl ?_
          refine aops_guard 4 false 24 _ rfl rfl rfl rfl rfl (fun _ => ?_) (fun hh => by exfalso; first | (rw [g2_] at hh; exact absurd hh (by decide)) | (revert hh; simp [g2_]))
          refine AOp.move rfl rfl ?_
          refine aops_guard 4 false 24 _ rfl rfl rfl rfl rfl (fun _ => ?_) (fun hh => by exfalso; first | (rw [g2_] at hh; exact absurd hh (by decide)) | (revert hh; simp [g2_]))
          refine AOp.eql rfl rfl rfl ?_
      rotate_right
      focus
        have g2_ := g2
        try simp only [List.length_map, List.length_cons, List.length_nil, nrm] at g2
        all_goals try (exfalso; first | (simp at g2_; done) | omega)
        all_goals
          refine aops_guard 4 false 24 _ rfl rfl rfl rfl rfl (fun hh => by exfalso; first | (rw [g2_] at hh; exact absurd hh (by decide)) | (revert hh; simp [g2_])) (fun _ => ?_)
          refine aops_guard 4 false 24 _ rfl rfl rfl rfl rfl (fun hh => by exfalso; first | (rw [g2_] at hh; exact absurd hh (by decide)) | (revert hh; simp [g2_])) (fun _ => ?_)
          refine aops_guard 4 false 24 _ rfl rfl rfl rfl rfl (fun hh => by exfalso; first | (rw [g2_] at hh; exact absurd hh (by decide)) | (revert hh; simp [g2_])) (fun _ => ?_)
      all_goals
        first
        | refine aops_cons rfl rfl (AOp.pick_t rfl rfl (by first | assumption | rfl) rfl ?_)
        | refine aops_cons rfl rfl (AOp.pick_f rfl rfl (by first | assumption | rfl) rfl ?_)
        refine aops_nil ?_
        refine aw_cond _ rfl (fun h3 => ?_) (fun h3 => ?_)
        focus
          have h3_ := h3
          try simp only [List.length_map, List.length_cons, List.length_nil, nrm] at h3
          all_goals try (exfalso; first | (simp at h3_; done) | omega)
          all_goals
            refine aw_exit ?_
            refine aw_region ?_
            first
            | refine aops_cons rfl rfl (AOp.addE rfl rfl rfl (by first | first | omega | (simp <;> omega) | (simp at * <;> omega) | (have := List.length_filter_le (clp l now c f m) (l.take i); simp at this ⊢; omega)) (by first | first | omega | (simp <;> omega) | (simp at * <;> omega) | (have := List.length_filter_le (clp l now c f m) (l.take i); simp at this ⊢; omega)) ?_)
            | refine aops_cons rfl rfl (AOp.add rfl rfl rfl rfl ?_)
            refine aops_cons rfl rfl (AOp.move rfl rfl ?_)
            refine aops_nil ?_
            (refine ⟨(i + 1, _), ?_, ?_, (wk_drop ?_).trans ((wk_roweq (A := []) (filter_no ?_ ?_)).trans (wk_env (sube_cons rfl (sube_cons rfl (sube_cons rfl (sube_cons rfl (sube_cons rfl (sube_cons rfl (sube_cons rfl (sube_cons rfl (sube_cons rfl (sube_nil _))))))))))))⟩; (dsimp only; omega); (dsimp only; omega); (focus ((repeat (first | exact List.Sublist.slnil | apply List.Sublist.cons_cons | apply List.Sublist.cons)); done)); omega; focus (simp [clp, *]; done))
        rotate_right
        focus
          have h3_ := h3
          try simp only [List.length_map, List.length_cons, List.length_nil, nrm] at h3
          all_goals try (exfalso; first | (simp at h3_; done) | omega)
          all_goals
            refine aw_skip ?_
            skip
        all_goals
          refine aw_seq ?_
          refine aw_region ?_
          refine aops_cons rfl rfl (AOp.move rfl rfl ?_)
          refine aops_cons rfl rfl (AOp.move rfl rfl ?_)
          first
          | refine aops_cons rfl rfl (AOp.fieldI Try.underlying58 rfl Try.sizeOf3 (by decide) rfl rfl rfl ?_)
          | refine aops_cons rfl rfl (AOp.fieldB Try.underlying58 rfl Try.sizeOf3 (by decide) rfl rfl rfl ?_)
          | refine aops_cons rfl rfl (AOp.fieldR Try.underlying58 rfl Try.sizeOf3 (by decide) rfl rfl rfl ?_)
          first
          | refine aops_cons rfl rfl (AOp.load1 Try.isAgg3 rfl rfl (reads_im _ _) rfl ?_)
          | refine aops_cons rfl rfl (AOp.load1 Try.isAgg3 rfl rfl (reads_box _ (.head _)) rfl ?_)
          | refine aops_cons rfl rfl (AOp.load1 Try.isAgg3 rfl rfl (reads_box _ (.tail _ (.head _))) rfl ?_)
          | refine aops_cons rfl rfl (AOp.load1 Try.isAgg3 rfl rfl (reads_box _ (.tail _ (.tail _ (.head _)))) rfl ?_)
          | refine aops_cons rfl rfl (AOp.load1 Try.isAgg3 rfl rfl (reads_box _ (.tail _ (.tail _ (.tail _ (.head _))))) rfl ?_)
          | refine aops_cons rfl rfl (AOp.load1 Try.isAgg3 rfl rfl (reads_row _ (.head _) (idx_nat (by first | first | omega | (simp <;> omega) | (simp at * <;> omega) | (have := List.length_filter_le (clp l now c f m) (l.take i); simp at this ⊢; omega))) (by first | first | omega | (simp <;> omega) | (simp at * <;> omega) | (have := List.length_filter_le (clp l now c f m) (l.take i); simp at this ⊢; omega))) rfl ?_)
          | refine aops_cons rfl rfl (AOp.load1 Try.isAgg3 rfl rfl (reads_row _ (.head _) (idx_map (by first | first | omega | (simp <;> omega) | (simp at * <;> omega) | (have := List.length_filter_le (clp l now c f m) (l.take i); simp at this ⊢; omega))) (by first | first | omega | (simp <;> omega) | (simp at * <;> omega) | (have := List.length_filter_le (clp l now c f m) (l.take i); simp at this ⊢; omega))) rfl ?_)
          | refine aops_cons rfl rfl (AOp.load1 Try.isAgg3 rfl rfl (reads_row _ (.head _) (by assumption) (by first | first | omega | (simp <;> omega) | (simp at * <;> omega) | (have := List.length_filter_le (clp l now c f m) (l.take i); simp at this ⊢; omega))) rfl ?_)
          | refine aops_cons rfl rfl (AOp.load1 Try.isAgg3 rfl rfl (reads_row _ (.tail _ (.head _)) (idx_nat (by first | first | omega | (simp <;> omega) | (simp at * <;> omega) | (have := List.length_filter_le (clp l now c f m) (l.take i); simp at this ⊢; omega))) (by first | first | omega | (simp <;> omega) | (simp at * <;> omega) | (have := List.length_filter_le (clp l now c f m) (l.take i); simp at this ⊢; omega))) rfl ?_)
          | refine aops_cons rfl rfl (AOp.load1 Try.isAgg3 rfl rfl (reads_row _ (.tail _ (.head _)) (idx_map (by first | first | omega | (simp <;> omega) | (simp at * <;> omega) | (have := List.length_filter_le (clp l now c f m) (l.take i); simp at this ⊢; omega))) (by first | first | omega | (simp <;> omega) | (simp at * <;> omega) | (have := List.length_filter_le (clp l now c f m) (l.take i); simp at this ⊢; omega))) rfl ?_)
          | refine aops_cons rfl rfl (AOp.load1 Try.isAgg3 rfl rfl (reads_row _ (.tail _ (.head _)) (by assumption) (by first | first | omega | (simp <;> omega) | (simp at * <;> omega) | (have := List.length_filter_le (clp l now c f m) (l.take i); simp at this ⊢; omega))) rfl ?_)
          | refine aops_cons rfl rfl (AOp.load1 Try.isAgg3 rfl rfl (reads_row _ (.tail _ (.tail _ (.head _))) (idx_nat (by first | first | omega | (simp <;> omega) | (simp at * <;> omega) | (have := List.length_filter_le (clp l now c f m) (l.take i); simp at this ⊢; omega))) (by first | first | omega | (simp <;> omega) | (simp at * <;> omega) | (have := List.length_filter_le (clp l now c f m) (l.take i); simp at this ⊢; omega))) rfl ?_)
          | refine aops_cons rfl rfl (AOp.load1 Try.isAgg3 rfl rfl (reads_row _ (.tail _ (.tail _ (.head _))) (idx_map (by first | first | omega | (simp <;> omega) | (simp at * <;> omega) | (have := List.length_filter_le (clp l now c f m) (l.take i); simp at this ⊢; omega))) (by first | first | omega | (simp <;> omega) | (simp at * <;> omega) | (have := List.length_filter_le (clp l now c f m) (l.take i); simp at this ⊢; omega))) rfl ?_)
          | refine aops_cons rfl rfl (AOp.load1 Try.isAgg3 rfl rfl (reads_row _ (.tail _ (.tail _ (.head _))) (by assumption) (by first | first | omega | (simp <;> omega) | (simp at * <;> omega) | (have := List.length_filter_le (clp l now c f m) (l.take i); simp at this ⊢; omega))) rfl ?_)
          | refine aops_cons rfl rfl (AOp.load1 Try.isAgg3 rfl rfl (reads_row _ (.tail _ (.tail _ (.tail _ (.head _)))) (idx_nat (by first | first | omega | (simp <;> omega) | (simp at * <;> omega) | (have := List.length_filter_le (clp l now c f m) (l.take i); simp at this ⊢; omega))) (by first | first | omega | (simp <;> omega) | (simp at * <;> omega) | (have := List.length_filter_le (clp l now c f m) (l.take i); simp at this ⊢; omega))) rfl ?_)
          | refine aops_cons rfl rfl (AOp.load1 Try.isAgg3 rfl rfl (reads_row _ (.tail _ (.tail _ (.tail _ (.head _)))) (idx_map (by first | first | omega | (simp <;> omega) | (simp at * <;> omega) | (have := List.length_filter_le (clp l now c f m) (l.take i); simp at this ⊢; omega))) (by first | first | omega | (simp <;> omega) | (simp at * <;> omega) | (have := List.length_filter_le (clp l now c f m) (l.take i); simp at this ⊢; omega))) rfl ?_)
          | refine aops_cons rfl rfl (AOp.load1 Try.isAgg3 rfl rfl (reads_row _ (.tail _ (.tail _ (.tail _ (.head _)))) (by assumption) (by first | first | omega | (simp <;> omega) | (simp at * <;> omega) | (have := List.length_filter_le (clp l now c f m) (l.take i); simp at this ⊢; omega))) rfl ?_)
          refine aops_cons rfl rfl (AOp.move rfl rfl ?_)
          refine aops_cons rfl rfl (AOp.callP Try.call22 rfl rfl rfl (by exact holds l now _ f hs hl) ?_)
          refine aops_cons rfl rfl (AOp.assign rfl rfl ?_)
          refine aops_nil ?_
          refine aw_seq ?_
          refine aw_region ?_
          refine aops_cons rfl rfl (AOp.move rfl rfl ?_)
          refine aops_cons rfl rfl (AOp.neq rfl rfl rfl ?_)
          refine aops_cons rfl rfl (AOp.move rfl rfl ?_)
          refine aops_guard 2 true 38 _ rfl rfl rfl rfl rfl (fun g4 => ?_) (fun g4 => ?_)
          focus
            have g4_ := g4
            try simp only [List.length_map, List.length_cons, List.length_nil, nrm] at g4
            all_goals try (exfalso; first | (simp at g4_; done) | omega)
            all_goals
              refine AOp.move rfl rfl ?_
              refine aops_guard 2 true 38 _ rfl rfl rfl rfl rfl (fun _ => ?_) (fun hh => by exfalso; first | (rw [g4_] at hh; exact absurd hh (by decide)) | (revert hh; simp [g4_]))
              refine AOp.eql rfl rfl rfl ?_
              refine aops_guard 2 true 38 _ rfl rfl rfl rfl rfl (fun _ => ?_) (fun hh => by exfalso; first | (rw [g4_] at hh; exact absurd hh (by decide)) | (revert hh; simp [g4_]))
              refine AOp.move rfl rfl ?_
          rotate_right
          focus
            have g4_ := g4
            try simp only [List.length_map, List.length_cons, List.length_nil, nrm] at g4
            all_goals try (exfalso; first | (simp at g4_; done) | omega)
            all_goals
              refine aops_guard 2 true 38 _ rfl rfl rfl rfl rfl (fun hh => by exfalso; first | (rw [g4_] at hh; exact absurd hh (by decide)) | (revert hh; simp [g4_])) (fun _ => ?_)
              refine aops_guard 2 true 38 _ rfl rfl rfl rfl rfl (fun hh => by exfalso; first | (rw [g4_] at hh; exact absurd hh (by decide)) | (revert hh; simp [g4_])) (fun _ => ?_)
          all_goals
            first
            | (refine aops_guardU 5 false 41 rfl rfl rfl rfl rfl ?_; refine aops_guardU 5 false 41 rfl rfl rfl rfl rfl ?_)
            | skip
              refine aops_guard 5 false 41 _ rfl rfl rfl rfl rfl (fun g5 => ?_) (fun g5 => ?_)
              focus
                have g5_ := g5
                try simp only [List.length_map, List.length_cons, List.length_nil, nrm] at g5
                all_goals try (exfalso; first | (simp at g5_; done) | omega)
                all_goals
                  refine AOp.move rfl rfl ?_
                  refine aops_guard 5 false 41 _ rfl rfl rfl rfl rfl (fun _ => ?_) (fun hh => by exfalso; first | (rw [g5_] at hh; exact absurd hh (by decide)) | (revert hh; simp [g5_]))
                  refine AOp.eql rfl rfl rfl ?_
              rotate_right
              focus
                have g5_ := g5
                try simp only [List.length_map, List.length_cons, List.length_nil, nrm] at g5
                all_goals try (exfalso; first | (simp at g5_; done) | omega)
                all_goals
                  refine aops_guard 5 false 41 _ rfl rfl rfl rfl rfl (fun hh => by exfalso; first | (rw [g5_] at hh; exact absurd hh (by decide)) | (revert hh; simp [g5_])) (fun _ => ?_)
            all_goals
              refine aops_guard 2 true 38 _ rfl rfl rfl rfl rfl (fun g6 => ?_) (fun g6 => ?_)
              focus
                have g6_ := g6
                try simp only [List.length_map, List.length_cons, List.length_nil, nrm] at g6
                all_goals try (exfalso; first | (simp at g6_; done) | omega)
                all_goals
                  first
                  | refine AOp.pick_t rfl rfl (by first | assumption | rfl) rfl ?_
                  | refine AOp.pick_f rfl rfl (by first | assumption | rfl) rfl ?_
              rotate_right
              focus
                have g6_ := g6
                try simp only [List.length_map, List.length_cons, List.length_nil, nrm] at g6
                all_goals try (exfalso; first | (simp at g6_; done) | omega)
              all_goals
                first
                | refine aops_cons rfl rfl (AOp.pick_t rfl rfl (by first | assumption | rfl) rfl ?_)
                | refine aops_cons rfl rfl (AOp.pick_f rfl rfl (by first | assumption | rfl) rfl ?_)
                refine aops_nil ?_
                refine aw_cond _ rfl (fun h7 => ?_) (fun h7 => ?_)
                focus
                  have h7_ := h7
                  try simp only [List.length_map, List.length_cons, List.length_nil, nrm] at h7
                  all_goals try (exfalso; first | (simp at h7_; done) | omega)
                  all_goals
                    refine aw_region ?_
                    refine aops_cons rfl rfl (AOp.move rfl rfl ?_)
                    first
                    | refine aops_cons rfl rfl (AOp.fieldI Try.underlying58 rfl Try.sizeOf3 (by decide) rfl rfl rfl ?_)
                    | refine aops_cons rfl rfl (AOp.fieldB Try.underlying58 rfl Try.sizeOf3 (by decide) rfl rfl rfl ?_)
                    | refine aops_cons rfl rfl (AOp.fieldR Try.underlying58 rfl Try.sizeOf3 (by decide) rfl rfl rfl ?_)
                    first
                    | refine aops_cons rfl rfl (AOp.load1 Try.isAgg3 rfl rfl (reads_im _ _) rfl ?_)
                    | refine aops_cons rfl rfl (AOp.load1 Try.isAgg3 rfl rfl (reads_box _ (.head _)) rfl ?_)
                    | refine aops_cons rfl rfl (AOp.load1 Try.isAgg3 rfl rfl (reads_box _ (.tail _ (.head _))) rfl ?_)
                    | refine aops_cons rfl rfl (AOp.load1 Try.isAgg3 rfl rfl (reads_box _ (.tail _ (.tail _ (.head _)))) rfl ?_)
                    | refine aops_cons rfl rfl (AOp.load1 Try.isAgg3 rfl rfl (reads_box _ (.tail _ (.tail _ (.tail _ (.head _))))) rfl ?_)
                    | refine aops_cons rfl rfl (AOp.load1 Try.isAgg3 rfl rfl (reads_row _ (.head _) (idx_nat (by first | first | omega | (simp <;> omega) | (simp at * <;> omega) | (have := List.length_filter_le (clp l now c f m) (l.take i); simp at this ⊢; omega))) (by first | first | omega | (simp <;> omega) | (simp at * <;> omega) | (have := List.length_filter_le (clp l now c f m) (l.take i); simp at this ⊢; omega))) rfl ?_)
                    | refine aops_cons rfl rfl (AOp.load1 Try.isAgg3 rfl rfl (reads_row _ (.head _) (idx_map (by first | first | omega | (simp <;> omega) | (simp at * <;> omega) | (have := List.length_filter_le (clp l now c f m) (l.take i); simp at this ⊢; omega))) (by first | first | omega | (simp <;> omega) | (simp at * <;> omega) | (have := List.length_filter_le (clp l now c f m) (l.take i); simp at this ⊢; omega))) rfl ?_)
                    | refine aops_cons rfl rfl (AOp.load1 Try.isAgg3 rfl rfl (reads_row _ (.head _) (by assumption) (by first | first | omega | (simp <;> omega) | (simp at * <;> omega) | (have := List.length_filter_le (clp l now c f m) (l.take i); simp at this ⊢; omega))) rfl ?_)
                    | refine aops_cons rfl rfl (AOp.load1 Try.isAgg3 rfl rfl (reads_row _ (.tail _ (.head _)) (idx_nat (by first | first | omega | (simp <;> omega) | (simp at * <;> omega) | (have := List.length_filter_le (clp l now c f m) (l.take i); simp at this ⊢; omega))) (by first | first | omega | (simp <;> omega) | (simp at * <;> omega) | (have := List.length_filter_le (clp l now c f m) (l.take i); simp at this ⊢; omega))) rfl ?_)
                    | refine aops_cons rfl rfl (AOp.load1 Try.isAgg3 rfl rfl (reads_row _ (.tail _ (.head _)) (idx_map (by first | first | omega | (simp <;> omega) | (simp at * <;> omega) | (have := List.length_filter_le (clp l now c f m) (l.take i); simp at this ⊢; omega))) (by first | first | omega | (simp <;> omega) | (simp at * <;> omega) | (have := List.length_filter_le (clp l now c f m) (l.take i); simp at this ⊢; omega))) rfl ?_)
                    | refine aops_cons rfl rfl (AOp.load1 Try.isAgg3 rfl rfl (reads_row _ (.tail _ (.head _)) (by assumption) (by first | first | omega | (simp <;> omega) | (simp at * <;> omega) | (have := List.length_filter_le (clp l now c f m) (l.take i); simp at this ⊢; omega))) rfl ?_)
                    | refine aops_cons rfl rfl (AOp.load1 Try.isAgg3 rfl rfl (reads_row _ (.tail _ (.tail _ (.head _))) (idx_nat (by first | first | omega | (simp <;> omega) | (simp at * <;> omega) | (have := List.length_filter_le (clp l now c f m) (l.take i); simp at this ⊢; omega))) (by first | first | omega | (simp <;> omega) | (simp at * <;> omega) | (have := List.length_filter_le (clp l now c f m) (l.take i); simp at this ⊢; omega))) rfl ?_)
                    | refine aops_cons rfl rfl (AOp.load1 Try.isAgg3 rfl rfl (reads_row _ (.tail _ (.tail _ (.head _))) (idx_map (by first | first | omega | (simp <;> omega) | (simp at * <;> omega) | (have := List.length_filter_le (clp l now c f m) (l.take i); simp at this ⊢; omega))) (by first | first | omega | (simp <;> omega) | (simp at * <;> omega) | (have := List.length_filter_le (clp l now c f m) (l.take i); simp at this ⊢; omega))) rfl ?_)
                    | refine aops_cons rfl rfl (AOp.load1 Try.isAgg3 rfl rfl (reads_row _ (.tail _ (.tail _ (.head _))) (by assumption) (by first | first | omega | (simp <;> omega) | (simp at * <;> omega) | (have := List.length_filter_le (clp l now c f m) (l.take i); simp at this ⊢; omega))) rfl ?_)
                    | refine aops_cons rfl rfl (AOp.load1 Try.isAgg3 rfl rfl (reads_row _ (.tail _ (.tail _ (.tail _ (.head _)))) (idx_nat (by first | first | omega | (simp <;> omega) | (simp at * <;> omega) | (have := List.length_filter_le (clp l now c f m) (l.take i); simp at this ⊢; omega))) (by first | first | omega | (simp <;> omega) | (simp at * <;> omega) | (have := List.length_filter_le (clp l now c f m) (l.take i); simp at this ⊢; omega))) rfl ?_)
                    | refine aops_cons rfl rfl (AOp.load1 Try.isAgg3 rfl rfl (reads_row _ (.tail _ (.tail _ (.tail _ (.head _)))) (idx_map (by first | first | omega | (simp <;> omega) | (simp at * <;> omega) | (have := List.length_filter_le (clp l now c f m) (l.take i); simp at this ⊢; omega))) (by first | first | omega | (simp <;> omega) | (simp at * <;> omega) | (have := List.length_filter_le (clp l now c f m) (l.take i); simp at this ⊢; omega))) rfl ?_)
                    | refine aops_cons rfl rfl (AOp.load1 Try.isAgg3 rfl rfl (reads_row _ (.tail _ (.tail _ (.tail _ (.head _)))) (by assumption) (by first | first | omega | (simp <;> omega) | (simp at * <;> omega) | (have := List.length_filter_le (clp l now c f m) (l.take i); simp at this ⊢; omega))) rfl ?_)
                    refine aops_cons rfl rfl (AOp.buildS' Try.underlying40 Try.sizeOf3 Try.zeroValue3 rfl rfl rfl rfl rfl rfl rfl rfl rfl rfl rfl ?_)
                    first
                    | (refine aops_cons rfl rfl (AOp.append' (bytes := 8) Try.zeroValue3 Try.sizeOf3 Try.underlying40 (by kernel_rfl) rfl rfl rfl (pull_here _ _) rfl (src_sl Try.underlying40 (by exact len_map (fun _ => rfl))) (by first | first | omega | (simp <;> omega) | (simp at * <;> omega) | (have := List.length_filter_le (clp l now c f m) (l.take i); simp at this ⊢; omega)) (by decide) ?_); intro b2)
                    | (refine aops_cons rfl rfl (AOp.append' (bytes := 8) Try.zeroValue3 Try.sizeOf3 Try.underlying40 (by kernel_rfl) rfl rfl rfl (pull_here _ _) rfl (src_sl Try.underlying40 (by assumption)) (by first | first | omega | (simp <;> omega) | (simp at * <;> omega) | (have := List.length_filter_le (clp l now c f m) (l.take i); simp at this ⊢; omega)) (by decide) ?_); intro b2)
                    | (refine aops_cons rfl rfl (AOp.append' (bytes := 8) Try.zeroValue3 Try.sizeOf3 Try.underlying40 (by kernel_rfl) rfl rfl rfl (pull_here _ _) rfl (src_sl Try.underlying40 (all_len rfl)) (by first | first | omega | (simp <;> omega) | (simp at * <;> omega) | (have := List.length_filter_le (clp l now c f m) (l.take i); simp at this ⊢; omega)) (by decide) ?_); intro b2)
                    | (refine aops_cons rfl rfl (AOp.append' (bytes := 8) Try.zeroValue3 Try.sizeOf3 Try.underlying40 (by kernel_rfl) rfl rfl rfl (pull_here _ _) rfl (src_row Try.underlying40 (.head _)) (by first | first | omega | (simp <;> omega) | (simp at * <;> omega) | (have := List.length_filter_le (clp l now c f m) (l.take i); simp at this ⊢; omega)) (by decide) ?_); intro b2)
                    | (refine aops_cons rfl rfl (AOp.append' (bytes := 8) Try.zeroValue3 Try.sizeOf3 Try.underlying40 (by kernel_rfl) rfl rfl rfl (pull_here _ _) rfl (src_row Try.underlying40 (.tail _ (.head _))) (by first | first | omega | (simp <;> omega) | (simp at * <;> omega) | (have := List.length_filter_le (clp l now c f m) (l.take i); simp at this ⊢; omega)) (by decide) ?_); intro b2)
                    | (refine aops_cons rfl rfl (AOp.append' (bytes := 8) Try.zeroValue3 Try.sizeOf3 Try.underlying40 (by kernel_rfl) rfl rfl rfl (pull_here _ _) rfl (src_row Try.underlying40 (.tail _ (.tail _ (.head _)))) (by first | first | omega | (simp <;> omega) | (simp at * <;> omega) | (have := List.length_filter_le (clp l now c f m) (l.take i); simp at this ⊢; omega)) (by decide) ?_); intro b2)
                    | (refine aops_cons rfl rfl (AOp.append' (bytes := 8) Try.zeroValue3 Try.sizeOf3 Try.underlying40 (by kernel_rfl) rfl rfl rfl (pull_here _ _) rfl (src_row Try.underlying40 (.tail _ (.tail _ (.tail _ (.head _))))) (by first | first | omega | (simp <;> omega) | (simp at * <;> omega) | (have := List.length_filter_le (clp l now c f m) (l.take i); simp at this ⊢; omega)) (by decide) ?_); intro b2)
                    | (refine aops_cons rfl rfl (AOp.append' (bytes := 8) Try.zeroValue3 Try.sizeOf3 Try.underlying40 (by kernel_rfl) rfl rfl rfl (pull_here _ _) rfl (src_os Try.underlying40 (.head _) (by first | first | omega | (simp <;> omega) | (simp at * <;> omega) | (have := List.length_filter_le (clp l now c f m) (l.take i); simp at this ⊢; omega))) (by first | first | omega | (simp <;> omega) | (simp at * <;> omega) | (have := List.length_filter_le (clp l now c f m) (l.take i); simp at this ⊢; omega)) (by decide) ?_); intro b2)
                    | (refine aops_cons rfl rfl (AOp.append' (bytes := 8) Try.zeroValue3 Try.sizeOf3 Try.underlying40 (by kernel_rfl) rfl rfl rfl (pull_here _ _) rfl (src_os Try.underlying40 (.tail _ (.head _)) (by first | first | omega | (simp <;> omega) | (simp at * <;> omega) | (have := List.length_filter_le (clp l now c f m) (l.take i); simp at this ⊢; omega))) (by first | first | omega | (simp <;> omega) | (simp at * <;> omega) | (have := List.length_filter_le (clp l now c f m) (l.take i); simp at this ⊢; omega)) (by decide) ?_); intro b2)
                    | (refine aops_cons rfl rfl (AOp.append' (bytes := 8) Try.zeroValue3 Try.sizeOf3 Try.underlying40 (by kernel_rfl) rfl rfl rfl (pull_here _ _) rfl (src_os Try.underlying40 (.tail _ (.tail _ (.head _))) (by first | first | omega | (simp <;> omega) | (simp at * <;> omega) | (have := List.length_filter_le (clp l now c f m) (l.take i); simp at this ⊢; omega))) (by first | first | omega | (simp <;> omega) | (simp at * <;> omega) | (have := List.length_filter_le (clp l now c f m) (l.take i); simp at this ⊢; omega)) (by decide) ?_); intro b2)
                    | (refine aops_cons rfl rfl (AOp.append' (bytes := 8) Try.zeroValue3 Try.sizeOf3 Try.underlying40 (by kernel_rfl) rfl rfl rfl (pull_here _ _) rfl (src_os Try.underlying40 (.tail _ (.tail _ (.tail _ (.head _)))) (by first | first | omega | (simp <;> omega) | (simp at * <;> omega) | (have := List.length_filter_le (clp l now c f m) (l.take i); simp at this ⊢; omega))) (by first | first | omega | (simp <;> omega) | (simp at * <;> omega) | (have := List.length_filter_le (clp l now c f m) (l.take i); simp at this ⊢; omega)) (by decide) ?_); intro b2)
                    | (refine aops_cons rfl rfl (AOp.append' (bytes := 8) Try.zeroValue3 Try.sizeOf3 Try.underlying40 (by kernel_rfl) rfl rfl rfl (pull_there (pull_here _ _)) rfl (src_sl Try.underlying40 (by exact len_map (fun _ => rfl))) (by first | first | omega | (simp <;> omega) | (simp at * <;> omega) | (have := List.length_filter_le (clp l now c f m) (l.take i); simp at this ⊢; omega)) (by decide) ?_); intro b2)
                    | (refine aops_cons rfl rfl (AOp.append' (bytes := 8) Try.zeroValue3 Try.sizeOf3 Try.underlying40 (by kernel_rfl) rfl rfl rfl (pull_there (pull_here _ _)) rfl (src_sl Try.underlying40 (by assumption)) (by first | first | omega | (simp <;> omega) | (simp at * <;> omega) | (have := List.length_filter_le (clp l now c f m) (l.take i); simp at this ⊢; omega)) (by decide) ?_); intro b2)
                    | (refine aops_cons rfl rfl (AOp.append' (bytes := 8) Try.zeroValue3 Try.sizeOf3 Try.underlying40 (by kernel_rfl) rfl rfl rfl (pull_there (pull_here _ _)) rfl (src_sl Try.underlying40 (all_len rfl)) (by first | first | omega | (simp <;> omega) | (simp at * <;> omega) | (have := List.length_filter_le (clp l now c f m) (l.take i); simp at this ⊢; omega)) (by decide) ?_); intro b2)
                    | (refine aops_cons rfl rfl (AOp.append' (bytes := 8) Try.zeroValue3 Try.sizeOf3 Try.underlying40 (by kernel_rfl) rfl rfl rfl (pull_there (pull_here _ _)) rfl (src_row Try.underlying40 (.head _)) (by first | first | omega | (simp <;> omega) | (simp at * <;> omega) | (have := List.length_filter_le (clp l now c f m) (l.take i); simp at this ⊢; omega)) (by decide) ?_); intro b2)
                    | (refine aops_cons rfl rfl (AOp.append' (bytes := 8) Try.zeroValue3 Try.sizeOf3 Try.underlying40 (by kernel_rfl) rfl rfl rfl (pull_there (pull_here _ _)) rfl (src_row Try.underlying40 (.tail _ (.head _))) (by first | first | omega | (simp <;> omega) | (simp at * <;> omega) | (have := List.length_filter_le (clp l now c f m) (l.take i); simp at this ⊢; omega)) (by decide) ?_); intro b2)
                    | (refine aops_cons rfl rfl (AOp.append' (bytes := 8) Try.zeroValue3 Try.sizeOf3 Try.underlying40 (by kernel_rfl) rfl rfl rfl (pull_there (pull_here _ _)) rfl (src_row Try.underlying40 (.tail _ (.tail _ (.head _)))) (by first | first | omega | (simp <;> omega) | (simp at * <;> omega) | (have := List.length_filter_le (clp l now c f m) (l.take i); simp at this ⊢; omega)) (by decide) ?_); intro b2)
                    | (refine aops_cons rfl rfl (AOp.append' (bytes := 8) Try.zeroValue3 Try.sizeOf3 Try.underlying40 (by kernel_rfl) rfl rfl rfl (pull_there (pull_here _ _)) rfl (src_row Try.underlying40 (.tail _ (.tail _ (.tail _ (.head _))))) (by first | first | omega | (simp <;> omega) | (simp at * <;> omega) | (have := List.length_filter_le (clp l now c f m) (l.take i); simp at this ⊢; omega)) (by decide) ?_); intro b2)
                    | (refine aops_cons rfl rfl (AOp.append' (bytes := 8) Try.zeroValue3 Try.sizeOf3 Try.underlying40 (by kernel_rfl) rfl rfl rfl (pull_there (pull_here _ _)) rfl (src_os Try.underlying40 (.head _) (by first | first | omega | (simp <;> omega) | (simp at * <;> omega) | (have := List.length_filter_le (clp l now c f m) (l.take i); simp at this ⊢; omega))) (by first | first | omega | (simp <;> omega) | (simp at * <;> omega) | (have := List.length_filter_le (clp l now c f m) (l.take i); simp at this ⊢; omega)) (by decide) ?_); intro b2)
                    | (refine aops_cons rfl rfl (AOp.append' (bytes := 8) Try.zeroValue3 Try.sizeOf3 Try.underlying40 (by kernel_rfl) rfl rfl rfl (pull_there (pull_here _ _)) rfl (src_os Try.underlying40 (.tail _ (.head _)) (by first | first | omega | (simp <;> omega) | (simp at * <;> omega) | (have := List.length_filter_le (clp l now c f m) (l.take i); simp at this ⊢; omega))) (by first | first | omega | (simp <;> omega) | (simp at * <;> omega) | (have := List.length_filter_le (clp l now c f m) (l.take i); simp at this ⊢; omega)) (by decide) ?_); intro b2)
                    | (refine aops_cons rfl rfl (AOp.append' (bytes := 8) Try.zeroValue3 Try.sizeOf3 Try.underlying40 (by kernel_rfl) rfl rfl rfl (pull_there (pull_here _ _)) rfl (src_os Try.underlying40 (.tail _ (.tail _ (.head _))) (by first | first | omega | (simp <;> omega) | (simp at * <;> omega) | (have := List.length_filter_le (clp l now c f m) (l.take i); simp at this ⊢; omega))) (by first | first | omega | (simp <;> omega) | (simp at * <;> omega) | (have := List.length_filter_le (clp l now c f m) (l.take i); simp at this ⊢; omega)) (by decide) ?_); intro b2)
                    | (refine aops_cons rfl rfl (AOp.append' (bytes := 8) Try.zeroValue3 Try.sizeOf3 Try.underlying40 (by kernel_rfl) rfl rfl rfl (pull_there (pull_here _ _)) rfl (src_os Try.underlying40 (.tail _ (.tail _ (.tail _ (.head _)))) (by first | first | omega | (simp <;> omega) | (simp at * <;> omega) | (have := List.length_filter_le (clp l now c f m) (l.take i); simp at this ⊢; omega))) (by first | first | omega | (simp <;> omega) | (simp at * <;> omega) | (have := List.length_filter_le (clp l now c f m) (l.take i); simp at this ⊢; omega)) (by decide) ?_); intro b2)
                    | (refine aops_cons rfl rfl (AOp.append' (bytes := 8) Try.zeroValue3 Try.sizeOf3 Try.underlying40 (by kernel_rfl) rfl rfl rfl (pull_there (pull_there (pull_here _ _))) rfl (src_sl Try.underlying40 (by exact len_map (fun _ => rfl))) (by first | first | omega | (simp <;> omega) | (simp at * <;> omega) | (have := List.length_filter_le (clp l now c f m) (l.take i); simp at this ⊢; omega)) (by decide) ?_); intro b2)
                    | (refine aops_cons rfl rfl (AOp.append' (bytes := 8) Try.zeroValue3 Try.sizeOf3 Try.underlying40 (by kernel_rfl) rfl rfl rfl (pull_there (pull_there (pull_here _ _))) rfl (src_sl Try.underlying40 (by assumption)) (by first | first | omega | (simp <;> omega) | (simp at * <;> omega) | (have := List.length_filter_le (clp l now c f m) (l.take i); simp at this ⊢; omega)) (by decide) ?_); intro b2)
                    | (refine aops_cons rfl rfl (AOp.append' (bytes := 8) Try.zeroValue3 Try.sizeOf3 Try.underlying40 (by kernel_rfl) rfl rfl rfl (pull_there (pull_there (pull_here _ _))) rfl (src_sl Try.underlying40 (all_len rfl)) (by first | first | omega | (simp <;> omega) | (simp at * <;> omega) | (have := List.length_filter_le (clp l now c f m) (l.take i); simp at this ⊢; omega)) (by decide) ?_); intro b2)
                    | (refine aops_cons rfl rfl (AOp.append' (bytes := 8) Try.zeroValue3 Try.sizeOf3 Try.underlying40 (by kernel_rfl) rfl rfl rfl (pull_there (pull_there (pull_here _ _))) rfl (src_row Try.underlying40 (.head _)) (by first | first | omega | (simp <;> omega) | (simp at * <;> omega) | (have := List.length_filter_le (clp l now c f m) (l.take i); simp at this ⊢; omega)) (by decide) ?_); intro b2)
                    | (refine aops_cons rfl rfl (AOp.append' (bytes := 8) Try.zeroValue3 Try.sizeOf3 Try.underlying40 (by kernel_rfl) rfl rfl rfl (pull_there (pull_there (pull_here _ _))) rfl (src_row Try.underlying40 (.tail _ (.head _))) (by first | first | omega | (simp <;> omega) | (simp at * <;> omega) | (have := List.length_filter_le (clp l now c f m) (l.take i); simp at this ⊢; omega)) (by decide) ?_); intro b2)
                    | (refine aops_cons rfl rfl (AOp.append' (bytes := 8) Try.zeroValue3 Try.sizeOf3 Try.underlying40 (by kernel_rfl) rfl rfl rfl (pull_there (pull_there (pull_here _ _))) rfl (src_row Try.underlying40 (.tail _ (.tail _ (.head _)))) (by first | first | omega | (simp <;> omega) | (simp at * <;> omega) | (have := List.length_filter_le (clp l now c f m) (l.take i); simp at this ⊢; omega)) (by decide) ?_); intro b2)
                    | (refine aops_cons rfl rfl (AOp.append' (bytes := 8) Try.zeroValue3 Try.sizeOf3 Try.underlying40 (by kernel_rfl) rfl rfl rfl (pull_there (pull_there (pull_here _ _))) rfl (src_row Try.underlying40 (.tail _ (.tail _ (.tail _ (.head _))))) (by first | first | omega | (simp <;> omega) | (simp at * <;> omega) | (have := List.length_filter_le (clp l now c f m) (l.take i); simp at this ⊢; omega)) (by decide) ?_); intro b2)
                    | (refine aops_cons rfl rfl (AOp.append' (bytes := 8) Try.zeroValue3 Try.sizeOf3 Try.underlying40 (by kernel_rfl) rfl rfl rfl (pull_there (pull_there (pull_here _ _))) rfl (src_os Try.underlying40 (.head _) (by first | first | omega | (simp <;> omega) | (simp at * <;> omega) | (have := List.length_filter_le (clp l now c f m) (l.take i); simp at this ⊢; omega))) (by first | first | omega | (simp <;> omega) | (simp at * <;> omega) | (have := List.length_filter_le (clp l now c f m) (l.take i); simp at this ⊢; omega)) (by decide) ?_); intro b2)
                    | (refine aops_cons rfl rfl (AOp.append' (bytes := 8) Try.zeroValue3 Try.sizeOf3 Try.underlying40 (by kernel_rfl) rfl rfl rfl (pull_there (pull_there (pull_here _ _))) rfl (src_os Try.underlying40 (.tail _ (.head _)) (by first | first | omega | (simp <;> omega) | (simp at * <;> omega) | (have := List.length_filter_le (clp l now c f m) (l.take i); simp at this ⊢; omega))) (by first | first | omega | (simp <;> omega) | (simp at * <;> omega) | (have := List.length_filter_le (clp l now c f m) (l.take i); simp at this ⊢; omega)) (by decide) ?_); intro b2)
                    | (refine aops_cons rfl rfl (AOp.append' (bytes := 8) Try.zeroValue3 Try.sizeOf3 Try.underlying40 (by kernel_rfl) rfl rfl rfl (pull_there (pull_there (pull_here _ _))) rfl (src_os Try.underlying40 (.tail _ (.tail _ (.head _))) (by first | first | omega | (simp <;> omega) | (simp at * <;> omega) | (have := List.length_filter_le (clp l now c f m) (l.take i); simp at this ⊢; omega))) (by first | first | omega | (simp <;> omega) | (simp at * <;> omega) | (have := List.length_filter_le (clp l now c f m) (l.take i); simp at this ⊢; omega)) (by decide) ?_); intro b2)
                    | (refine aops_cons rfl rfl (AOp.append' (bytes := 8) Try.zeroValue3 Try.sizeOf3 Try.underlying40 (by kernel_rfl) rfl rfl rfl (pull_there (pull_there (pull_here _ _))) rfl (src_os Try.underlying40 (.tail _ (.tail _ (.tail _ (.head _)))) (by first | first | omega | (simp <;> omega) | (simp at * <;> omega) | (have := List.length_filter_le (clp l now c f m) (l.take i); simp at this ⊢; omega))) (by first | first | omega | (simp <;> omega) | (simp at * <;> omega) | (have := List.length_filter_le (clp l now c f m) (l.take i); simp at this ⊢; omega)) (by decide) ?_); intro b2)
                    | (refine aops_cons rfl rfl (AOp.append' (bytes := 8) Try.zeroValue3 Try.sizeOf3 Try.underlying40 (by kernel_rfl) rfl rfl rfl (pull_there (pull_there (pull_there (pull_here _ _)))) rfl (src_sl Try.underlying40 (by exact len_map (fun _ => rfl))) (by first | first | omega | (simp <;> omega) | (simp at * <;> omega) | (have := List.length_filter_le (clp l now c f m) (l.take i); simp at this ⊢; omega)) (by decide) ?_); intro b2)
                    | (refine aops_cons rfl rfl (AOp.append' (bytes := 8) Try.zeroValue3 Try.sizeOf3 Try.underlying40 (by kernel_rfl) rfl rfl rfl (pull_there (pull_there (pull_there (pull_here _ _)))) rfl (src_sl Try.underlying40 (by assumption)) (by first | first | omega | (simp <;> omega) | (simp at * <;> omega) | (have := List.length_filter_le (clp l now c f m) (l.take i); simp at this ⊢; omega)) (by decide) ?_); intro b2)
                    | (refine aops_cons rfl rfl (AOp.append' (bytes := 8) Try.zeroValue3 Try.sizeOf3 Try.underlying40 (by kernel_rfl) rfl rfl rfl (pull_there (pull_there (pull_there (pull_here _ _)))) rfl (src_sl Try.underlying40 (all_len rfl)) (by first | first | omega | (simp <;> omega) | (simp at * <;> omega) | (have := List.length_filter_le (clp l now c f m) (l.take i); simp at this ⊢; omega)) (by decide) ?_); intro b2)
                    | (refine aops_cons rfl rfl (AOp.append' (bytes := 8) Try.zeroValue3 Try.sizeOf3 Try.underlying40 (by kernel_rfl) rfl rfl rfl (pull_there (pull_there (pull_there (pull_here _ _)))) rfl (src_row Try.underlying40 (.head _)) (by first | first | omega | (simp <;> omega) | (simp at * <;> omega) | (have := List.length_filter_le (clp l now c f m) (l.take i); simp at this ⊢; omega)) (by decide) ?_); intro b2)
                    | (refine aops_cons rfl rfl (AOp.append' (bytes := 8) Try.zeroValue3 Try.sizeOf3 Try.underlying40 (by kernel_rfl) rfl rfl rfl (pull_there (pull_there (pull_there (pull_here _ _)))) rfl (src_row Try.underlying40 (.tail _ (.head _))) (by first | first | omega | (simp <;> omega) | (simp at * <;> omega) | (have := List.length_filter_le (clp l now c f m) (l.take i); simp at this ⊢; omega)) (by decide) ?_); intro b2)
                    | (refine aops_cons rfl rfl (AOp.append' (bytes := 8) Try.zeroValue3 Try.sizeOf3 Try.underlying40 (by kernel_rfl) rfl rfl rfl (pull_there (pull_there (pull_there (pull_here _ _)))) rfl (src_row Try.underlying40 (.tail _ (.tail _ (.head _)))) (by first | first | omega | (simp <;> omega) | (simp at * <;> omega) | (have := List.length_filter_le (clp l now c f m) (l.take i); simp at this ⊢; omega)) (by decide) ?_); intro b2)
                    | (refine aops_cons rfl rfl (AOp.append' (bytes := 8) Try.zeroValue3 Try.sizeOf3 Try.underlying40 (by kernel_rfl) rfl rfl rfl (pull_there (pull_there (pull_there (pull_here _ _)))) rfl (src_row Try.underlying40 (.tail _ (.tail _ (.tail _ (.head _))))) (by first | first | omega | (simp <;> omega) | (simp at * <;> omega) | (have := List.length_filter_le (clp l now c f m) (l.take i); simp at this ⊢; omega)) (by decide) ?_); intro b2)
                    | (refine aops_cons rfl rfl (AOp.append' (bytes := 8) Try.zeroValue3 Try.sizeOf3 Try.underlying40 (by kernel_rfl) rfl rfl rfl (pull_there (pull_there (pull_there (pull_here _ _)))) rfl (src_os Try.underlying40 (.head _) (by first | first | omega | (simp <;> omega) | (simp at * <;> omega) | (have := List.length_filter_le (clp l now c f m) (l.take i); simp at this ⊢; omega))) (by first | first | omega | (simp <;> omega) | (simp at * <;> omega) | (have := List.length_filter_le (clp l now c f m) (l.take i); simp at this ⊢; omega)) (by decide) ?_); intro b2)
                    | (refine aops_cons rfl rfl (AOp.append' (bytes := 8) Try.zeroValue3 Try.sizeOf3 Try.underlying40 (by kernel_rfl) rfl rfl rfl (pull_there (pull_there (pull_there (pull_here _ _)))) rfl (src_os Try.underlying40 (.tail _ (.head _)) (by first | first | omega | (simp <;> omega) | (simp at * <;> omega) | (have := List.length_filter_le (clp l now c f m) (l.take i); simp at this ⊢; omega))) (by first | first | omega | (simp <;> omega) | (simp at * <;> omega) | (have := List.length_filter_le (clp l now c f m) (l.take i); simp at this ⊢; omega)) (by decide) ?_); intro b2)
                    | (refine aops_cons rfl rfl (AOp.append' (bytes := 8) Try.zeroValue3 Try.sizeOf3 Try.underlying40 (by kernel_rfl) rfl rfl rfl (pull_there (pull_there (pull_there (pull_here _ _)))) rfl (src_os Try.underlying40 (.tail _ (.tail _ (.head _))) (by first | first | omega | (simp <;> omega) | (simp at * <;> omega) | (have := List.length_filter_le (clp l now c f m) (l.take i); simp at this ⊢; omega))) (by first | first | omega | (simp <;> omega) | (simp at * <;> omega) | (have := List.length_filter_le (clp l now c f m) (l.take i); simp at this ⊢; omega)) (by decide) ?_); intro b2)
                    | (refine aops_cons rfl rfl (AOp.append' (bytes := 8) Try.zeroValue3 Try.sizeOf3 Try.underlying40 (by kernel_rfl) rfl rfl rfl (pull_there (pull_there (pull_there (pull_here _ _)))) rfl (src_os Try.underlying40 (.tail _ (.tail _ (.tail _ (.head _)))) (by first | first | omega | (simp <;> omega) | (simp at * <;> omega) | (have := List.length_filter_le (clp l now c f m) (l.take i); simp at this ⊢; omega))) (by first | first | omega | (simp <;> omega) | (simp at * <;> omega) | (have := List.length_filter_le (clp l now c f m) (l.take i); simp at this ⊢; omega)) (by decide) ?_); intro b2)
                    refine aops_cons rfl rfl (AOp.assign rfl rfl ?_)
                    refine aops_nil ?_
                    skip
                rotate_right
                focus
                  have h7_ := h7
                  try simp only [List.length_map, List.length_cons, List.length_nil, nrm] at h7
                  all_goals try (exfalso; first | (simp at h7_; done) | omega)
                  all_goals
                    refine aw_skip ?_
                    skip
                all_goals
                  refine aw_region ?_
                  first
                  | refine aops_cons rfl rfl (AOp.addE rfl rfl rfl (by first | first | omega | (simp <;> omega) | (simp at * <;> omega) | (have := List.length_filter_le (clp l now c f m) (l.take i); simp at this ⊢; omega)) (by first | first | omega | (simp <;> omega) | (simp at * <;> omega) | (have := List.length_filter_le (clp l now c f m) (l.take i); simp at this ⊢; omega)) ?_)
                  | refine aops_cons rfl rfl (AOp.add rfl rfl rfl rfl ?_)
                  refine aops_cons rfl rfl (AOp.move rfl rfl ?_)
                  refine aops_nil ?_
                  first
                  | (refine ⟨(i + 1, _), ?_, ?_, (wk_drop ?_).trans ((wk_roweq (A := []) (filter_yes ?_ ?_)).trans (wk_env (sube_cons rfl (sube_cons rfl (sube_cons rfl (sube_cons rfl (sube_cons rfl (sube_cons rfl (sube_cons rfl (sube_cons rfl (sube_cons rfl (sube_nil _))))))))))))⟩; (dsimp only; omega); (dsimp only; omega); (focus ((repeat (first | exact List.Sublist.slnil | apply List.Sublist.cons_cons | apply List.Sublist.cons)); done)); omega; focus (simp [clp, *]; done))
                  | (refine ⟨(i + 1, _), ?_, ?_, (wk_drop ?_).trans ((wk_roweq (A := []) (filter_no ?_ ?_)).trans (wk_env (sube_cons rfl (sube_cons rfl (sube_cons rfl (sube_cons rfl (sube_cons rfl (sube_cons rfl (sube_cons rfl (sube_cons rfl (sube_cons rfl (sube_nil _))))))))))))⟩; (dsimp only; omega); (dsimp only; omega); (focus ((repeat (first | exact List.Sublist.slnil | apply List.Sublist.cons_cons | apply List.Sublist.cons)); done)); omega; focus (simp [clp, *]; done))

end Go.Proofs.Ytdlkmimgdghgcaa
