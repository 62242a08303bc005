/- Own text: who holds it to write holds it alone. -/
import Derived.Test.YtdlkmimgdghgcaaLp
import Derived.Test.YtdlkmimgdghgcaaAwN
set_option linter.unusedVariables false
set_option linter.unusedSimpArgs false
set_option linter.all false
set_option maxRecDepth 100000
set_option maxHeartbeats 2000000
namespace Go.Proofs.Ytdlkmimgdghgcaa
open Go Go.Aw

theorem cnt_le (p : Int → Bool) (j : Nat) : cnt p j ≤ j := by
  induction j with
  | zero => exact Nat.le_refl _
  | succ j ih => unfold cnt; split <;> omega
def qs (l : List Q) : AV := .sl (l.map Q.e)

theorem leaseAloneWalk (l : List Q) : ACalls Try.prog 5 [qs l] [] (fun r A' => r = .sc (.bool true)) (fun _ _ => False) := by
  unfold qs
  refine acallsN Try.func5 rfl Try.ntmps5 rfl ?_
  refine aw_seq ?_
  refine aw_region ?_
  refine aops_cons rfl rfl (AOp.assign rfl rfl ?_)
  refine aops_nil ?_
  refine aw_seq ?_
  refine aw_seq ?_
  refine aw_region ?_
  refine aops_cons rfl rfl (AOp.callP Try.call20 rfl rfl rfl begun ?_)
  refine aops_cons rfl rfl (AOp.not rfl rfl ?_)
  refine aops_nil ?_
  refine aw_cond _ rfl (fun h1 => ?_) (fun h1 => ?_)
  focus
    have h1_ := h1
    try simp only [List.length_map, List.length_cons, List.length_nil, nrm] at h1
    all_goals try (exfalso; first | (simp at h1_; done) | omega)
    all_goals
      refine aw_seq ?_
      refine aw_region ?_
      refine aops_cons rfl rfl (AOp.assign rfl rfl ?_)
      refine aops_nil ?_
      refine aw_ret ?_
      refine ⟨_, (res1 Try.results5 rfl), ?_⟩
      rfl
  rotate_right
  focus
    have h1_ := h1
    try simp only [List.length_map, List.length_cons, List.length_nil, nrm] at h1
    all_goals try (exfalso; first | (simp at h1_; done) | omega)
    all_goals
      refine aw_skip ?_
      skip
  all_goals
    refine aw_seq ?_
    refine aw_seq ?_
    refine aw_region ?_
    refine aops_cons rfl rfl (AOp.move rfl rfl ?_)
    first
    | refine aops_cons rfl rfl (AOp.lenS (by first | exact List.length_map _ | rfl) Try.underlying69 rfl rfl ?_)
    | refine aops_cons rfl rfl (AOp.lenN Try.underlying69 rfl rfl ?_)
    | refine aops_cons rfl rfl (AOp.lenR (by first | exact List.length_map _ | rfl) Try.underlying69 (.head _) rfl rfl ?_)
    | refine aops_cons rfl rfl (AOp.lenR (by first | exact List.length_map _ | rfl) Try.underlying69 (.tail _ (.head _)) rfl rfl ?_)
    refine aops_cons rfl rfl (AOp.gtr rfl rfl rfl ?_)
    refine aops_nil ?_
    refine aw_cond _ rfl (fun h2 => ?_) (fun h2 => ?_)
    focus
      have h2_ := h2
      try simp only [List.length_map, List.length_cons, List.length_nil, nrm] at h2
      all_goals try (exfalso; first | (simp at h2_; done) | omega)
      all_goals
        refine aw_seq ?_
        refine aw_region ?_
        refine aops_cons rfl rfl (AOp.assign rfl rfl ?_)
        refine aops_nil ?_
        refine aw_ret ?_
        refine ⟨_, (res1 Try.results5 rfl), ?_⟩
        rfl
    rotate_right
    focus
      have h2_ := h2
      try simp only [List.length_map, List.length_cons, List.length_nil, nrm] at h2
      all_goals try (exfalso; first | (simp at h2_; done) | omega)
      all_goals
        refine aw_skip ?_
        skip
    all_goals
      refine aw_seq ?_
      refine aw_region ?_
      refine aops_cons rfl rfl (AOp.assign rfl rfl ?_)
      refine aops_nil ?_
      refine aw_seq ?_
      refine aw_region ?_
      refine aops_cons rfl rfl (AOp.assign rfl rfl ?_)
      refine aops_nil ?_
      refine aw_seq ?_
      refine aw_seq ?_
      refine aw_region ?_
      refine aops_cons rfl rfl (AOp.assign rfl rfl ?_)
      refine aops_nil ?_
      refine aw_block ?_
      refine aw_loop (β := Nat × Int × List L) (S := (fun (z0 : Nat × Int × List L) => match z0 with | (i, n, x) => [(0, qs l), (3, ls x), (4, .sc (.int .i64 n)), (5, .sc (.int .i64 (i : Int)))])) (B := (fun (z0 : Nat × Int × List L) => match z0 with | (i, n, x) => [])) (pre := (fun (z0 : Nat × Int × List L) => match z0 with | (i, n, x) => i ≤ l.length ∧ 0 ≤ n ∧ n ≤ 30 * (i : Int) ∧ x.length ≤ i ∧ Alone x n)) (μ := (fun (z0 : Nat × Int × List L) => match z0 with | (i, n, x) => l.length - i)) (0, 0, []) (wk_subw (subw_cons rfl (subw_sl rfl (subw_cons rfl (subw_cons rfl (subw_nil _)))))) ?_ ?_
      · exact ⟨Nat.zero_le _, Int.le_refl _, by decide, Nat.le_refl _, alone_nil 0⟩
      · rintro ⟨i, n, x⟩ ⟨hi, hn0, hn, hx, hA⟩
        change AW _ _ _ ([(0, qs l), (3, ls x), (4, .sc (.int .i64 n)), (5, .sc (.int .i64 (i : Int)))] : Env) ([] : List Blk) _
        refine aw_seq ?_
        refine aw_seq ?_
        refine aw_region ?_
        refine aops_cons rfl rfl (AOp.move rfl rfl ?_)
        refine aops_cons rfl rfl (AOp.move rfl rfl ?_)
        first
        | refine aops_cons rfl rfl (AOp.lenS (by first | exact List.length_map _ | rfl) Try.underlying69 rfl rfl ?_)
        | refine aops_cons rfl rfl (AOp.lenN Try.underlying69 rfl rfl ?_)
        | refine aops_cons rfl rfl (AOp.lenR (by first | exact List.length_map _ | rfl) Try.underlying69 (.head _) rfl rfl ?_)
        | refine aops_cons rfl rfl (AOp.lenR (by first | exact List.length_map _ | rfl) Try.underlying69 (.tail _ (.head _)) rfl rfl ?_)
        refine aops_cons rfl rfl (AOp.lss rfl rfl rfl ?_)
        refine aops_nil ?_
        refine aw_cond _ rfl (fun h3 => ?_) (fun h3 => ?_)
        focus
          have h3_ := h3
          try simp only [List.length_map, List.length_cons, List.length_nil, nrm] at h3
          all_goals try (exfalso; first | (simp at h3_; done) | omega)
          all_goals
            refine aw_skip ?_
            skip
        rotate_right
        focus
          have h3_ := h3
          try simp only [List.length_map, List.length_cons, List.length_nil, nrm] at h3
          all_goals try (exfalso; first | (simp at h3_; done) | omega)
          all_goals
            refine aw_exit ?_
            refine aw_seq ?_
            refine aw_region ?_
            refine aops_cons rfl rfl (AOp.assign rfl rfl ?_)
            refine aops_nil ?_
            refine aw_ret ?_
            refine ⟨_, (res1 Try.results5 rfl), ?_⟩
            rfl
        all_goals
          refine aw_seq ?_
          refine aw_block ?_
          refine aw_seq ?_
          refine aw_draw 26 [0, 0, 0, 0, 0, 0, 0, 0, 0, 0, 0, 0, 0, 0, 0, 0, 0, 0, 0, 0, 0, 0, 0, 0, 0, 0] (by kernel_rfl) (by kernel_rfl) ?_
          refine psq_cons _ rfl (core0 (AOp.move rfl rfl ⟨rfl, rfl⟩)) ?_
          refine psq_cons _ rfl (core0 (AOp.move rfl rfl ⟨rfl, rfl⟩)) ?_
          first
          | refine psq_cons _ rfl (core0 (AOp.indexLN Try.underlying69 Try.sizeOf70 rfl rfl rfl (by first | omega | (simp <;> omega) | (simp at * <;> omega)) (fun _ => rfl) ⟨rfl, rfl⟩)) ?_
          | refine psq_cons _ rfl (core0 (AOp.indexLI Try.underlying69 Try.sizeOf70 rfl rfl rfl (by first | omega | (simp <;> omega) | (simp at * <;> omega)) (by first | omega | (simp <;> omega) | (simp at * <;> omega)) (fun _ => rfl) ⟨rfl, rfl⟩)) ?_
          | refine psq_cons _ rfl (core0 (AOp.indexS Try.underlying69 Try.sizeOf70 (by assumption) rfl rfl rfl (by first | omega | (simp <;> omega) | (simp at * <;> omega)) (by assumption) ⟨rfl, rfl⟩)) ?_
          | refine psq_cons _ rfl (core0 (AOp.indexS Try.underlying69 Try.sizeOf70 (by assumption) rfl rfl rfl (by first | omega | (simp <;> omega) | (simp at * <;> omega)) (List.getElem?_eq_getElem (by first | omega | (simp <;> omega) | (simp at * <;> omega))) ⟨rfl, rfl⟩)) ?_
          | refine psq_cons _ rfl (core0 (AOp.indexS Try.underlying69 Try.sizeOf70 (by exact all_len rfl) rfl rfl rfl (by first | omega | (simp <;> omega) | (simp at * <;> omega)) rfl ⟨rfl, rfl⟩)) ?_
          | refine psq_cons _ rfl (core0 (AOp.indexR Try.underlying69 Try.sizeOf70 (.head _) rfl rfl rfl (by first | omega | (simp <;> omega) | (simp at * <;> omega)) (by first | omega | (simp <;> omega) | (simp at * <;> omega)) ⟨rfl, rfl⟩)) ?_
          | refine psq_cons _ rfl (core0 (AOp.indexR Try.underlying69 Try.sizeOf70 (.tail _ (.head _)) rfl rfl rfl (by first | omega | (simp <;> omega) | (simp at * <;> omega)) (by first | omega | (simp <;> omega) | (simp at * <;> omega)) ⟨rfl, rfl⟩)) ?_
          first
          | refine psq_cons _ rfl (core0 (AOp.indexAI Try.underlying70 Try.sizeOf5 rfl rfl rfl (by first | omega | (simp <;> omega) | (simp at * <;> omega)) (by first | omega | (simp <;> omega) | (simp at * <;> omega)) rfl ⟨rfl, rfl⟩)) ?_
          | refine psq_cons _ rfl (core0 (AOp.indexAB Try.underlying70 Try.sizeOf5 rfl rfl rfl (by first | omega | (simp <;> omega) | (simp at * <;> omega)) (by first | omega | (simp <;> omega) | (simp at * <;> omega)) rfl ⟨rfl, rfl⟩)) ?_
          first
          | refine psq_cons _ rfl (core0 (AOp.load1 Try.isAgg5 rfl rfl (reads_im _ _) rfl ⟨rfl, rfl⟩)) ?_
          | refine psq_cons _ rfl (core0 (AOp.load1 Try.isAgg5 rfl rfl (reads_box _ (.head _)) rfl ⟨rfl, rfl⟩)) ?_
          | refine psq_cons _ rfl (core0 (AOp.load1 Try.isAgg5 rfl rfl (reads_box _ (.tail _ (.head _))) rfl ⟨rfl, rfl⟩)) ?_
          | refine psq_cons _ rfl (core0 (AOp.load1 Try.isAgg5 rfl rfl (reads_row _ (.head _) (idx_nat (by first | omega | (simp <;> omega) | (simp at * <;> omega))) (by first | omega | (simp <;> omega) | (simp at * <;> omega))) rfl ⟨rfl, rfl⟩)) ?_
          | refine psq_cons _ rfl (core0 (AOp.load1 Try.isAgg5 rfl rfl (reads_row _ (.head _) (idx_map (by first | omega | (simp <;> omega) | (simp at * <;> omega))) (by first | omega | (simp <;> omega) | (simp at * <;> omega))) rfl ⟨rfl, rfl⟩)) ?_
          | refine psq_cons _ rfl (core0 (AOp.load1 Try.isAgg5 rfl rfl (reads_row _ (.head _) (by assumption) (by first | omega | (simp <;> omega) | (simp at * <;> omega))) rfl ⟨rfl, rfl⟩)) ?_
          | refine psq_cons _ rfl (core0 (AOp.load1 Try.isAgg5 rfl rfl (reads_row _ (.tail _ (.head _)) (idx_nat (by first | omega | (simp <;> omega) | (simp at * <;> omega))) (by first | omega | (simp <;> omega) | (simp at * <;> omega))) rfl ⟨rfl, rfl⟩)) ?_
          | refine psq_cons _ rfl (core0 (AOp.load1 Try.isAgg5 rfl rfl (reads_row _ (.tail _ (.head _)) (idx_map (by first | omega | (simp <;> omega) | (simp at * <;> omega))) (by first | omega | (simp <;> omega) | (simp at * <;> omega))) rfl ⟨rfl, rfl⟩)) ?_
          | refine psq_cons _ rfl (core0 (AOp.load1 Try.isAgg5 rfl rfl (reads_row _ (.tail _ (.head _)) (by assumption) (by first | omega | (simp <;> omega) | (simp at * <;> omega))) rfl ⟨rfl, rfl⟩)) ?_
          refine psq_cons _ rfl (core0 (AOp.remE rfl rfl rfl (by first | decide | omega) (by first | omega | (simp <;> omega) | (simp at * <;> omega)) ⟨rfl, rfl⟩)) ?_
          first
          | refine psq_cons _ rfl (core0 (AOp.conviI Try.underlying5 Try.underlying3 rfl rfl (by first | omega | (simp <;> omega) | (simp at * <;> omega)) (by first | omega | (simp <;> omega) | (simp at * <;> omega)) ⟨rfl, rfl⟩)) ?_
          | refine psq_cons _ rfl (core0 (AOp.convi Try.underlying5 Try.underlying3 rfl rfl rfl ⟨rfl, rfl⟩)) ?_
          first
          | refine psq_cons _ rfl (core0 (AOp.addE rfl rfl rfl (by first | omega | (simp <;> omega) | (simp at * <;> omega)) (by first | omega | (simp <;> omega) | (simp at * <;> omega)) ⟨rfl, rfl⟩)) ?_
          | refine psq_cons _ rfl (core0 (AOp.add rfl rfl rfl rfl ⟨rfl, rfl⟩)) ?_
          refine psq_cons _ rfl (core0 (AOp.move rfl rfl ⟨rfl, rfl⟩)) ?_
          refine psq_cons _ rfl (core0 (AOp.move rfl rfl ⟨rfl, rfl⟩)) ?_
          first
          | refine psq_cons _ rfl (core0 (AOp.indexLN Try.underlying69 Try.sizeOf70 rfl rfl rfl (by first | omega | (simp <;> omega) | (simp at * <;> omega)) (fun _ => rfl) ⟨rfl, rfl⟩)) ?_
          | refine psq_cons _ rfl (core0 (AOp.indexLI Try.underlying69 Try.sizeOf70 rfl rfl rfl (by first | omega | (simp <;> omega) | (simp at * <;> omega)) (by first | omega | (simp <;> omega) | (simp at * <;> omega)) (fun _ => rfl) ⟨rfl, rfl⟩)) ?_
          | refine psq_cons _ rfl (core0 (AOp.indexS Try.underlying69 Try.sizeOf70 (by assumption) rfl rfl rfl (by first | omega | (simp <;> omega) | (simp at * <;> omega)) (by assumption) ⟨rfl, rfl⟩)) ?_
          | refine psq_cons _ rfl (core0 (AOp.indexS Try.underlying69 Try.sizeOf70 (by assumption) rfl rfl rfl (by first | omega | (simp <;> omega) | (simp at * <;> omega)) (List.getElem?_eq_getElem (by first | omega | (simp <;> omega) | (simp at * <;> omega))) ⟨rfl, rfl⟩)) ?_
          | refine psq_cons _ rfl (core0 (AOp.indexS Try.underlying69 Try.sizeOf70 (by exact all_len rfl) rfl rfl rfl (by first | omega | (simp <;> omega) | (simp at * <;> omega)) rfl ⟨rfl, rfl⟩)) ?_
          | refine psq_cons _ rfl (core0 (AOp.indexR Try.underlying69 Try.sizeOf70 (.head _) rfl rfl rfl (by first | omega | (simp <;> omega) | (simp at * <;> omega)) (by first | omega | (simp <;> omega) | (simp at * <;> omega)) ⟨rfl, rfl⟩)) ?_
          | refine psq_cons _ rfl (core0 (AOp.indexR Try.underlying69 Try.sizeOf70 (.tail _ (.head _)) rfl rfl rfl (by first | omega | (simp <;> omega) | (simp at * <;> omega)) (by first | omega | (simp <;> omega) | (simp at * <;> omega)) ⟨rfl, rfl⟩)) ?_
          first
          | refine psq_cons _ rfl (core0 (AOp.indexAI Try.underlying70 Try.sizeOf5 rfl rfl rfl (by first | omega | (simp <;> omega) | (simp at * <;> omega)) (by first | omega | (simp <;> omega) | (simp at * <;> omega)) rfl ⟨rfl, rfl⟩)) ?_
          | refine psq_cons _ rfl (core0 (AOp.indexAB Try.underlying70 Try.sizeOf5 rfl rfl rfl (by first | omega | (simp <;> omega) | (simp at * <;> omega)) (by first | omega | (simp <;> omega) | (simp at * <;> omega)) rfl ⟨rfl, rfl⟩)) ?_
          first
          | refine psq_cons _ rfl (core0 (AOp.load1 Try.isAgg5 rfl rfl (reads_im _ _) rfl ⟨rfl, rfl⟩)) ?_
          | refine psq_cons _ rfl (core0 (AOp.load1 Try.isAgg5 rfl rfl (reads_box _ (.head _)) rfl ⟨rfl, rfl⟩)) ?_
          | refine psq_cons _ rfl (core0 (AOp.load1 Try.isAgg5 rfl rfl (reads_box _ (.tail _ (.head _))) rfl ⟨rfl, rfl⟩)) ?_
          | refine psq_cons _ rfl (core0 (AOp.load1 Try.isAgg5 rfl rfl (reads_row _ (.head _) (idx_nat (by first | omega | (simp <;> omega) | (simp at * <;> omega))) (by first | omega | (simp <;> omega) | (simp at * <;> omega))) rfl ⟨rfl, rfl⟩)) ?_
          | refine psq_cons _ rfl (core0 (AOp.load1 Try.isAgg5 rfl rfl (reads_row _ (.head _) (idx_map (by first | omega | (simp <;> omega) | (simp at * <;> omega))) (by first | omega | (simp <;> omega) | (simp at * <;> omega))) rfl ⟨rfl, rfl⟩)) ?_
          | refine psq_cons _ rfl (core0 (AOp.load1 Try.isAgg5 rfl rfl (reads_row _ (.head _) (by assumption) (by first | omega | (simp <;> omega) | (simp at * <;> omega))) rfl ⟨rfl, rfl⟩)) ?_
          | refine psq_cons _ rfl (core0 (AOp.load1 Try.isAgg5 rfl rfl (reads_row _ (.tail _ (.head _)) (idx_nat (by first | omega | (simp <;> omega) | (simp at * <;> omega))) (by first | omega | (simp <;> omega) | (simp at * <;> omega))) rfl ⟨rfl, rfl⟩)) ?_
          | refine psq_cons _ rfl (core0 (AOp.load1 Try.isAgg5 rfl rfl (reads_row _ (.tail _ (.head _)) (idx_map (by first | omega | (simp <;> omega) | (simp at * <;> omega))) (by first | omega | (simp <;> omega) | (simp at * <;> omega))) rfl ⟨rfl, rfl⟩)) ?_
          | refine psq_cons _ rfl (core0 (AOp.load1 Try.isAgg5 rfl rfl (reads_row _ (.tail _ (.head _)) (by assumption) (by first | omega | (simp <;> omega) | (simp at * <;> omega))) rfl ⟨rfl, rfl⟩)) ?_
          refine psq_cons _ rfl (core0 (AOp.remE rfl rfl rfl (by first | decide | omega) (by first | omega | (simp <;> omega) | (simp at * <;> omega)) ⟨rfl, rfl⟩)) ?_
          first
          | refine psq_cons _ rfl (core0 (AOp.conviI Try.underlying5 Try.underlying3 rfl rfl (by first | omega | (simp <;> omega) | (simp at * <;> omega)) (by first | omega | (simp <;> omega) | (simp at * <;> omega)) ⟨rfl, rfl⟩)) ?_
          | refine psq_cons _ rfl (core0 (AOp.convi Try.underlying5 Try.underlying3 rfl rfl rfl ⟨rfl, rfl⟩)) ?_
          first
          | refine psq_cons _ rfl (core0 (AOp.addE rfl rfl rfl (by first | omega | (simp <;> omega) | (simp at * <;> omega)) (by first | omega | (simp <;> omega) | (simp at * <;> omega)) ⟨rfl, rfl⟩)) ?_
          | refine psq_cons _ rfl (core0 (AOp.add rfl rfl rfl rfl ⟨rfl, rfl⟩)) ?_
          refine psq_cons _ rfl (core0 (AOp.move rfl rfl ⟨rfl, rfl⟩)) ?_
          refine psq_cons _ rfl (core0 (AOp.move rfl rfl ⟨rfl, rfl⟩)) ?_
          first
          | refine psq_cons _ rfl (core0 (AOp.indexLN Try.underlying69 Try.sizeOf70 rfl rfl rfl (by first | omega | (simp <;> omega) | (simp at * <;> omega)) (fun _ => rfl) ⟨rfl, rfl⟩)) ?_
          | refine psq_cons _ rfl (core0 (AOp.indexLI Try.underlying69 Try.sizeOf70 rfl rfl rfl (by first | omega | (simp <;> omega) | (simp at * <;> omega)) (by first | omega | (simp <;> omega) | (simp at * <;> omega)) (fun _ => rfl) ⟨rfl, rfl⟩)) ?_
          | refine psq_cons _ rfl (core0 (AOp.indexS Try.underlying69 Try.sizeOf70 (by assumption) rfl rfl rfl (by first | omega | (simp <;> omega) | (simp at * <;> omega)) (by assumption) ⟨rfl, rfl⟩)) ?_
          | refine psq_cons _ rfl (core0 (AOp.indexS Try.underlying69 Try.sizeOf70 (by assumption) rfl rfl rfl (by first | omega | (simp <;> omega) | (simp at * <;> omega)) (List.getElem?_eq_getElem (by first | omega | (simp <;> omega) | (simp at * <;> omega))) ⟨rfl, rfl⟩)) ?_
          | refine psq_cons _ rfl (core0 (AOp.indexS Try.underlying69 Try.sizeOf70 (by exact all_len rfl) rfl rfl rfl (by first | omega | (simp <;> omega) | (simp at * <;> omega)) rfl ⟨rfl, rfl⟩)) ?_
          | refine psq_cons _ rfl (core0 (AOp.indexR Try.underlying69 Try.sizeOf70 (.head _) rfl rfl rfl (by first | omega | (simp <;> omega) | (simp at * <;> omega)) (by first | omega | (simp <;> omega) | (simp at * <;> omega)) ⟨rfl, rfl⟩)) ?_
          | refine psq_cons _ rfl (core0 (AOp.indexR Try.underlying69 Try.sizeOf70 (.tail _ (.head _)) rfl rfl rfl (by first | omega | (simp <;> omega) | (simp at * <;> omega)) (by first | omega | (simp <;> omega) | (simp at * <;> omega)) ⟨rfl, rfl⟩)) ?_
          first
          | refine psq_cons _ rfl (core0 (AOp.indexAI Try.underlying70 Try.sizeOf5 rfl rfl rfl (by first | omega | (simp <;> omega) | (simp at * <;> omega)) (by first | omega | (simp <;> omega) | (simp at * <;> omega)) rfl ⟨rfl, rfl⟩)) ?_
          | refine psq_cons _ rfl (core0 (AOp.indexAB Try.underlying70 Try.sizeOf5 rfl rfl rfl (by first | omega | (simp <;> omega) | (simp at * <;> omega)) (by first | omega | (simp <;> omega) | (simp at * <;> omega)) rfl ⟨rfl, rfl⟩)) ?_
          first
          | refine psq_cons _ rfl (core0 (AOp.load1 Try.isAgg5 rfl rfl (reads_im _ _) rfl ⟨rfl, rfl⟩)) ?_
          | refine psq_cons _ rfl (core0 (AOp.load1 Try.isAgg5 rfl rfl (reads_box _ (.head _)) rfl ⟨rfl, rfl⟩)) ?_
          | refine psq_cons _ rfl (core0 (AOp.load1 Try.isAgg5 rfl rfl (reads_box _ (.tail _ (.head _))) rfl ⟨rfl, rfl⟩)) ?_
          | refine psq_cons _ rfl (core0 (AOp.load1 Try.isAgg5 rfl rfl (reads_row _ (.head _) (idx_nat (by first | omega | (simp <;> omega) | (simp at * <;> omega))) (by first | omega | (simp <;> omega) | (simp at * <;> omega))) rfl ⟨rfl, rfl⟩)) ?_
          | refine psq_cons _ rfl (core0 (AOp.load1 Try.isAgg5 rfl rfl (reads_row _ (.head _) (idx_map (by first | omega | (simp <;> omega) | (simp at * <;> omega))) (by first | omega | (simp <;> omega) | (simp at * <;> omega))) rfl ⟨rfl, rfl⟩)) ?_
          | refine psq_cons _ rfl (core0 (AOp.load1 Try.isAgg5 rfl rfl (reads_row _ (.head _) (by assumption) (by first | omega | (simp <;> omega) | (simp at * <;> omega))) rfl ⟨rfl, rfl⟩)) ?_
          | refine psq_cons _ rfl (core0 (AOp.load1 Try.isAgg5 rfl rfl (reads_row _ (.tail _ (.head _)) (idx_nat (by first | omega | (simp <;> omega) | (simp at * <;> omega))) (by first | omega | (simp <;> omega) | (simp at * <;> omega))) rfl ⟨rfl, rfl⟩)) ?_
          | refine psq_cons _ rfl (core0 (AOp.load1 Try.isAgg5 rfl rfl (reads_row _ (.tail _ (.head _)) (idx_map (by first | omega | (simp <;> omega) | (simp at * <;> omega))) (by first | omega | (simp <;> omega) | (simp at * <;> omega))) rfl ⟨rfl, rfl⟩)) ?_
          | refine psq_cons _ rfl (core0 (AOp.load1 Try.isAgg5 rfl rfl (reads_row _ (.tail _ (.head _)) (by assumption) (by first | omega | (simp <;> omega) | (simp at * <;> omega))) rfl ⟨rfl, rfl⟩)) ?_
          refine psq_cons _ rfl (core0 (AOp.remE rfl rfl rfl (by first | decide | omega) (by first | omega | (simp <;> omega) | (simp at * <;> omega)) ⟨rfl, rfl⟩)) ?_
          first
          | refine psq_cons _ rfl (core0 (AOp.conviI Try.underlying5 Try.underlying3 rfl rfl (by first | omega | (simp <;> omega) | (simp at * <;> omega)) (by first | omega | (simp <;> omega) | (simp at * <;> omega)) ⟨rfl, rfl⟩)) ?_
          | refine psq_cons _ rfl (core0 (AOp.convi Try.underlying5 Try.underlying3 rfl rfl rfl ⟨rfl, rfl⟩)) ?_
          first
          | refine psq_cons _ rfl (core0 (AOp.addE rfl rfl rfl (by first | omega | (simp <;> omega) | (simp at * <;> omega)) (by first | omega | (simp <;> omega) | (simp at * <;> omega)) ⟨rfl, rfl⟩)) ?_
          | refine psq_cons _ rfl (core0 (AOp.add rfl rfl rfl rfl ⟨rfl, rfl⟩)) ?_
          refine psq_cons _ rfl (core0 (AOp.assign rfl rfl ⟨rfl, rfl⟩)) ?_
          refine psq_cons _ rfl (core0 (AOp.assign rfl rfl ⟨rfl, rfl⟩)) ?_
          refine psq_nil ?_
          refine aops_cons rfl rfl (AOp.assign rfl rfl ?_)
          refine aops_nil ?_
          refine aw_seq ?_
          refine aw_seq ?_
          refine aw_region ?_
          refine aops_cons rfl rfl (AOp.move rfl rfl ?_)
          refine aops_cons rfl rfl (AOp.move rfl rfl ?_)
          first
          | refine aops_cons rfl rfl (AOp.indexLN Try.underlying69 Try.sizeOf70 rfl rfl rfl (by first | omega | (simp <;> omega) | (simp at * <;> omega)) (fun _ => rfl) ?_)
          | refine aops_cons rfl rfl (AOp.indexLI Try.underlying69 Try.sizeOf70 rfl rfl rfl (by first | omega | (simp <;> omega) | (simp at * <;> omega)) (by first | omega | (simp <;> omega) | (simp at * <;> omega)) (fun _ => rfl) ?_)
          | refine aops_cons rfl rfl (AOp.indexS Try.underlying69 Try.sizeOf70 (by assumption) rfl rfl rfl (by first | omega | (simp <;> omega) | (simp at * <;> omega)) (by assumption) ?_)
          | refine aops_cons rfl rfl (AOp.indexS Try.underlying69 Try.sizeOf70 (by assumption) rfl rfl rfl (by first | omega | (simp <;> omega) | (simp at * <;> omega)) (List.getElem?_eq_getElem (by first | omega | (simp <;> omega) | (simp at * <;> omega))) ?_)
          | refine aops_cons rfl rfl (AOp.indexS Try.underlying69 Try.sizeOf70 (by exact all_len rfl) rfl rfl rfl (by first | omega | (simp <;> omega) | (simp at * <;> omega)) rfl ?_)
          | refine aops_cons rfl rfl (AOp.indexR Try.underlying69 Try.sizeOf70 (.head _) rfl rfl rfl (by first | omega | (simp <;> omega) | (simp at * <;> omega)) (by first | omega | (simp <;> omega) | (simp at * <;> omega)) ?_)
          | refine aops_cons rfl rfl (AOp.indexR Try.underlying69 Try.sizeOf70 (.tail _ (.head _)) rfl rfl rfl (by first | omega | (simp <;> omega) | (simp at * <;> omega)) (by first | omega | (simp <;> omega) | (simp at * <;> omega)) ?_)
          first
          | refine aops_cons rfl rfl (AOp.indexAI Try.underlying70 Try.sizeOf5 rfl rfl rfl (by first | omega | (simp <;> omega) | (simp at * <;> omega)) (by first | omega | (simp <;> omega) | (simp at * <;> omega)) rfl ?_)
          | refine aops_cons rfl rfl (AOp.indexAB Try.underlying70 Try.sizeOf5 rfl rfl rfl (by first | omega | (simp <;> omega) | (simp at * <;> omega)) (by first | omega | (simp <;> omega) | (simp at * <;> omega)) rfl ?_)
          first
          | refine aops_cons rfl rfl (AOp.load1 Try.isAgg5 rfl rfl (reads_im _ _) rfl ?_)
          | refine aops_cons rfl rfl (AOp.load1 Try.isAgg5 rfl rfl (reads_box _ (.head _)) rfl ?_)
          | refine aops_cons rfl rfl (AOp.load1 Try.isAgg5 rfl rfl (reads_box _ (.tail _ (.head _))) rfl ?_)
          | refine aops_cons rfl rfl (AOp.load1 Try.isAgg5 rfl rfl (reads_row _ (.head _) (idx_nat (by first | omega | (simp <;> omega) | (simp at * <;> omega))) (by first | omega | (simp <;> omega) | (simp at * <;> omega))) rfl ?_)
          | refine aops_cons rfl rfl (AOp.load1 Try.isAgg5 rfl rfl (reads_row _ (.head _) (idx_map (by first | omega | (simp <;> omega) | (simp at * <;> omega))) (by first | omega | (simp <;> omega) | (simp at * <;> omega))) rfl ?_)
          | refine aops_cons rfl rfl (AOp.load1 Try.isAgg5 rfl rfl (reads_row _ (.head _) (by assumption) (by first | omega | (simp <;> omega) | (simp at * <;> omega))) rfl ?_)
          | refine aops_cons rfl rfl (AOp.load1 Try.isAgg5 rfl rfl (reads_row _ (.tail _ (.head _)) (idx_nat (by first | omega | (simp <;> omega) | (simp at * <;> omega))) (by first | omega | (simp <;> omega) | (simp at * <;> omega))) rfl ?_)
          | refine aops_cons rfl rfl (AOp.load1 Try.isAgg5 rfl rfl (reads_row _ (.tail _ (.head _)) (idx_map (by first | omega | (simp <;> omega) | (simp at * <;> omega))) (by first | omega | (simp <;> omega) | (simp at * <;> omega))) rfl ?_)
          | refine aops_cons rfl rfl (AOp.load1 Try.isAgg5 rfl rfl (reads_row _ (.tail _ (.head _)) (by assumption) (by first | omega | (simp <;> omega) | (simp at * <;> omega))) rfl ?_)
          refine aops_cons rfl rfl (AOp.remE rfl rfl rfl (by first | decide | omega) (by first | omega | (simp <;> omega) | (simp at * <;> omega)) ?_)
          refine aops_nil ?_
          refine aw_block ?_
          refine aw_seq ?_
          refine aw_region ?_
          refine aops_cons rfl rfl (AOp.eql rfl rfl rfl ?_)
          refine aops_cons rfl rfl (AOp.assign rfl rfl ?_)
          refine aops_nil ?_
          refine aw_cond _ rfl (fun h4 => ?_) (fun h4 => ?_)
          focus
            have h4_ := h4
            try simp only [List.length_map, List.length_cons, List.length_nil, nrm] at h4
            all_goals try (exfalso; first | (simp at h4_; done) | omega)
            all_goals
              refine aw_seq ?_
              refine aw_region ?_
              refine aops_cons rfl rfl (AOp.move rfl rfl ?_)
              refine aops_cons rfl rfl (AOp.move rfl rfl ?_)
              refine aops_cons rfl rfl (AOp.move rfl rfl ?_)
              first
              | refine aops_cons rfl rfl (AOp.indexLN Try.underlying69 Try.sizeOf70 rfl rfl rfl (by first | omega | (simp <;> omega) | (simp at * <;> omega)) (fun _ => rfl) ?_)
              | refine aops_cons rfl rfl (AOp.indexLI Try.underlying69 Try.sizeOf70 rfl rfl rfl (by first | omega | (simp <;> omega) | (simp at * <;> omega)) (by first | omega | (simp <;> omega) | (simp at * <;> omega)) (fun _ => rfl) ?_)
              | refine aops_cons rfl rfl (AOp.indexS Try.underlying69 Try.sizeOf70 (by assumption) rfl rfl rfl (by first | omega | (simp <;> omega) | (simp at * <;> omega)) (by assumption) ?_)
              | refine aops_cons rfl rfl (AOp.indexS Try.underlying69 Try.sizeOf70 (by assumption) rfl rfl rfl (by first | omega | (simp <;> omega) | (simp at * <;> omega)) (List.getElem?_eq_getElem (by first | omega | (simp <;> omega) | (simp at * <;> omega))) ?_)
              | refine aops_cons rfl rfl (AOp.indexS Try.underlying69 Try.sizeOf70 (by exact all_len rfl) rfl rfl rfl (by first | omega | (simp <;> omega) | (simp at * <;> omega)) rfl ?_)
              | refine aops_cons rfl rfl (AOp.indexR Try.underlying69 Try.sizeOf70 (.head _) rfl rfl rfl (by first | omega | (simp <;> omega) | (simp at * <;> omega)) (by first | omega | (simp <;> omega) | (simp at * <;> omega)) ?_)
              | refine aops_cons rfl rfl (AOp.indexR Try.underlying69 Try.sizeOf70 (.tail _ (.head _)) rfl rfl rfl (by first | omega | (simp <;> omega) | (simp at * <;> omega)) (by first | omega | (simp <;> omega) | (simp at * <;> omega)) ?_)
              first
              | refine aops_cons rfl rfl (AOp.indexAI Try.underlying70 Try.sizeOf5 rfl rfl rfl (by first | omega | (simp <;> omega) | (simp at * <;> omega)) (by first | omega | (simp <;> omega) | (simp at * <;> omega)) rfl ?_)
              | refine aops_cons rfl rfl (AOp.indexAB Try.underlying70 Try.sizeOf5 rfl rfl rfl (by first | omega | (simp <;> omega) | (simp at * <;> omega)) (by first | omega | (simp <;> omega) | (simp at * <;> omega)) rfl ?_)
              first
              | refine aops_cons rfl rfl (AOp.load1 Try.isAgg5 rfl rfl (reads_im _ _) rfl ?_)
              | refine aops_cons rfl rfl (AOp.load1 Try.isAgg5 rfl rfl (reads_box _ (.head _)) rfl ?_)
              | refine aops_cons rfl rfl (AOp.load1 Try.isAgg5 rfl rfl (reads_box _ (.tail _ (.head _))) rfl ?_)
              | refine aops_cons rfl rfl (AOp.load1 Try.isAgg5 rfl rfl (reads_row _ (.head _) (idx_nat (by first | omega | (simp <;> omega) | (simp at * <;> omega))) (by first | omega | (simp <;> omega) | (simp at * <;> omega))) rfl ?_)
              | refine aops_cons rfl rfl (AOp.load1 Try.isAgg5 rfl rfl (reads_row _ (.head _) (idx_map (by first | omega | (simp <;> omega) | (simp at * <;> omega))) (by first | omega | (simp <;> omega) | (simp at * <;> omega))) rfl ?_)
              | refine aops_cons rfl rfl (AOp.load1 Try.isAgg5 rfl rfl (reads_row _ (.head _) (by assumption) (by first | omega | (simp <;> omega) | (simp at * <;> omega))) rfl ?_)
              | refine aops_cons rfl rfl (AOp.load1 Try.isAgg5 rfl rfl (reads_row _ (.tail _ (.head _)) (idx_nat (by first | omega | (simp <;> omega) | (simp at * <;> omega))) (by first | omega | (simp <;> omega) | (simp at * <;> omega))) rfl ?_)
              | refine aops_cons rfl rfl (AOp.load1 Try.isAgg5 rfl rfl (reads_row _ (.tail _ (.head _)) (idx_map (by first | omega | (simp <;> omega) | (simp at * <;> omega))) (by first | omega | (simp <;> omega) | (simp at * <;> omega))) rfl ?_)
              | refine aops_cons rfl rfl (AOp.load1 Try.isAgg5 rfl rfl (reads_row _ (.tail _ (.head _)) (by assumption) (by first | omega | (simp <;> omega) | (simp at * <;> omega))) rfl ?_)
              refine aops_cons rfl rfl (AOp.remE rfl rfl rfl (by first | decide | omega) (by first | omega | (simp <;> omega) | (simp at * <;> omega)) ?_)
              first
              | refine aops_cons rfl rfl (AOp.conviI Try.underlying5 Try.underlying3 rfl rfl (by first | omega | (simp <;> omega) | (simp at * <;> omega)) (by first | omega | (simp <;> omega) | (simp at * <;> omega)) ?_)
              | refine aops_cons rfl rfl (AOp.convi Try.underlying5 Try.underlying3 rfl rfl rfl ?_)
              first
              | refine aops_cons rfl rfl (AOp.addE rfl rfl rfl (by first | omega | (simp <;> omega) | (simp at * <;> omega)) (by first | omega | (simp <;> omega) | (simp at * <;> omega)) ?_)
              | refine aops_cons rfl rfl (AOp.add rfl rfl rfl rfl ?_)
              refine aops_cons rfl rfl (AOp.assign rfl rfl ?_)
              refine aops_nil ?_
              have hA2 : Alone (prn x (n + (l[i].d.toNat : Int) % 30)) (n + (l[i].d.toNat : Int) % 30) := alone_prn hA (by omega)
              have hl2 := len_prn x (n + (l[i].d.toNat : Int) % 30)
              refine aw_region ?_
              refine aops_cons rfl rfl (AOp.move rfl rfl ?_)
              refine aops_cons rfl rfl (AOp.move rfl rfl ?_)
              refine aops_cons rfl rfl (AOp.callP Try.call34 rfl rfl rfl (by exact prune x _ (by first | omega | (simp <;> omega) | (simp at * <;> omega))) ?_)
              refine aops_cons rfl rfl (AOp.assign rfl rfl ?_)
              refine aops_nil ?_
              skip
          rotate_right
          focus
            have h4_ := h4
            try simp only [List.length_map, List.length_cons, List.length_nil, nrm] at h4
            all_goals try (exfalso; first | (simp at h4_; done) | omega)
            all_goals
              refine aw_seq ?_
              refine aw_region ?_
              refine aops_cons rfl rfl (AOp.eql rfl rfl rfl ?_)
              refine aops_cons rfl rfl (AOp.assign rfl rfl ?_)
              refine aops_nil ?_
              refine aw_cond _ rfl (fun h5 => ?_) (fun h5 => ?_)
              focus
                have h5_ := h5
                try simp only [List.length_map, List.length_cons, List.length_nil, nrm] at h5
                all_goals try (exfalso; first | (simp at h5_; done) | omega)
                all_goals
                  have hA2 : Alone (drp x (1 + (l[i].b.toNat : Int) % 3) (1 + (l[i].c.toNat : Int) % 2)) n := alone_drp hA
                  have hl2 := len_drp x (1 + (l[i].b.toNat : Int) % 3) (1 + (l[i].c.toNat : Int) % 2)
                  refine aw_region ?_
                  refine aops_cons rfl rfl (AOp.move rfl rfl ?_)
                  refine aops_cons rfl rfl (AOp.move rfl rfl ?_)
                  refine aops_cons rfl rfl (AOp.move rfl rfl ?_)
                  refine aops_cons rfl rfl (AOp.callP Try.call25 rfl rfl rfl (by exact drop x _ _ (by first | omega | (simp <;> omega) | (simp at * <;> omega))) ?_)
                  refine aops_cons rfl rfl (AOp.assign rfl rfl ?_)
                  refine aops_nil ?_
                  skip
              rotate_right
              focus
                have h5_ := h5
                try simp only [List.length_map, List.length_cons, List.length_nil, nrm] at h5
                all_goals try (exfalso; first | (simp at h5_; done) | omega)
                all_goals
                  refine aw_seq ?_
                  have hA2 : Alone x n := hA
                  have hl2 : x.length ≤ x.length := Nat.le_refl _
                  refine aw_region ?_
                  refine aops_cons rfl rfl (AOp.move rfl rfl ?_)
                  refine aops_cons rfl rfl (AOp.move rfl rfl ?_)
                  refine aops_cons rfl rfl (AOp.move rfl rfl ?_)
                  refine aops_cons rfl rfl (AOp.move rfl rfl ?_)
                  refine aops_cons rfl rfl (AOp.move rfl rfl ?_)
                  refine aops_cons rfl rfl (AOp.callP Try.call28 rfl rfl rfl (by exact clash x _ _ _ _ hA.s (by first | omega | (simp <;> omega) | (simp at * <;> omega))) ?_)
                  first
                  | refine aops_cons rfl rfl (AOp.lenS (by first | exact List.length_map _ | rfl) Try.underlying40 rfl rfl ?_)
                  | refine aops_cons rfl rfl (AOp.lenN Try.underlying40 rfl rfl ?_)
                  | refine aops_cons rfl rfl (AOp.lenR (by first | exact List.length_map _ | rfl) Try.underlying40 (.head _) rfl rfl ?_)
                  | refine aops_cons rfl rfl (AOp.lenR (by first | exact List.length_map _ | rfl) Try.underlying40 (.tail _ (.head _)) rfl rfl ?_)
                  refine aops_cons rfl rfl (AOp.eql rfl rfl rfl ?_)
                  refine aops_nil ?_
                  refine aw_cond _ rfl (fun h6 => ?_) (fun h6 => ?_)
                  focus
                    have h6_ := h6
                    try simp only [List.length_map, List.length_cons, List.length_nil, nrm] at h6
                    all_goals try (exfalso; first | (simp at h6_; done) | omega)
                    all_goals
                      refine aw_seq ?_
                      have hz : cls x n (1 + (l[i].b.toNat : Int) % 3) (1 + (l[i].c.toNat : Int) % 2) (1 + (l[i].d.toNat : Int) % 2) = [] := List.length_eq_zero_iff.1 (by omega)
                      obtain ⟨hA2, hm2⟩ := alone_gr (u := n + 20) hA (by omega) (by omega) (by omega) (by omega) (by omega) hz
                      have hl2 := len_gr2 x ⟨(1 + (l[i].b.toNat : Int) % 3), (1 + (l[i].c.toNat : Int) % 2), (1 + (l[i].d.toNat : Int) % 2), n + 20⟩
                      refine aw_region ?_
                      refine aops_cons rfl rfl (AOp.move rfl rfl ?_)
                      refine aops_cons rfl rfl (AOp.move rfl rfl ?_)
                      refine aops_cons rfl rfl (AOp.move rfl rfl ?_)
                      refine aops_cons rfl rfl (AOp.move rfl rfl ?_)
                      refine aops_cons rfl rfl (AOp.move rfl rfl ?_)
                      first
                      | refine aops_cons rfl rfl (AOp.addE rfl rfl rfl (by first | omega | (simp <;> omega) | (simp at * <;> omega)) (by first | omega | (simp <;> omega) | (simp at * <;> omega)) ?_)
                      | refine aops_cons rfl rfl (AOp.add rfl rfl rfl rfl ?_)
                      refine aops_cons rfl rfl (AOp.build' (places := [(0, 1), (1, 1), (2, 1), (3, 1)]) Try.zeroValue58 (by kernel_rfl) (by kernel_rfl) Try.underlying58 (by kernel_rfl) rfl rfl rfl rfl ?_)
                      refine aops_cons rfl rfl (AOp.callP Try.call32 rfl rfl rfl (by exact gran x ⟨(1 + (l[i].b.toNat : Int) % 3), (1 + (l[i].c.toNat : Int) % 2), (1 + (l[i].d.toNat : Int) % 2), n + 20⟩ hA.s (by first | omega | (simp <;> omega) | (simp at * <;> omega))) ?_)
                      refine aops_cons rfl rfl (AOp.assign rfl rfl ?_)
                      refine aops_nil ?_
                      refine aw_seq ?_
                      refine aw_region ?_
                      refine aops_cons rfl rfl (AOp.move rfl rfl ?_)
                      refine aops_cons rfl rfl (AOp.move rfl rfl ?_)
                      refine aops_cons rfl rfl (AOp.move rfl rfl ?_)
                      refine aops_cons rfl rfl (AOp.move rfl rfl ?_)
                      refine aops_cons rfl rfl (AOp.callP Try.call22 rfl rfl rfl (by exact holds _ _ _ _ hA2.s (by first | omega | (simp <;> omega) | (simp at * <;> omega))) ?_)
                      refine aops_cons rfl rfl (AOp.move rfl rfl ?_)
                      refine aops_cons rfl rfl (AOp.lss rfl rfl rfl ?_)
                      refine aops_nil ?_
                      refine aw_cond _ rfl (fun h7 => ?_) (fun h7 => ?_)
                      focus
                        have h7_ := h7
                        try simp only [List.length_map, List.length_cons, List.length_nil, nrm] at h7
                        all_goals try (exfalso; first | (simp at h7_; done) | omega)
                        all_goals
                          refine aw_seq ?_
                          refine aw_region ?_
                          refine aops_cons rfl rfl (AOp.assign rfl rfl ?_)
                          refine aops_nil ?_
                          refine aw_ret ?_
                          refine ⟨_, (res1 Try.results5 rfl), ?_⟩
                          rfl
                      rotate_right
                      focus
                        have h7_ := h7
                        try simp only [List.length_map, List.length_cons, List.length_nil, nrm] at h7
                        all_goals try (exfalso; first | (simp at h7_; done) | omega)
                        all_goals
                          refine aw_skip ?_
                          skip
                      all_goals
                        skip
                  rotate_right
                  focus
                    have h6_ := h6
                    try simp only [List.length_map, List.length_cons, List.length_nil, nrm] at h6
                    all_goals try (exfalso; first | (simp at h6_; done) | omega)
                    all_goals
                      refine aw_skip ?_
                      skip
                  all_goals
                    skip
              all_goals
                skip
          all_goals
            refine aw_seq ?_
            refine aw_seq ?_
            refine aw_region ?_
            refine aops_cons rfl rfl (AOp.assign rfl rfl ?_)
            refine aops_nil ?_
            refine aw_block ?_
            refine aw_loop (β := Nat × Int × List L) (S := (fun (z0 : Nat × Int × List L) => match z0 with | (k, n2, y) => [(0, qs l), (3, ls y), (4, .sc (.int .i64 n2)), (5, .sc (.int .i64 (i : Int))), (9, .sc (.int .i64 ((k : Int) + 1)))])) (B := (fun (z0 : Nat × Int × List L) => match z0 with | (k, n2, y) => [])) (pre := (fun (z0 : Nat × Int × List L) => match z0 with | (k, n2, y) => k ≤ 2 ∧ 0 ≤ n2 ∧ n2 ≤ 30 * ((i : Int) + 1) ∧ y.length ≤ i + 1 ∧ Alone y n2)) (μ := (fun (z0 : Nat × Int × List L) => match z0 with | (k, n2, y) => 2 - k)) (0, _, _) (wk_env (sube_cons rfl (sube_cons rfl (sube_cons rfl (sube_cons rfl (sube_cons rfl (sube_nil _))))))) ?_ ?_
            · exact ⟨Nat.zero_le _, by omega, by omega, by omega, hA2⟩
            · rintro ⟨k, n2, y⟩ ⟨hk, hn0', hn', hy, hA2⟩
              change AW _ _ _ ([(0, qs l), (3, ls y), (4, .sc (.int .i64 n2)), (5, .sc (.int .i64 (i : Int))), (9, .sc (.int .i64 ((k : Int) + 1)))] : Env) ([] : List Blk) _
              refine aw_seq ?_
              refine aw_seq ?_
              refine aw_region ?_
              refine aops_cons rfl rfl (AOp.move rfl rfl ?_)
              refine aops_cons rfl rfl (AOp.leq rfl rfl rfl ?_)
              refine aops_nil ?_
              refine aw_cond _ rfl (fun h8 => ?_) (fun h8 => ?_)
              focus
                have h8_ := h8
                try simp only [List.length_map, List.length_cons, List.length_nil, nrm] at h8
                all_goals try (exfalso; first | (simp at h8_; done) | omega)
                all_goals
                  refine aw_skip ?_
                  skip
              rotate_right
              focus
                have h8_ := h8
                try simp only [List.length_map, List.length_cons, List.length_nil, nrm] at h8
                all_goals try (exfalso; first | (simp at h8_; done) | omega)
                all_goals
                  refine aw_exit ?_
                  refine aw_seq ?_
                  refine aw_region ?_
                  refine aops_cons rfl rfl (AOp.move rfl rfl ?_)
                  refine aops_cons rfl rfl (AOp.callP Try.call30 rfl rfl rfl (by exact mayT (alone_may hA2) (by first | omega | (simp <;> omega) | (simp at * <;> omega))) ?_)
                  refine aops_cons rfl rfl (AOp.not rfl rfl ?_)
                  refine aops_nil ?_
                  refine aw_cond _ rfl (fun h9 => ?_) (fun h9 => ?_)
                  focus
                    have h9_ := h9
                    try simp only [List.length_map, List.length_cons, List.length_nil, nrm] at h9
                    all_goals try (exfalso; first | (simp at h9_; done) | omega)
                    all_goals
                      refine aw_seq ?_
                      refine aw_region ?_
                      refine aops_cons rfl rfl (AOp.assign rfl rfl ?_)
                      refine aops_nil ?_
                      refine aw_ret ?_
                      refine ⟨_, (res1 Try.results5 rfl), ?_⟩
                      rfl
                  rotate_right
                  focus
                    have h9_ := h9
                    try simp only [List.length_map, List.length_cons, List.length_nil, nrm] at h9
                    all_goals try (exfalso; first | (simp at h9_; done) | omega)
                    all_goals
                      refine aw_skip ?_
                      skip
                  all_goals
                    refine aw_region ?_
                    refine aops_cons rfl rfl (AOp.move rfl rfl ?_)
                    first
                    | refine aops_cons rfl rfl (AOp.addE rfl rfl rfl (by first | omega | (simp <;> omega) | (simp at * <;> omega)) (by first | omega | (simp <;> omega) | (simp at * <;> omega)) ?_)
                    | refine aops_cons rfl rfl (AOp.add rfl rfl rfl rfl ?_)
                    refine aops_cons rfl rfl (AOp.assign rfl rfl ?_)
                    refine aops_nil ?_
                    refine ⟨(i + 1, n2, y), ⟨by omega, hn0', by omega, by omega, hA2⟩, by dsimp only; omega, (wk_env (sube_cons rfl (sube_cons rfl (sube_cons rfl (sube_cons rfl (sube_nil _))))))⟩
              all_goals
                refine aw_seq ?_
                refine aw_block ?_
                refine aw_seq ?_
                refine aw_region ?_
                refine aops_cons rfl rfl (AOp.assign rfl rfl ?_)
                refine aops_cons rfl rfl (AOp.assign rfl rfl ?_)
                refine aops_nil ?_
                refine aw_seq ?_
                refine aw_seq ?_
                refine aw_region ?_
                refine aops_cons rfl rfl (AOp.assign rfl rfl ?_)
                refine aops_nil ?_
                refine aw_block ?_
                refine aw_loop (β := Nat) (S := (fun (z0 : Nat) => match z0 with | j => [(0, qs l), (3, ls y), (4, .sc (.int .i64 n2)), (5, .sc (.int .i64 (i : Int))), (9, .sc (.int .i64 ((k : Int) + 1))), (10, .sc (.int .i64 ((cnt (fun c => decide (hld y n2 c ((k : Int) + 1) = 2)) j : Nat) : Int))), (11, .sc (.int .i64 ((cnt (fun c => decide (hld y n2 c ((k : Int) + 1) ≠ 0)) j : Nat) : Int))), (12, .sc (.int .i64 ((j : Int) + 1)))])) (B := (fun (z0 : Nat) => match z0 with | j => [])) (pre := (fun (z0 : Nat) => match z0 with | j => j ≤ 3)) (μ := (fun (z0 : Nat) => match z0 with | j => 3 - j)) 0 (wk_env (sube_cons rfl (sube_cons rfl (sube_cons rfl (sube_cons rfl (sube_cons rfl (sube_cons rfl (sube_cons rfl (sube_cons rfl (sube_nil _)))))))))) ?_ ?_
                · exact Nat.zero_le _
                · rintro j hj
                  change AW _ _ _ ([(0, qs l), (3, ls y), (4, .sc (.int .i64 n2)), (5, .sc (.int .i64 (i : Int))), (9, .sc (.int .i64 ((k : Int) + 1))), (10, .sc (.int .i64 ((cnt (fun c => decide (hld y n2 c ((k : Int) + 1) = 2)) j : Nat) : Int))), (11, .sc (.int .i64 ((cnt (fun c => decide (hld y n2 c ((k : Int) + 1) ≠ 0)) j : Nat) : Int))), (12, .sc (.int .i64 ((j : Int) + 1)))] : Env) ([] : List Blk) _
                  replace hj : j ≤ 3 := hj
                  have b1 := cnt_le (fun c => decide (hld y n2 c ((k : Int) + 1) = 2)) j
                  have b2 := cnt_le (fun c => decide (hld y n2 c ((k : Int) + 1) ≠ 0)) j
                  refine aw_seq ?_
                  refine aw_seq ?_
                  refine aw_region ?_
                  refine aops_cons rfl rfl (AOp.move rfl rfl ?_)
                  refine aops_cons rfl rfl (AOp.leq rfl rfl rfl ?_)
                  refine aops_nil ?_
                  refine aw_cond _ rfl (fun h10 => ?_) (fun h10 => ?_)
                  focus
                    have h10_ := h10
                    try simp only [List.length_map, List.length_cons, List.length_nil, nrm] at h10
                    all_goals try (exfalso; first | (simp at h10_; done) | omega)
                    all_goals
                      refine aw_skip ?_
                      skip
                  rotate_right
                  focus
                    have h10_ := h10
                    try simp only [List.length_map, List.length_cons, List.length_nil, nrm] at h10
                    all_goals try (exfalso; first | (simp at h10_; done) | omega)
                    all_goals
                      refine aw_exit ?_
                      refine aw_seq ?_
                      obtain rfl : j = 3 := by omega
                      have hc := alone_cnt (f := (k : Int) + 1) hA2
                      refine aw_region ?_
                      refine aops_cons rfl rfl (AOp.move rfl rfl ?_)
                      refine aops_cons rfl rfl (AOp.gtr rfl rfl rfl ?_)
                      refine aops_cons rfl rfl (AOp.move rfl rfl ?_)
                      refine aops_guard 2 true 121 _ rfl rfl rfl rfl rfl (fun g11 => ?_) (fun g11 => ?_)
                      focus
                        have g11_ := g11
                        try simp only [List.length_map, List.length_cons, List.length_nil, nrm] at g11
                        all_goals try (exfalso; first | (simp at g11_; done) | omega)
                        all_goals
                          refine AOp.move rfl rfl ?_
                          refine aops_guard 2 true 121 _ rfl rfl rfl rfl rfl (fun _ => ?_) (fun hh => by exfalso; first | (rw [g11_] at hh; exact absurd hh (by decide)) | (revert hh; simp [g11_]))
                          refine AOp.gtr rfl rfl rfl ?_
                      rotate_right
                      focus
                        have g11_ := g11
                        try simp only [List.length_map, List.length_cons, List.length_nil, nrm] at g11
                        all_goals try (exfalso; first | (simp at g11_; done) | omega)
                        all_goals
                          refine aops_guard 2 true 121 _ rfl rfl rfl rfl rfl (fun hh => by exfalso; first | (rw [g11_] at hh; exact absurd hh (by decide)) | (revert hh; simp [g11_])) (fun _ => ?_)
                      all_goals
                        first
                        | refine aops_cons rfl rfl (AOp.pick_t rfl rfl (by first | assumption | rfl) rfl ?_)
                        | refine aops_cons rfl rfl (AOp.pick_f rfl rfl (by first | assumption | rfl) rfl ?_)
                        refine aops_nil ?_
                        refine aw_cond _ rfl (fun h12 => ?_) (fun h12 => ?_)
                        focus
                          have h12_ := h12
                          try simp only [List.length_map, List.length_cons, List.length_nil, nrm] at h12
                          all_goals try (exfalso; first | (simp at h12_; done) | omega)
                          all_goals
                            refine aw_seq ?_
                            refine aw_region ?_
                            refine aops_cons rfl rfl (AOp.assign rfl rfl ?_)
                            refine aops_nil ?_
                            refine aw_ret ?_
                            refine ⟨_, (res1 Try.results5 rfl), ?_⟩
                            rfl
                        rotate_right
                        focus
                          have h12_ := h12
                          try simp only [List.length_map, List.length_cons, List.length_nil, nrm] at h12
                          all_goals try (exfalso; first | (simp at h12_; done) | omega)
                          all_goals
                            refine aw_skip ?_
                            skip
                        all_goals
                          refine aw_region ?_
                          refine aops_cons rfl rfl (AOp.move rfl rfl ?_)
                          first
                          | refine aops_cons rfl rfl (AOp.addE rfl rfl rfl (by first | omega | (simp <;> omega) | (simp at * <;> omega)) (by first | omega | (simp <;> omega) | (simp at * <;> omega)) ?_)
                          | refine aops_cons rfl rfl (AOp.add rfl rfl rfl rfl ?_)
                          refine aops_cons rfl rfl (AOp.assign rfl rfl ?_)
                          refine aops_nil ?_
                          refine ⟨(k + 1, n2, y), ⟨by omega, hn0', hn', hy, hA2⟩, by dsimp only; omega, (wk_env (sube_cons rfl (sube_cons rfl (sube_cons rfl (sube_cons rfl (sube_cons rfl (sube_nil _)))))))⟩
                  all_goals
                    refine aw_seq ?_
                    refine aw_block ?_
                    refine aw_seq ?_
                    refine aw_region ?_
                    refine aops_cons rfl rfl (AOp.move rfl rfl ?_)
                    refine aops_cons rfl rfl (AOp.move rfl rfl ?_)
                    refine aops_cons rfl rfl (AOp.move rfl rfl ?_)
                    refine aops_cons rfl rfl (AOp.move rfl rfl ?_)
                    refine aops_cons rfl rfl (AOp.callP Try.call22 rfl rfl rfl (by exact holds _ _ _ _ hA2.s (by first | omega | (simp <;> omega) | (simp at * <;> omega))) ?_)
                    refine aops_cons rfl rfl (AOp.assign rfl rfl ?_)
                    refine aops_nil ?_
                    refine aw_seq ?_
                    refine aw_seq ?_
                    refine aw_region ?_
                    refine aops_cons rfl rfl (AOp.move rfl rfl ?_)
                    refine aops_cons rfl rfl (AOp.neq rfl rfl rfl ?_)
                    refine aops_nil ?_
                    refine aw_cond _ rfl (fun h13 => ?_) (fun h13 => ?_)
                    focus
                      have h13_ := h13
                      try simp only [List.length_map, List.length_cons, List.length_nil, nrm] at h13
                      all_goals try (exfalso; first | (simp at h13_; done) | omega)
                      all_goals
                        refine aw_region ?_
                        refine aops_cons rfl rfl (AOp.move rfl rfl ?_)
                        first
                        | refine aops_cons rfl rfl (AOp.addE rfl rfl rfl (by first | omega | (simp <;> omega) | (simp at * <;> omega)) (by first | omega | (simp <;> omega) | (simp at * <;> omega)) ?_)
                        | refine aops_cons rfl rfl (AOp.add rfl rfl rfl rfl ?_)
                        refine aops_cons rfl rfl (AOp.assign rfl rfl ?_)
                        refine aops_nil ?_
                        skip
                    rotate_right
                    focus
                      have h13_ := h13
                      try simp only [List.length_map, List.length_cons, List.length_nil, nrm] at h13
                      all_goals try (exfalso; first | (simp at h13_; done) | omega)
                      all_goals
                        refine aw_skip ?_
                        skip
                    all_goals
                      refine aw_seq ?_
                      refine aw_region ?_
                      refine aops_cons rfl rfl (AOp.move rfl rfl ?_)
                      refine aops_cons rfl rfl (AOp.eql rfl rfl rfl ?_)
                      refine aops_nil ?_
                      refine aw_cond _ rfl (fun h14 => ?_) (fun h14 => ?_)
                      focus
                        have h14_ := h14
                        try simp only [List.length_map, List.length_cons, List.length_nil, nrm] at h14
                        all_goals try (exfalso; first | (simp at h14_; done) | omega)
                        all_goals
                          refine aw_region ?_
                          refine aops_cons rfl rfl (AOp.move rfl rfl ?_)
                          first
                          | refine aops_cons rfl rfl (AOp.addE rfl rfl rfl (by first | omega | (simp <;> omega) | (simp at * <;> omega)) (by first | omega | (simp <;> omega) | (simp at * <;> omega)) ?_)
                          | refine aops_cons rfl rfl (AOp.add rfl rfl rfl rfl ?_)
                          refine aops_cons rfl rfl (AOp.assign rfl rfl ?_)
                          refine aops_nil ?_
                          skip
                      rotate_right
                      focus
                        have h14_ := h14
                        try simp only [List.length_map, List.length_cons, List.length_nil, nrm] at h14
                        all_goals try (exfalso; first | (simp at h14_; done) | omega)
                        all_goals
                          refine aw_skip ?_
                          skip
                      all_goals
                        refine aw_region ?_
                        refine aops_cons rfl rfl (AOp.move rfl rfl ?_)
                        first
                        | refine aops_cons rfl rfl (AOp.addE rfl rfl rfl (by first | omega | (simp <;> omega) | (simp at * <;> omega)) (by first | omega | (simp <;> omega) | (simp at * <;> omega)) ?_)
                        | refine aops_cons rfl rfl (AOp.add rfl rfl rfl rfl ?_)
                        refine aops_cons rfl rfl (AOp.assign rfl rfl ?_)
                        refine aops_nil ?_
                        refine ⟨j + 1, ?_, ?_, (wk_env (sube_cons rfl (sube_cons rfl (sube_cons rfl (sube_cons rfl (sube_cons rfl (sube_cons (by first | rfl | (refine congrArg some (congrArg AV.sc (congrArg (Value.int .i64) ?_)); simp only [cnt, decide_eq_true_eq]; split <;> omega)) (sube_cons (by first | rfl | (refine congrArg some (congrArg AV.sc (congrArg (Value.int .i64) ?_)); simp only [cnt, decide_eq_true_eq]; split <;> omega)) (sube_cons rfl (sube_nil _))))))))))⟩
                        · dsimp only; omega
                        · dsimp only; omega

end Go.Proofs.Ytdlkmimgdghgcaa
