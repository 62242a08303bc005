/- Own text: leases, and what the small functions on them compute. -/
import Derived.Test.YtdacnebhlgibhaaAwJ
import Derived.Test.YtdacnebhlgibhaaProg
import Derived.KernelRfl
set_option linter.unusedVariables false
set_option linter.unusedSimpArgs false
set_option linter.all false
set_option maxRecDepth 100000
set_option maxHeartbeats 2000000
namespace Go.Proofs.Ytdacnebhlgibhaa
open Go Go.Aw

/-- A lease. -/
structure L where
  c : Int
  f : Int
  m : Int
  u : Int
deriving DecidableEq, Repr
def L.e (x : L) : List AV := [.sc (.int .i64 x.c), .sc (.int .i64 x.f), .sc (.int .i64 x.m), .sc (.int .i64 x.u)]
def ls (l : List L) : AV := .sl (l.map L.e)
def cmpI (a b : Int) : Int := if a < b then -1 else if b < a then 1 else 0
def orI : List Int → Int
  | [] => 0
  | a :: r => if a = 0 then orI r else a
def ordI (a b : L) : Int := orI [cmpI a.f b.f, cmpI a.c b.c]
theorem orI_drop {l : List Int} {i : Nat} {a : Int} (h : l[i]? = some a) (h0 : a = 0) : orI (l.drop (i + 1)) = orI (l.drop i) := by
  obtain ⟨hi, h1⟩ := List.getElem?_eq_some_iff.1 h
  rw [List.drop_eq_getElem_cons hi, h1, h0]; simp [orI]

theorem isNaN (a : Int) : Pur Try.prog 147 [.sc (.int .i64 a)] (.sc (.bool false)) := by
  refine acallsN Try.func147 rfl Try.ntmps147 rfl ?_
  refine aw_seq ?_
  refine aw_region ?_
  refine aops_cons rfl rfl (AOp.assign rfl rfl ?_)
  refine aops_nil ?_
  refine aw_seq ?_
  refine aw_region ?_
  refine aops_cons rfl rfl (AOp.move rfl rfl ?_)
  refine aops_cons rfl rfl (AOp.move rfl rfl ?_)
  refine aops_cons rfl rfl (AOp.neq rfl rfl rfl ?_)
  refine aops_cons rfl rfl (AOp.assign rfl rfl ?_)
  refine aops_nil ?_
  refine aw_weak (wk_drop (List.nil_sublist _)) ?_
  refine aw_ret ?_
  refine ⟨_, (res1 Try.results147 rfl), ?_⟩
  exact ⟨by simp, rfl⟩

theorem compare (a b : Int) : Pur Try.prog 138 [.sc (.int .i64 a), .sc (.int .i64 b)] (.sc (.int .i64 (cmpI a b))) := by
  refine acallsN Try.func138 rfl Try.ntmps138 rfl ?_
  refine aw_seq ?_
  refine aw_region ?_
  refine aops_cons rfl rfl (AOp.assign rfl rfl ?_)
  refine aops_nil ?_
  refine aw_seq ?_
  refine aw_region ?_
  refine aops_cons rfl rfl (AOp.move rfl rfl ?_)
  refine aops_cons rfl rfl (AOp.callP Try.call147 rfl rfl rfl (isNaN _) ?_)
  refine aops_cons rfl rfl (AOp.assign rfl rfl ?_)
  refine aops_nil ?_
  refine aw_seq ?_
  refine aw_region ?_
  refine aops_cons rfl rfl (AOp.move rfl rfl ?_)
  refine aops_cons rfl rfl (AOp.callP Try.call147 rfl rfl rfl (isNaN _) ?_)
  refine aops_cons rfl rfl (AOp.assign rfl rfl ?_)
  refine aops_nil ?_
  refine aw_seq ?_
  refine aw_seq ?_
  refine aw_region ?_
  refine aops_cons rfl rfl (AOp.move rfl rfl ?_)
  refine aops_nil ?_
  refine aw_cond _ rfl (fun h1 => ?_) (fun h1 => ?_)
  focus
    have h1_ := h1
    try simp only [List.length_map, List.length_cons, List.length_nil, nrm] at h1
    all_goals try (exfalso; first | (simp at h1_; done) | omega)
    all_goals
      refine aw_seq ?_
      refine aw_seq ?_
      refine aw_region ?_
      refine aops_cons rfl rfl (AOp.move rfl rfl ?_)
      refine aops_nil ?_
      refine aw_cond _ rfl (fun h2 => ?_) (fun h2 => ?_)
      focus
        have h2_ := h2
        try simp only [List.length_map, List.length_cons, List.length_nil, nrm] at h2
        all_goals try (exfalso; first | (simp at h2_; done) | omega)
        all_goals
          refine aw_seq ?_
          refine aw_region ?_
          refine aops_cons rfl rfl (AOp.assign rfl rfl ?_)
          refine aops_nil ?_
          refine aw_weak (wk_drop (List.nil_sublist _)) ?_
          refine aw_ret ?_
          refine ⟨_, (res1 Try.results138 rfl), ?_⟩
          exact ⟨by unfold cmpI; (repeat' split) <;> first | rfl | omega, rfl⟩
      rotate_right
      focus
        have h2_ := h2
        try simp only [List.length_map, List.length_cons, List.length_nil, nrm] at h2
        all_goals try (exfalso; first | (simp at h2_; done) | omega)
        all_goals
          refine aw_skip ?_
          skip
      all_goals
        refine aw_seq ?_
        refine aw_region ?_
        refine aops_cons rfl rfl (AOp.assign rfl rfl ?_)
        refine aops_nil ?_
        refine aw_weak (wk_drop (List.nil_sublist _)) ?_
        refine aw_ret ?_
        refine ⟨_, (res1 Try.results138 rfl), ?_⟩
        exact ⟨by unfold cmpI; (repeat' split) <;> first | rfl | omega, rfl⟩
  rotate_right
  focus
    have h1_ := h1
    try simp only [List.length_map, List.length_cons, List.length_nil, nrm] at h1
    all_goals try (exfalso; first | (simp at h1_; done) | omega)
    all_goals
      refine aw_skip ?_
      skip
  all_goals
    refine aw_seq ?_
    refine aw_seq ?_
    refine aw_region ?_
    refine aops_cons rfl rfl (AOp.move rfl rfl ?_)
    refine aops_nil ?_
    refine aw_cond _ rfl (fun h3 => ?_) (fun h3 => ?_)
    focus
      have h3_ := h3
      try simp only [List.length_map, List.length_cons, List.length_nil, nrm] at h3
      all_goals try (exfalso; first | (simp at h3_; done) | omega)
      all_goals
        refine aw_seq ?_
        refine aw_region ?_
        refine aops_cons rfl rfl (AOp.assign rfl rfl ?_)
        refine aops_nil ?_
        refine aw_weak (wk_drop (List.nil_sublist _)) ?_
        refine aw_ret ?_
        refine ⟨_, (res1 Try.results138 rfl), ?_⟩
        exact ⟨by unfold cmpI; (repeat' split) <;> first | rfl | omega, rfl⟩
    rotate_right
    focus
      have h3_ := h3
      try simp only [List.length_map, List.length_cons, List.length_nil, nrm] at h3
      all_goals try (exfalso; first | (simp at h3_; done) | omega)
      all_goals
        refine aw_skip ?_
        skip
    all_goals
      refine aw_seq ?_
      refine aw_seq ?_
      refine aw_region ?_
      refine aops_cons rfl rfl (AOp.move rfl rfl ?_)
      refine aops_cons rfl rfl (AOp.move rfl rfl ?_)
      refine aops_cons rfl rfl (AOp.lss rfl rfl rfl ?_)
      refine aops_nil ?_
      refine aw_cond _ rfl (fun h4 => ?_) (fun h4 => ?_)
      focus
        have h4_ := h4
        try simp only [List.length_map, List.length_cons, List.length_nil, nrm] at h4
        all_goals try (exfalso; first | (simp at h4_; done) | omega)
        all_goals
          refine aw_seq ?_
          refine aw_region ?_
          refine aops_cons rfl rfl (AOp.assign rfl rfl ?_)
          refine aops_nil ?_
          refine aw_weak (wk_drop (List.nil_sublist _)) ?_
          refine aw_ret ?_
          refine ⟨_, (res1 Try.results138 rfl), ?_⟩
          exact ⟨by unfold cmpI; (repeat' split) <;> first | rfl | omega, rfl⟩
      rotate_right
      focus
        have h4_ := h4
        try simp only [List.length_map, List.length_cons, List.length_nil, nrm] at h4
        all_goals try (exfalso; first | (simp at h4_; done) | omega)
        all_goals
          refine aw_skip ?_
          skip
      all_goals
        refine aw_seq ?_
        refine aw_seq ?_
        refine aw_region ?_
        refine aops_cons rfl rfl (AOp.move rfl rfl ?_)
        refine aops_cons rfl rfl (AOp.move rfl rfl ?_)
        refine aops_cons rfl rfl (AOp.gtr rfl rfl rfl ?_)
        refine aops_nil ?_
        refine aw_cond _ rfl (fun h5 => ?_) (fun h5 => ?_)
        focus
          have h5_ := h5
          try simp only [List.length_map, List.length_cons, List.length_nil, nrm] at h5
          all_goals try (exfalso; first | (simp at h5_; done) | omega)
          all_goals
            refine aw_seq ?_
            refine aw_region ?_
            refine aops_cons rfl rfl (AOp.assign rfl rfl ?_)
            refine aops_nil ?_
            refine aw_weak (wk_drop (List.nil_sublist _)) ?_
            refine aw_ret ?_
            refine ⟨_, (res1 Try.results138 rfl), ?_⟩
            exact ⟨by unfold cmpI; (repeat' split) <;> first | rfl | omega, rfl⟩
        rotate_right
        focus
          have h5_ := h5
          try simp only [List.length_map, List.length_cons, List.length_nil, nrm] at h5
          all_goals try (exfalso; first | (simp at h5_; done) | omega)
          all_goals
            refine aw_skip ?_
            skip
        all_goals
          refine aw_seq ?_
          refine aw_region ?_
          refine aops_cons rfl rfl (AOp.assign rfl rfl ?_)
          refine aops_nil ?_
          refine aw_weak (wk_drop (List.nil_sublist _)) ?_
          refine aw_ret ?_
          refine ⟨_, (res1 Try.results138 rfl), ?_⟩
          exact ⟨by unfold cmpI; (repeat' split) <;> first | rfl | omega, rfl⟩

theorem cmpOr (l : List Int) (hl : l.length ≤ 1000) : Pur Try.prog 137 [.sl (l.map fun a => [.sc (.int .i64 a)])] (.sc (.int .i64 (orI l))) := by
  refine acallsN Try.func137 rfl Try.ntmps137 rfl ?_
  refine aw_seq ?_
  refine aw_region ?_
  refine aops_cons rfl rfl (AOp.assign rfl rfl ?_)
  refine aops_nil ?_
  refine aw_seq ?_
  refine aw_region ?_
  refine aops_cons rfl rfl (AOp.assign rfl rfl ?_)
  refine aops_nil ?_
  refine aw_seq ?_
  refine aw_seq ?_
  refine aw_region ?_
  refine aops_cons rfl rfl (AOp.move rfl rfl ?_)
  first
  | refine aops_cons rfl rfl (AOp.lenS (by first | exact List.length_map _ | rfl) Try.underlying42 rfl rfl ?_)
  | refine aops_cons rfl rfl (AOp.lenN Try.underlying42 rfl rfl ?_)
  | refine aops_cons rfl rfl (AOp.lenR (by first | exact List.length_map _ | rfl) Try.underlying42 (.head _) rfl rfl ?_)
  | refine aops_cons rfl rfl (AOp.lenR (by first | exact List.length_map _ | rfl) Try.underlying42 (.tail _ (.head _)) rfl rfl ?_)
  | refine aops_cons rfl rfl (AOp.lenR (by first | exact List.length_map _ | rfl) Try.underlying42 (.tail _ (.tail _ (.head _))) rfl rfl ?_)
  | refine aops_cons rfl rfl (AOp.lenR (by first | exact List.length_map _ | rfl) Try.underlying42 (.tail _ (.tail _ (.tail _ (.head _)))) rfl rfl ?_)
  refine aops_cons rfl rfl (AOp.move rfl rfl ?_)
  refine aops_nil ?_
  refine aw_block ?_
  refine aw_loop (β := Nat) (S := (fun (z0 : Nat) => match z0 with | i => [(2, .sc (.int .i64 0)), (3, .sc (.int .i64 0)), (6, .sl (l.map fun a => [.sc (.int .i64 a)])), (7, .sc (.int .i64 (l.length : Nat))), (8, .sc (.int .i64 (i : Int)))])) (B := (fun (z0 : Nat) => match z0 with | i => [])) (pre := (fun (z0 : Nat) => match z0 with | i => i ≤ l.length ∧ orI (l.drop i) = orI l)) (μ := (fun (z0 : Nat) => match z0 with | i => l.length - i)) 0 (wk_env (sube_cons rfl (sube_cons rfl (sube_cons rfl (sube_cons rfl (sube_cons rfl (sube_nil _))))))) ?_ ?_
  · exact ⟨by omega, by simp⟩
  · rintro i ⟨hp, ho⟩
    change AW _ _ _ ([(2, .sc (.int .i64 0)), (3, .sc (.int .i64 0)), (6, .sl (l.map fun a => [.sc (.int .i64 a)])), (7, .sc (.int .i64 (l.length : Nat))), (8, .sc (.int .i64 (i : Int)))] : Env) ([] : List Blk) _
    refine aw_seq ?_
    refine aw_region ?_
    refine aops_cons rfl rfl (AOp.lss rfl rfl rfl ?_)
    refine aops_nil ?_
    refine aw_seq ?_
    refine aw_cond _ rfl (fun h1 => ?_) (fun h1 => ?_)
    focus
      have h1_ := h1
      try simp only [List.length_map, List.length_cons, List.length_nil, nrm] at h1
      all_goals try (exfalso; first | (simp at h1_; done) | omega)
      all_goals
        refine aw_skip ?_
        skip
    rotate_right
    focus
      have h1_ := h1
      try simp only [List.length_map, List.length_cons, List.length_nil, nrm] at h1
      all_goals try (exfalso; first | (simp at h1_; done) | omega)
      all_goals
        refine aw_exit ?_
        refine aw_seq ?_
        refine aw_region ?_
        refine aops_cons rfl rfl (AOp.move rfl rfl ?_)
        refine aops_cons rfl rfl (AOp.assign rfl rfl ?_)
        refine aops_nil ?_
        refine aw_weak (wk_drop (List.nil_sublist _)) ?_
        refine aw_ret ?_
        refine ⟨_, (res1 Try.results137 rfl), ?_⟩
        refine ⟨?_, rfl⟩
        rw [← ho, List.drop_of_length_le (by omega)]; rfl
    all_goals
      refine aw_seq ?_
      refine aw_block ?_
      refine aw_seq ?_
      refine aw_region ?_
      first
      | refine aops_cons rfl rfl (AOp.indexLN Try.underlying42 Try.sizeOf3 rfl rfl rfl (by first | omega | (simp <;> omega) | (simp at * <;> omega)) (fun _ => rfl) ?_)
      | refine aops_cons rfl rfl (AOp.indexLI Try.underlying42 Try.sizeOf3 rfl rfl rfl (by first | omega | (simp <;> omega) | (simp at * <;> omega)) (by first | omega | (simp <;> omega) | (simp at * <;> omega)) (fun _ => rfl) ?_)
      | refine aops_cons rfl rfl (AOp.indexS Try.underlying42 Try.sizeOf3 (by assumption) rfl rfl rfl (by first | omega | (simp <;> omega) | (simp at * <;> omega)) (by assumption) ?_)
      | refine aops_cons rfl rfl (AOp.indexS Try.underlying42 Try.sizeOf3 (by assumption) rfl rfl rfl (by first | omega | (simp <;> omega) | (simp at * <;> omega)) (List.getElem?_eq_getElem (by first | omega | (simp <;> omega) | (simp at * <;> omega))) ?_)
      | refine aops_cons rfl rfl (AOp.indexS Try.underlying42 Try.sizeOf3 (by exact all_len rfl) rfl rfl rfl (by first | omega | (simp <;> omega) | (simp at * <;> omega)) rfl ?_)
      | refine aops_cons rfl rfl (AOp.indexR Try.underlying42 Try.sizeOf3 (.head _) rfl rfl rfl (by first | omega | (simp <;> omega) | (simp at * <;> omega)) (by first | omega | (simp <;> omega) | (simp at * <;> omega)) ?_)
      | refine aops_cons rfl rfl (AOp.indexR Try.underlying42 Try.sizeOf3 (.tail _ (.head _)) rfl rfl rfl (by first | omega | (simp <;> omega) | (simp at * <;> omega)) (by first | omega | (simp <;> omega) | (simp at * <;> omega)) ?_)
      | refine aops_cons rfl rfl (AOp.indexR Try.underlying42 Try.sizeOf3 (.tail _ (.tail _ (.head _))) rfl rfl rfl (by first | omega | (simp <;> omega) | (simp at * <;> omega)) (by first | omega | (simp <;> omega) | (simp at * <;> omega)) ?_)
      | refine aops_cons rfl rfl (AOp.indexR Try.underlying42 Try.sizeOf3 (.tail _ (.tail _ (.tail _ (.head _)))) rfl rfl rfl (by first | omega | (simp <;> omega) | (simp at * <;> omega)) (by first | omega | (simp <;> omega) | (simp at * <;> omega)) ?_)
      first
      | refine aops_cons rfl rfl (AOp.load1 Try.isAgg3 rfl rfl (reads_im _ _) rfl ?_)
      | refine aops_cons rfl rfl (AOp.load1 Try.isAgg3 rfl rfl (reads_box _ (.head _)) rfl ?_)
      | refine aops_cons rfl rfl (AOp.load1 Try.isAgg3 rfl rfl (reads_box _ (.tail _ (.head _))) rfl ?_)
      | refine aops_cons rfl rfl (AOp.load1 Try.isAgg3 rfl rfl (reads_box _ (.tail _ (.tail _ (.head _)))) rfl ?_)
      | refine aops_cons rfl rfl (AOp.load1 Try.isAgg3 rfl rfl (reads_box _ (.tail _ (.tail _ (.tail _ (.head _))))) rfl ?_)
      | refine aops_cons rfl rfl (AOp.load1 Try.isAgg3 rfl rfl (reads_row _ (.head _) (idx_nat (by first | omega | (simp <;> omega) | (simp at * <;> omega))) (by first | omega | (simp <;> omega) | (simp at * <;> omega))) rfl ?_)
      | refine aops_cons rfl rfl (AOp.load1 Try.isAgg3 rfl rfl (reads_row _ (.head _) (idx_map (by first | omega | (simp <;> omega) | (simp at * <;> omega))) (by first | omega | (simp <;> omega) | (simp at * <;> omega))) rfl ?_)
      | refine aops_cons rfl rfl (AOp.load1 Try.isAgg3 rfl rfl (reads_row _ (.head _) (by assumption) (by first | omega | (simp <;> omega) | (simp at * <;> omega))) rfl ?_)
      | refine aops_cons rfl rfl (AOp.load1 Try.isAgg3 rfl rfl (reads_row _ (.tail _ (.head _)) (idx_nat (by first | omega | (simp <;> omega) | (simp at * <;> omega))) (by first | omega | (simp <;> omega) | (simp at * <;> omega))) rfl ?_)
      | refine aops_cons rfl rfl (AOp.load1 Try.isAgg3 rfl rfl (reads_row _ (.tail _ (.head _)) (idx_map (by first | omega | (simp <;> omega) | (simp at * <;> omega))) (by first | omega | (simp <;> omega) | (simp at * <;> omega))) rfl ?_)
      | refine aops_cons rfl rfl (AOp.load1 Try.isAgg3 rfl rfl (reads_row _ (.tail _ (.head _)) (by assumption) (by first | omega | (simp <;> omega) | (simp at * <;> omega))) rfl ?_)
      | refine aops_cons rfl rfl (AOp.load1 Try.isAgg3 rfl rfl (reads_row _ (.tail _ (.tail _ (.head _))) (idx_nat (by first | omega | (simp <;> omega) | (simp at * <;> omega))) (by first | omega | (simp <;> omega) | (simp at * <;> omega))) rfl ?_)
      | refine aops_cons rfl rfl (AOp.load1 Try.isAgg3 rfl rfl (reads_row _ (.tail _ (.tail _ (.head _))) (idx_map (by first | omega | (simp <;> omega) | (simp at * <;> omega))) (by first | omega | (simp <;> omega) | (simp at * <;> omega))) rfl ?_)
      | refine aops_cons rfl rfl (AOp.load1 Try.isAgg3 rfl rfl (reads_row _ (.tail _ (.tail _ (.head _))) (by assumption) (by first | omega | (simp <;> omega) | (simp at * <;> omega))) rfl ?_)
      | refine aops_cons rfl rfl (AOp.load1 Try.isAgg3 rfl rfl (reads_row _ (.tail _ (.tail _ (.tail _ (.head _)))) (idx_nat (by first | omega | (simp <;> omega) | (simp at * <;> omega))) (by first | omega | (simp <;> omega) | (simp at * <;> omega))) rfl ?_)
      | refine aops_cons rfl rfl (AOp.load1 Try.isAgg3 rfl rfl (reads_row _ (.tail _ (.tail _ (.tail _ (.head _)))) (idx_map (by first | omega | (simp <;> omega) | (simp at * <;> omega))) (by first | omega | (simp <;> omega) | (simp at * <;> omega))) rfl ?_)
      | refine aops_cons rfl rfl (AOp.load1 Try.isAgg3 rfl rfl (reads_row _ (.tail _ (.tail _ (.tail _ (.head _)))) (by assumption) (by first | omega | (simp <;> omega) | (simp at * <;> omega))) rfl ?_)
      refine aops_cons rfl rfl (AOp.assign rfl rfl ?_)
      refine aops_nil ?_
      refine aw_seq ?_
      refine aw_region ?_
      refine aops_cons rfl rfl (AOp.move rfl rfl ?_)
      refine aops_cons rfl rfl (AOp.move rfl rfl ?_)
      refine aops_cons rfl rfl (AOp.neq rfl rfl rfl ?_)
      refine aops_nil ?_
      refine aw_cond _ rfl (fun h2 => ?_) (fun h2 => ?_)
      focus
        have h2_ := h2
        try simp only [List.length_map, List.length_cons, List.length_nil, nrm] at h2
        all_goals try (exfalso; first | (simp at h2_; done) | omega)
        all_goals
          refine aw_seq ?_
          refine aw_region ?_
          refine aops_cons rfl rfl (AOp.move rfl rfl ?_)
          refine aops_cons rfl rfl (AOp.assign rfl rfl ?_)
          refine aops_nil ?_
          refine aw_weak (wk_drop (List.nil_sublist _)) ?_
          refine aw_ret ?_
          refine ⟨_, (res1 Try.results137 rfl), ?_⟩
          refine ⟨?_, rfl⟩
          rw [← ho, List.drop_eq_getElem_cons (by omega), orI, if_neg h2]
      rotate_right
      focus
        have h2_ := h2
        try simp only [List.length_map, List.length_cons, List.length_nil, nrm] at h2
        all_goals try (exfalso; first | (simp at h2_; done) | omega)
        all_goals
          refine aw_skip ?_
          skip
      all_goals
        refine aw_region ?_
        first
        | refine aops_cons rfl rfl (AOp.addE rfl rfl rfl (by first | omega | (simp <;> omega) | (simp at * <;> omega)) (by first | omega | (simp <;> omega) | (simp at * <;> omega)) ?_)
        | refine aops_cons rfl rfl (AOp.add rfl rfl rfl rfl ?_)
        refine aops_cons rfl rfl (AOp.move rfl rfl ?_)
        refine aops_nil ?_
        refine ⟨i + 1, ⟨by omega, ?_⟩, by dsimp only; omega, (wk_env (sube_cons rfl (sube_cons rfl (sube_cons rfl (sube_cons rfl (sube_cons rfl (sube_nil _)))))))⟩
        rw [orI_drop (List.getElem?_eq_getElem (by omega)) (by assumption)]; exact ho

theorem order (a b : L) : Pur Try.prog 127 [.ag a.e, .ag b.e] (.sc (.int .i64 (ordI a b))) := by
  refine acallsN Try.func127 rfl Try.ntmps127 rfl ?_
  refine aw_seq ?_
  refine aw_region ?_
  refine aops_cons rfl rfl (AOp.boxI rfl rfl rfl ?_)
  refine aops_cons rfl rfl (AOp.boxI rfl rfl rfl ?_)
  refine aops_cons rfl rfl (AOp.assign rfl rfl ?_)
  refine aops_nil ?_
  refine aw_seq ?_
  refine aw_draw 9 [0, 0, 0, 0, 0, 0, 0, 0, 0] (by kernel_rfl) (by kernel_rfl) ?_
  first
  | refine psq_cons _ rfl (core0 (AOp.fieldI Try.underlying111 rfl Try.sizeOf3 (by decide) rfl rfl rfl ⟨rfl, rfl⟩)) ?_
  | refine psq_cons _ rfl (core0 (AOp.fieldB Try.underlying111 rfl Try.sizeOf3 (by decide) rfl rfl rfl ⟨rfl, rfl⟩)) ?_
  | refine psq_cons _ rfl (core0 (AOp.fieldR Try.underlying111 rfl Try.sizeOf3 (by decide) rfl rfl rfl ⟨rfl, rfl⟩)) ?_
  first
  | refine psq_cons _ rfl (core0 (AOp.load1 Try.isAgg3 rfl rfl (reads_im _ _) rfl ⟨rfl, rfl⟩)) ?_
  | refine psq_cons _ rfl (core0 (AOp.load1 Try.isAgg3 rfl rfl (reads_box _ (.head _)) rfl ⟨rfl, rfl⟩)) ?_
  | refine psq_cons _ rfl (core0 (AOp.load1 Try.isAgg3 rfl rfl (reads_box _ (.tail _ (.head _))) rfl ⟨rfl, rfl⟩)) ?_
  | refine psq_cons _ rfl (core0 (AOp.load1 Try.isAgg3 rfl rfl (reads_box _ (.tail _ (.tail _ (.head _)))) rfl ⟨rfl, rfl⟩)) ?_
  | refine psq_cons _ rfl (core0 (AOp.load1 Try.isAgg3 rfl rfl (reads_box _ (.tail _ (.tail _ (.tail _ (.head _))))) rfl ⟨rfl, rfl⟩)) ?_
  | refine psq_cons _ rfl (core0 (AOp.load1 Try.isAgg3 rfl rfl (reads_row _ (.head _) (idx_nat (by first | omega | (simp <;> omega) | (simp at * <;> omega))) (by first | omega | (simp <;> omega) | (simp at * <;> omega))) rfl ⟨rfl, rfl⟩)) ?_
  | refine psq_cons _ rfl (core0 (AOp.load1 Try.isAgg3 rfl rfl (reads_row _ (.head _) (idx_map (by first | omega | (simp <;> omega) | (simp at * <;> omega))) (by first | omega | (simp <;> omega) | (simp at * <;> omega))) rfl ⟨rfl, rfl⟩)) ?_
  | refine psq_cons _ rfl (core0 (AOp.load1 Try.isAgg3 rfl rfl (reads_row _ (.head _) (by assumption) (by first | omega | (simp <;> omega) | (simp at * <;> omega))) rfl ⟨rfl, rfl⟩)) ?_
  | refine psq_cons _ rfl (core0 (AOp.load1 Try.isAgg3 rfl rfl (reads_row _ (.tail _ (.head _)) (idx_nat (by first | omega | (simp <;> omega) | (simp at * <;> omega))) (by first | omega | (simp <;> omega) | (simp at * <;> omega))) rfl ⟨rfl, rfl⟩)) ?_
  | refine psq_cons _ rfl (core0 (AOp.load1 Try.isAgg3 rfl rfl (reads_row _ (.tail _ (.head _)) (idx_map (by first | omega | (simp <;> omega) | (simp at * <;> omega))) (by first | omega | (simp <;> omega) | (simp at * <;> omega))) rfl ⟨rfl, rfl⟩)) ?_
  | refine psq_cons _ rfl (core0 (AOp.load1 Try.isAgg3 rfl rfl (reads_row _ (.tail _ (.head _)) (by assumption) (by first | omega | (simp <;> omega) | (simp at * <;> omega))) rfl ⟨rfl, rfl⟩)) ?_
  | refine psq_cons _ rfl (core0 (AOp.load1 Try.isAgg3 rfl rfl (reads_row _ (.tail _ (.tail _ (.head _))) (idx_nat (by first | omega | (simp <;> omega) | (simp at * <;> omega))) (by first | omega | (simp <;> omega) | (simp at * <;> omega))) rfl ⟨rfl, rfl⟩)) ?_
  | refine psq_cons _ rfl (core0 (AOp.load1 Try.isAgg3 rfl rfl (reads_row _ (.tail _ (.tail _ (.head _))) (idx_map (by first | omega | (simp <;> omega) | (simp at * <;> omega))) (by first | omega | (simp <;> omega) | (simp at * <;> omega))) rfl ⟨rfl, rfl⟩)) ?_
  | refine psq_cons _ rfl (core0 (AOp.load1 Try.isAgg3 rfl rfl (reads_row _ (.tail _ (.tail _ (.head _))) (by assumption) (by first | omega | (simp <;> omega) | (simp at * <;> omega))) rfl ⟨rfl, rfl⟩)) ?_
  | refine psq_cons _ rfl (core0 (AOp.load1 Try.isAgg3 rfl rfl (reads_row _ (.tail _ (.tail _ (.tail _ (.head _)))) (idx_nat (by first | omega | (simp <;> omega) | (simp at * <;> omega))) (by first | omega | (simp <;> omega) | (simp at * <;> omega))) rfl ⟨rfl, rfl⟩)) ?_
  | refine psq_cons _ rfl (core0 (AOp.load1 Try.isAgg3 rfl rfl (reads_row _ (.tail _ (.tail _ (.tail _ (.head _)))) (idx_map (by first | omega | (simp <;> omega) | (simp at * <;> omega))) (by first | omega | (simp <;> omega) | (simp at * <;> omega))) rfl ⟨rfl, rfl⟩)) ?_
  | refine psq_cons _ rfl (core0 (AOp.load1 Try.isAgg3 rfl rfl (reads_row _ (.tail _ (.tail _ (.tail _ (.head _)))) (by assumption) (by first | omega | (simp <;> omega) | (simp at * <;> omega))) rfl ⟨rfl, rfl⟩)) ?_
  first
  | refine psq_cons _ rfl (core0 (AOp.fieldI Try.underlying111 rfl Try.sizeOf3 (by decide) rfl rfl rfl ⟨rfl, rfl⟩)) ?_
  | refine psq_cons _ rfl (core0 (AOp.fieldB Try.underlying111 rfl Try.sizeOf3 (by decide) rfl rfl rfl ⟨rfl, rfl⟩)) ?_
  | refine psq_cons _ rfl (core0 (AOp.fieldR Try.underlying111 rfl Try.sizeOf3 (by decide) rfl rfl rfl ⟨rfl, rfl⟩)) ?_
  first
  | refine psq_cons _ rfl (core0 (AOp.load1 Try.isAgg3 rfl rfl (reads_im _ _) rfl ⟨rfl, rfl⟩)) ?_
  | refine psq_cons _ rfl (core0 (AOp.load1 Try.isAgg3 rfl rfl (reads_box _ (.head _)) rfl ⟨rfl, rfl⟩)) ?_
  | refine psq_cons _ rfl (core0 (AOp.load1 Try.isAgg3 rfl rfl (reads_box _ (.tail _ (.head _))) rfl ⟨rfl, rfl⟩)) ?_
  | refine psq_cons _ rfl (core0 (AOp.load1 Try.isAgg3 rfl rfl (reads_box _ (.tail _ (.tail _ (.head _)))) rfl ⟨rfl, rfl⟩)) ?_
  | refine psq_cons _ rfl (core0 (AOp.load1 Try.isAgg3 rfl rfl (reads_box _ (.tail _ (.tail _ (.tail _ (.head _))))) rfl ⟨rfl, rfl⟩)) ?_
  | refine psq_cons _ rfl (core0 (AOp.load1 Try.isAgg3 rfl rfl (reads_row _ (.head _) (idx_nat (by first | omega | (simp <;> omega) | (simp at * <;> omega))) (by first | omega | (simp <;> omega) | (simp at * <;> omega))) rfl ⟨rfl, rfl⟩)) ?_
  | refine psq_cons _ rfl (core0 (AOp.load1 Try.isAgg3 rfl rfl (reads_row _ (.head _) (idx_map (by first | omega | (simp <;> omega) | (simp at * <;> omega))) (by first | omega | (simp <;> omega) | (simp at * <;> omega))) rfl ⟨rfl, rfl⟩)) ?_
  | refine psq_cons _ rfl (core0 (AOp.load1 Try.isAgg3 rfl rfl (reads_row _ (.head _) (by assumption) (by first | omega | (simp <;> omega) | (simp at * <;> omega))) rfl ⟨rfl, rfl⟩)) ?_
  | refine psq_cons _ rfl (core0 (AOp.load1 Try.isAgg3 rfl rfl (reads_row _ (.tail _ (.head _)) (idx_nat (by first | omega | (simp <;> omega) | (simp at * <;> omega))) (by first | omega | (simp <;> omega) | (simp at * <;> omega))) rfl ⟨rfl, rfl⟩)) ?_
  | refine psq_cons _ rfl (core0 (AOp.load1 Try.isAgg3 rfl rfl (reads_row _ (.tail _ (.head _)) (idx_map (by first | omega | (simp <;> omega) | (simp at * <;> omega))) (by first | omega | (simp <;> omega) | (simp at * <;> omega))) rfl ⟨rfl, rfl⟩)) ?_
  | refine psq_cons _ rfl (core0 (AOp.load1 Try.isAgg3 rfl rfl (reads_row _ (.tail _ (.head _)) (by assumption) (by first | omega | (simp <;> omega) | (simp at * <;> omega))) rfl ⟨rfl, rfl⟩)) ?_
  | refine psq_cons _ rfl (core0 (AOp.load1 Try.isAgg3 rfl rfl (reads_row _ (.tail _ (.tail _ (.head _))) (idx_nat (by first | omega | (simp <;> omega) | (simp at * <;> omega))) (by first | omega | (simp <;> omega) | (simp at * <;> omega))) rfl ⟨rfl, rfl⟩)) ?_
  | refine psq_cons _ rfl (core0 (AOp.load1 Try.isAgg3 rfl rfl (reads_row _ (.tail _ (.tail _ (.head _))) (idx_map (by first | omega | (simp <;> omega) | (simp at * <;> omega))) (by first | omega | (simp <;> omega) | (simp at * <;> omega))) rfl ⟨rfl, rfl⟩)) ?_
  | refine psq_cons _ rfl (core0 (AOp.load1 Try.isAgg3 rfl rfl (reads_row _ (.tail _ (.tail _ (.head _))) (by assumption) (by first | omega | (simp <;> omega) | (simp at * <;> omega))) rfl ⟨rfl, rfl⟩)) ?_
  | refine psq_cons _ rfl (core0 (AOp.load1 Try.isAgg3 rfl rfl (reads_row _ (.tail _ (.tail _ (.tail _ (.head _)))) (idx_nat (by first | omega | (simp <;> omega) | (simp at * <;> omega))) (by first | omega | (simp <;> omega) | (simp at * <;> omega))) rfl ⟨rfl, rfl⟩)) ?_
  | refine psq_cons _ rfl (core0 (AOp.load1 Try.isAgg3 rfl rfl (reads_row _ (.tail _ (.tail _ (.tail _ (.head _)))) (idx_map (by first | omega | (simp <;> omega) | (simp at * <;> omega))) (by first | omega | (simp <;> omega) | (simp at * <;> omega))) rfl ⟨rfl, rfl⟩)) ?_
  | refine psq_cons _ rfl (core0 (AOp.load1 Try.isAgg3 rfl rfl (reads_row _ (.tail _ (.tail _ (.tail _ (.head _)))) (by assumption) (by first | omega | (simp <;> omega) | (simp at * <;> omega))) rfl ⟨rfl, rfl⟩)) ?_
  refine psq_cons _ rfl (core0 (AOp.callP Try.call138 rfl rfl rfl (compare _ _) ⟨rfl, rfl⟩)) ?_
  first
  | refine psq_cons _ rfl (core0 (AOp.fieldI Try.underlying111 rfl Try.sizeOf3 (by decide) rfl rfl rfl ⟨rfl, rfl⟩)) ?_
  | refine psq_cons _ rfl (core0 (AOp.fieldB Try.underlying111 rfl Try.sizeOf3 (by decide) rfl rfl rfl ⟨rfl, rfl⟩)) ?_
  | refine psq_cons _ rfl (core0 (AOp.fieldR Try.underlying111 rfl Try.sizeOf3 (by decide) rfl rfl rfl ⟨rfl, rfl⟩)) ?_
  first
  | refine psq_cons _ rfl (core0 (AOp.load1 Try.isAgg3 rfl rfl (reads_im _ _) rfl ⟨rfl, rfl⟩)) ?_
  | refine psq_cons _ rfl (core0 (AOp.load1 Try.isAgg3 rfl rfl (reads_box _ (.head _)) rfl ⟨rfl, rfl⟩)) ?_
  | refine psq_cons _ rfl (core0 (AOp.load1 Try.isAgg3 rfl rfl (reads_box _ (.tail _ (.head _))) rfl ⟨rfl, rfl⟩)) ?_
  | refine psq_cons _ rfl (core0 (AOp.load1 Try.isAgg3 rfl rfl (reads_box _ (.tail _ (.tail _ (.head _)))) rfl ⟨rfl, rfl⟩)) ?_
  | refine psq_cons _ rfl (core0 (AOp.load1 Try.isAgg3 rfl rfl (reads_box _ (.tail _ (.tail _ (.tail _ (.head _))))) rfl ⟨rfl, rfl⟩)) ?_
  | refine psq_cons _ rfl (core0 (AOp.load1 Try.isAgg3 rfl rfl (reads_row _ (.head _) (idx_nat (by first | omega | (simp <;> omega) | (simp at * <;> omega))) (by first | omega | (simp <;> omega) | (simp at * <;> omega))) rfl ⟨rfl, rfl⟩)) ?_
  | refine psq_cons _ rfl (core0 (AOp.load1 Try.isAgg3 rfl rfl (reads_row _ (.head _) (idx_map (by first | omega | (simp <;> omega) | (simp at * <;> omega))) (by first | omega | (simp <;> omega) | (simp at * <;> omega))) rfl ⟨rfl, rfl⟩)) ?_
  | refine psq_cons _ rfl (core0 (AOp.load1 Try.isAgg3 rfl rfl (reads_row _ (.head _) (by assumption) (by first | omega | (simp <;> omega) | (simp at * <;> omega))) rfl ⟨rfl, rfl⟩)) ?_
  | refine psq_cons _ rfl (core0 (AOp.load1 Try.isAgg3 rfl rfl (reads_row _ (.tail _ (.head _)) (idx_nat (by first | omega | (simp <;> omega) | (simp at * <;> omega))) (by first | omega | (simp <;> omega) | (simp at * <;> omega))) rfl ⟨rfl, rfl⟩)) ?_
  | refine psq_cons _ rfl (core0 (AOp.load1 Try.isAgg3 rfl rfl (reads_row _ (.tail _ (.head _)) (idx_map (by first | omega | (simp <;> omega) | (simp at * <;> omega))) (by first | omega | (simp <;> omega) | (simp at * <;> omega))) rfl ⟨rfl, rfl⟩)) ?_
  | refine psq_cons _ rfl (core0 (AOp.load1 Try.isAgg3 rfl rfl (reads_row _ (.tail _ (.head _)) (by assumption) (by first | omega | (simp <;> omega) | (simp at * <;> omega))) rfl ⟨rfl, rfl⟩)) ?_
  | refine psq_cons _ rfl (core0 (AOp.load1 Try.isAgg3 rfl rfl (reads_row _ (.tail _ (.tail _ (.head _))) (idx_nat (by first | omega | (simp <;> omega) | (simp at * <;> omega))) (by first | omega | (simp <;> omega) | (simp at * <;> omega))) rfl ⟨rfl, rfl⟩)) ?_
  | refine psq_cons _ rfl (core0 (AOp.load1 Try.isAgg3 rfl rfl (reads_row _ (.tail _ (.tail _ (.head _))) (idx_map (by first | omega | (simp <;> omega) | (simp at * <;> omega))) (by first | omega | (simp <;> omega) | (simp at * <;> omega))) rfl ⟨rfl, rfl⟩)) ?_
  | refine psq_cons _ rfl (core0 (AOp.load1 Try.isAgg3 rfl rfl (reads_row _ (.tail _ (.tail _ (.head _))) (by assumption) (by first | omega | (simp <;> omega) | (simp at * <;> omega))) rfl ⟨rfl, rfl⟩)) ?_
  | refine psq_cons _ rfl (core0 (AOp.load1 Try.isAgg3 rfl rfl (reads_row _ (.tail _ (.tail _ (.tail _ (.head _)))) (idx_nat (by first | omega | (simp <;> omega) | (simp at * <;> omega))) (by first | omega | (simp <;> omega) | (simp at * <;> omega))) rfl ⟨rfl, rfl⟩)) ?_
  | refine psq_cons _ rfl (core0 (AOp.load1 Try.isAgg3 rfl rfl (reads_row _ (.tail _ (.tail _ (.tail _ (.head _)))) (idx_map (by first | omega | (simp <;> omega) | (simp at * <;> omega))) (by first | omega | (simp <;> omega) | (simp at * <;> omega))) rfl ⟨rfl, rfl⟩)) ?_
  | refine psq_cons _ rfl (core0 (AOp.load1 Try.isAgg3 rfl rfl (reads_row _ (.tail _ (.tail _ (.tail _ (.head _)))) (by assumption) (by first | omega | (simp <;> omega) | (simp at * <;> omega))) rfl ⟨rfl, rfl⟩)) ?_
  first
  | refine psq_cons _ rfl (core0 (AOp.fieldI Try.underlying111 rfl Try.sizeOf3 (by decide) rfl rfl rfl ⟨rfl, rfl⟩)) ?_
  | refine psq_cons _ rfl (core0 (AOp.fieldB Try.underlying111 rfl Try.sizeOf3 (by decide) rfl rfl rfl ⟨rfl, rfl⟩)) ?_
  | refine psq_cons _ rfl (core0 (AOp.fieldR Try.underlying111 rfl Try.sizeOf3 (by decide) rfl rfl rfl ⟨rfl, rfl⟩)) ?_
  first
  | refine psq_cons _ rfl (core0 (AOp.load1 Try.isAgg3 rfl rfl (reads_im _ _) rfl ⟨rfl, rfl⟩)) ?_
  | refine psq_cons _ rfl (core0 (AOp.load1 Try.isAgg3 rfl rfl (reads_box _ (.head _)) rfl ⟨rfl, rfl⟩)) ?_
  | refine psq_cons _ rfl (core0 (AOp.load1 Try.isAgg3 rfl rfl (reads_box _ (.tail _ (.head _))) rfl ⟨rfl, rfl⟩)) ?_
  | refine psq_cons _ rfl (core0 (AOp.load1 Try.isAgg3 rfl rfl (reads_box _ (.tail _ (.tail _ (.head _)))) rfl ⟨rfl, rfl⟩)) ?_
  | refine psq_cons _ rfl (core0 (AOp.load1 Try.isAgg3 rfl rfl (reads_box _ (.tail _ (.tail _ (.tail _ (.head _))))) rfl ⟨rfl, rfl⟩)) ?_
  | refine psq_cons _ rfl (core0 (AOp.load1 Try.isAgg3 rfl rfl (reads_row _ (.head _) (idx_nat (by first | omega | (simp <;> omega) | (simp at * <;> omega))) (by first | omega | (simp <;> omega) | (simp at * <;> omega))) rfl ⟨rfl, rfl⟩)) ?_
  | refine psq_cons _ rfl (core0 (AOp.load1 Try.isAgg3 rfl rfl (reads_row _ (.head _) (idx_map (by first | omega | (simp <;> omega) | (simp at * <;> omega))) (by first | omega | (simp <;> omega) | (simp at * <;> omega))) rfl ⟨rfl, rfl⟩)) ?_
  | refine psq_cons _ rfl (core0 (AOp.load1 Try.isAgg3 rfl rfl (reads_row _ (.head _) (by assumption) (by first | omega | (simp <;> omega) | (simp at * <;> omega))) rfl ⟨rfl, rfl⟩)) ?_
  | refine psq_cons _ rfl (core0 (AOp.load1 Try.isAgg3 rfl rfl (reads_row _ (.tail _ (.head _)) (idx_nat (by first | omega | (simp <;> omega) | (simp at * <;> omega))) (by first | omega | (simp <;> omega) | (simp at * <;> omega))) rfl ⟨rfl, rfl⟩)) ?_
  | refine psq_cons _ rfl (core0 (AOp.load1 Try.isAgg3 rfl rfl (reads_row _ (.tail _ (.head _)) (idx_map (by first | omega | (simp <;> omega) | (simp at * <;> omega))) (by first | omega | (simp <;> omega) | (simp at * <;> omega))) rfl ⟨rfl, rfl⟩)) ?_
  | refine psq_cons _ rfl (core0 (AOp.load1 Try.isAgg3 rfl rfl (reads_row _ (.tail _ (.head _)) (by assumption) (by first | omega | (simp <;> omega) | (simp at * <;> omega))) rfl ⟨rfl, rfl⟩)) ?_
  | refine psq_cons _ rfl (core0 (AOp.load1 Try.isAgg3 rfl rfl (reads_row _ (.tail _ (.tail _ (.head _))) (idx_nat (by first | omega | (simp <;> omega) | (simp at * <;> omega))) (by first | omega | (simp <;> omega) | (simp at * <;> omega))) rfl ⟨rfl, rfl⟩)) ?_
  | refine psq_cons _ rfl (core0 (AOp.load1 Try.isAgg3 rfl rfl (reads_row _ (.tail _ (.tail _ (.head _))) (idx_map (by first | omega | (simp <;> omega) | (simp at * <;> omega))) (by first | omega | (simp <;> omega) | (simp at * <;> omega))) rfl ⟨rfl, rfl⟩)) ?_
  | refine psq_cons _ rfl (core0 (AOp.load1 Try.isAgg3 rfl rfl (reads_row _ (.tail _ (.tail _ (.head _))) (by assumption) (by first | omega | (simp <;> omega) | (simp at * <;> omega))) rfl ⟨rfl, rfl⟩)) ?_
  | refine psq_cons _ rfl (core0 (AOp.load1 Try.isAgg3 rfl rfl (reads_row _ (.tail _ (.tail _ (.tail _ (.head _)))) (idx_nat (by first | omega | (simp <;> omega) | (simp at * <;> omega))) (by first | omega | (simp <;> omega) | (simp at * <;> omega))) rfl ⟨rfl, rfl⟩)) ?_
  | refine psq_cons _ rfl (core0 (AOp.load1 Try.isAgg3 rfl rfl (reads_row _ (.tail _ (.tail _ (.tail _ (.head _)))) (idx_map (by first | omega | (simp <;> omega) | (simp at * <;> omega))) (by first | omega | (simp <;> omega) | (simp at * <;> omega))) rfl ⟨rfl, rfl⟩)) ?_
  | refine psq_cons _ rfl (core0 (AOp.load1 Try.isAgg3 rfl rfl (reads_row _ (.tail _ (.tail _ (.tail _ (.head _)))) (by assumption) (by first | omega | (simp <;> omega) | (simp at * <;> omega))) rfl ⟨rfl, rfl⟩)) ?_
  refine psq_nil ?_
  refine aops_cons rfl rfl (AOp.callP Try.call138 rfl rfl rfl (compare _ _) ?_)
  refine aops_cons rfl rfl (AOp.buildS' Try.underlying42 Try.sizeOf3 Try.zeroValue3 rfl rfl rfl rfl rfl rfl rfl rfl rfl rfl rfl ?_)
  refine aops_cons rfl rfl (AOp.callP Try.call137 rfl rfl rfl (by exact cmpOr [_, _] (by exact Nat.le_of_ble_eq_true rfl)) ?_)
  refine aops_cons rfl rfl (AOp.assign rfl rfl ?_)
  refine aops_nil ?_
  refine aw_weak (wk_drop (List.nil_sublist _)) ?_
  refine aw_ret ?_
  refine ⟨_, (res1 Try.results127 rfl), ?_⟩
  exact ⟨rfl, rfl⟩

end Go.Proofs.Ytdacnebhlgibhaa
