/- Own text: a lease is put in. -/
import Derived.Test.YtdacnebhlgibhaaLe
import Derived.Test.YtdacnebhlgibhaaAwJ
set_option linter.unusedVariables false
set_option linter.unusedSimpArgs false
set_option linter.all false
set_option maxRecDepth 100000
set_option maxHeartbeats 2000000
namespace Go.Proofs.Ytdacnebhlgibhaa
open Go Go.Aw

def insL (l : List L) (i : Nat) (x : L) : List L := l.take i ++ x :: l.drop i
theorem insL_map (l : List L) (i : Nat) (x : L) : (insL l i x).map L.e = (l.map L.e).take i ++ x.e :: (l.map L.e).drop i := by simp [insL, List.map_take, List.map_drop]
theorem end_eq {l : List L} {x : L} {i : Nat} (hi : i = l.length) : l.map L.e ++ [x.e] = (insL l i x).map L.e := by
  rw [insL_map, List.take_of_length_le (by simp; omega), List.drop_of_length_le (by simp; omega)]
theorem place_eq {α : Type} {M : List α} {x : α} {i p q n : Nat} (hi : i < M.length) (hp : p = i) (hq : q = i + 1) (hn : n = M.length - i) :
    (M.take q ++ (M.drop p).take n ++ M.drop (q + ((M.drop p).take n).length)).take p ++ [x] ++ (M.take q ++ (M.drop p).take n ++ M.drop (q + ((M.drop p).take n).length)).drop (p + [x].length) = M.take i ++ x :: M.drop i := by
  subst hp hq hn
  have h1 : (M.drop p).take (M.length - p) = M.drop p := List.take_of_length_le (by simp)
  have h2 : M.drop (p + 1 + (M.drop p).length) = [] := List.drop_of_length_le (by simp; omega)
  have h3 : (M.take (p + 1)).length = p + 1 := by simp; omega
  rw [h1, h2, List.append_nil, List.take_append_of_le_length (by omega), List.take_take, Nat.min_eq_left (by omega), List.length_singleton, List.drop_append, h3, Nat.sub_self, List.drop_of_length_le (by omega)]
  simp
theorem grow_eq {α : Type} {M : List α} {x z : α} {i p q n k r : Nat} (hi : i < M.length) (hp : p = i) (hr : r = i) (hq : q = i + 1) (hn : n = M.length - i) (hk : k = M.length + 1 - i) :
    ((M.take r ++ List.replicate k z).take p ++ [x] ++ (M.take r ++ List.replicate k z).drop (p + [x].length)).take q ++ (M.drop p).take n ++ ((M.take r ++ List.replicate k z).take p ++ [x] ++ (M.take r ++ List.replicate k z).drop (p + [x].length)).drop (q + ((M.drop p).take n).length) = M.take i ++ x :: M.drop i := by
  subst hp hr hq hn hk
  have h0 : (M.take r).length = r := by simp; omega
  have h1 : (M.drop r).take (M.length - r) = M.drop r := List.take_of_length_le (by simp)
  have h2 : (M.take r ++ List.replicate (M.length + 1 - r) z).take r = M.take r := by rw [List.take_append_of_le_length (by omega), List.take_of_length_le (by omega)]
  rw [h1, h2]
  have h3 : (M.take r ++ [x] ++ (M.take r ++ List.replicate (M.length + 1 - r) z).drop (r + [x].length)).length = M.length + 1 := by simp; omega
  have h4 : (M.take r ++ [x]).length = r + 1 := by simp; omega
  rw [List.drop_of_length_le (l := M.take r ++ [x] ++ _) (by rw [h3]; simp; omega), List.take_append_of_le_length (by omega), List.take_of_length_le (by omega)]
  simp
theorem ext86 (args : Array Value) (w : World) : (callFunc 139 args).run Try.prog w = ((Extern.SlicesOverlaps.overlaps #[27, 27] #[4] args).run Try.prog w).andThen fun v w' => .ok (.value v) w' :=
  run_callFunc_extern Try.func139 (by kernel_rfl) (by kernel_rfl) (by kernel_rfl) (e := Extern.SlicesOverlaps.overlaps #[27, 27] #[4]) (by kernel_rfl) args w

theorem insert (l : List L) (x : L) (i : Nat) (w v : Value) (hi : i ≤ l.length) (hl : l.length ≤ 1000000) : ACalls Try.prog 128 [.sc w, .sc (.int .i64 (i : Int)), .sc v] [rowL w l, .row v 111 4 [x.e]] (fun r A' => ∃ w', r = .sc w' ∧ A' = [rowL w' (insL l i x)]) (fun _ _ => False) := by
  unfold rowL
  refine acallsN Try.func128 rfl Try.ntmps128 rfl ?_
  refine aw_seq ?_
  refine aw_region ?_
  refine aops_cons rfl rfl (AOp.assign rfl rfl ?_)
  refine aops_nil ?_
  refine aw_seq ?_
  refine aw_region ?_
  refine aops_cons rfl rfl (AOp.move rfl rfl ?_)
  refine aops_cons rfl rfl (AOp.move rfl rfl ?_)
  refine aops_cons rfl rfl (AOp.cutR Try.underlying27 Try.sizeOf111 (.head _) rfl rfl (bd_some rfl (by first | omega | (simp <;> omega) | (simp at * <;> omega)) rfl) bd_none (by first | omega | (simp <;> omega) | (simp at * <;> omega)) (by first | omega | (simp <;> omega) | (simp at * <;> omega)) rfl ?_)
  refine aops_nil ?_
  refine aw_seq ?_
  refine aw_region ?_
  refine aops_cons rfl rfl (AOp.move rfl rfl ?_)
  refine aops_cons rfl rfl (AOp.lenR (by first | exact List.length_map _ | rfl) Try.underlying27 (.tail _ (.head _)) rfl rfl ?_)
  refine aops_cons rfl rfl (AOp.assign rfl rfl ?_)
  refine aops_nil ?_
  refine aw_seq ?_
  refine aw_seq ?_
  refine aw_region ?_
  refine aops_cons rfl rfl (AOp.move rfl rfl ?_)
  refine aops_cons rfl rfl (AOp.eql rfl rfl rfl ?_)
  refine aops_nil ?_
  refine aw_cond _ rfl (fun h1 => ?_) (fun h1 => ?_)
  focus
    have h1_ := h1
    try simp only [List.length_map, List.length_cons, List.length_nil, nrm] at h1
    all_goals try (exfalso; first | (simp at h1_; done) | omega)
  rotate_right
  focus
    have h1_ := h1
    try simp only [List.length_map, List.length_cons, List.length_nil, nrm] at h1
    all_goals try (exfalso; first | (simp at h1_; done) | omega)
    all_goals
      refine aw_skip ?_
      skip
  all_goals
    refine aw_seq ?_
    refine aw_region ?_
    refine aops_cons rfl rfl (AOp.move rfl rfl ?_)
    refine aops_cons rfl rfl (AOp.lenR (by first | exact List.length_map _ | rfl) Try.underlying27 (.head _) rfl rfl ?_)
    refine aops_cons rfl rfl (AOp.assign rfl rfl ?_)
    refine aops_nil ?_
    refine aw_seq ?_
    refine aw_seq ?_
    refine aw_region ?_
    refine aops_cons rfl rfl (AOp.move rfl rfl ?_)
    refine aops_cons rfl rfl (AOp.move rfl rfl ?_)
    refine aops_cons rfl rfl (AOp.eql rfl rfl rfl ?_)
    refine aops_nil ?_
    refine aw_cond _ rfl (fun h2 => ?_) (fun h2 => ?_)
    focus
      have h2_ := h2
      try simp only [List.length_map, List.length_cons, List.length_nil, nrm] at h2
      all_goals try (exfalso; first | (simp at h2_; done) | omega)
      all_goals
        refine aw_seq ?_
        refine aw_region ?_
        refine aops_cons rfl rfl (AOp.move rfl rfl ?_)
        refine aops_cons rfl rfl (AOp.move rfl rfl ?_)
        (refine aops_cons rfl rfl (AOp.append' (bytes := 32) Try.zeroValue111 Try.sizeOf111 Try.underlying27 (by kernel_rfl) rfl rfl rfl (pull_here _ _) rfl (src_row Try.underlying27 (.tail _ (.head _))) (by first | omega | (simp <;> omega) | (simp at * <;> omega)) (by decide) ?_); intro b1)
        refine aops_cons rfl rfl (AOp.assign rfl rfl ?_)
        refine aops_nil ?_
        refine aw_weak (wk_drop (A' := [_]) (by (focus ((repeat (first | exact List.Sublist.slnil | apply List.Sublist.cons_cons | apply List.Sublist.cons)); done)))) ?_
        refine aw_ret ?_
        refine ⟨_, (res1 Try.results128 rfl), ?_⟩
        exact ⟨_, rfl, by rw [end_eq (i := i) (by omega)]⟩
    rotate_right
    focus
      have h2_ := h2
      try simp only [List.length_map, List.length_cons, List.length_nil, nrm] at h2
      all_goals try (exfalso; first | (simp at h2_; done) | omega)
      all_goals
        refine aw_skip ?_
        skip
    all_goals
      refine aw_seq ?_
      refine aw_seq ?_
      refine aw_region ?_
      refine aops_cons rfl rfl (AOp.move rfl rfl ?_)
      refine aops_cons rfl rfl (AOp.move rfl rfl ?_)
      refine aops_cons rfl rfl (AOp.addE rfl rfl rfl (by first | omega | (simp <;> omega) | (simp at * <;> omega)) (by first | omega | (simp <;> omega) | (simp at * <;> omega)) ?_)
      refine aops_cons rfl rfl (AOp.move rfl rfl ?_)
      refine aops_cons rfl rfl (AOp.capR Try.underlying27 (.head _) rfl rfl ?_)
      refine aops_cons rfl rfl (AOp.gtr rfl rfl rfl ?_)
      refine aops_nil ?_
      refine aw_cond _ rfl (fun h3 => ?_) (fun h3 => ?_)
      focus
        have h3_ := h3
        try simp only [List.length_map, List.length_cons, List.length_nil, nrm] at h3
        all_goals try (exfalso; first | (simp at h3_; done) | omega)
        all_goals
          refine aw_seq ?_
          refine aw_region ?_
          refine aops_cons rfl rfl (AOp.move rfl rfl ?_)
          refine aops_cons rfl rfl (AOp.move rfl rfl ?_)
          refine aops_cons rfl rfl (AOp.cutR Try.underlying27 Try.sizeOf111 (.head _) rfl rfl bd_none (bd_some rfl (by first | omega | (simp <;> omega) | (simp at * <;> omega)) rfl) (by first | omega | (simp <;> omega) | (simp at * <;> omega)) (by first | omega | (simp <;> omega) | (simp at * <;> omega)) rfl ?_)
          refine aops_cons rfl rfl (AOp.move rfl rfl ?_)
          refine aops_cons rfl rfl (AOp.move rfl rfl ?_)
          refine aops_cons rfl rfl (AOp.addE rfl rfl rfl (by first | omega | (simp <;> omega) | (simp at * <;> omega)) (by first | omega | (simp <;> omega) | (simp at * <;> omega)) ?_)
          refine aops_cons rfl rfl (AOp.move rfl rfl ?_)
          refine aops_cons rfl rfl (AOp.subE rfl rfl rfl (by first | omega | (simp <;> omega) | (simp at * <;> omega)) (by first | omega | (simp <;> omega) | (simp at * <;> omega)) ?_)
          refine aops_cons rfl rfl (AOp.growO (sz := 4) (bytes := 32) (k := l.length + 1 - i) Try.zeroValue111 Try.sizeOf111 Try.underlying27 Try.underlying3 (by kernel_rfl) rfl (by kernel_rfl) (by decide) rfl rfl rfl (by first | omega | (simp <;> omega) | (simp at * <;> omega)) (.head _) (by first | omega | (simp <;> omega) | (simp at * <;> omega)) (by first | omega | (simp <;> omega) | (simp at * <;> omega)) (by first | omega | (simp <;> omega) | (simp at * <;> omega)) (by first | omega | (simp <;> omega) | (simp at * <;> omega)) (by unfold maxLen; omega) rfl ?_); intro b2
          refine aops_cons rfl rfl (AOp.assign rfl rfl ?_)
          refine aops_nil ?_
          refine aw_seq ?_
          refine aw_region ?_
          refine aops_cons rfl rfl (AOp.move rfl rfl ?_)
          refine aops_cons rfl rfl (AOp.move rfl rfl ?_)
          refine aops_cons rfl rfl (AOp.cutR Try.underlying27 Try.sizeOf111 (.head _) rfl rfl (bd_some rfl (by first | omega | (simp <;> omega) | (simp at * <;> omega)) rfl) bd_none (by first | omega | (simp <;> omega) | (simp at * <;> omega)) (by first | omega | (simp <;> omega) | (simp at * <;> omega)) rfl ?_)
          refine aops_cons rfl rfl (AOp.move rfl rfl ?_)
          refine aops_cons rfl rfl (AOp.copyI Try.underlying27 Try.sizeOf111 rfl rfl rfl (pull_here _ _) (srcC_of (src_row Try.underlying27 (.tail _ (.tail _ (.head _))))) (by first | omega | (simp <;> omega) | (simp at * <;> omega)) (by first | omega | (simp <;> omega) | (simp at * <;> omega)) (by first | omega | (simp <;> omega) | (simp at * <;> omega)) rfl ?_)
          refine aops_nil ?_
          refine aw_seq ?_
          refine aw_draw 8 [0, 0, 0, 0, 0, 0, 0, 0] (by kernel_rfl) (by kernel_rfl) ?_
          refine psq_cons _ rfl (core0 (AOp.move rfl rfl ⟨rfl, rfl⟩)) ?_
          refine psq_cons _ rfl (core0 (AOp.move rfl rfl ⟨rfl, rfl⟩)) ?_
          refine psq_cons _ rfl (core0 (AOp.move rfl rfl ⟨rfl, rfl⟩)) ?_
          refine psq_cons _ rfl (core0 (AOp.addE rfl rfl rfl (by first | omega | (simp <;> omega) | (simp at * <;> omega)) (by first | omega | (simp <;> omega) | (simp at * <;> omega)) ⟨rfl, rfl⟩)) ?_
          refine psq_cons _ rfl (core0 (AOp.cutR Try.underlying27 Try.sizeOf111 (.head _) rfl rfl (bd_some rfl (by first | omega | (simp <;> omega) | (simp at * <;> omega)) rfl) bd_none (by first | omega | (simp <;> omega) | (simp at * <;> omega)) (by first | omega | (simp <;> omega) | (simp at * <;> omega)) rfl ⟨rfl, rfl⟩)) ?_
          refine psq_cons _ rfl (core0 (AOp.move rfl rfl ⟨rfl, rfl⟩)) ?_
          refine psq_cons _ rfl (core0 (AOp.move rfl rfl ⟨rfl, rfl⟩)) ?_
          refine psq_cons _ rfl (core0 (AOp.cutR Try.underlying27 Try.sizeOf111 (.tail _ (.head _)) rfl rfl (bd_some rfl (by first | omega | (simp <;> omega) | (simp at * <;> omega)) rfl) bd_none (by first | omega | (simp <;> omega) | (simp at * <;> omega)) (by first | omega | (simp <;> omega) | (simp at * <;> omega)) rfl ⟨rfl, rfl⟩)) ?_
          refine psq_nil ?_
          refine aops_cons rfl rfl (AOp.copyI Try.underlying27 Try.sizeOf111 rfl rfl rfl (pull_here _ _) (srcC_os (m := l.length - i) (.tail _ (.head _)) (by first | omega | (simp <;> omega) | (simp at * <;> omega)) (by first | omega | (simp <;> omega) | (simp at * <;> omega)) (by first | omega | (simp <;> omega) | (simp at * <;> omega))) (by first | omega | (simp <;> omega) | (simp at * <;> omega)) (by first | omega | (simp <;> omega) | (simp at * <;> omega)) (by first | omega | (simp <;> omega) | (simp at * <;> omega)) rfl ?_)
          refine aops_nil ?_
          refine aw_seq ?_
          refine aw_region ?_
          refine aops_cons rfl rfl (AOp.move rfl rfl ?_)
          refine aops_cons rfl rfl (AOp.assign rfl rfl ?_)
          refine aops_nil ?_
          refine aw_weak (wk_drop (A' := [_]) (by (focus ((repeat (first | exact List.Sublist.slnil | apply List.Sublist.cons_cons | apply List.Sublist.cons)); done)))) ?_
          refine aw_ret ?_
          refine ⟨_, (res1 Try.results128 rfl), ?_⟩
          refine ⟨_, rfl, ?_⟩
          rw [insL_map]
          congr 2
          exact grow_eq (by simp; omega) (by omega) (by omega) (by simp) (by simp) (by simp)
      rotate_right
      focus
        have h3_ := h3
        try simp only [List.length_map, List.length_cons, List.length_nil, nrm] at h3
        all_goals try (exfalso; first | (simp at h3_; done) | omega)
        all_goals
          refine aw_skip ?_
          skip
      all_goals
        refine aw_seq ?_
        refine aw_region ?_
        refine aops_cons rfl rfl (AOp.move rfl rfl ?_)
        refine aops_cons rfl rfl (AOp.move rfl rfl ?_)
        refine aops_cons rfl rfl (AOp.move rfl rfl ?_)
        refine aops_cons rfl rfl (AOp.addE rfl rfl rfl (by first | omega | (simp <;> omega) | (simp at * <;> omega)) (by first | omega | (simp <;> omega) | (simp at * <;> omega)) ?_)
        refine aops_cons rfl rfl (AOp.cutX Try.underlying27 Try.sizeOf111 (.head _) rfl rfl bd_none (bd_some (l := l.length + 1) rfl (by first | omega | (simp <;> omega) | (simp at * <;> omega)) (by first | omega | (simp <;> omega) | (simp at * <;> omega))) (by first | omega | (simp <;> omega) | (simp at * <;> omega)) (by first | omega | (simp <;> omega) | (simp at * <;> omega)) rfl ?_)
        refine aops_cons rfl rfl (AOp.assign rfl rfl ?_)
        refine aops_nil ?_
        refine aw_seq ?_
        refine aw_seq ?_
        refine aw_region ?_
        refine aops_cons rfl rfl (AOp.move rfl rfl ?_)
        refine aops_cons rfl rfl (AOp.move rfl rfl ?_)
        refine aops_cons rfl rfl (AOp.move rfl rfl ?_)
        refine aops_cons rfl rfl (AOp.move rfl rfl ?_)
        refine aops_cons rfl rfl (AOp.addE rfl rfl rfl (by first | omega | (simp <;> omega) | (simp at * <;> omega)) (by first | omega | (simp <;> omega) | (simp at * <;> omega)) ?_)
        refine aops_cons rfl rfl (AOp.cutO Try.underlying27 Try.sizeOf111 rfl rfl (bd_some rfl (by first | omega | (simp <;> omega) | (simp at * <;> omega)) rfl) bd_none (by first | omega | (simp <;> omega) | (simp at * <;> omega)) (by first | omega | (simp <;> omega) | (simp at * <;> omega)) rfl ?_)
        refine aops_cons rfl rfl (AOp.overlapsR ext86 Try.underlying27 Try.sizeOf111 rfl rfl rfl rfl (pull_there (pull_here _ _)) (pull_here _ _) (by first | omega | (simp <;> omega) | (simp at * <;> omega)) (by first | omega | (simp <;> omega) | (simp at * <;> omega)) (by first | omega | (simp <;> omega) | (simp at * <;> omega)) (by first | omega | (simp <;> omega) | (simp at * <;> omega)) ?_)
        refine aops_cons rfl rfl (AOp.not rfl rfl ?_)
        refine aops_nil ?_
        refine aw_cond _ rfl (fun h4 => ?_) (fun h4 => ?_)
        focus
          have h4_ := h4
          try simp only [List.length_map, List.length_cons, List.length_nil, nrm] at h4
          all_goals try (exfalso; first | (simp at h4_; done) | omega)
          all_goals
            refine aw_seq ?_
            refine aw_draw 8 [0, 0, 0, 0, 0, 0, 0, 0] (by kernel_rfl) (by kernel_rfl) ?_
            refine psq_cons _ rfl (core0 (AOp.move rfl rfl ⟨rfl, rfl⟩)) ?_
            refine psq_cons _ rfl (core0 (AOp.move rfl rfl ⟨rfl, rfl⟩)) ?_
            refine psq_cons _ rfl (core0 (AOp.move rfl rfl ⟨rfl, rfl⟩)) ?_
            refine psq_cons _ rfl (core0 (AOp.addE rfl rfl rfl (by first | omega | (simp <;> omega) | (simp at * <;> omega)) (by first | omega | (simp <;> omega) | (simp at * <;> omega)) ⟨rfl, rfl⟩)) ?_
            refine psq_cons _ rfl (core0 (AOp.cutO Try.underlying27 Try.sizeOf111 rfl rfl (bd_some rfl (by first | omega | (simp <;> omega) | (simp at * <;> omega)) rfl) bd_none (by first | omega | (simp <;> omega) | (simp at * <;> omega)) (by first | omega | (simp <;> omega) | (simp at * <;> omega)) rfl ⟨rfl, rfl⟩)) ?_
            refine psq_cons _ rfl (core0 (AOp.move rfl rfl ⟨rfl, rfl⟩)) ?_
            refine psq_cons _ rfl (core0 (AOp.move rfl rfl ⟨rfl, rfl⟩)) ?_
            refine psq_cons _ rfl (core0 (AOp.cutO Try.underlying27 Try.sizeOf111 rfl rfl (bd_some rfl (by first | omega | (simp <;> omega) | (simp at * <;> omega)) rfl) bd_none (by first | omega | (simp <;> omega) | (simp at * <;> omega)) (by first | omega | (simp <;> omega) | (simp at * <;> omega)) rfl ⟨rfl, rfl⟩)) ?_
            refine psq_nil ?_
            refine aops_cons rfl rfl (AOp.copyO Try.underlying27 Try.sizeOf111 rfl rfl rfl (pull_here _ _) (srcC_os (m := l.length - i) (.head _) (by first | omega | (simp <;> omega) | (simp at * <;> omega)) (by first | omega | (simp <;> omega) | (simp at * <;> omega)) (by first | omega | (simp <;> omega) | (simp at * <;> omega))) (by first | omega | (simp <;> omega) | (simp at * <;> omega)) (by first | omega | (simp <;> omega) | (simp at * <;> omega)) (by first | omega | (simp <;> omega) | (simp at * <;> omega)) rfl (fun w' hw' _ => ?_))
            refine aops_weak (wk_relen hw' (subl_new (s := 0) rfl (subl_cons (s := 1) rfl (subl_cons (s := 2) rfl (subl_nil _ _ _))))) ?_
            refine aops_nil ?_
            refine aw_seq ?_
            refine aw_region ?_
            refine aops_cons rfl rfl (AOp.move rfl rfl ?_)
            refine aops_cons rfl rfl (AOp.move rfl rfl ?_)
            refine aops_cons rfl rfl (AOp.cutO Try.underlying27 Try.sizeOf111 rfl rfl (bd_some rfl (by first | omega | (simp <;> omega) | (simp at * <;> omega)) rfl) bd_none (by first | omega | (simp <;> omega) | (simp at * <;> omega)) (by first | omega | (simp <;> omega) | (simp at * <;> omega)) rfl ?_)
            refine aops_cons rfl rfl (AOp.move rfl rfl ?_)
            refine aops_cons rfl rfl (AOp.copyI Try.underlying27 Try.sizeOf111 rfl rfl rfl (pull_here _ _) (srcC_of (src_row Try.underlying27 (.tail _ (.head _)))) (by first | omega | (simp <;> omega) | (simp at * <;> omega)) (by first | omega | (simp <;> omega) | (simp at * <;> omega)) (by first | omega | (simp <;> omega) | (simp at * <;> omega)) rfl ?_)
            refine aops_nil ?_
            refine aw_seq ?_
            refine aw_region ?_
            refine aops_cons rfl rfl (AOp.move rfl rfl ?_)
            refine aops_cons rfl rfl (AOp.assign rfl rfl ?_)
            refine aops_nil ?_
            refine wk_front (sz := 4) (q := 6) (m := l.length + 1) (pull_here _ _) rfl (by first | omega | (simp <;> omega) | (simp at * <;> omega)) (fun w2 => ?_)
            refine aw_weak (wk_drop (A' := [_]) (by (focus ((repeat (first | exact List.Sublist.slnil | apply List.Sublist.cons_cons | apply List.Sublist.cons)); done)))) ?_
            refine aw_ret ?_
            refine ⟨_, (res1 Try.results128 rfl), ?_⟩
            refine ⟨w2, rfl, ?_⟩
            rw [insL_map]
            congr 2
            rw [List.take_of_length_le (by first | omega | (simp <;> omega) | (simp at * <;> omega))]
            exact place_eq (by simp; omega) (by omega) (by simp) (by simp)
        rotate_right
        focus
          have h4_ := h4
          try simp only [List.length_map, List.length_cons, List.length_nil, nrm] at h4
          all_goals try (exfalso; first | (simp at h4_; done) | omega)

end Go.Proofs.Ytdacnebhlgibhaa
