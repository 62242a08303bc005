/- Own text: one more in a line. -/
import Derived.Test.YtdacnebhlgibhaaDc
set_option linter.unusedVariables false
set_option linter.unusedSimpArgs false
set_option linter.all false
set_option maxRecDepth 100000
set_option maxHeartbeats 2000000
namespace Go.Proofs.Ytdacnebhlgibhaa
open Go Go.Aw
theorem rPut (l : List Wt) (w : Wt) (hl : l.length ≤ 1000000) : Pur Try.prog 65 [ws l, .ag w.e] (putA (putW l w)) := by
  refine acallsN Try.func65 rfl Try.ntmps65 rfl ?_
  refine aw_seq ?_
  refine aw_region ?_
  refine aops_cons rfl rfl (AOp.boxI rfl rfl rfl ?_)
  refine aops_cons rfl rfl (AOp.assign rfl rfl ?_)
  refine aops_cons rfl rfl (AOp.assign rfl rfl ?_)
  refine aops_nil ?_
  refine aw_seq ?_
  refine aw_seq ?_
  refine aw_region ?_
  refine aops_cons rfl rfl (AOp.assign rfl rfl ?_)
  refine aops_nil ?_
  refine aw_block ?_
  refine aw_loop (β := Nat) (S := (fun (z0 : Nat) => match z0 with | i => [(0, ws l), (3, .im w.e), (6, .sc (.int .i64 (i : Int)))])) (B := (fun (z0 : Nat) => match z0 with | i => [])) (pre := (fun (z0 : Nat) => match z0 with | i => i ≤ l.length ∧ ∀ k (hk : k < l.length), k < i → ¬ (l[k].c = w.c ∧ l[k].f = w.f))) (μ := (fun (z0 : Nat) => match z0 with | i => l.length - i)) 0 (wk_env (sube_cons rfl (sube_cons rfl (sube_cons rfl (sube_nil _))))) ?_ ?_
  · exact ⟨Nat.zero_le _, fun k h h0 => by omega⟩
  · rintro i ⟨hi, ha⟩
    change AW _ _ _ ([(0, ws l), (3, .im w.e), (6, .sc (.int .i64 (i : Int)))] : Env) ([] : List Blk) _
    refine aw_seq ?_
    refine aw_seq ?_
    refine aw_region ?_
    refine aops_cons rfl rfl (AOp.move rfl rfl ?_)
    refine aops_cons rfl rfl (AOp.move rfl rfl ?_)
    refine aops_cons rfl rfl (AOp.lenS (by first | exact List.length_map _ | rfl) Try.underlying28 rfl rfl ?_)
    refine aops_cons rfl rfl (AOp.lss rfl rfl rfl ?_)
    refine aops_nil ?_
    refine aw_cond _ rfl (fun h1 => ?_) (fun h1 => ?_)
    focus
      have h1_ := h1
      try simp only [List.length_map, List.length_cons, List.length_nil, nrm] at h1
      all_goals try (exfalso; first | (simp at h1_; done) | omega)
      all_goals
        refine aw_skip ?_
        skip
    rotate_right
    focus
      have h1_ := h1
      try simp only [List.length_map, List.length_cons, List.length_nil, nrm] at h1
      all_goals try (exfalso; first | (simp at h1_; done) | omega)
      all_goals
        refine aw_exit ?_
        refine aw_seq ?_
        have hno : ∀ y ∈ l, ¬ (y.c = w.c ∧ y.f = w.f) := fun y hy => by obtain ⟨k, hk, rfl⟩ := List.getElem_of_mem hy; exact ha k hk (by omega)
        have hdl : (dropW l w.c).length ≤ l.length := List.length_filter_le _ _
        refine aw_region ?_
        refine aops_cons rfl rfl (AOp.move rfl rfl ?_)
        refine aops_cons rfl rfl (AOp.fieldI Try.underlying25 rfl Try.sizeOf3 (by decide) rfl rfl rfl ?_)
        refine aops_cons rfl rfl (AOp.load1 Try.isAgg3 rfl rfl (reads_im _ _) rfl ?_)
        refine aops_cons rfl rfl (AOp.callN (Af := []) Try.call111 rfl rfl rfl (List.Perm.refl _) (by exact rDropW l w.c hl) (fun r' A'' hr => ?_))
        obtain ⟨w8, rfl, rfl⟩ := hr
        unfold rowW
        refine aops_cons rfl rfl (AOp.assign rfl rfl ?_)
        refine aops_nil ?_
        refine aw_seq ?_
        refine aw_seq ?_
        refine aw_region ?_
        refine aops_cons rfl rfl (AOp.move rfl rfl ?_)
        refine aops_cons rfl rfl (AOp.lenR (by first | exact List.length_map _ | rfl) Try.underlying28 (.head _) rfl rfl ?_)
        refine aops_cons rfl rfl (AOp.geq rfl rfl rfl ?_)
        refine aops_nil ?_
        refine aw_cond _ rfl (fun h2 => ?_) (fun h2 => ?_)
        focus
          have h2_ := h2
          try simp only [List.length_map, List.length_cons, List.length_nil, nrm] at h2
          all_goals try (exfalso; first | (simp at h2_; done) | omega)
          all_goals
            refine aw_seq ?_
            refine aw_region ?_
            refine aops_cons rfl rfl (AOp.move rfl rfl ?_)
            refine aops_cons rfl rfl (AOp.assign rfl rfl ?_)
            refine aops_cons rfl rfl (AOp.assign rfl rfl ?_)
            refine aops_nil ?_
            refine aw_weak (wk_drop (List.nil_sublist _)) ?_
            refine aw_ret ?_
            refine ⟨_, (res2 Try.results65 rfl rfl), ?_⟩
            exact ⟨putA_no (putW_full hno (by omega)), rfl⟩
        rotate_right
        focus
          have h2_ := h2
          try simp only [List.length_map, List.length_cons, List.length_nil, nrm] at h2
          all_goals try (exfalso; first | (simp at h2_; done) | omega)
          all_goals
            refine aw_skip ?_
            skip
        all_goals
          refine aw_seq ?_
          refine aw_region ?_
          refine aops_cons rfl rfl (AOp.move rfl rfl ?_)
          refine aops_cons rfl rfl (AOp.loadN Try.isAgg25 Try.sizeOf25 rfl rfl (reads_im _ _) rfl rfl ?_)
          refine aops_cons rfl rfl (AOp.buildS' Try.underlying28 Try.sizeOf25 Try.zeroValue25 rfl rfl rfl rfl rfl rfl rfl rfl rfl rfl rfl ?_)
          (refine aops_cons rfl rfl (AOp.append' (bytes := 32) Try.zeroValue25 Try.sizeOf25 Try.underlying28 (by kernel_rfl) rfl rfl rfl (pull_here _ _) rfl (src_sl Try.underlying28 (all_len rfl)) (by first | omega | (simp <;> omega) | (simp at * <;> omega)) (by decide) ?_); intro b1)
          refine aops_cons rfl rfl (AOp.assign rfl rfl ?_)
          refine aops_cons rfl rfl (AOp.assign rfl rfl ?_)
          refine aops_nil ?_
          refine aw_weak (wk_frz (pull_here _ _) .nil (subz_cons (s := 4) rfl (fz_row _ _) (subz_cons (s := 5) rfl (fz_id _ _ _) (subz_nil _ _ _)))) ?_
          refine aw_weak (wk_drop (List.nil_sublist _)) ?_
          refine aw_ret ?_
          refine ⟨_, (res2 Try.results65 rfl rfl), ?_⟩
          exact ⟨putA_app (putW_more hno (by omega)), rfl⟩
    all_goals
      refine aw_seq ?_
      refine aw_block ?_
      refine aw_seq ?_
      refine aw_draw 16 [0, 0, 0, 0, 0, 0, 0, 0, 0, 0, 0, 0, 0, 0, 0, 0] (by kernel_rfl) (by kernel_rfl) ?_
      refine psq_cons _ rfl (core0 (AOp.move rfl rfl ⟨rfl, rfl⟩)) ?_
      refine psq_cons _ rfl (core0 (AOp.move rfl rfl ⟨rfl, rfl⟩)) ?_
      refine psq_cons _ rfl (core0 (AOp.indexLN Try.underlying28 Try.sizeOf25 rfl rfl rfl (by first | omega | (simp <;> omega) | (simp at * <;> omega)) (fun _ => rfl) ⟨rfl, rfl⟩)) ?_
      refine psq_cons _ rfl (core0 (AOp.fieldI Try.underlying25 rfl Try.sizeOf3 (by decide) rfl rfl rfl ⟨rfl, rfl⟩)) ?_
      refine psq_cons _ rfl (core0 (AOp.load1 Try.isAgg3 rfl rfl (reads_im _ _) rfl ⟨rfl, rfl⟩)) ?_
      refine psq_cons _ rfl (core0 (AOp.fieldI Try.underlying25 rfl Try.sizeOf3 (by decide) rfl rfl rfl ⟨rfl, rfl⟩)) ?_
      refine psq_cons _ rfl (core0 (AOp.load1 Try.isAgg3 rfl rfl (reads_im _ _) rfl ⟨rfl, rfl⟩)) ?_
      refine psq_cons _ rfl (core0 (AOp.eql rfl rfl rfl ⟨rfl, rfl⟩)) ?_
      refine psq_cons _ rfl (core0 (AOp.move rfl rfl ⟨rfl, rfl⟩)) ?_
      refine psq_guard 8 true 23 _ rfl rfl rfl rfl (fun g3 => ?_) (fun g3 => ?_)
      focus
        have g3_ := g3
        try simp only [List.length_map, List.length_cons, List.length_nil, nrm] at g3
        all_goals try (exfalso; first | (simp at g3_; done) | omega)
        all_goals
          refine psg _ (core0 (AOp.move rfl rfl ⟨rfl, rfl⟩)) ?_
          refine psq_guard 8 true 23 _ rfl rfl rfl rfl (fun _ => ?_) (fun hh => by exfalso; first | (rw [g3_] at hh; exact absurd hh (by decide)) | (revert hh; simp [g3_]))
          refine psg _ (core0 (AOp.move rfl rfl ⟨rfl, rfl⟩)) ?_
          refine psq_guard 8 true 23 _ rfl rfl rfl rfl (fun _ => ?_) (fun hh => by exfalso; first | (rw [g3_] at hh; exact absurd hh (by decide)) | (revert hh; simp [g3_]))
          refine psg _ (core0 (AOp.indexLN Try.underlying28 Try.sizeOf25 rfl rfl rfl (by first | omega | (simp <;> omega) | (simp at * <;> omega)) (fun _ => rfl) ⟨rfl, rfl⟩)) ?_
          refine psq_guard 8 true 23 _ rfl rfl rfl rfl (fun _ => ?_) (fun hh => by exfalso; first | (rw [g3_] at hh; exact absurd hh (by decide)) | (revert hh; simp [g3_]))
          refine psg _ (core0 (AOp.fieldI Try.underlying25 rfl Try.sizeOf3 (by decide) rfl rfl rfl ⟨rfl, rfl⟩)) ?_
          refine psq_guard 8 true 23 _ rfl rfl rfl rfl (fun _ => ?_) (fun hh => by exfalso; first | (rw [g3_] at hh; exact absurd hh (by decide)) | (revert hh; simp [g3_]))
          refine psg _ (core0 (AOp.load1 Try.isAgg3 rfl rfl (reads_im _ _) rfl ⟨rfl, rfl⟩)) ?_
          refine psq_guard 8 true 23 _ rfl rfl rfl rfl (fun _ => ?_) (fun hh => by exfalso; first | (rw [g3_] at hh; exact absurd hh (by decide)) | (revert hh; simp [g3_]))
          refine psg _ (core0 (AOp.fieldI Try.underlying25 rfl Try.sizeOf3 (by decide) rfl rfl rfl ⟨rfl, rfl⟩)) ?_
          refine psq_guard 8 true 23 _ rfl rfl rfl rfl (fun _ => ?_) (fun hh => by exfalso; first | (rw [g3_] at hh; exact absurd hh (by decide)) | (revert hh; simp [g3_]))
          refine psg _ (core0 (AOp.load1 Try.isAgg3 rfl rfl (reads_im _ _) rfl ⟨rfl, rfl⟩)) ?_
      rotate_right
      focus
        have g3_ := g3
        try simp only [List.length_map, List.length_cons, List.length_nil, nrm] at g3
        all_goals try (exfalso; first | (simp at g3_; done) | omega)
        all_goals
          refine psq_guard 8 true 23 _ rfl rfl rfl rfl (fun hh => by exfalso; first | (rw [g3_] at hh; exact absurd hh (by decide)) | (revert hh; simp [g3_])) (fun _ => ?_)
          refine psq_guard 8 true 23 _ rfl rfl rfl rfl (fun hh => by exfalso; first | (rw [g3_] at hh; exact absurd hh (by decide)) | (revert hh; simp [g3_])) (fun _ => ?_)
          refine psq_guard 8 true 23 _ rfl rfl rfl rfl (fun hh => by exfalso; first | (rw [g3_] at hh; exact absurd hh (by decide)) | (revert hh; simp [g3_])) (fun _ => ?_)
          refine psq_guard 8 true 23 _ rfl rfl rfl rfl (fun hh => by exfalso; first | (rw [g3_] at hh; exact absurd hh (by decide)) | (revert hh; simp [g3_])) (fun _ => ?_)
          refine psq_guard 8 true 23 _ rfl rfl rfl rfl (fun hh => by exfalso; first | (rw [g3_] at hh; exact absurd hh (by decide)) | (revert hh; simp [g3_])) (fun _ => ?_)
          refine psq_guard 8 true 23 _ rfl rfl rfl rfl (fun hh => by exfalso; first | (rw [g3_] at hh; exact absurd hh (by decide)) | (revert hh; simp [g3_])) (fun _ => ?_)
      all_goals
        refine psq_nil ?_
        refine aops_guard 8 true 23 _ rfl rfl rfl rfl rfl (fun g4 => ?_) (fun g4 => ?_)
        focus
          have g4_ := g4
          try simp only [List.length_map, List.length_cons, List.length_nil, nrm] at g4
          all_goals try (exfalso; first | (simp at g4_; done) | omega)
          all_goals
            refine AOp.eql rfl rfl rfl ?_
        rotate_right
        focus
          have g4_ := g4
          try simp only [List.length_map, List.length_cons, List.length_nil, nrm] at g4
          all_goals try (exfalso; first | (simp at g4_; done) | omega)
        all_goals
          first
          | refine aops_cons rfl rfl (AOp.pick_t rfl rfl (by first | assumption | rfl) rfl ?_)
          | refine aops_cons rfl rfl (AOp.pick_f rfl rfl (by first | assumption | rfl) rfl ?_)
          refine aops_nil ?_
          refine aw_cond _ rfl (fun h5 => ?_) (fun h5 => ?_)
          focus
            have h5_ := h5
            try simp only [List.length_map, List.length_cons, List.length_nil, nrm] at h5
            all_goals try (exfalso; first | (simp at h5_; done) | omega)
            all_goals
              refine aw_seq ?_
              refine aw_region ?_
              refine aops_cons rfl rfl (AOp.buildR' Try.underlying28 Try.sizeOf25 Try.zeroValue25 rfl rfl rfl rfl rfl rfl rfl rfl rfl rfl rfl ?_); intro b2
              refine aops_cons rfl rfl (AOp.move rfl rfl ?_)
              (refine aops_cons rfl rfl (AOp.append' (bytes := 32) Try.zeroValue25 Try.sizeOf25 Try.underlying28 (by kernel_rfl) rfl rfl rfl (pull_here _ _) rfl (src_sl Try.underlying28 (by exact len_map (fun _ => rfl))) (by first | omega | (simp <;> omega) | (simp at * <;> omega)) (by decide) ?_); intro b3)
              refine aops_cons rfl rfl (AOp.assign rfl rfl ?_)
              refine aops_nil ?_
              refine aw_seq ?_
              refine aw_region ?_
              refine aops_cons rfl rfl (AOp.move rfl rfl ?_)
              refine aops_cons rfl rfl (AOp.move rfl rfl ?_)
              refine aops_cons rfl rfl (AOp.loadN Try.isAgg25 Try.sizeOf25 rfl rfl (reads_im _ _) rfl rfl ?_)
              refine aops_cons rfl rfl (AOp.indexR Try.underlying28 Try.sizeOf25 (.head _) rfl rfl rfl (by first | omega | (simp <;> omega) | (simp at * <;> omega)) (by first | omega | (simp <;> omega) | (simp at * <;> omega)) ?_)
              refine aops_cons rfl rfl (AOp.storeR' Try.sizeOf25 rfl rfl rfl rfl rfl (pull_here _ _) (by first | exact idx_nat (by first | omega | (simp <;> omega) | (simp at * <;> omega)) | exact idx_map (by first | omega | (simp <;> omega) | (simp at * <;> omega)) | assumption) rfl rfl rfl ?_)
              refine aops_nil ?_
              refine aw_seq ?_
              refine aw_region ?_
              refine aops_cons rfl rfl (AOp.move rfl rfl ?_)
              refine aops_cons rfl rfl (AOp.assign rfl rfl ?_)
              refine aops_cons rfl rfl (AOp.assign rfl rfl ?_)
              refine aops_nil ?_
              refine aw_weak (wk_frz (pull_here _ _) .nil (subz_cons (s := 4) rfl (fz_row _ _) (subz_cons (s := 5) rfl (fz_id _ _ _) (subz_nil _ _ _)))) ?_
              refine aw_weak (wk_drop (List.nil_sublist _)) ?_
              refine aw_ret ?_
              refine ⟨_, (res2 Try.results65 rfl rfl), ?_⟩
              exact ⟨putA_set (putW_first (i := i) (by omega) ha (by omega) (by omega)), rfl⟩
          rotate_right
          focus
            have h5_ := h5
            try simp only [List.length_map, List.length_cons, List.length_nil, nrm] at h5
            all_goals try (exfalso; first | (simp at h5_; done) | omega)
            all_goals
              refine aw_skip ?_
              skip
          all_goals
            refine aw_region ?_
            refine aops_cons rfl rfl (AOp.move rfl rfl ?_)
            refine aops_cons rfl rfl (AOp.addE rfl rfl rfl (by first | omega | (simp <;> omega) | (simp at * <;> omega)) (by first | omega | (simp <;> omega) | (simp at * <;> omega)) ?_)
            refine aops_cons rfl rfl (AOp.assign rfl rfl ?_)
            refine aops_nil ?_
            refine ⟨i + 1, ⟨by omega, fun k hk h => ?_⟩, by dsimp only; omega, (wk_env (sube_cons rfl (sube_cons rfl (sube_cons rfl (sube_nil _)))))⟩
            rcases Nat.lt_or_ge k i with h0 | h0
            · exact ha k hk h0
            · have e : k = i := by omega
              subst e; omega

theorem putL (l : List Wt) (w : Wt) (hu : uniq l) (hl : l.length ≤ 1000000) : Pur Try.prog 64 [ws l, .ag w.e] (putA (putW l w)) := by
  refine acallsN Try.func64 rfl Try.ntmps64 rfl ?_
  refine aw_seq ?_
  refine aw_region ?_
  refine aops_cons rfl rfl (AOp.boxI rfl rfl rfl ?_)
  refine aops_cons rfl rfl (AOp.assign rfl rfl ?_)
  refine aops_cons rfl rfl (AOp.assign rfl rfl ?_)
  refine aops_nil ?_
  refine aw_seq ?_
  refine aw_region ?_
  refine aops_cons rfl rfl (AOp.move rfl rfl ?_)
  refine aops_cons rfl rfl (AOp.callN (Af := _) Try.call51 rfl rfl rfl (List.Perm.refl ([] ++ _)) (by exact cloneW l hl) (fun r' A'' hr => ?_))
  obtain ⟨w1, rfl, rfl⟩ := hr
  unfold rowW
  refine aops_cons rfl rfl (AOp.assign rfl rfl ?_)
  refine aops_nil ?_
  refine aw_seq ?_
  refine aw_seq ?_
  refine aw_region ?_
  refine aops_cons rfl rfl (AOp.move rfl rfl ?_)
  refine aops_cons rfl rfl (AOp.fieldI Try.underlying25 rfl Try.sizeOf3 (by decide) rfl rfl rfl ?_)
  refine aops_cons rfl rfl (AOp.load1 Try.isAgg3 rfl rfl (reads_im _ _) rfl ?_)
  refine aops_cons rfl rfl (AOp.callP Try.call112 rfl rfl rfl (by exact place l w.c hl) ?_)
  refine aops_cons rfl rfl (AOp.assign rfl rfl ?_)
  refine aops_nil ?_
  refine aw_seq ?_
  have hx : 0 ≤ (idg (fun (x : Wt) => decide (x.c = w.c)) l) → (idg (fun (x : Wt) => decide (x.c = w.c)) l).toNat < l.length := fun h => (idg_nat h).1
  refine aw_draw 10 [0, 0, 0, 0, 0, 0, 0, 0, 0, 0] (by kernel_rfl) (by kernel_rfl) ?_
  refine psq_cons _ rfl (core0 (AOp.move rfl rfl ⟨rfl, rfl⟩)) ?_
  refine psq_cons _ rfl (core0 (AOp.geq rfl rfl rfl ⟨rfl, rfl⟩)) ?_
  refine psq_cons _ rfl (core0 (AOp.move rfl rfl ⟨rfl, rfl⟩)) ?_
  refine psq_guard 2 true 16 _ rfl rfl rfl rfl (fun g1 => ?_) (fun g1 => ?_)
  focus
    have g1_ := g1
    try simp only [List.length_map, List.length_cons, List.length_nil, nrm] at g1
    all_goals try (exfalso; first | (simp at g1_; done) | omega)
    all_goals
      refine psg _ (core0 (AOp.move rfl rfl ⟨rfl, rfl⟩)) ?_
      refine psq_guard 2 true 16 _ rfl rfl rfl rfl (fun _ => ?_) (fun hh => by exfalso; first | (rw [g1_] at hh; exact absurd hh (by decide)) | (revert hh; simp [g1_]))
      refine psg _ (core0 (AOp.move rfl rfl ⟨rfl, rfl⟩)) ?_
      refine psq_guard 2 true 16 _ rfl rfl rfl rfl (fun _ => ?_) (fun hh => by exfalso; first | (rw [g1_] at hh; exact absurd hh (by decide)) | (revert hh; simp [g1_]))
      refine psg _ (core0 (AOp.indexLI Try.underlying28 Try.sizeOf25 rfl rfl rfl (by first | omega | (simp <;> omega) | (simp at * <;> omega)) (by first | omega | (simp <;> omega) | (simp at * <;> omega)) (fun _ => rfl) ⟨rfl, rfl⟩)) ?_
      refine psq_guard 2 true 16 _ rfl rfl rfl rfl (fun _ => ?_) (fun hh => by exfalso; first | (rw [g1_] at hh; exact absurd hh (by decide)) | (revert hh; simp [g1_]))
      refine psg _ (core0 (AOp.fieldI Try.underlying25 rfl Try.sizeOf3 (by decide) rfl rfl rfl ⟨rfl, rfl⟩)) ?_
      refine psq_guard 2 true 16 _ rfl rfl rfl rfl (fun _ => ?_) (fun hh => by exfalso; first | (rw [g1_] at hh; exact absurd hh (by decide)) | (revert hh; simp [g1_]))
      refine psg _ (core0 (AOp.load1 Try.isAgg3 rfl rfl (reads_im _ _) rfl ⟨rfl, rfl⟩)) ?_
      refine psq_guard 2 true 16 _ rfl rfl rfl rfl (fun _ => ?_) (fun hh => by exfalso; first | (rw [g1_] at hh; exact absurd hh (by decide)) | (revert hh; simp [g1_]))
      refine psg _ (core0 (AOp.fieldI Try.underlying25 rfl Try.sizeOf3 (by decide) rfl rfl rfl ⟨rfl, rfl⟩)) ?_
      refine psq_guard 2 true 16 _ rfl rfl rfl rfl (fun _ => ?_) (fun hh => by exfalso; first | (rw [g1_] at hh; exact absurd hh (by decide)) | (revert hh; simp [g1_]))
      refine psg _ (core0 (AOp.load1 Try.isAgg3 rfl rfl (reads_im _ _) rfl ⟨rfl, rfl⟩)) ?_
  rotate_right
  focus
    have g1_ := g1
    try simp only [List.length_map, List.length_cons, List.length_nil, nrm] at g1
    all_goals try (exfalso; first | (simp at g1_; done) | omega)
    all_goals
      refine psq_guard 2 true 16 _ rfl rfl rfl rfl (fun hh => by exfalso; first | (rw [g1_] at hh; exact absurd hh (by decide)) | (revert hh; simp [g1_])) (fun _ => ?_)
      refine psq_guard 2 true 16 _ rfl rfl rfl rfl (fun hh => by exfalso; first | (rw [g1_] at hh; exact absurd hh (by decide)) | (revert hh; simp [g1_])) (fun _ => ?_)
      refine psq_guard 2 true 16 _ rfl rfl rfl rfl (fun hh => by exfalso; first | (rw [g1_] at hh; exact absurd hh (by decide)) | (revert hh; simp [g1_])) (fun _ => ?_)
      refine psq_guard 2 true 16 _ rfl rfl rfl rfl (fun hh => by exfalso; first | (rw [g1_] at hh; exact absurd hh (by decide)) | (revert hh; simp [g1_])) (fun _ => ?_)
      refine psq_guard 2 true 16 _ rfl rfl rfl rfl (fun hh => by exfalso; first | (rw [g1_] at hh; exact absurd hh (by decide)) | (revert hh; simp [g1_])) (fun _ => ?_)
      refine psq_guard 2 true 16 _ rfl rfl rfl rfl (fun hh => by exfalso; first | (rw [g1_] at hh; exact absurd hh (by decide)) | (revert hh; simp [g1_])) (fun _ => ?_)
  all_goals
    refine psq_nil ?_
    refine aops_guard 2 true 16 _ rfl rfl rfl rfl rfl (fun g2 => ?_) (fun g2 => ?_)
    focus
      have g2_ := g2
      try simp only [List.length_map, List.length_cons, List.length_nil, nrm] at g2
      all_goals try (exfalso; first | (simp at g2_; done) | omega)
      all_goals
        refine AOp.eql rfl rfl rfl ?_
    rotate_right
    focus
      have g2_ := g2
      try simp only [List.length_map, List.length_cons, List.length_nil, nrm] at g2
      all_goals try (exfalso; first | (simp at g2_; done) | omega)
    all_goals
      first
      | refine aops_cons rfl rfl (AOp.pick_t rfl rfl (by first | assumption | rfl) rfl ?_)
      | refine aops_cons rfl rfl (AOp.pick_f rfl rfl (by first | assumption | rfl) rfl ?_)
      refine aops_nil ?_
      refine aw_cond _ rfl (fun h3 => ?_) (fun h3 => ?_)
      focus
        have h3_ := h3
        try simp only [List.length_map, List.length_cons, List.length_nil, nrm] at h3
        all_goals try (exfalso; first | (simp at h3_; done) | omega)
        all_goals
          refine aw_seq ?_
          obtain ⟨hat, hpc⟩ := idg_nat (p := fun (x : Wt) => decide (x.c = w.c)) (l := l) (by omega)
          simp only [decide_eq_true_eq] at hpc
          have hel : (l.map Wt.e)[(idg (fun (x : Wt) => decide (x.c = w.c)) l).toNat]? = some (Wt.e l[(idg (fun (x : Wt) => decide (x.c = w.c)) l).toNat]) := by rw [List.getElem?_map, List.getElem?_eq_getElem hat]; rfl
          refine aw_region ?_
          refine aops_cons rfl rfl (AOp.move rfl rfl ?_)
          refine aops_cons rfl rfl (AOp.move rfl rfl ?_)
          refine aops_cons rfl rfl (AOp.loadN Try.isAgg25 Try.sizeOf25 rfl rfl (reads_im _ _) rfl rfl ?_)
          refine aops_cons rfl rfl (AOp.indexR Try.underlying28 Try.sizeOf25 (.head _) rfl rfl rfl (by first | omega | (simp <;> omega) | (simp at * <;> omega)) (by first | omega | (simp <;> omega) | (simp at * <;> omega)) ?_)
          refine aops_cons rfl rfl (AOp.storeR' Try.sizeOf25 rfl rfl rfl rfl rfl (pull_here _ _) hel rfl rfl rfl ?_)
          refine aops_nil ?_
          refine aw_seq ?_
          refine aw_region ?_
          refine aops_cons rfl rfl (AOp.move rfl rfl ?_)
          refine aops_cons rfl rfl (AOp.assign rfl rfl ?_)
          refine aops_cons rfl rfl (AOp.assign rfl rfl ?_)
          refine aops_nil ?_
          refine aw_weak (wk_frz (pull_here _ _) .nil (subz_cons (s := 4) rfl (fz_row _ _) (subz_cons (s := 5) rfl (fz_id _ _ _) (subz_nil _ _ _)))) ?_
          refine aw_weak (wk_drop (List.nil_sublist _)) ?_
          refine aw_ret ?_
          refine ⟨_, (res2 Try.results64 rfl rfl), ?_⟩
          exact ⟨putA_set (putW_yes hu hat hpc (by omega)), rfl⟩
      rotate_right
      focus
        have h3_ := h3
        try simp only [List.length_map, List.length_cons, List.length_nil, nrm] at h3
        all_goals try (exfalso; first | (simp at h3_; done) | omega)
        all_goals
          refine aw_skip ?_
          skip
      all_goals
        refine aw_seq ?_
        refine aw_seq ?_
        have hdl : (dropW l w.c).length ≤ l.length := List.length_filter_le _ _
        have hno : ∀ y ∈ l, ¬ (y.c = w.c ∧ y.f = w.f) := fun y hy hyc => by
          rcases Int.lt_or_le (idg (fun (x : Wt) => decide (x.c = w.c)) l) 0 with h0 | h0
          · have := idg_neg h0 y hy; simp at this; exact this hyc.1
          · obtain ⟨hat, hpc⟩ := idg_nat h0
            simp only [decide_eq_true_eq] at hpc
            have e := uniq_eq hu hy (List.getElem_mem hat) (hyc.1.trans hpc.symm)
            rw [e] at hyc; omega
        refine aw_region ?_
        refine aops_cons rfl rfl (AOp.move rfl rfl ?_)
        refine aops_cons rfl rfl (AOp.fieldI Try.underlying25 rfl Try.sizeOf3 (by decide) rfl rfl rfl ?_)
        refine aops_cons rfl rfl (AOp.load1 Try.isAgg3 rfl rfl (reads_im _ _) rfl ?_)
        refine aops_cons rfl rfl (AOp.callN (Af := _) Try.call106 rfl rfl rfl (List.Perm.refl ([] ++ _)) (by exact dropL l w.c hl) (fun r' A'' hr => ?_))
        obtain ⟨w2, rfl, rfl⟩ := hr
        unfold rowW
        refine aops_cons rfl rfl (AOp.assign rfl rfl ?_)
        refine aops_nil ?_
        refine aw_seq ?_
        refine aw_region ?_
        refine aops_cons rfl rfl (AOp.move rfl rfl ?_)
        refine aops_cons rfl rfl (AOp.lenR (by first | exact List.length_map _ | rfl) Try.underlying28 (.head _) rfl rfl ?_)
        refine aops_cons rfl rfl (AOp.geq rfl rfl rfl ?_)
        refine aops_nil ?_
        refine aw_cond _ rfl (fun h4 => ?_) (fun h4 => ?_)
        focus
          have h4_ := h4
          try simp only [List.length_map, List.length_cons, List.length_nil, nrm] at h4
          all_goals try (exfalso; first | (simp at h4_; done) | omega)
          all_goals
            refine aw_seq ?_
            refine aw_region ?_
            refine aops_cons rfl rfl (AOp.move rfl rfl ?_)
            refine aops_cons rfl rfl (AOp.callN (Af := _) Try.call51 rfl rfl rfl (List.Perm.refl ([] ++ _)) (by exact cloneW l hl) (fun r' A'' hr => ?_))
            obtain ⟨w3, rfl, rfl⟩ := hr
            unfold rowW
            refine aops_cons rfl rfl (AOp.assign rfl rfl ?_)
            refine aops_cons rfl rfl (AOp.assign rfl rfl ?_)
            refine aops_nil ?_
            refine aw_weak (wk_frz (pull_here _ _) (.keep _ (.keep _ .nil)) (subz_cons (s := 4) rfl (fz_row _ _) (subz_cons (s := 5) rfl (fz_id _ _ _) (subz_nil _ _ _)))) ?_
            refine aw_weak (wk_drop (List.nil_sublist _)) ?_
            refine aw_ret ?_
            refine ⟨_, (res2 Try.results64 rfl rfl), ?_⟩
            exact ⟨putA_no (putW_full hno (by omega)), rfl⟩
        rotate_right
        focus
          have h4_ := h4
          try simp only [List.length_map, List.length_cons, List.length_nil, nrm] at h4
          all_goals try (exfalso; first | (simp at h4_; done) | omega)
          all_goals
            refine aw_skip ?_
            skip
        all_goals
          refine aw_seq ?_
          refine aw_region ?_
          refine aops_cons rfl rfl (AOp.move rfl rfl ?_)
          refine aops_cons rfl rfl (AOp.loadN Try.isAgg25 Try.sizeOf25 rfl rfl (reads_im _ _) rfl rfl ?_)
          refine aops_cons rfl rfl (AOp.buildS' Try.underlying28 Try.sizeOf25 Try.zeroValue25 rfl rfl rfl rfl rfl rfl rfl rfl rfl rfl rfl ?_)
          (refine aops_cons rfl rfl (AOp.append' (bytes := 32) Try.zeroValue25 Try.sizeOf25 Try.underlying28 (by kernel_rfl) rfl rfl rfl (pull_here _ _) rfl (src_sl Try.underlying28 (all_len rfl)) (by first | omega | (simp <;> omega) | (simp at * <;> omega)) (by decide) ?_); intro b1)
          refine aops_cons rfl rfl (AOp.assign rfl rfl ?_)
          refine aops_cons rfl rfl (AOp.assign rfl rfl ?_)
          refine aops_nil ?_
          refine aw_weak (wk_frz (pull_here _ _) (.keep _ .nil) (subz_cons (s := 4) rfl (fz_row _ _) (subz_cons (s := 5) rfl (fz_id _ _ _) (subz_nil _ _ _)))) ?_
          refine aw_weak (wk_drop (List.nil_sublist _)) ?_
          refine aw_ret ?_
          refine ⟨_, (res2 Try.results64 rfl rfl), ?_⟩
          exact ⟨putA_app (putW_more hno (by omega)), rfl⟩

end Go.Proofs.Ytdacnebhlgibhaa
