/- Own text: the first look at the leases' functions. -/
import Derived.Test.YtdacnebhlgibhaaLk
set_option linter.unusedVariables false
set_option linter.unusedSimpArgs false
set_option linter.all false
set_option maxRecDepth 100000
set_option maxHeartbeats 2000000
namespace Go.Proofs.Ytdacnebhlgibhaa
open Go Go.Aw

theorem srt_nil : srt [] := List.Pairwise.nil
theorem refMay (l : List L) (hl : l.length ≤ 1000000) : Pur Try.prog 27 [ls l] (.sc (.bool (may l))) := by
  refine acallsN Try.func27 rfl Try.ntmps27 rfl ?_
  refine aw_seq ?_
  refine aw_region ?_
  refine aops_cons rfl rfl (AOp.assign rfl rfl ?_)
  refine aops_nil ?_
  refine aw_seq ?_
  refine aw_seq ?_
  refine aw_region ?_
  refine aops_cons rfl rfl (AOp.assign rfl rfl ?_)
  refine aops_nil ?_
  refine aw_block ?_
  refine aw_loop (β := Nat) (S := (fun (z0 : Nat) => match z0 with | i => [(0, ls l), (3, .sc (.int .i64 (i : Int)))])) (B := (fun (z0 : Nat) => match z0 with | i => [])) (pre := (fun (z0 : Nat) => match z0 with | i => i ≤ l.length ∧ ∀ k (h : k < l.length), k < i → okL l[k] ∧ (0 < k → ordI (l[k - 1]'(by omega)) l[k] < 0))) (μ := (fun (z0 : Nat) => match z0 with | i => l.length - i)) 0 (wk_env (sube_cons rfl (sube_cons rfl (sube_nil _)))) ?_ ?_
  · exact ⟨Nat.zero_le _, fun k h h0 => by omega⟩
  · rintro i ⟨hp, ha⟩
    change AW _ _ _ ([(0, ls l), (3, .sc (.int .i64 (i : Int)))] : Env) ([] : List Blk) _
    refine aw_seq ?_
    refine aw_seq ?_
    refine aw_region ?_
    refine aops_cons rfl rfl (AOp.move rfl rfl ?_)
    refine aops_cons rfl rfl (AOp.move rfl rfl ?_)
    refine aops_cons rfl rfl (AOp.lenS (by first | exact List.length_map _ | rfl) Try.underlying27 rfl rfl ?_)
    refine aops_cons rfl rfl (AOp.lss rfl rfl rfl ?_)
    refine aops_nil ?_
    refine aw_cond _ rfl (fun h1 => ?_) (fun h1 => ?_)
    focus
      have h1_ := h1
      try simp only [List.length_map, List.length_cons, List.length_nil, nrm] at h1
      all_goals try (exfalso; first | (simp at h1_; done) | omega)
      all_goals
        refine aw_skip ?_
        skip
    rotate_right
    focus
      have h1_ := h1
      try simp only [List.length_map, List.length_cons, List.length_nil, nrm] at h1
      all_goals try (exfalso; first | (simp at h1_; done) | omega)
      all_goals
        refine aw_exit ?_
        refine aw_seq ?_
        refine aw_region ?_
        refine aops_cons rfl rfl (AOp.assign rfl rfl ?_)
        refine aops_nil ?_
        refine aw_weak (wk_drop (List.nil_sublist _)) ?_
        refine aw_ret ?_
        refine ⟨_, (res1 Try.results27 rfl), ?_⟩
        refine ⟨?_, rfl⟩
        rw [may_yes (fun k h => ha k h (by omega))]; rfl
    all_goals
      refine aw_seq ?_
      refine aw_block ?_
      refine aw_seq ?_
      refine aw_region ?_
      refine aops_cons rfl rfl (AOp.move rfl rfl ?_)
      refine aops_cons rfl rfl (AOp.move rfl rfl ?_)
      refine aops_cons rfl rfl (AOp.indexLN Try.underlying27 Try.sizeOf111 rfl rfl rfl (by first | omega | (simp <;> omega) | (simp at * <;> omega)) (fun _ => rfl) ?_)
      refine aops_cons rfl rfl (AOp.loadN Try.isAgg111 Try.sizeOf111 rfl rfl (reads_im _ _) rfl rfl ?_)
      refine aops_cons rfl rfl (AOp.alloc Try.zeroValue111 (by kernel_rfl) rfl rfl ?_); intro b1
      refine aops_cons rfl rfl (AOp.storeB' Try.sizeOf111 rfl rfl rfl rfl rfl (pull_here _ _) rfl rfl ?_)
      refine aops_nil ?_
      refine aw_seq ?_
      refine aw_seq ?_
      refine aw_region ?_
      refine aops_cons rfl rfl (AOp.fieldB Try.underlying111 rfl Try.sizeOf3 (by decide) rfl rfl rfl ?_)
      refine aops_cons rfl rfl (AOp.load1 Try.isAgg3 rfl rfl (reads_box _ (.head _)) rfl ?_)
      refine aops_cons rfl rfl (AOp.lss rfl rfl rfl ?_)
      refine aops_cons rfl rfl (AOp.move rfl rfl ?_)
      refine aops_guard 3 false 18 _ rfl rfl rfl rfl rfl (fun g2 => ?_) (fun g2 => ?_)
      focus
        have g2_ := g2
        try simp only [List.length_map, List.length_cons, List.length_nil, nrm] at g2
        all_goals try (exfalso; first | (simp at g2_; done) | omega)
        all_goals
          refine AOp.fieldB Try.underlying111 rfl Try.sizeOf3 (by decide) rfl rfl rfl ?_
          refine aops_guard 3 false 18 _ rfl rfl rfl rfl rfl (fun _ => ?_) (fun hh => by exfalso; first | (rw [g2_] at hh; exact absurd hh (by decide)) | (revert hh; simp [g2_]))
          refine AOp.load1 Try.isAgg3 rfl rfl (reads_box _ (.head _)) rfl ?_
          refine aops_guard 3 false 18 _ rfl rfl rfl rfl rfl (fun _ => ?_) (fun hh => by exfalso; first | (rw [g2_] at hh; exact absurd hh (by decide)) | (revert hh; simp [g2_]))
          refine AOp.gtr rfl rfl rfl ?_
      rotate_right
      focus
        have g2_ := g2
        try simp only [List.length_map, List.length_cons, List.length_nil, nrm] at g2
        all_goals try (exfalso; first | (simp at g2_; done) | omega)
        all_goals
          refine aops_guard 3 false 18 _ rfl rfl rfl rfl rfl (fun hh => by exfalso; first | (rw [g2_] at hh; exact absurd hh (by decide)) | (revert hh; simp [g2_])) (fun _ => ?_)
          refine aops_guard 3 false 18 _ rfl rfl rfl rfl rfl (fun hh => by exfalso; first | (rw [g2_] at hh; exact absurd hh (by decide)) | (revert hh; simp [g2_])) (fun _ => ?_)
      all_goals
        first
        | refine aops_cons rfl rfl (AOp.pick_t rfl rfl (by first | assumption | rfl) rfl ?_)
        | refine aops_cons rfl rfl (AOp.pick_f rfl rfl (by first | assumption | rfl) rfl ?_)
        refine aops_cons rfl rfl (AOp.move rfl rfl ?_)
        refine aops_guard 8 false 23 _ rfl rfl rfl rfl rfl (fun g3 => ?_) (fun g3 => ?_)
        focus
          have g3_ := g3
          try simp only [List.length_map, List.length_cons, List.length_nil, nrm] at g3
          all_goals try (exfalso; first | (simp at g3_; done) | omega)
          all_goals
            refine AOp.fieldB Try.underlying111 rfl Try.sizeOf3 (by decide) rfl rfl rfl ?_
            refine aops_guard 8 false 23 _ rfl rfl rfl rfl rfl (fun _ => ?_) (fun hh => by exfalso; first | (rw [g3_] at hh; exact absurd hh (by decide)) | (revert hh; simp [g3_]))
            refine AOp.load1 Try.isAgg3 rfl rfl (reads_box _ (.head _)) rfl ?_
            refine aops_guard 8 false 23 _ rfl rfl rfl rfl rfl (fun _ => ?_) (fun hh => by exfalso; first | (rw [g3_] at hh; exact absurd hh (by decide)) | (revert hh; simp [g3_]))
            refine AOp.lss rfl rfl rfl ?_
        rotate_right
        focus
          have g3_ := g3
          try simp only [List.length_map, List.length_cons, List.length_nil, nrm] at g3
          all_goals try (exfalso; first | (simp at g3_; done) | omega)
          all_goals
            refine aops_guard 8 false 23 _ rfl rfl rfl rfl rfl (fun hh => by exfalso; first | (rw [g3_] at hh; exact absurd hh (by decide)) | (revert hh; simp [g3_])) (fun _ => ?_)
            refine aops_guard 8 false 23 _ rfl rfl rfl rfl rfl (fun hh => by exfalso; first | (rw [g3_] at hh; exact absurd hh (by decide)) | (revert hh; simp [g3_])) (fun _ => ?_)
        all_goals
          first
          | refine aops_cons rfl rfl (AOp.pick_t rfl rfl (by first | assumption | rfl) rfl ?_)
          | refine aops_cons rfl rfl (AOp.pick_f rfl rfl (by first | assumption | rfl) rfl ?_)
          refine aops_cons rfl rfl (AOp.move rfl rfl ?_)
          refine aops_guard 13 false 28 _ rfl rfl rfl rfl rfl (fun g4 => ?_) (fun g4 => ?_)
          focus
            have g4_ := g4
            try simp only [List.length_map, List.length_cons, List.length_nil, nrm] at g4
            all_goals try (exfalso; first | (simp at g4_; done) | omega)
            all_goals
              refine AOp.fieldB Try.underlying111 rfl Try.sizeOf3 (by decide) rfl rfl rfl ?_
              refine aops_guard 13 false 28 _ rfl rfl rfl rfl rfl (fun _ => ?_) (fun hh => by exfalso; first | (rw [g4_] at hh; exact absurd hh (by decide)) | (revert hh; simp [g4_]))
              refine AOp.load1 Try.isAgg3 rfl rfl (reads_box _ (.head _)) rfl ?_
              refine aops_guard 13 false 28 _ rfl rfl rfl rfl rfl (fun _ => ?_) (fun hh => by exfalso; first | (rw [g4_] at hh; exact absurd hh (by decide)) | (revert hh; simp [g4_]))
              refine AOp.gtr rfl rfl rfl ?_
          rotate_right
          focus
            have g4_ := g4
            try simp only [List.length_map, List.length_cons, List.length_nil, nrm] at g4
            all_goals try (exfalso; first | (simp at g4_; done) | omega)
            all_goals
              refine aops_guard 13 false 28 _ rfl rfl rfl rfl rfl (fun hh => by exfalso; first | (rw [g4_] at hh; exact absurd hh (by decide)) | (revert hh; simp [g4_])) (fun _ => ?_)
              refine aops_guard 13 false 28 _ rfl rfl rfl rfl rfl (fun hh => by exfalso; first | (rw [g4_] at hh; exact absurd hh (by decide)) | (revert hh; simp [g4_])) (fun _ => ?_)
          all_goals
            first
            | refine aops_cons rfl rfl (AOp.pick_t rfl rfl (by first | assumption | rfl) rfl ?_)
            | refine aops_cons rfl rfl (AOp.pick_f rfl rfl (by first | assumption | rfl) rfl ?_)
            refine aops_cons rfl rfl (AOp.move rfl rfl ?_)
            refine aops_guard 18 false 33 _ rfl rfl rfl rfl rfl (fun g5 => ?_) (fun g5 => ?_)
            focus
              have g5_ := g5
              try simp only [List.length_map, List.length_cons, List.length_nil, nrm] at g5
              all_goals try (exfalso; first | (simp at g5_; done) | omega)
              all_goals
                refine AOp.fieldB Try.underlying111 rfl Try.sizeOf3 (by decide) rfl rfl rfl ?_
                refine aops_guard 18 false 33 _ rfl rfl rfl rfl rfl (fun _ => ?_) (fun hh => by exfalso; first | (rw [g5_] at hh; exact absurd hh (by decide)) | (revert hh; simp [g5_]))
                refine AOp.load1 Try.isAgg3 rfl rfl (reads_box _ (.head _)) rfl ?_
                refine aops_guard 18 false 33 _ rfl rfl rfl rfl rfl (fun _ => ?_) (fun hh => by exfalso; first | (rw [g5_] at hh; exact absurd hh (by decide)) | (revert hh; simp [g5_]))
                refine AOp.neq rfl rfl rfl ?_
                refine aops_guard 18 false 33 _ rfl rfl rfl rfl rfl (fun _ => ?_) (fun hh => by exfalso; first | (rw [g5_] at hh; exact absurd hh (by decide)) | (revert hh; simp [g5_]))
                refine AOp.move rfl rfl ?_
            rotate_right
            focus
              have g5_ := g5
              try simp only [List.length_map, List.length_cons, List.length_nil, nrm] at g5
              all_goals try (exfalso; first | (simp at g5_; done) | omega)
              all_goals
                refine aops_guard 18 false 33 _ rfl rfl rfl rfl rfl (fun hh => by exfalso; first | (rw [g5_] at hh; exact absurd hh (by decide)) | (revert hh; simp [g5_])) (fun _ => ?_)
                refine aops_guard 18 false 33 _ rfl rfl rfl rfl rfl (fun hh => by exfalso; first | (rw [g5_] at hh; exact absurd hh (by decide)) | (revert hh; simp [g5_])) (fun _ => ?_)
                refine aops_guard 18 false 33 _ rfl rfl rfl rfl rfl (fun hh => by exfalso; first | (rw [g5_] at hh; exact absurd hh (by decide)) | (revert hh; simp [g5_])) (fun _ => ?_)
            all_goals
              first
              | (refine aops_guardU 22 true 37 rfl rfl rfl rfl rfl ?_; refine aops_guardU 22 true 37 rfl rfl rfl rfl rfl ?_; refine aops_guardU 22 true 37 rfl rfl rfl rfl rfl ?_)
              | skip
                refine aops_guard 22 true 37 _ rfl rfl rfl rfl rfl (fun g6 => ?_) (fun g6 => ?_)
                focus
                  have g6_ := g6
                  try simp only [List.length_map, List.length_cons, List.length_nil, nrm] at g6
                  all_goals try (exfalso; first | (simp at g6_; done) | omega)
                  all_goals
                    refine AOp.fieldB Try.underlying111 rfl Try.sizeOf3 (by decide) rfl rfl rfl ?_
                    refine aops_guard 22 true 37 _ rfl rfl rfl rfl rfl (fun _ => ?_) (fun hh => by exfalso; first | (rw [g6_] at hh; exact absurd hh (by decide)) | (revert hh; simp [g6_]))
                    refine AOp.load1 Try.isAgg3 rfl rfl (reads_box _ (.head _)) rfl ?_
                    refine aops_guard 22 true 37 _ rfl rfl rfl rfl rfl (fun _ => ?_) (fun hh => by exfalso; first | (rw [g6_] at hh; exact absurd hh (by decide)) | (revert hh; simp [g6_]))
                    refine AOp.neq rfl rfl rfl ?_
                rotate_right
                focus
                  have g6_ := g6
                  try simp only [List.length_map, List.length_cons, List.length_nil, nrm] at g6
                  all_goals try (exfalso; first | (simp at g6_; done) | omega)
                  all_goals
                    refine aops_guard 22 true 37 _ rfl rfl rfl rfl rfl (fun hh => by exfalso; first | (rw [g6_] at hh; exact absurd hh (by decide)) | (revert hh; simp [g6_])) (fun _ => ?_)
                    refine aops_guard 22 true 37 _ rfl rfl rfl rfl rfl (fun hh => by exfalso; first | (rw [g6_] at hh; exact absurd hh (by decide)) | (revert hh; simp [g6_])) (fun _ => ?_)
              all_goals
                refine aops_guard 18 false 33 _ rfl rfl rfl rfl rfl (fun g7 => ?_) (fun g7 => ?_)
                focus
                  have g7_ := g7
                  try simp only [List.length_map, List.length_cons, List.length_nil, nrm] at g7
                  all_goals try (exfalso; first | (simp at g7_; done) | omega)
                  all_goals
                    first
                    | refine AOp.pick_t rfl rfl (by first | assumption | rfl) rfl ?_
                    | refine AOp.pick_f rfl rfl (by first | assumption | rfl) rfl ?_
                rotate_right
                focus
                  have g7_ := g7
                  try simp only [List.length_map, List.length_cons, List.length_nil, nrm] at g7
                  all_goals try (exfalso; first | (simp at g7_; done) | omega)
                all_goals
                  first
                  | refine aops_cons rfl rfl (AOp.pick_t rfl rfl (by first | assumption | rfl) rfl ?_)
                  | refine aops_cons rfl rfl (AOp.pick_f rfl rfl (by first | assumption | rfl) rfl ?_)
                  refine aops_cons rfl rfl (AOp.move rfl rfl ?_)
                  refine aops_guard 28 false 43 _ rfl rfl rfl rfl rfl (fun g8 => ?_) (fun g8 => ?_)
                  focus
                    have g8_ := g8
                    try simp only [List.length_map, List.length_cons, List.length_nil, nrm] at g8
                    all_goals try (exfalso; first | (simp at g8_; done) | omega)
                    all_goals
                      refine AOp.fieldB Try.underlying111 rfl Try.sizeOf3 (by decide) rfl rfl rfl ?_
                      refine aops_guard 28 false 43 _ rfl rfl rfl rfl rfl (fun _ => ?_) (fun hh => by exfalso; first | (rw [g8_] at hh; exact absurd hh (by decide)) | (revert hh; simp [g8_]))
                      refine AOp.load1 Try.isAgg3 rfl rfl (reads_box _ (.head _)) rfl ?_
                      refine aops_guard 28 false 43 _ rfl rfl rfl rfl rfl (fun _ => ?_) (fun hh => by exfalso; first | (rw [g8_] at hh; exact absurd hh (by decide)) | (revert hh; simp [g8_]))
                      refine AOp.lss rfl rfl rfl ?_
                  rotate_right
                  focus
                    have g8_ := g8
                    try simp only [List.length_map, List.length_cons, List.length_nil, nrm] at g8
                    all_goals try (exfalso; first | (simp at g8_; done) | omega)
                    all_goals
                      refine aops_guard 28 false 43 _ rfl rfl rfl rfl rfl (fun hh => by exfalso; first | (rw [g8_] at hh; exact absurd hh (by decide)) | (revert hh; simp [g8_])) (fun _ => ?_)
                      refine aops_guard 28 false 43 _ rfl rfl rfl rfl rfl (fun hh => by exfalso; first | (rw [g8_] at hh; exact absurd hh (by decide)) | (revert hh; simp [g8_])) (fun _ => ?_)
                  all_goals
                    first
                    | refine aops_cons rfl rfl (AOp.pick_t rfl rfl (by first | assumption | rfl) rfl ?_)
                    | refine aops_cons rfl rfl (AOp.pick_f rfl rfl (by first | assumption | rfl) rfl ?_)
                    refine aops_nil ?_
                    refine aw_cond _ rfl (fun h9 => ?_) (fun h9 => ?_)
                    focus
                      have h9_ := h9
                      try simp only [List.length_map, List.length_cons, List.length_nil, nrm] at h9
                      all_goals try (exfalso; first | (simp at h9_; done) | omega)
                      all_goals
                        refine aw_seq ?_
                        refine aw_region ?_
                        refine aops_cons rfl rfl (AOp.assign rfl rfl ?_)
                        refine aops_nil ?_
                        refine aw_weak (wk_drop (List.nil_sublist _)) ?_
                        refine aw_ret ?_
                        refine ⟨_, (res1 Try.results27 rfl), ?_⟩
                        refine ⟨?_, rfl⟩
                        rw [may_no]; · rfl
                        intro h
                        have k1 := (h i (by omega)).1
                        unfold okL at k1
                        omega
                    rotate_right
                    focus
                      have h9_ := h9
                      try simp only [List.length_map, List.length_cons, List.length_nil, nrm] at h9
                      all_goals try (exfalso; first | (simp at h9_; done) | omega)
                      all_goals
                        refine aw_skip ?_
                        skip
                    all_goals
                      refine aw_seq ?_
                      refine aw_draw 31 [0, 0, 0, 0, 0, 0, 0, 0, 0, 0, 0, 0, 0, 0, 0, 0, 0, 0, 0, 0, 0, 0, 0, 0, 0, 0, 0, 0, 0, 0, 0] (by kernel_rfl) (by kernel_rfl) ?_
                      refine psq_cons _ rfl (core0 (AOp.move rfl rfl ⟨rfl, rfl⟩)) ?_
                      refine psq_cons _ rfl (core0 (AOp.gtr rfl rfl rfl ⟨rfl, rfl⟩)) ?_
                      refine psq_cons _ rfl (core0 (AOp.move rfl rfl ⟨rfl, rfl⟩)) ?_
                      refine psq_guard 2 true 50 _ rfl rfl rfl rfl (fun g10 => ?_) (fun g10 => ?_)
                      focus
                        have g10_ := g10
                        try simp only [List.length_map, List.length_cons, List.length_nil, nrm] at g10
                        all_goals try (exfalso; first | (simp at g10_; done) | omega)
                        all_goals
                          refine psg _ (core0 (AOp.move rfl rfl ⟨rfl, rfl⟩)) ?_
                          refine psq_guard 2 true 50 _ rfl rfl rfl rfl (fun _ => ?_) (fun hh => by exfalso; first | (rw [g10_] at hh; exact absurd hh (by decide)) | (revert hh; simp [g10_]))
                          refine psg _ (core0 (AOp.move rfl rfl ⟨rfl, rfl⟩)) ?_
                          refine psq_guard 2 true 50 _ rfl rfl rfl rfl (fun _ => ?_) (fun hh => by exfalso; first | (rw [g10_] at hh; exact absurd hh (by decide)) | (revert hh; simp [g10_]))
                          refine psg _ (core0 (AOp.subE rfl rfl rfl (by first | omega | (simp <;> omega) | (simp at * <;> omega)) (by first | omega | (simp <;> omega) | (simp at * <;> omega)) ⟨rfl, rfl⟩)) ?_
                          refine psq_guard 2 true 50 _ rfl rfl rfl rfl (fun _ => ?_) (fun hh => by exfalso; first | (rw [g10_] at hh; exact absurd hh (by decide)) | (revert hh; simp [g10_]))
                          refine psg _ (core0 (AOp.indexLI Try.underlying27 Try.sizeOf111 rfl rfl rfl (by first | omega | (simp <;> omega) | (simp at * <;> omega)) (by first | omega | (simp <;> omega) | (simp at * <;> omega)) (fun _ => rfl) ⟨rfl, rfl⟩)) ?_
                          refine psq_guard 2 true 50 _ rfl rfl rfl rfl (fun _ => ?_) (fun hh => by exfalso; first | (rw [g10_] at hh; exact absurd hh (by decide)) | (revert hh; simp [g10_]))
                          refine psg _ (core0 (AOp.fieldI Try.underlying111 rfl Try.sizeOf3 (by decide) rfl rfl rfl ⟨rfl, rfl⟩)) ?_
                          refine psq_guard 2 true 50 _ rfl rfl rfl rfl (fun _ => ?_) (fun hh => by exfalso; first | (rw [g10_] at hh; exact absurd hh (by decide)) | (revert hh; simp [g10_]))
                          refine psg _ (core0 (AOp.load1 Try.isAgg3 rfl rfl (reads_im _ _) rfl ⟨rfl, rfl⟩)) ?_
                          refine psq_guard 2 true 50 _ rfl rfl rfl rfl (fun _ => ?_) (fun hh => by exfalso; first | (rw [g10_] at hh; exact absurd hh (by decide)) | (revert hh; simp [g10_]))
                          refine psg _ (core0 (AOp.fieldB Try.underlying111 rfl Try.sizeOf3 (by decide) rfl rfl rfl ⟨rfl, rfl⟩)) ?_
                          refine psq_guard 2 true 50 _ rfl rfl rfl rfl (fun _ => ?_) (fun hh => by exfalso; first | (rw [g10_] at hh; exact absurd hh (by decide)) | (revert hh; simp [g10_]))
                          refine psg _ (core0 (AOp.load1 Try.isAgg3 rfl rfl (reads_box _ (.head _)) rfl ⟨rfl, rfl⟩)) ?_
                          refine psq_guard 2 true 50 _ rfl rfl rfl rfl (fun _ => ?_) (fun hh => by exfalso; first | (rw [g10_] at hh; exact absurd hh (by decide)) | (revert hh; simp [g10_]))
                          refine psg _ (core0 (AOp.gtr rfl rfl rfl ⟨rfl, rfl⟩)) ?_
                          refine psq_guard 2 true 50 _ rfl rfl rfl rfl (fun _ => ?_) (fun hh => by exfalso; first | (rw [g10_] at hh; exact absurd hh (by decide)) | (revert hh; simp [g10_]))
                          refine psg _ (core0 (AOp.move rfl rfl ⟨rfl, rfl⟩)) ?_
                      rotate_right
                      focus
                        have g10_ := g10
                        try simp only [List.length_map, List.length_cons, List.length_nil, nrm] at g10
                        all_goals try (exfalso; first | (simp at g10_; done) | omega)
                        all_goals
                          refine psq_guard 2 true 50 _ rfl rfl rfl rfl (fun hh => by exfalso; first | (rw [g10_] at hh; exact absurd hh (by decide)) | (revert hh; simp [g10_])) (fun _ => ?_)
                          refine psq_guard 2 true 50 _ rfl rfl rfl rfl (fun hh => by exfalso; first | (rw [g10_] at hh; exact absurd hh (by decide)) | (revert hh; simp [g10_])) (fun _ => ?_)
                          refine psq_guard 2 true 50 _ rfl rfl rfl rfl (fun hh => by exfalso; first | (rw [g10_] at hh; exact absurd hh (by decide)) | (revert hh; simp [g10_])) (fun _ => ?_)
                          refine psq_guard 2 true 50 _ rfl rfl rfl rfl (fun hh => by exfalso; first | (rw [g10_] at hh; exact absurd hh (by decide)) | (revert hh; simp [g10_])) (fun _ => ?_)
                          refine psq_guard 2 true 50 _ rfl rfl rfl rfl (fun hh => by exfalso; first | (rw [g10_] at hh; exact absurd hh (by decide)) | (revert hh; simp [g10_])) (fun _ => ?_)
                          refine psq_guard 2 true 50 _ rfl rfl rfl rfl (fun hh => by exfalso; first | (rw [g10_] at hh; exact absurd hh (by decide)) | (revert hh; simp [g10_])) (fun _ => ?_)
                          refine psq_guard 2 true 50 _ rfl rfl rfl rfl (fun hh => by exfalso; first | (rw [g10_] at hh; exact absurd hh (by decide)) | (revert hh; simp [g10_])) (fun _ => ?_)
                          refine psq_guard 2 true 50 _ rfl rfl rfl rfl (fun hh => by exfalso; first | (rw [g10_] at hh; exact absurd hh (by decide)) | (revert hh; simp [g10_])) (fun _ => ?_)
                          refine psq_guard 2 true 50 _ rfl rfl rfl rfl (fun hh => by exfalso; first | (rw [g10_] at hh; exact absurd hh (by decide)) | (revert hh; simp [g10_])) (fun _ => ?_)
                      all_goals
                        first
                        | (refine psq_guardU 12 false 60 rfl rfl rfl rfl ?_; refine psq_guardU 12 false 60 rfl rfl rfl rfl ?_; refine psq_guardU 12 false 60 rfl rfl rfl rfl ?_; refine psq_guardU 12 false 60 rfl rfl rfl rfl ?_; refine psq_guardU 12 false 60 rfl rfl rfl rfl ?_; refine psq_guardU 12 false 60 rfl rfl rfl rfl ?_; refine psq_guardU 12 false 60 rfl rfl rfl rfl ?_; refine psq_guardU 12 false 60 rfl rfl rfl rfl ?_; refine psq_guardU 12 false 60 rfl rfl rfl rfl ?_; refine psq_guardU 12 false 60 rfl rfl rfl rfl ?_)
                        | skip
                          refine psq_guard 12 false 60 _ rfl rfl rfl rfl (fun g11 => ?_) (fun g11 => ?_)
                          focus
                            have g11_ := g11
                            try simp only [List.length_map, List.length_cons, List.length_nil, nrm] at g11
                            all_goals try (exfalso; first | (simp at g11_; done) | omega)
                            all_goals
                              refine psg _ (core0 (AOp.move rfl rfl ⟨rfl, rfl⟩)) ?_
                              refine psq_guard 12 false 60 _ rfl rfl rfl rfl (fun _ => ?_) (fun hh => by exfalso; first | (rw [g11_] at hh; exact absurd hh (by decide)) | (revert hh; simp [g11_]))
                              refine psg _ (core0 (AOp.move rfl rfl ⟨rfl, rfl⟩)) ?_
                              refine psq_guard 12 false 60 _ rfl rfl rfl rfl (fun _ => ?_) (fun hh => by exfalso; first | (rw [g11_] at hh; exact absurd hh (by decide)) | (revert hh; simp [g11_]))
                              refine psg _ (core0 (AOp.subE rfl rfl rfl (by first | omega | (simp <;> omega) | (simp at * <;> omega)) (by first | omega | (simp <;> omega) | (simp at * <;> omega)) ⟨rfl, rfl⟩)) ?_
                              refine psq_guard 12 false 60 _ rfl rfl rfl rfl (fun _ => ?_) (fun hh => by exfalso; first | (rw [g11_] at hh; exact absurd hh (by decide)) | (revert hh; simp [g11_]))
                              refine psg _ (core0 (AOp.indexLI Try.underlying27 Try.sizeOf111 rfl rfl rfl (by first | omega | (simp <;> omega) | (simp at * <;> omega)) (by first | omega | (simp <;> omega) | (simp at * <;> omega)) (fun _ => rfl) ⟨rfl, rfl⟩)) ?_
                              refine psq_guard 12 false 60 _ rfl rfl rfl rfl (fun _ => ?_) (fun hh => by exfalso; first | (rw [g11_] at hh; exact absurd hh (by decide)) | (revert hh; simp [g11_]))
                              refine psg _ (core0 (AOp.fieldI Try.underlying111 rfl Try.sizeOf3 (by decide) rfl rfl rfl ⟨rfl, rfl⟩)) ?_
                              refine psq_guard 12 false 60 _ rfl rfl rfl rfl (fun _ => ?_) (fun hh => by exfalso; first | (rw [g11_] at hh; exact absurd hh (by decide)) | (revert hh; simp [g11_]))
                              refine psg _ (core0 (AOp.load1 Try.isAgg3 rfl rfl (reads_im _ _) rfl ⟨rfl, rfl⟩)) ?_
                              refine psq_guard 12 false 60 _ rfl rfl rfl rfl (fun _ => ?_) (fun hh => by exfalso; first | (rw [g11_] at hh; exact absurd hh (by decide)) | (revert hh; simp [g11_]))
                              refine psg _ (core0 (AOp.fieldB Try.underlying111 rfl Try.sizeOf3 (by decide) rfl rfl rfl ⟨rfl, rfl⟩)) ?_
                              refine psq_guard 12 false 60 _ rfl rfl rfl rfl (fun _ => ?_) (fun hh => by exfalso; first | (rw [g11_] at hh; exact absurd hh (by decide)) | (revert hh; simp [g11_]))
                              refine psg _ (core0 (AOp.load1 Try.isAgg3 rfl rfl (reads_box _ (.head _)) rfl ⟨rfl, rfl⟩)) ?_
                              refine psq_guard 12 false 60 _ rfl rfl rfl rfl (fun _ => ?_) (fun hh => by exfalso; first | (rw [g11_] at hh; exact absurd hh (by decide)) | (revert hh; simp [g11_]))
                              refine psg _ (core0 (AOp.eql rfl rfl rfl ⟨rfl, rfl⟩)) ?_
                              refine psq_guard 12 false 60 _ rfl rfl rfl rfl (fun _ => ?_) (fun hh => by exfalso; first | (rw [g11_] at hh; exact absurd hh (by decide)) | (revert hh; simp [g11_]))
                              refine psg _ (core0 (AOp.move rfl rfl ⟨rfl, rfl⟩)) ?_
                          rotate_right
                          focus
                            have g11_ := g11
                            try simp only [List.length_map, List.length_cons, List.length_nil, nrm] at g11
                            all_goals try (exfalso; first | (simp at g11_; done) | omega)
                            all_goals
                              refine psq_guard 12 false 60 _ rfl rfl rfl rfl (fun hh => by exfalso; first | (rw [g11_] at hh; exact absurd hh (by decide)) | (revert hh; simp [g11_])) (fun _ => ?_)
                              refine psq_guard 12 false 60 _ rfl rfl rfl rfl (fun hh => by exfalso; first | (rw [g11_] at hh; exact absurd hh (by decide)) | (revert hh; simp [g11_])) (fun _ => ?_)
                              refine psq_guard 12 false 60 _ rfl rfl rfl rfl (fun hh => by exfalso; first | (rw [g11_] at hh; exact absurd hh (by decide)) | (revert hh; simp [g11_])) (fun _ => ?_)
                              refine psq_guard 12 false 60 _ rfl rfl rfl rfl (fun hh => by exfalso; first | (rw [g11_] at hh; exact absurd hh (by decide)) | (revert hh; simp [g11_])) (fun _ => ?_)
                              refine psq_guard 12 false 60 _ rfl rfl rfl rfl (fun hh => by exfalso; first | (rw [g11_] at hh; exact absurd hh (by decide)) | (revert hh; simp [g11_])) (fun _ => ?_)
                              refine psq_guard 12 false 60 _ rfl rfl rfl rfl (fun hh => by exfalso; first | (rw [g11_] at hh; exact absurd hh (by decide)) | (revert hh; simp [g11_])) (fun _ => ?_)
                              refine psq_guard 12 false 60 _ rfl rfl rfl rfl (fun hh => by exfalso; first | (rw [g11_] at hh; exact absurd hh (by decide)) | (revert hh; simp [g11_])) (fun _ => ?_)
                              refine psq_guard 12 false 60 _ rfl rfl rfl rfl (fun hh => by exfalso; first | (rw [g11_] at hh; exact absurd hh (by decide)) | (revert hh; simp [g11_])) (fun _ => ?_)
                              refine psq_guard 12 false 60 _ rfl rfl rfl rfl (fun hh => by exfalso; first | (rw [g11_] at hh; exact absurd hh (by decide)) | (revert hh; simp [g11_])) (fun _ => ?_)
                        all_goals
                          first
                          | (refine psq_guardU 22 true 70 rfl rfl rfl rfl ?_; refine psq_guardU 22 true 70 rfl rfl rfl rfl ?_; refine psq_guardU 22 true 70 rfl rfl rfl rfl ?_; refine psq_guardU 22 true 70 rfl rfl rfl rfl ?_; refine psq_guardU 22 true 70 rfl rfl rfl rfl ?_; refine psq_guardU 22 true 70 rfl rfl rfl rfl ?_; refine psq_guardU 22 true 70 rfl rfl rfl rfl ?_; refine psq_guardU 22 true 70 rfl rfl rfl rfl ?_)
                          | skip
                            refine psq_guard 22 true 70 _ rfl rfl rfl rfl (fun g12 => ?_) (fun g12 => ?_)
                            focus
                              have g12_ := g12
                              try simp only [List.length_map, List.length_cons, List.length_nil, nrm] at g12
                              all_goals try (exfalso; first | (simp at g12_; done) | omega)
                              all_goals
                                refine psg _ (core0 (AOp.move rfl rfl ⟨rfl, rfl⟩)) ?_
                                refine psq_guard 22 true 70 _ rfl rfl rfl rfl (fun _ => ?_) (fun hh => by exfalso; first | (rw [g12_] at hh; exact absurd hh (by decide)) | (revert hh; simp [g12_]))
                                refine psg _ (core0 (AOp.move rfl rfl ⟨rfl, rfl⟩)) ?_
                                refine psq_guard 22 true 70 _ rfl rfl rfl rfl (fun _ => ?_) (fun hh => by exfalso; first | (rw [g12_] at hh; exact absurd hh (by decide)) | (revert hh; simp [g12_]))
                                refine psg _ (core0 (AOp.subE rfl rfl rfl (by first | omega | (simp <;> omega) | (simp at * <;> omega)) (by first | omega | (simp <;> omega) | (simp at * <;> omega)) ⟨rfl, rfl⟩)) ?_
                                refine psq_guard 22 true 70 _ rfl rfl rfl rfl (fun _ => ?_) (fun hh => by exfalso; first | (rw [g12_] at hh; exact absurd hh (by decide)) | (revert hh; simp [g12_]))
                                refine psg _ (core0 (AOp.indexLI Try.underlying27 Try.sizeOf111 rfl rfl rfl (by first | omega | (simp <;> omega) | (simp at * <;> omega)) (by first | omega | (simp <;> omega) | (simp at * <;> omega)) (fun _ => rfl) ⟨rfl, rfl⟩)) ?_
                                refine psq_guard 22 true 70 _ rfl rfl rfl rfl (fun _ => ?_) (fun hh => by exfalso; first | (rw [g12_] at hh; exact absurd hh (by decide)) | (revert hh; simp [g12_]))
                                refine psg _ (core0 (AOp.fieldI Try.underlying111 rfl Try.sizeOf3 (by decide) rfl rfl rfl ⟨rfl, rfl⟩)) ?_
                                refine psq_guard 22 true 70 _ rfl rfl rfl rfl (fun _ => ?_) (fun hh => by exfalso; first | (rw [g12_] at hh; exact absurd hh (by decide)) | (revert hh; simp [g12_]))
                                refine psg _ (core0 (AOp.load1 Try.isAgg3 rfl rfl (reads_im _ _) rfl ⟨rfl, rfl⟩)) ?_
                                refine psq_guard 22 true 70 _ rfl rfl rfl rfl (fun _ => ?_) (fun hh => by exfalso; first | (rw [g12_] at hh; exact absurd hh (by decide)) | (revert hh; simp [g12_]))
                                refine psg _ (core0 (AOp.fieldB Try.underlying111 rfl Try.sizeOf3 (by decide) rfl rfl rfl ⟨rfl, rfl⟩)) ?_
                                refine psq_guard 22 true 70 _ rfl rfl rfl rfl (fun _ => ?_) (fun hh => by exfalso; first | (rw [g12_] at hh; exact absurd hh (by decide)) | (revert hh; simp [g12_]))
                                refine psg _ (core0 (AOp.load1 Try.isAgg3 rfl rfl (reads_box _ (.head _)) rfl ⟨rfl, rfl⟩)) ?_
                            rotate_right
                            focus
                              have g12_ := g12
                              try simp only [List.length_map, List.length_cons, List.length_nil, nrm] at g12
                              all_goals try (exfalso; first | (simp at g12_; done) | omega)
                              all_goals
                                refine psq_guard 22 true 70 _ rfl rfl rfl rfl (fun hh => by exfalso; first | (rw [g12_] at hh; exact absurd hh (by decide)) | (revert hh; simp [g12_])) (fun _ => ?_)
                                refine psq_guard 22 true 70 _ rfl rfl rfl rfl (fun hh => by exfalso; first | (rw [g12_] at hh; exact absurd hh (by decide)) | (revert hh; simp [g12_])) (fun _ => ?_)
                                refine psq_guard 22 true 70 _ rfl rfl rfl rfl (fun hh => by exfalso; first | (rw [g12_] at hh; exact absurd hh (by decide)) | (revert hh; simp [g12_])) (fun _ => ?_)
                                refine psq_guard 22 true 70 _ rfl rfl rfl rfl (fun hh => by exfalso; first | (rw [g12_] at hh; exact absurd hh (by decide)) | (revert hh; simp [g12_])) (fun _ => ?_)
                                refine psq_guard 22 true 70 _ rfl rfl rfl rfl (fun hh => by exfalso; first | (rw [g12_] at hh; exact absurd hh (by decide)) | (revert hh; simp [g12_])) (fun _ => ?_)
                                refine psq_guard 22 true 70 _ rfl rfl rfl rfl (fun hh => by exfalso; first | (rw [g12_] at hh; exact absurd hh (by decide)) | (revert hh; simp [g12_])) (fun _ => ?_)
                                refine psq_guard 22 true 70 _ rfl rfl rfl rfl (fun hh => by exfalso; first | (rw [g12_] at hh; exact absurd hh (by decide)) | (revert hh; simp [g12_])) (fun _ => ?_)
                          all_goals
                            refine psq_nil ?_
                            first
                            | (refine aops_guardU 22 true 70 rfl rfl rfl rfl rfl ?_)
                            | skip
                              refine aops_guard 22 true 70 _ rfl rfl rfl rfl rfl (fun g13 => ?_) (fun g13 => ?_)
                              focus
                                have g13_ := g13
                                try simp only [List.length_map, List.length_cons, List.length_nil, nrm] at g13
                                all_goals try (exfalso; first | (simp at g13_; done) | omega)
                                all_goals
                                  refine AOp.geq rfl rfl rfl ?_
                              rotate_right
                              focus
                                have g13_ := g13
                                try simp only [List.length_map, List.length_cons, List.length_nil, nrm] at g13
                                all_goals try (exfalso; first | (simp at g13_; done) | omega)
                            all_goals
                              first
                              | (refine aops_guardU 12 false 60 rfl rfl rfl rfl rfl ?_)
                              | skip
                                refine aops_guard 12 false 60 _ rfl rfl rfl rfl rfl (fun g14 => ?_) (fun g14 => ?_)
                                focus
                                  have g14_ := g14
                                  try simp only [List.length_map, List.length_cons, List.length_nil, nrm] at g14
                                  all_goals try (exfalso; first | (simp at g14_; done) | omega)
                                  all_goals
                                    first
                                    | refine AOp.pick_t rfl rfl (by first | assumption | rfl) rfl ?_
                                    | refine AOp.pick_f rfl rfl (by first | assumption | rfl) rfl ?_
                                rotate_right
                                focus
                                  have g14_ := g14
                                  try simp only [List.length_map, List.length_cons, List.length_nil, nrm] at g14
                                  all_goals try (exfalso; first | (simp at g14_; done) | omega)
                              all_goals
                                refine aops_guard 2 true 50 _ rfl rfl rfl rfl rfl (fun g15 => ?_) (fun g15 => ?_)
                                focus
                                  have g15_ := g15
                                  try simp only [List.length_map, List.length_cons, List.length_nil, nrm] at g15
                                  all_goals try (exfalso; first | (simp at g15_; done) | omega)
                                  all_goals
                                    first
                                    | refine AOp.pick_t rfl rfl (by first | assumption | rfl) rfl ?_
                                    | refine AOp.pick_f rfl rfl (by first | assumption | rfl) rfl ?_
                                rotate_right
                                focus
                                  have g15_ := g15
                                  try simp only [List.length_map, List.length_cons, List.length_nil, nrm] at g15
                                  all_goals try (exfalso; first | (simp at g15_; done) | omega)
                                all_goals
                                  first
                                  | refine aops_cons rfl rfl (AOp.pick_t rfl rfl (by first | assumption | rfl) rfl ?_)
                                  | refine aops_cons rfl rfl (AOp.pick_f rfl rfl (by first | assumption | rfl) rfl ?_)
                                  refine aops_nil ?_
                                  refine aw_cond _ rfl (fun h16 => ?_) (fun h16 => ?_)
                                  focus
                                    have h16_ := h16
                                    try simp only [List.length_map, List.length_cons, List.length_nil, nrm] at h16
                                    all_goals try (exfalso; first | (simp at h16_; done) | omega)
                                    all_goals
                                      refine aw_seq ?_
                                      refine aw_region ?_
                                      refine aops_cons rfl rfl (AOp.assign rfl rfl ?_)
                                      refine aops_nil ?_
                                      refine aw_weak (wk_drop (List.nil_sublist _)) ?_
                                      refine aw_ret ?_
                                      refine ⟨_, (res1 Try.results27 rfl), ?_⟩
                                      refine ⟨?_, rfl⟩
                                      rw [may_no]; · rfl
                                      intro h
                                      have k1 := (h i (by omega)).2 (by omega)
                                      have e : (↑i - 1 : Int).toNat = i - 1 := by omega
                                      simp only [e] at *
                                      rw [ordI_lt] at k1; omega
                                  rotate_right
                                  focus
                                    have h16_ := h16
                                    try simp only [List.length_map, List.length_cons, List.length_nil, nrm] at h16
                                    all_goals try (exfalso; first | (simp at h16_; done) | omega)
                                    all_goals
                                      refine aw_skip ?_
                                      skip
                                  all_goals
                                    refine aw_region ?_
                                    refine aops_cons rfl rfl (AOp.move rfl rfl ?_)
                                    refine aops_cons rfl rfl (AOp.addE rfl rfl rfl (by first | omega | (simp <;> omega) | (simp at * <;> omega)) (by first | omega | (simp <;> omega) | (simp at * <;> omega)) ?_)
                                    refine aops_cons rfl rfl (AOp.assign rfl rfl ?_)
                                    refine aops_nil ?_
                                    refine ⟨i + 1, ⟨by omega, fun k h hk => ?_⟩, by dsimp only; omega, ((wk_drop (by (focus ((repeat (first | exact List.Sublist.slnil | apply List.Sublist.cons_cons | apply List.Sublist.cons)); done)))).trans (wk_env (sube_cons rfl (sube_cons rfl (sube_nil _)))))⟩
                                    rcases Nat.lt_or_ge k i with h0 | h0
                                    · exact ha k h h0
                                    · have hki : k = i := by omega
                                      subst hki
                                      refine ⟨by unfold okL; omega, fun hk0 => ?_⟩
                                      have e : (↑k - 1 : Int).toNat = k - 1 := by omega
                                      simp only [e] at *
                                      rw [ordI_lt]; omega

end Go.Proofs.Ytdacnebhlgibhaa
