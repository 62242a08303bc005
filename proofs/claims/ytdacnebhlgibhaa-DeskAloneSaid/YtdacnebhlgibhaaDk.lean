/- Own text: who is let have a file to write has it alone. -/
import Derived.Test.YtdacnebhlgibhaaDu
set_option linter.unusedVariables false
set_option linter.unusedSimpArgs false
set_option linter.all false
set_option maxRecDepth 100000
set_option maxHeartbeats 2000000
namespace Go.Proofs.Ytdacnebhlgibhaa
open Go Go.Aw



theorem deskAloneWalk (p : List UInt8) (l : List Q) : ACalls Try.prog 5 [bytes p, q4s l] [] (fun r A' => r = .sc (.bool true)) (fun _ _ => False) := by
  unfold bytes q4s
  refine acallsN Try.func5 rfl Try.ntmps5 rfl ?_
  refine aw_seq ?_
  refine aw_region ?_
  refine aops_cons rfl rfl (AOp.assign rfl rfl ?_)
  refine aops_nil ?_
  refine aw_seq ?_
  refine aw_seq ?_
  refine aw_region ?_
  refine aops_cons rfl rfl (AOp.callP Try.call13 rfl rfl rfl begun ?_)
  refine aops_cons rfl rfl (AOp.not rfl rfl ?_)
  refine aops_nil ?_
  refine aw_cond _ rfl (fun h1 => ?_) (fun h1 => ?_)
  focus
    have h1_ := h1
    try simp only [List.length_map, List.length_cons, List.length_nil, nrm] at h1
    all_goals try (exfalso; first | contradiction | (simp at h1_; done) | omega)
  rotate_right
  focus
    have h1_ := h1
    try simp only [List.length_map, List.length_cons, List.length_nil, nrm] at h1
    all_goals try (exfalso; first | contradiction | (simp at h1_; done) | omega)
    all_goals
      refine aw_skip ?_
      skip
  all_goals
    refine aw_seq ?_
    refine aw_seq ?_
    refine aw_region ?_
    refine aops_cons rfl rfl (AOp.move rfl rfl ?_)
    refine aops_cons rfl rfl (AOp.lenS (by first | exact List.length_map _ | rfl) Try.underlying22 rfl rfl ?_)
    refine aops_cons rfl rfl (AOp.gtr rfl rfl rfl ?_)
    refine aops_cons rfl rfl (AOp.move rfl rfl ?_)
    refine aops_guard 3 false 25 _ rfl rfl rfl rfl rfl (fun g2 => ?_) (fun g2 => ?_)
    focus
      have g2_ := g2
      try simp only [List.length_map, List.length_cons, List.length_nil, nrm] at g2
      all_goals try (exfalso; first | contradiction | (simp at g2_; done) | omega)
      all_goals
        refine AOp.move rfl rfl ?_
        refine aops_guard 3 false 25 _ rfl rfl rfl rfl rfl (fun _ => ?_) (fun hh => by exfalso; first | (rw [g2_] at hh; exact absurd hh (by decide)) | (revert hh; simp [g2_]))
        refine AOp.lenS (by first | exact List.length_map _ | rfl) Try.underlying23 rfl rfl ?_
        refine aops_guard 3 false 25 _ rfl rfl rfl rfl rfl (fun _ => ?_) (fun hh => by exfalso; first | (rw [g2_] at hh; exact absurd hh (by decide)) | (revert hh; simp [g2_]))
        refine AOp.gtr rfl rfl rfl ?_
    rotate_right
    focus
      have g2_ := g2
      try simp only [List.length_map, List.length_cons, List.length_nil, nrm] at g2
      all_goals try (exfalso; first | contradiction | (simp at g2_; done) | omega)
      all_goals
        refine aops_guard 3 false 25 _ rfl rfl rfl rfl rfl (fun hh => by exfalso; first | (rw [g2_] at hh; exact absurd hh (by decide)) | (revert hh; simp [g2_])) (fun _ => ?_)
        refine aops_guard 3 false 25 _ rfl rfl rfl rfl rfl (fun hh => by exfalso; first | (rw [g2_] at hh; exact absurd hh (by decide)) | (revert hh; simp [g2_])) (fun _ => ?_)
    all_goals
      first
      | refine aops_cons rfl rfl (AOp.pick_t rfl rfl (by first | assumption | rfl) rfl ?_)
      | refine aops_cons rfl rfl (AOp.pick_f rfl rfl (by first | assumption | rfl) rfl ?_)
      refine aops_nil ?_
      refine aw_cond _ rfl (fun h3 => ?_) (fun h3 => ?_)
      focus
        have h3_ := h3
        try simp only [List.length_map, List.length_cons, List.length_nil, nrm] at h3
        all_goals try (exfalso; first | contradiction | (simp at h3_; done) | omega)
        all_goals
          refine aw_seq ?_
          refine aw_region ?_
          refine aops_cons rfl rfl (AOp.assign rfl rfl ?_)
          refine aops_nil ?_
          refine aw_ret ?_
          refine ⟨_, (res1 Try.results5 rfl), ?_⟩
          rfl
      rotate_right
      focus
        have h3_ := h3
        try simp only [List.length_map, List.length_cons, List.length_nil, nrm] at h3
        all_goals try (exfalso; first | contradiction | (simp at h3_; done) | omega)
        all_goals
          refine aw_skip ?_
          skip
      all_goals
        refine aw_seq ?_
        refine aw_region ?_
        refine aops_cons rfl rfl (AOp.move rfl rfl ?_)
        refine aops_cons rfl rfl (AOp.callN (Af := []) Try.call14 rfl rfl rfl (List.Perm.refl _) (by exact made p) (fun r' A'' hr => ?_))
        obtain ⟨b, rfl, rfl⟩ := hr
        refine aops_cons rfl rfl (AOp.callN (Af := []) Try.call15 rfl rfl rfl (List.Perm.refl _) (by exact desk p b (by first | omega | (simp <;> omega) | (simp at * <;> omega))) (fun r' A'' hr => ?_))
        obtain ⟨d, now, n', rfl, hg, k0, kn, k1, rfl⟩ := hr
        refine aops_cons rfl rfl (AOp.move rfl rfl ?_)
        refine aops_cons rfl rfl (AOp.extract rfl rfl rfl ?_)
        refine aops_cons rfl rfl (AOp.extract rfl rfl rfl ?_)
        refine aops_cons rfl rfl (AOp.alloc Try.zeroValue30 (by kernel_rfl) rfl rfl ?_); intro b1
        refine aops_cons rfl rfl (AOp.storeB' Try.sizeOf30 rfl rfl rfl rfl rfl (pull_here _ _) rfl rfl ?_)
        refine aops_cons rfl rfl (AOp.assign rfl rfl ?_)
        refine aops_nil ?_
        refine aw_seq ?_
        refine aw_seq ?_
        refine aw_region ?_
        refine aops_cons rfl rfl (AOp.assign rfl rfl ?_)
        refine aops_nil ?_
        refine aw_block ?_
        refine aw_loop (β := Nat × Int × Dk) (S := (fun (z0 : Nat × Int × Dk) => match z0 with | (i, now, d) => [(1, q4s l), (5, .sc (.pointer (some ⟨b1, 0, none⟩))), (6, .sc (.int .i64 now)), (7, .sc (.int .i64 (i : Int)))])) (B := (fun (z0 : Nat × Int × Dk) => match z0 with | (i, now, d) => [.box b1 30 d.e])) (pre := (fun (z0 : Nat × Int × Dk) => match z0 with | (i, now, d) => i ≤ l.length ∧ 0 ≤ now ∧ now ≤ 1000 + 40 * (i : Int) ∧ GD 3 d now)) (μ := (fun (z0 : Nat × Int × Dk) => match z0 with | (i, now, d) => l.length - i)) (0, now, d) ((wk_drop (A' := [.box b1 30 d.e]) (by (focus ((repeat (first | exact List.Sublist.slnil | apply List.Sublist.cons_cons | apply List.Sublist.cons)); done)))).trans (wk_env (sube_cons rfl (sube_cons rfl (sube_cons rfl (sube_cons rfl (sube_nil _))))))) ?_ ?_
        · exact ⟨Nat.zero_le _, k0, by omega, hg⟩
        · rintro ⟨i, now, d⟩ ⟨hi, k0, kn, hg⟩
          change AW _ _ _ ([(1, q4s l), (5, .sc (.pointer (some ⟨b1, 0, none⟩))), (6, .sc (.int .i64 now)), (7, .sc (.int .i64 (i : Int)))] : Env) ([.box b1 30 d.e] : List Blk) _
          have hgl := hg.lenl (by decide)
          have hgw := hg.lenw
          refine aw_seq ?_
          refine aw_seq ?_
          refine aw_region ?_
          refine aops_cons rfl rfl (AOp.move rfl rfl ?_)
          refine aops_cons rfl rfl (AOp.move rfl rfl ?_)
          refine aops_cons rfl rfl (AOp.lenS (by first | exact List.length_map _ | rfl) Try.underlying23 rfl rfl ?_)
          refine aops_cons rfl rfl (AOp.lss rfl rfl rfl ?_)
          refine aops_nil ?_
          refine aw_cond _ rfl (fun h4 => ?_) (fun h4 => ?_)
          focus
            have h4_ := h4
            try simp only [List.length_map, List.length_cons, List.length_nil, nrm] at h4
            all_goals try (exfalso; first | contradiction | (simp at h4_; done) | omega)
            all_goals
              refine aw_skip ?_
              skip
          rotate_right
          focus
            have h4_ := h4
            try simp only [List.length_map, List.length_cons, List.length_nil, nrm] at h4
            all_goals try (exfalso; first | contradiction | (simp at h4_; done) | omega)
            all_goals
              refine aw_exit ?_
              refine aw_seq ?_
              refine aw_region ?_
              refine aops_cons rfl rfl (AOp.assign rfl rfl ?_)
              refine aops_nil ?_
              refine aw_ret ?_
              refine ⟨_, (res1 Try.results5 rfl), ?_⟩
              rfl
          all_goals
            refine aw_seq ?_
            refine aw_block ?_
            refine aw_seq ?_
            refine aw_draw 17 [0, 0, 0, 0, 0, 0, 0, 0, 0, 0, 0, 0, 0, 0, 0, 0, 0] (by kernel_rfl) (by kernel_rfl) ?_
            refine psq_cons _ rfl (core0 (AOp.move rfl rfl ⟨rfl, rfl⟩)) ?_
            refine psq_cons _ rfl (core0 (AOp.move rfl rfl ⟨rfl, rfl⟩)) ?_
            refine psq_cons _ rfl (core0 (AOp.indexLN Try.underlying23 Try.sizeOf35 rfl rfl rfl (by first | omega | (simp <;> omega) | (simp at * <;> omega)) (fun _ => rfl) ⟨rfl, rfl⟩)) ?_
            refine psq_cons _ rfl (core0 (AOp.indexAI Try.underlying35 Try.sizeOf5 rfl rfl rfl (by first | omega | (simp <;> omega) | (simp at * <;> omega)) (by first | omega | (simp <;> omega) | (simp at * <;> omega)) rfl ⟨rfl, rfl⟩)) ?_
            refine psq_cons _ rfl (core0 (AOp.load1 Try.isAgg5 rfl rfl (reads_im _ _) rfl ⟨rfl, rfl⟩)) ?_
            refine psq_cons _ rfl (core0 (AOp.remE rfl rfl rfl (by first | decide | omega) (by first | omega | (simp <;> omega) | (simp at * <;> omega)) ⟨rfl, rfl⟩)) ?_
            refine psq_cons _ rfl (core0 (AOp.conviI Try.underlying5 Try.underlying3 rfl rfl (by first | omega | (simp <;> omega) | (simp at * <;> omega)) (by first | omega | (simp <;> omega) | (simp at * <;> omega)) ⟨rfl, rfl⟩)) ?_
            refine psq_cons _ rfl (core0 (AOp.addE rfl rfl rfl (by first | omega | (simp <;> omega) | (simp at * <;> omega)) (by first | omega | (simp <;> omega) | (simp at * <;> omega)) ⟨rfl, rfl⟩)) ?_
            refine psq_cons _ rfl (core0 (AOp.move rfl rfl ⟨rfl, rfl⟩)) ?_
            refine psq_cons _ rfl (core0 (AOp.move rfl rfl ⟨rfl, rfl⟩)) ?_
            refine psq_cons _ rfl (core0 (AOp.indexLN Try.underlying23 Try.sizeOf35 rfl rfl rfl (by first | omega | (simp <;> omega) | (simp at * <;> omega)) (fun _ => rfl) ⟨rfl, rfl⟩)) ?_
            refine psq_cons _ rfl (core0 (AOp.indexAI Try.underlying35 Try.sizeOf5 rfl rfl rfl (by first | omega | (simp <;> omega) | (simp at * <;> omega)) (by first | omega | (simp <;> omega) | (simp at * <;> omega)) rfl ⟨rfl, rfl⟩)) ?_
            refine psq_cons _ rfl (core0 (AOp.load1 Try.isAgg5 rfl rfl (reads_im _ _) rfl ⟨rfl, rfl⟩)) ?_
            refine psq_cons _ rfl (core0 (AOp.remE rfl rfl rfl (by first | decide | omega) (by first | omega | (simp <;> omega) | (simp at * <;> omega)) ⟨rfl, rfl⟩)) ?_
            refine psq_cons _ rfl (core0 (AOp.conviI Try.underlying5 Try.underlying3 rfl rfl (by first | omega | (simp <;> omega) | (simp at * <;> omega)) (by first | omega | (simp <;> omega) | (simp at * <;> omega)) ⟨rfl, rfl⟩)) ?_
            refine psq_cons _ rfl (core0 (AOp.addE rfl rfl rfl (by first | omega | (simp <;> omega) | (simp at * <;> omega)) (by first | omega | (simp <;> omega) | (simp at * <;> omega)) ⟨rfl, rfl⟩)) ?_
            refine psq_cons _ rfl (core0 (AOp.assign rfl rfl ⟨rfl, rfl⟩)) ?_
            refine psq_nil ?_
            refine aops_cons rfl rfl (AOp.assign rfl rfl ?_)
            refine aops_nil ?_
            refine aw_seq ?_
            refine aw_region ?_
            refine aops_cons rfl rfl (AOp.loadN Try.isAgg30 Try.sizeOf30 rfl rfl (reads_box _ (.head _)) rfl rfl ?_)
            refine aops_cons rfl rfl (AOp.alloc Try.zeroValue30 (by kernel_rfl) rfl rfl ?_); intro b2
            refine aops_cons rfl rfl (AOp.storeB' Try.sizeOf30 rfl rfl rfl rfl rfl (pull_here _ _) rfl rfl ?_)
            refine aops_nil ?_
            refine aw_seq ?_
            refine aw_seq ?_
            refine aw_region ?_
            refine aops_cons rfl rfl (AOp.move rfl rfl ?_)
            refine aops_cons rfl rfl (AOp.move rfl rfl ?_)
            refine aops_cons rfl rfl (AOp.indexLN Try.underlying23 Try.sizeOf35 rfl rfl rfl (by first | omega | (simp <;> omega) | (simp at * <;> omega)) (fun _ => rfl) ?_)
            refine aops_cons rfl rfl (AOp.indexAI Try.underlying35 Try.sizeOf5 rfl rfl rfl (by first | omega | (simp <;> omega) | (simp at * <;> omega)) (by first | omega | (simp <;> omega) | (simp at * <;> omega)) rfl ?_)
            refine aops_cons rfl rfl (AOp.load1 Try.isAgg5 rfl rfl (reads_im _ _) rfl ?_)
            refine aops_cons rfl rfl (AOp.remE rfl rfl rfl (by first | decide | omega) (by first | omega | (simp <;> omega) | (simp at * <;> omega)) ?_)
            refine aops_nil ?_
            refine aw_block ?_
            refine aw_seq ?_
            refine aw_region ?_
            refine aops_cons rfl rfl (AOp.eql rfl rfl rfl ?_)
            refine aops_cons rfl rfl (AOp.assign rfl rfl ?_)
            refine aops_nil ?_
            refine aw_cond _ rfl (fun h5 => ?_) (fun h5 => ?_)
            focus
              have h5_ := h5
              try simp only [List.length_map, List.length_cons, List.length_nil, nrm] at h5
              all_goals try (exfalso; first | contradiction | (simp at h5_; done) | omega)
              all_goals
                have hA2 : GD 3 (⟨drp d.l (1 + (l[i].b.toNat : Int) % 3) (1 + (l[i].c.toNat : Int) % 3), d.w⟩ : Dk) now := gd_give hg
                refine aw_region ?_
                refine aops_cons rfl rfl (AOp.loadN Try.isAgg30 Try.sizeOf30 rfl rfl (reads_box _ (.tail _ (.head _))) rfl rfl ?_)
                refine aops_cons rfl rfl (AOp.move rfl rfl ?_)
                refine aops_cons rfl rfl (AOp.move rfl rfl ?_)
                refine aops_cons rfl rfl (AOp.callP Try.call16 rfl rfl rfl (by exact giveD d (1 + (l[i].b.toNat : Int) % 3) (1 + (l[i].c.toNat : Int) % 3) (by first | omega | (simp <;> omega) | (simp at * <;> omega)) (by first | omega | (simp <;> omega) | (simp at * <;> omega))) ?_)
                refine aops_cons rfl rfl (AOp.storeB' Try.sizeOf30 rfl rfl rfl rfl rfl (pull_there (pull_here _ _)) rfl rfl ?_)
                refine aops_nil ?_
                skip
            rotate_right
            focus
              have h5_ := h5
              try simp only [List.length_map, List.length_cons, List.length_nil, nrm] at h5
              all_goals try (exfalso; first | contradiction | (simp at h5_; done) | omega)
              all_goals
                refine aw_seq ?_
                refine aw_region ?_
                refine aops_cons rfl rfl (AOp.eql rfl rfl rfl ?_)
                refine aops_cons rfl rfl (AOp.assign rfl rfl ?_)
                refine aops_nil ?_
                refine aw_cond _ rfl (fun h6 => ?_) (fun h6 => ?_)
                focus
                  have h6_ := h6
                  try simp only [List.length_map, List.length_cons, List.length_nil, nrm] at h6
                  all_goals try (exfalso; first | contradiction | (simp at h6_; done) | omega)
                  all_goals
                    refine aw_seq ?_
                    have hA2 : GD 3 (runOf d (now + (l[i].d.toNat : Int) % 40)).1 (now + (l[i].d.toNat : Int) % 40) := gd_runOf hg (by omega) (by omega)
                    refine aw_region ?_
                    refine aops_cons rfl rfl (AOp.move rfl rfl ?_)
                    refine aops_cons rfl rfl (AOp.move rfl rfl ?_)
                    refine aops_cons rfl rfl (AOp.move rfl rfl ?_)
                    refine aops_cons rfl rfl (AOp.indexLN Try.underlying23 Try.sizeOf35 rfl rfl rfl (by first | omega | (simp <;> omega) | (simp at * <;> omega)) (fun _ => rfl) ?_)
                    refine aops_cons rfl rfl (AOp.indexAI Try.underlying35 Try.sizeOf5 rfl rfl rfl (by first | omega | (simp <;> omega) | (simp at * <;> omega)) (by first | omega | (simp <;> omega) | (simp at * <;> omega)) rfl ?_)
                    refine aops_cons rfl rfl (AOp.load1 Try.isAgg5 rfl rfl (reads_im _ _) rfl ?_)
                    refine aops_cons rfl rfl (AOp.remE rfl rfl rfl (by first | decide | omega) (by first | omega | (simp <;> omega) | (simp at * <;> omega)) ?_)
                    refine aops_cons rfl rfl (AOp.conviI Try.underlying5 Try.underlying3 rfl rfl (by first | omega | (simp <;> omega) | (simp at * <;> omega)) (by first | omega | (simp <;> omega) | (simp at * <;> omega)) ?_)
                    refine aops_cons rfl rfl (AOp.addE rfl rfl rfl (by first | omega | (simp <;> omega) | (simp at * <;> omega)) (by first | omega | (simp <;> omega) | (simp at * <;> omega)) ?_)
                    refine aops_cons rfl rfl (AOp.assign rfl rfl ?_)
                    refine aops_nil ?_
                    refine aw_region ?_
                    refine aops_cons rfl rfl (AOp.loadN Try.isAgg30 Try.sizeOf30 rfl rfl (reads_box _ (.tail _ (.head _))) rfl rfl ?_)
                    refine aops_cons rfl rfl (AOp.move rfl rfl ?_)
                    refine aops_cons rfl rfl (AOp.callP Try.call18 rfl rfl rfl (by exact runL d (now + (l[i].d.toNat : Int) % 40) hg.s (by first | omega | (simp <;> omega) | (simp at * <;> omega)) (by first | omega | (simp <;> omega) | (simp at * <;> omega)) (by first | omega | (simp <;> omega) | (simp at * <;> omega)) (by first | omega | (simp <;> omega) | (simp at * <;> omega))) ?_)
                    refine aops_cons rfl rfl (AOp.move rfl rfl ?_)
                    refine aops_cons rfl rfl (AOp.extract rfl rfl rfl ?_)
                    refine aops_cons rfl rfl (AOp.extract rfl rfl rfl ?_)
                    refine aops_cons rfl rfl (AOp.extract rfl rfl rfl ?_)
                    refine aops_cons rfl rfl (AOp.storeB' Try.sizeOf30 rfl rfl rfl rfl rfl (pull_there (pull_here _ _)) rfl rfl ?_)
                    refine aops_nil ?_
                    skip
                rotate_right
                focus
                  have h6_ := h6
                  try simp only [List.length_map, List.length_cons, List.length_nil, nrm] at h6
                  all_goals try (exfalso; first | contradiction | (simp at h6_; done) | omega)
                  all_goals
                    refine aw_seq ?_
                    have hA2 : GD 3 (askD d now (⟨(1 + (l[i].b.toNat : Int) % 3), (i : Int), (1 + (l[i].c.toNat : Int) % 3), 1 + (l[i].d.toNat : Int) % 2⟩ : Wt)).1 now := gd_ask hg (Int.le_refl _) k0 (by unfold okWt; dsimp only; omega)
                    refine aw_drawM (fun A0 => Blk.box b1 30 d.e ∈ A0) (by first | exact .head _ | exact .tail _ (.head _) | exact .tail _ (.tail _ (.head _))) [1, 1, 1, 1, 1, 1, 1, 1, 1, 1, 1, 1, 1, 1, 1, 1, 1, 1, 1, 1, 5, 5, 1, 1, 1] (by kernel_rfl) (by kernel_rfl) ?_
                    refine q_go1 _ rfl (fun _ hA0 => AOp.loadN Try.isAgg30 Try.sizeOf30 rfl rfl (reads_box _ hA0) rfl rfl ⟨rfl, rfl⟩) ?_
                    refine q_go1 _ rfl (fun _ _ => AOp.move rfl rfl ⟨rfl, rfl⟩) ?_
                    refine q_go1 _ rfl (fun _ _ => AOp.move rfl rfl ⟨rfl, rfl⟩) ?_
                    refine q_go1 _ rfl (fun _ _ => AOp.move rfl rfl ⟨rfl, rfl⟩) ?_
                    refine q_go1 _ rfl (fun _ _ => AOp.move rfl rfl ⟨rfl, rfl⟩) ?_
                    refine q_go1 _ rfl (fun _ _ => AOp.move rfl rfl ⟨rfl, rfl⟩) ?_
                    refine q_go1 _ rfl (fun _ _ => AOp.move rfl rfl ⟨rfl, rfl⟩) ?_
                    refine q_go1 _ rfl (fun _ _ => AOp.indexLN Try.underlying23 Try.sizeOf35 rfl rfl rfl (by first | omega | (simp <;> omega) | (simp at * <;> omega)) (fun _ => rfl) ⟨rfl, rfl⟩) ?_
                    refine q_go1 _ rfl (fun _ _ => AOp.indexAI Try.underlying35 Try.sizeOf5 rfl rfl rfl (by first | omega | (simp <;> omega) | (simp at * <;> omega)) (by first | omega | (simp <;> omega) | (simp at * <;> omega)) rfl ⟨rfl, rfl⟩) ?_
                    refine q_go1 _ rfl (fun _ _ => AOp.load1 Try.isAgg5 rfl rfl (reads_im _ _) rfl ⟨rfl, rfl⟩) ?_
                    refine q_go1 _ rfl (fun _ _ => AOp.remE rfl rfl rfl (by first | decide | omega) (by first | omega | (simp <;> omega) | (simp at * <;> omega)) ⟨rfl, rfl⟩) ?_
                    refine q_go1 _ rfl (fun _ _ => AOp.conviI Try.underlying5 Try.underlying3 rfl rfl (by first | omega | (simp <;> omega) | (simp at * <;> omega)) (by first | omega | (simp <;> omega) | (simp at * <;> omega)) ⟨rfl, rfl⟩) ?_
                    refine q_go1 _ rfl (fun _ _ => AOp.addE rfl rfl rfl (by first | omega | (simp <;> omega) | (simp at * <;> omega)) (by first | omega | (simp <;> omega) | (simp at * <;> omega)) ⟨rfl, rfl⟩) ?_
                    refine q_go1 _ rfl (fun _ _ => AOp.build' (places := [(0, 1), (1, 1), (2, 1), (3, 1)]) Try.zeroValue25 (by kernel_rfl) (by kernel_rfl) Try.underlying25 (by kernel_rfl) rfl rfl rfl rfl ⟨rfl, rfl⟩) ?_
                    refine q_go1 _ rfl (fun _ _ => AOp.callP Try.call21 rfl rfl rfl (by exact ask d now (⟨(1 + (l[i].b.toNat : Int) % 3), (i : Int), (1 + (l[i].c.toNat : Int) % 3), 1 + (l[i].d.toNat : Int) % 2⟩ : Wt) hg.s hg.u k0 (by first | omega | (simp <;> omega) | (simp at * <;> omega)) (by first | omega | (simp <;> omega) | (simp at * <;> omega)) (by first | omega | (simp <;> omega) | (simp at * <;> omega))) ⟨rfl, rfl⟩) ?_
                    refine q_go1 _ rfl (fun _ _ => AOp.move rfl rfl ⟨rfl, rfl⟩) ?_
                    refine q_go1 _ rfl (fun _ _ => AOp.extract rfl rfl rfl ⟨rfl, rfl⟩) ?_
                    refine q_go1 _ rfl (fun _ _ => AOp.extract rfl rfl rfl ⟨rfl, rfl⟩) ?_
                    refine q_go1 _ rfl (fun _ _ => AOp.extract rfl rfl rfl ⟨rfl, rfl⟩) ?_
                    refine q_go1 _ rfl (fun _ _ => AOp.extract rfl rfl rfl ⟨rfl, rfl⟩) ?_
                    refine q_over ?_
                    refine q_over ?_
                    refine q_go1 _ rfl (fun _ _ => AOp.assign rfl rfl ⟨rfl, rfl⟩) ?_
                    refine q_go1 _ rfl (fun _ _ => AOp.assign rfl rfl ⟨rfl, rfl⟩) ?_
                    refine q_go1 _ rfl (fun _ _ => AOp.assign rfl rfl ⟨rfl, rfl⟩) ?_
                    refine q_nil ?_
                    refine c_over (by decide) ?_
                    refine c_over (by decide) ?_
                    refine c_over (by decide) ?_
                    refine c_over (by decide) ?_
                    refine c_over (by decide) ?_
                    refine c_over (by decide) ?_
                    refine c_over (by decide) ?_
                    refine c_over (by decide) ?_
                    refine c_over (by decide) ?_
                    refine c_over (by decide) ?_
                    refine c_over (by decide) ?_
                    refine c_over (by decide) ?_
                    refine c_over (by decide) ?_
                    refine c_over (by decide) ?_
                    refine c_over (by decide) ?_
                    refine c_over (by decide) ?_
                    refine c_over (by decide) ?_
                    refine c_over (by decide) ?_
                    refine c_over (by decide) ?_
                    refine c_over (by decide) ?_
                    refine c_go rfl (AOp.alloc Try.zeroValue30 (by kernel_rfl) rfl rfl ?_); intro b3; refine ⟨(by first | exact .head _ | exact .tail _ (.head _) | exact .tail _ (.tail _ (.head _))), ?_⟩
                    refine c_go rfl (AOp.storeB' Try.sizeOf30 rfl rfl rfl rfl rfl (pull_here _ _) rfl rfl ⟨(by first | exact .head _ | exact .tail _ (.head _) | exact .tail _ (.tail _ (.head _))), ?_⟩)
                    refine c_over (by decide) ?_
                    refine c_over (by decide) ?_
                    refine c_over (by decide) ?_
                    refine c_nil ?_
                    refine aw_seq ?_
                    refine aw_seq ?_
                    refine aw_region ?_
                    refine aops_cons rfl rfl (AOp.move rfl rfl ?_)
                    refine aops_cons rfl rfl (AOp.move rfl rfl ?_)
                    refine aops_guard 1 true 86 _ rfl rfl rfl rfl rfl (fun g7 => ?_) (fun g7 => ?_)
                    focus
                      have g7_ := g7
                      try simp only [List.length_map, List.length_cons, List.length_nil, nrm] at g7
                      all_goals try (exfalso; first | contradiction | (simp at g7_; done) | omega)
                      all_goals
                        refine AOp.fieldB Try.underlying30 rfl Try.sizeOf28 (by decide) rfl rfl rfl ?_
                        refine aops_guard 1 true 86 _ rfl rfl rfl rfl rfl (fun _ => ?_) (fun hh => by exfalso; first | (rw [g7_] at hh; exact absurd hh (by decide)) | (revert hh; simp [g7_]))
                        refine AOp.load1 Try.isAgg28 rfl rfl (reads_box _ (.tail _ (.head _))) rfl ?_
                        refine aops_guard 1 true 86 _ rfl rfl rfl rfl rfl (fun _ => ?_) (fun hh => by exfalso; first | (rw [g7_] at hh; exact absurd hh (by decide)) | (revert hh; simp [g7_]))
                        refine AOp.move rfl rfl ?_
                        refine aops_guard 1 true 86 _ rfl rfl rfl rfl rfl (fun _ => ?_) (fun hh => by exfalso; first | (rw [g7_] at hh; exact absurd hh (by decide)) | (revert hh; simp [g7_]))
                        refine AOp.move rfl rfl ?_
                        refine aops_guard 1 true 86 _ rfl rfl rfl rfl rfl (fun _ => ?_) (fun hh => by exfalso; first | (rw [g7_] at hh; exact absurd hh (by decide)) | (revert hh; simp [g7_]))
                        refine AOp.callP Try.call25 rfl rfl rfl (by exact rAheadL d.w _ _ (by first | omega | (simp <;> omega) | (simp at * <;> omega))) ?_
                        have hah := ask_ahead (d := d) (now := now) (w := (⟨(1 + (l[i].b.toNat : Int) % 3), (i : Int), (1 + (l[i].c.toNat : Int) % 3), 1 + (l[i].d.toNat : Int) % 2⟩ : Wt)) (by assumption)
                        dsimp only at hah
                        rw [hah]
                    rotate_right
                    focus
                      have g7_ := g7
                      try simp only [List.length_map, List.length_cons, List.length_nil, nrm] at g7
                      all_goals try (exfalso; first | contradiction | (simp at g7_; done) | omega)
                      all_goals
                        refine aops_guard 1 true 86 _ rfl rfl rfl rfl rfl (fun hh => by exfalso; first | (rw [g7_] at hh; exact absurd hh (by decide)) | (revert hh; simp [g7_])) (fun _ => ?_)
                        refine aops_guard 1 true 86 _ rfl rfl rfl rfl rfl (fun hh => by exfalso; first | (rw [g7_] at hh; exact absurd hh (by decide)) | (revert hh; simp [g7_])) (fun _ => ?_)
                        refine aops_guard 1 true 86 _ rfl rfl rfl rfl rfl (fun hh => by exfalso; first | (rw [g7_] at hh; exact absurd hh (by decide)) | (revert hh; simp [g7_])) (fun _ => ?_)
                        refine aops_guard 1 true 86 _ rfl rfl rfl rfl rfl (fun hh => by exfalso; first | (rw [g7_] at hh; exact absurd hh (by decide)) | (revert hh; simp [g7_])) (fun _ => ?_)
                    all_goals
                      first
                      | refine aops_cons rfl rfl (AOp.pick_t rfl rfl (by first | assumption | rfl) rfl ?_)
                      | refine aops_cons rfl rfl (AOp.pick_f rfl rfl (by first | assumption | rfl) rfl ?_)
                      refine aops_nil ?_
                      refine aw_cond _ rfl (fun h8 => ?_) (fun h8 => ?_)
                      focus
                        have h8_ := h8
                        try simp only [List.length_map, List.length_cons, List.length_nil, nrm] at h8
                        all_goals try (exfalso; first | contradiction | (simp at h8_; done) | omega)
                      rotate_right
                      focus
                        have h8_ := h8
                        try simp only [List.length_map, List.length_cons, List.length_nil, nrm] at h8
                        all_goals try (exfalso; first | contradiction | (simp at h8_; done) | omega)
                        all_goals
                          refine aw_skip ?_
                          skip
                      all_goals
                        refine aw_region ?_
                        refine aops_cons rfl rfl (AOp.loadN Try.isAgg30 Try.sizeOf30 rfl rfl (reads_box _ (.head _)) rfl rfl ?_)
                        refine aops_cons rfl rfl (AOp.storeB' Try.sizeOf30 rfl rfl rfl rfl rfl (pull_there (pull_there (pull_here _ _))) rfl rfl ?_)
                        refine aops_nil ?_
                        skip
                all_goals
                  skip
            all_goals
              refine aw_seq ?_
              refine aw_seq ?_
              refine aw_region ?_
              refine aops_cons rfl rfl (AOp.assign rfl rfl ?_)
              refine aops_nil ?_
              refine aw_block ?_
              first
              | (refine aw_loop (β := Nat × Int × Dk) (S := (fun (z0 : Nat × Int × Dk) => match z0 with | (k, n2, e) => [(1, q4s l), (5, .sc (.pointer (some ⟨b1, 0, none⟩))), (6, .sc (.int .i64 n2)), (7, .sc (.int .i64 (i : Int))), (15, .sc (.int .i64 ((k : Int) + 1)))])) (B := (fun (z0 : Nat × Int × Dk) => match z0 with | (k, n2, e) => [.box b1 30 e.e])) (pre := (fun (z0 : Nat × Int × Dk) => match z0 with | (k, n2, e) => k ≤ 3 ∧ 0 ≤ n2 ∧ n2 ≤ 1000 + 40 * ((i : Int) + 1) ∧ GD 3 e n2)) (μ := (fun (z0 : Nat × Int × Dk) => match z0 with | (k, n2, e) => 3 - k)) (0, now, (⟨drp d.l (1 + (l[i].b.toNat : Int) % 3) (1 + (l[i].c.toNat : Int) % 3), d.w⟩ : Dk)) ((wk_drop (A' := [.box b1 30 (Dk.e (⟨drp d.l (1 + (l[i].b.toNat : Int) % 3) (1 + (l[i].c.toNat : Int) % 3), d.w⟩ : Dk))]) ?_).trans (wk_env (sube_cons rfl (sube_cons rfl (sube_cons rfl (sube_cons rfl (sube_cons rfl (sube_nil _)))))))) ?_ ?_; (focus ((repeat (first | exact List.Sublist.slnil | apply List.Sublist.cons_cons | apply List.Sublist.cons)); done)))
              | (refine aw_loop (β := Nat × Int × Dk) (S := (fun (z0 : Nat × Int × Dk) => match z0 with | (k, n2, e) => [(1, q4s l), (5, .sc (.pointer (some ⟨b1, 0, none⟩))), (6, .sc (.int .i64 n2)), (7, .sc (.int .i64 (i : Int))), (15, .sc (.int .i64 ((k : Int) + 1)))])) (B := (fun (z0 : Nat × Int × Dk) => match z0 with | (k, n2, e) => [.box b1 30 e.e])) (pre := (fun (z0 : Nat × Int × Dk) => match z0 with | (k, n2, e) => k ≤ 3 ∧ 0 ≤ n2 ∧ n2 ≤ 1000 + 40 * ((i : Int) + 1) ∧ GD 3 e n2)) (μ := (fun (z0 : Nat × Int × Dk) => match z0 with | (k, n2, e) => 3 - k)) (0, (now + (l[i].d.toNat : Int) % 40), (runOf d (now + (l[i].d.toNat : Int) % 40)).1) ((wk_drop (A' := [.box b1 30 (Dk.e (runOf d (now + (l[i].d.toNat : Int) % 40)).1)]) ?_).trans (wk_env (sube_cons rfl (sube_cons rfl (sube_cons rfl (sube_cons rfl (sube_cons rfl (sube_nil _)))))))) ?_ ?_; (focus ((repeat (first | exact List.Sublist.slnil | apply List.Sublist.cons_cons | apply List.Sublist.cons)); done)))
              | (refine aw_loop (β := Nat × Int × Dk) (S := (fun (z0 : Nat × Int × Dk) => match z0 with | (k, n2, e) => [(1, q4s l), (5, .sc (.pointer (some ⟨b1, 0, none⟩))), (6, .sc (.int .i64 n2)), (7, .sc (.int .i64 (i : Int))), (15, .sc (.int .i64 ((k : Int) + 1)))])) (B := (fun (z0 : Nat × Int × Dk) => match z0 with | (k, n2, e) => [.box b1 30 e.e])) (pre := (fun (z0 : Nat × Int × Dk) => match z0 with | (k, n2, e) => k ≤ 3 ∧ 0 ≤ n2 ∧ n2 ≤ 1000 + 40 * ((i : Int) + 1) ∧ GD 3 e n2)) (μ := (fun (z0 : Nat × Int × Dk) => match z0 with | (k, n2, e) => 3 - k)) (0, now, (askD d now (⟨(1 + (l[i].b.toNat : Int) % 3), (i : Int), (1 + (l[i].c.toNat : Int) % 3), 1 + (l[i].d.toNat : Int) % 2⟩ : Wt)).1) ((wk_drop (A' := [.box b1 30 (Dk.e (askD d now (⟨(1 + (l[i].b.toNat : Int) % 3), (i : Int), (1 + (l[i].c.toNat : Int) % 3), 1 + (l[i].d.toNat : Int) % 2⟩ : Wt)).1)]) ?_).trans (wk_env (sube_cons rfl (sube_cons rfl (sube_cons rfl (sube_cons rfl (sube_cons rfl (sube_nil _)))))))) ?_ ?_; (focus ((repeat (first | exact List.Sublist.slnil | apply List.Sublist.cons_cons | apply List.Sublist.cons)); done)))
              · exact ⟨Nat.zero_le _, by omega, by omega, hA2⟩
              · rintro ⟨k, n2, e⟩ ⟨hk, hn0', hn', hA2⟩
                change AW _ _ _ ([(1, q4s l), (5, .sc (.pointer (some ⟨b1, 0, none⟩))), (6, .sc (.int .i64 n2)), (7, .sc (.int .i64 (i : Int))), (15, .sc (.int .i64 ((k : Int) + 1)))] : Env) ([.box b1 30 e.e] : List Blk) _
                have hel := hA2.lenl (by decide)
                have hew := hA2.lenw
                refine aw_seq ?_
                refine aw_seq ?_
                refine aw_region ?_
                refine aops_cons rfl rfl (AOp.move rfl rfl ?_)
                refine aops_cons rfl rfl (AOp.leq rfl rfl rfl ?_)
                refine aops_nil ?_
                refine aw_cond _ rfl (fun h9 => ?_) (fun h9 => ?_)
                focus
                  have h9_ := h9
                  try simp only [List.length_map, List.length_cons, List.length_nil, nrm] at h9
                  all_goals try (exfalso; first | contradiction | (simp at h9_; done) | omega)
                  all_goals
                    refine aw_skip ?_
                    skip
                rotate_right
                focus
                  have h9_ := h9
                  try simp only [List.length_map, List.length_cons, List.length_nil, nrm] at h9
                  all_goals try (exfalso; first | contradiction | (simp at h9_; done) | omega)
                  all_goals
                    refine aw_exit ?_
                    refine aw_seq ?_
                    refine aw_region ?_
                    refine aops_cons rfl rfl (AOp.fieldB Try.underlying30 rfl Try.sizeOf27 (by decide) rfl rfl rfl ?_)
                    refine aops_cons rfl rfl (AOp.load1 Try.isAgg27 rfl rfl (reads_box _ (.head _)) rfl ?_)
                    refine aops_cons rfl rfl (AOp.callP Try.call27 rfl rfl rfl (by exact rMayT (by decide) hA2) ?_)
                    refine aops_cons rfl rfl (AOp.not rfl rfl ?_)
                    refine aops_cons rfl rfl (AOp.move rfl rfl ?_)
                    refine aops_guard 4 false 150 _ rfl rfl rfl rfl rfl (fun g10 => ?_) (fun g10 => ?_)
                    focus
                      have g10_ := g10
                      try simp only [List.length_map, List.length_cons, List.length_nil, nrm] at g10
                      all_goals try (exfalso; first | contradiction | (simp at g10_; done) | omega)
                      all_goals
                        refine AOp.fieldB Try.underlying30 rfl Try.sizeOf28 (by decide) rfl rfl rfl ?_
                        refine aops_guard 4 false 150 _ rfl rfl rfl rfl rfl (fun _ => ?_) (fun hh => by exfalso; first | (rw [g10_] at hh; exact absurd hh (by decide)) | (revert hh; simp [g10_]))
                        refine AOp.load1 Try.isAgg28 rfl rfl (reads_box _ (.head _)) rfl ?_
                        refine aops_guard 4 false 150 _ rfl rfl rfl rfl rfl (fun _ => ?_) (fun hh => by exfalso; first | (rw [g10_] at hh; exact absurd hh (by decide)) | (revert hh; simp [g10_]))
                        refine AOp.lenS (by first | exact List.length_map _ | rfl) Try.underlying28 rfl rfl ?_
                        refine aops_guard 4 false 150 _ rfl rfl rfl rfl rfl (fun _ => ?_) (fun hh => by exfalso; first | (rw [g10_] at hh; exact absurd hh (by decide)) | (revert hh; simp [g10_]))
                        refine AOp.gtr rfl rfl rfl ?_
                    rotate_right
                    focus
                      have g10_ := g10
                      try simp only [List.length_map, List.length_cons, List.length_nil, nrm] at g10
                      all_goals try (exfalso; first | contradiction | (simp at g10_; done) | omega)
                    all_goals
                      refine aops_cons rfl rfl (AOp.pick_f rfl rfl (by first | assumption | rfl) rfl ?_)
                      refine aops_nil ?_
                      refine aw_cond _ rfl (fun h11 => ?_) (fun h11 => ?_)
                      focus
                        have h11_ := h11
                        try simp only [List.length_map, List.length_cons, List.length_nil, nrm] at h11
                        all_goals try (exfalso; first | contradiction | (simp at h11_; done) | omega)
                      rotate_right
                      focus
                        have h11_ := h11
                        try simp only [List.length_map, List.length_cons, List.length_nil, nrm] at h11
                        all_goals try (exfalso; first | contradiction | (simp at h11_; done) | omega)
                        all_goals
                          refine aw_skip ?_
                          skip
                      all_goals
                        refine aw_region ?_
                        refine aops_cons rfl rfl (AOp.move rfl rfl ?_)
                        refine aops_cons rfl rfl (AOp.addE rfl rfl rfl (by first | omega | (simp <;> omega) | (simp at * <;> omega)) (by first | omega | (simp <;> omega) | (simp at * <;> omega)) ?_)
                        refine aops_cons rfl rfl (AOp.assign rfl rfl ?_)
                        refine aops_nil ?_
                        refine ⟨(i + 1, n2, e), ⟨by omega, hn0', by omega, hA2⟩, by dsimp only; omega, (wk_env (sube_cons rfl (sube_cons rfl (sube_cons rfl (sube_cons rfl (sube_nil _))))))⟩
                all_goals
                  refine aw_seq ?_
                  refine aw_block ?_
                  refine aw_seq ?_
                  refine aw_region ?_
                  refine aops_cons rfl rfl (AOp.assign rfl rfl ?_)
                  refine aops_cons rfl rfl (AOp.assign rfl rfl ?_)
                  refine aops_nil ?_
                  refine aw_seq ?_
                  refine aw_seq ?_
                  refine aw_region ?_
                  refine aops_cons rfl rfl (AOp.assign rfl rfl ?_)
                  refine aops_nil ?_
                  refine aw_block ?_
                  refine aw_loop (β := Nat) (S := (fun (z0 : Nat) => match z0 with | j => [(1, q4s l), (5, .sc (.pointer (some ⟨b1, 0, none⟩))), (6, .sc (.int .i64 n2)), (7, .sc (.int .i64 (i : Int))), (15, .sc (.int .i64 ((k : Int) + 1))), (16, .sc (.int .i64 ((cnt (fun c => decide (hld e.l n2 c ((k : Int) + 1) = 2)) j : Nat) : Int))), (17, .sc (.int .i64 ((cnt (fun c => decide (hld e.l n2 c ((k : Int) + 1) ≠ 0)) j : Nat) : Int))), (18, .sc (.int .i64 ((j : Int) + 1)))])) (B := (fun (z0 : Nat) => match z0 with | j => [.box b1 30 e.e])) (pre := (fun (z0 : Nat) => match z0 with | j => j ≤ 3)) (μ := (fun (z0 : Nat) => match z0 with | j => 3 - j)) 0 (wk_env (sube_cons rfl (sube_cons rfl (sube_cons rfl (sube_cons rfl (sube_cons rfl (sube_cons rfl (sube_cons rfl (sube_cons rfl (sube_nil _)))))))))) ?_ ?_
                  · exact Nat.zero_le _
                  · rintro j hj
                    change AW _ _ _ ([(1, q4s l), (5, .sc (.pointer (some ⟨b1, 0, none⟩))), (6, .sc (.int .i64 n2)), (7, .sc (.int .i64 (i : Int))), (15, .sc (.int .i64 ((k : Int) + 1))), (16, .sc (.int .i64 ((cnt (fun c => decide (hld e.l n2 c ((k : Int) + 1) = 2)) j : Nat) : Int))), (17, .sc (.int .i64 ((cnt (fun c => decide (hld e.l n2 c ((k : Int) + 1) ≠ 0)) j : Nat) : Int))), (18, .sc (.int .i64 ((j : Int) + 1)))] : Env) ([.box b1 30 e.e] : List Blk) _
                    replace hj : j ≤ 3 := hj
                    have cb1 := cnt_le (fun c => decide (hld e.l n2 c ((k : Int) + 1) = 2)) j
                    have cb2 := cnt_le (fun c => decide (hld e.l n2 c ((k : Int) + 1) ≠ 0)) j
                    refine aw_seq ?_
                    refine aw_seq ?_
                    refine aw_region ?_
                    refine aops_cons rfl rfl (AOp.move rfl rfl ?_)
                    refine aops_cons rfl rfl (AOp.leq rfl rfl rfl ?_)
                    refine aops_nil ?_
                    refine aw_cond _ rfl (fun h12 => ?_) (fun h12 => ?_)
                    focus
                      have h12_ := h12
                      try simp only [List.length_map, List.length_cons, List.length_nil, nrm] at h12
                      all_goals try (exfalso; first | contradiction | (simp at h12_; done) | omega)
                      all_goals
                        refine aw_skip ?_
                        skip
                    rotate_right
                    focus
                      have h12_ := h12
                      try simp only [List.length_map, List.length_cons, List.length_nil, nrm] at h12
                      all_goals try (exfalso; first | contradiction | (simp at h12_; done) | omega)
                      all_goals
                        refine aw_exit ?_
                        refine aw_seq ?_
                        obtain rfl : j = 3 := by omega
                        have hc := gd_cnt (f := (k : Int) + 1) hA2
                        refine aw_region ?_
                        refine aops_cons rfl rfl (AOp.move rfl rfl ?_)
                        refine aops_cons rfl rfl (AOp.gtr rfl rfl rfl ?_)
                        refine aops_cons rfl rfl (AOp.move rfl rfl ?_)
                        refine aops_guard 2 true 142 _ rfl rfl rfl rfl rfl (fun g13 => ?_) (fun g13 => ?_)
                        focus
                          have g13_ := g13
                          try simp only [List.length_map, List.length_cons, List.length_nil, nrm] at g13
                          all_goals try (exfalso; first | contradiction | (simp at g13_; done) | omega)
                          all_goals
                            refine AOp.move rfl rfl ?_
                            refine aops_guard 2 true 142 _ rfl rfl rfl rfl rfl (fun _ => ?_) (fun hh => by exfalso; first | (rw [g13_] at hh; exact absurd hh (by decide)) | (revert hh; simp [g13_]))
                            refine AOp.gtr rfl rfl rfl ?_
                        rotate_right
                        focus
                          have g13_ := g13
                          try simp only [List.length_map, List.length_cons, List.length_nil, nrm] at g13
                          all_goals try (exfalso; first | contradiction | (simp at g13_; done) | omega)
                          all_goals
                            refine aops_guard 2 true 142 _ rfl rfl rfl rfl rfl (fun hh => by exfalso; first | (rw [g13_] at hh; exact absurd hh (by decide)) | (revert hh; simp [g13_])) (fun _ => ?_)
                        all_goals
                          first
                          | refine aops_cons rfl rfl (AOp.pick_t rfl rfl (by first | assumption | rfl) rfl ?_)
                          | refine aops_cons rfl rfl (AOp.pick_f rfl rfl (by first | assumption | rfl) rfl ?_)
                          refine aops_nil ?_
                          refine aw_cond _ rfl (fun h14 => ?_) (fun h14 => ?_)
                          focus
                            have h14_ := h14
                            try simp only [List.length_map, List.length_cons, List.length_nil, nrm] at h14
                            all_goals try (exfalso; first | contradiction | (simp at h14_; done) | omega)
                          rotate_right
                          focus
                            have h14_ := h14
                            try simp only [List.length_map, List.length_cons, List.length_nil, nrm] at h14
                            all_goals try (exfalso; first | contradiction | (simp at h14_; done) | omega)
                            all_goals
                              refine aw_skip ?_
                              skip
                          all_goals
                            refine aw_region ?_
                            refine aops_cons rfl rfl (AOp.move rfl rfl ?_)
                            refine aops_cons rfl rfl (AOp.addE rfl rfl rfl (by first | omega | (simp <;> omega) | (simp at * <;> omega)) (by first | omega | (simp <;> omega) | (simp at * <;> omega)) ?_)
                            refine aops_cons rfl rfl (AOp.assign rfl rfl ?_)
                            refine aops_nil ?_
                            refine ⟨(k + 1, n2, e), ⟨by omega, hn0', hn', hA2⟩, by dsimp only; omega, (wk_env (sube_cons rfl (sube_cons rfl (sube_cons rfl (sube_cons rfl (sube_cons rfl (sube_nil _)))))))⟩
                    all_goals
                      refine aw_seq ?_
                      refine aw_block ?_
                      refine aw_seq ?_
                      refine aw_region ?_
                      refine aops_cons rfl rfl (AOp.fieldB Try.underlying30 rfl Try.sizeOf27 (by decide) rfl rfl rfl ?_)
                      refine aops_cons rfl rfl (AOp.load1 Try.isAgg27 rfl rfl (reads_box _ (.head _)) rfl ?_)
                      refine aops_cons rfl rfl (AOp.move rfl rfl ?_)
                      refine aops_cons rfl rfl (AOp.move rfl rfl ?_)
                      refine aops_cons rfl rfl (AOp.move rfl rfl ?_)
                      refine aops_cons rfl rfl (AOp.callP Try.call26 rfl rfl rfl (by exact rHolds e.l _ _ _ hA2.s (by first | omega | (simp <;> omega) | (simp at * <;> omega))) ?_)
                      refine aops_cons rfl rfl (AOp.assign rfl rfl ?_)
                      refine aops_nil ?_
                      refine aw_seq ?_
                      refine aw_seq ?_
                      refine aw_region ?_
                      refine aops_cons rfl rfl (AOp.move rfl rfl ?_)
                      refine aops_cons rfl rfl (AOp.neq rfl rfl rfl ?_)
                      refine aops_nil ?_
                      refine aw_cond _ rfl (fun h15 => ?_) (fun h15 => ?_)
                      focus
                        have h15_ := h15
                        try simp only [List.length_map, List.length_cons, List.length_nil, nrm] at h15
                        all_goals try (exfalso; first | contradiction | (simp at h15_; done) | omega)
                        all_goals
                          refine aw_region ?_
                          refine aops_cons rfl rfl (AOp.move rfl rfl ?_)
                          refine aops_cons rfl rfl (AOp.addE rfl rfl rfl (by first | omega | (simp <;> omega) | (simp at * <;> omega)) (by first | omega | (simp <;> omega) | (simp at * <;> omega)) ?_)
                          refine aops_cons rfl rfl (AOp.assign rfl rfl ?_)
                          refine aops_nil ?_
                          skip
                      rotate_right
                      focus
                        have h15_ := h15
                        try simp only [List.length_map, List.length_cons, List.length_nil, nrm] at h15
                        all_goals try (exfalso; first | contradiction | (simp at h15_; done) | omega)
                        all_goals
                          refine aw_skip ?_
                          skip
                      all_goals
                        refine aw_seq ?_
                        refine aw_region ?_
                        refine aops_cons rfl rfl (AOp.move rfl rfl ?_)
                        refine aops_cons rfl rfl (AOp.eql rfl rfl rfl ?_)
                        refine aops_nil ?_
                        refine aw_cond _ rfl (fun h16 => ?_) (fun h16 => ?_)
                        focus
                          have h16_ := h16
                          try simp only [List.length_map, List.length_cons, List.length_nil, nrm] at h16
                          all_goals try (exfalso; first | contradiction | (simp at h16_; done) | omega)
                          all_goals
                            refine aw_region ?_
                            refine aops_cons rfl rfl (AOp.move rfl rfl ?_)
                            refine aops_cons rfl rfl (AOp.addE rfl rfl rfl (by first | omega | (simp <;> omega) | (simp at * <;> omega)) (by first | omega | (simp <;> omega) | (simp at * <;> omega)) ?_)
                            refine aops_cons rfl rfl (AOp.assign rfl rfl ?_)
                            refine aops_nil ?_
                            skip
                        rotate_right
                        focus
                          have h16_ := h16
                          try simp only [List.length_map, List.length_cons, List.length_nil, nrm] at h16
                          all_goals try (exfalso; first | contradiction | (simp at h16_; done) | omega)
                          all_goals
                            refine aw_skip ?_
                            skip
                        all_goals
                          refine aw_region ?_
                          refine aops_cons rfl rfl (AOp.move rfl rfl ?_)
                          refine aops_cons rfl rfl (AOp.addE rfl rfl rfl (by first | omega | (simp <;> omega) | (simp at * <;> omega)) (by first | omega | (simp <;> omega) | (simp at * <;> omega)) ?_)
                          refine aops_cons rfl rfl (AOp.assign rfl rfl ?_)
                          refine aops_nil ?_
                          refine ⟨j + 1, ?_, ?_, (wk_env (sube_cons rfl (sube_cons rfl (sube_cons rfl (sube_cons rfl (sube_cons rfl (sube_cons (by first | rfl | (refine congrArg some (congrArg AV.sc (congrArg (Value.int .i64) ?_)); simp only [cnt, decide_eq_true_eq]; split <;> omega)) (sube_cons (by first | rfl | (refine congrArg some (congrArg AV.sc (congrArg (Value.int .i64) ?_)); simp only [cnt, decide_eq_true_eq]; split <;> omega)) (sube_cons rfl (sube_nil _))))))))))⟩
                          · dsimp only; omega
                          · dsimp only; omega

end Go.Proofs.Ytdacnebhlgibhaa
