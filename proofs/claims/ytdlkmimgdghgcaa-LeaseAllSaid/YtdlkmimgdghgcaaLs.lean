/- Own text: who may hold what, by the document. -/
import Derived.Test.YtdlkmimgdghgcaaLp
import Derived.Test.YtdlkmimgdghgcaaAwN
set_option linter.unusedVariables false
set_option linter.unusedSimpArgs false
set_option linter.all false
set_option maxRecDepth 100000
set_option maxHeartbeats 2000000
namespace Go.Proofs.Ytdlkmimgdghgcaa
open Go Go.Aw

theorem rHolds (l : List L) (now c f : Int) (hs : srt l) (hl : l.length ≤ 1000000) : Pur Try.prog 23 [ls l, .sc (.int .i64 now), .sc (.int .i64 c), .sc (.int .i64 f)] (.sc (.int .i64 (hld l now c f))) := by
  have h := refHolds l now c f hl
  rwa [rhld_eq hs] at h
theorem rClash (l : List L) (now c f m : Int) (hs : srt l) (hc : ∀ y ∈ l, 1 ≤ y.c ∧ y.c ≤ 3) (hl : l.length ≤ 1000000) : Pur Try.prog 29 [ls l, .sc (.int .i64 now), .sc (.int .i64 c), .sc (.int .i64 f), .sc (.int .i64 m)] (ints (cls l now c f m)) := by
  have h := refClash l now c f m hl
  rwa [rcl_eq hs hc] at h
theorem rGrant (l : List L) (x : L) (hs : srt l) (hl : l.length ≤ 100000) : Pur Try.prog 33 [ls l, .ag x.e] (ls (gr2 l x)) := by
  have h := refGrant l x hl
  rwa [rgr_eq hs] at h
theorem rDrop (l : List L) (c f : Int) (hl : l.length ≤ 1000000) : Pur Try.prog 26 [ls l, .sc (.int .i64 c), .sc (.int .i64 f)] (ls (drp l c f)) := acalls_frz (refDrop l c f hl)
theorem rPrune (l : List L) (now : Int) (hl : l.length ≤ 1000000) : Pur Try.prog 35 [ls l, .sc (.int .i64 now)] (ls (prn l now)) := acalls_frz (refPrune l now hl)

theorem leaseAllWalk (l : List UInt8) (w : List L) (z : L) (t : UInt8) (c f : Int) : ACalls Try.prog 4 [bytes l, ls w, .ag z.e, i8 t, .sc (.int .i64 c), .sc (.int .i64 f)] [] (fun r A' => r = .sc (.bool true)) (fun _ _ => False) := by
  unfold i8 bytes
  have ut := UInt8.toNat_lt t
  refine acallsN Try.func4 rfl Try.ntmps4 rfl ?_
  refine aw_seq ?_
  refine aw_region ?_
  refine aops_cons rfl rfl (AOp.boxI rfl rfl rfl ?_)
  refine aops_cons rfl rfl (AOp.assign rfl rfl ?_)
  refine aops_nil ?_
  refine aw_seq ?_
  refine aw_seq ?_
  refine aw_region ?_
  refine aops_cons rfl rfl (AOp.callP Try.call20 rfl rfl rfl begun ?_)
  refine aops_cons rfl rfl (AOp.not rfl rfl ?_)
  refine aops_nil ?_
  refine aw_cond _ rfl (fun h1 => ?_) (fun h1 => ?_)
  focus
    have h1_ := h1
    try simp only [List.length_map, List.length_cons, List.length_nil, nrm] at h1
    all_goals try (exfalso; first | (simp at h1_; done) | omega)
    all_goals
      refine aw_seq ?_
      refine aw_region ?_
      refine aops_cons rfl rfl (AOp.assign rfl rfl ?_)
      refine aops_nil ?_
      refine aw_ret ?_
      refine ⟨_, (res1 Try.results4 rfl), ?_⟩
      first | rfl | (simp; done) | (simp; omega)
  rotate_right
  focus
    have h1_ := h1
    try simp only [List.length_map, List.length_cons, List.length_nil, nrm] at h1
    all_goals try (exfalso; first | (simp at h1_; done) | omega)
    all_goals
      refine aw_skip ?_
      skip
  all_goals
    refine aw_seq ?_
    refine aw_seq ?_
    refine aw_region ?_
    refine aops_cons rfl rfl (AOp.move rfl rfl ?_)
    first
    | refine aops_cons rfl rfl (AOp.lenS (by first | exact List.length_map _ | rfl) Try.underlying22 rfl rfl ?_)
    | refine aops_cons rfl rfl (AOp.lenN Try.underlying22 rfl rfl ?_)
    | refine aops_cons rfl rfl (AOp.lenR (by first | exact List.length_map _ | rfl) Try.underlying22 (.head _) rfl rfl ?_)
    | refine aops_cons rfl rfl (AOp.lenR (by first | exact List.length_map _ | rfl) Try.underlying22 (.tail _ (.head _)) rfl rfl ?_)
    refine aops_cons rfl rfl (AOp.gtr rfl rfl rfl ?_)
    refine aops_cons rfl rfl (AOp.move rfl rfl ?_)
    refine aops_guard 3 false 23 _ rfl rfl rfl rfl rfl (fun g2 => ?_) (fun g2 => ?_)
    focus
      have g2_ := g2
      try simp only [List.length_map, List.length_cons, List.length_nil, nrm] at g2
      all_goals try (exfalso; first | (simp at g2_; done) | omega)
      all_goals
        refine AOp.move rfl rfl ?_
        refine aops_guard 3 false 23 _ rfl rfl rfl rfl rfl (fun _ => ?_) (fun hh => by exfalso; first | (rw [g2_] at hh; exact absurd hh (by decide)) | (revert hh; simp [g2_]))
        first
        | refine AOp.lenS (by first | exact List.length_map _ | rfl) Try.underlying36 rfl rfl ?_
        | refine AOp.lenN Try.underlying36 rfl rfl ?_
        | refine AOp.lenR (by first | exact List.length_map _ | rfl) Try.underlying36 (.head _) rfl rfl ?_
        | refine AOp.lenR (by first | exact List.length_map _ | rfl) Try.underlying36 (.tail _ (.head _)) rfl rfl ?_
        refine aops_guard 3 false 23 _ rfl rfl rfl rfl rfl (fun _ => ?_) (fun hh => by exfalso; first | (rw [g2_] at hh; exact absurd hh (by decide)) | (revert hh; simp [g2_]))
        refine AOp.gtr rfl rfl rfl ?_
    rotate_right
    focus
      have g2_ := g2
      try simp only [List.length_map, List.length_cons, List.length_nil, nrm] at g2
      all_goals try (exfalso; first | (simp at g2_; done) | omega)
      all_goals
        refine aops_guard 3 false 23 _ rfl rfl rfl rfl rfl (fun hh => by exfalso; first | (rw [g2_] at hh; exact absurd hh (by decide)) | (revert hh; simp [g2_])) (fun _ => ?_)
        refine aops_guard 3 false 23 _ rfl rfl rfl rfl rfl (fun hh => by exfalso; first | (rw [g2_] at hh; exact absurd hh (by decide)) | (revert hh; simp [g2_])) (fun _ => ?_)
    all_goals
      first
      | refine aops_cons rfl rfl (AOp.pick_t rfl rfl (by first | assumption | rfl) rfl ?_)
      | refine aops_cons rfl rfl (AOp.pick_f rfl rfl (by first | assumption | rfl) rfl ?_)
      refine aops_nil ?_
      refine aw_cond _ rfl (fun h3 => ?_) (fun h3 => ?_)
      focus
        have h3_ := h3
        try simp only [List.length_map, List.length_cons, List.length_nil, nrm] at h3
        all_goals try (exfalso; first | (simp at h3_; done) | omega)
        all_goals
          refine aw_seq ?_
          refine aw_region ?_
          refine aops_cons rfl rfl (AOp.assign rfl rfl ?_)
          refine aops_nil ?_
          refine aw_ret ?_
          refine ⟨_, (res1 Try.results4 rfl), ?_⟩
          first | rfl | (simp; done) | (simp; omega)
      rotate_right
      focus
        have h3_ := h3
        try simp only [List.length_map, List.length_cons, List.length_nil, nrm] at h3
        all_goals try (exfalso; first | (simp at h3_; done) | omega)
        all_goals
          refine aw_skip ?_
          skip
      all_goals
        refine aw_seq ?_
        refine aw_region ?_
        refine aops_cons rfl rfl (AOp.move rfl rfl ?_)
        refine aops_cons rfl rfl (AOp.callN (Af := []) Try.call14 rfl rfl rfl (List.Perm.refl _) (by exact made l) (fun r' A'' hr => ?_))
        obtain ⟨b, rfl, rfl⟩ := hr
        try unfold picksB
        refine aops_cons rfl rfl (AOp.callN (Af := []) Try.call21 rfl rfl rfl (List.Perm.refl _) (by exact leases l 0 b (Nat.zero_le _) (by first | omega | (simp <;> omega) | (simp at * <;> omega))) (fun r' A'' hr => ?_))
        obtain ⟨x, n', rfl, hg, hn', rfl⟩ := hr
        have hs := hg.1
        have hx := hg.2.1
        have hc3 : ∀ y ∈ x, 1 ≤ y.c ∧ y.c ≤ 3 := fun y hy => by have := hg.2.2 y hy; omega
        have hmy : may x = true := may_of hs hg.ok
        refine aops_cons rfl rfl (AOp.assign rfl rfl ?_)
        refine aops_nil ?_
        refine aw_seq ?_
        refine aw_seq ?_
        refine aw_region ?_
        refine aops_cons rfl rfl (AOp.assign rfl rfl ?_)
        refine aops_nil ?_
        refine aw_block ?_
        refine aw_loop (β := Nat) (S := (fun (z0 : Nat) => match z0 with | i => [(1, ls w), (3, .sc (.int .u8 (t.toNat : Int))), (4, .sc (.int .i64 c)), (5, .sc (.int .i64 f)), (8, .im z.e), (13, ls x), (14, .sc (.int .i64 (i : Int)))])) (B := (fun (z0 : Nat) => match z0 with | i => [])) (pre := (fun (z0 : Nat) => match z0 with | i => i ≤ 5)) (μ := (fun (z0 : Nat) => match z0 with | i => 5 - i)) 0 ((wk_drop (List.nil_sublist _)).trans (wk_env (sube_cons rfl (sube_cons rfl (sube_cons rfl (sube_cons rfl (sube_cons rfl (sube_cons rfl (sube_cons rfl (sube_nil _)))))))))) ?_ ?_
        · exact Nat.zero_le _
        · rintro i hi
          change AW _ _ _ ([(1, ls w), (3, .sc (.int .u8 (t.toNat : Int))), (4, .sc (.int .i64 c)), (5, .sc (.int .i64 f)), (8, .im z.e), (13, ls x), (14, .sc (.int .i64 (i : Int)))] : Env) ([] : List Blk) _
          replace hi : i ≤ 5 := hi
          refine aw_seq ?_
          refine aw_seq ?_
          refine aw_region ?_
          refine aops_cons rfl rfl (AOp.move rfl rfl ?_)
          refine aops_cons rfl rfl (AOp.lss rfl rfl rfl ?_)
          refine aops_nil ?_
          refine aw_cond _ rfl (fun h4 => ?_) (fun h4 => ?_)
          focus
            have h4_ := h4
            try simp only [List.length_map, List.length_cons, List.length_nil, nrm] at h4
            all_goals try (exfalso; first | (simp at h4_; done) | omega)
            all_goals
              refine aw_skip ?_
              skip
          rotate_right
          focus
            have h4_ := h4
            try simp only [List.length_map, List.length_cons, List.length_nil, nrm] at h4
            all_goals try (exfalso; first | (simp at h4_; done) | omega)
            all_goals
              refine aw_exit ?_
              refine aw_seq ?_
              refine aw_region ?_
              refine aops_cons rfl rfl (AOp.move rfl rfl ?_)
              refine aops_cons rfl rfl (AOp.remE rfl rfl rfl (by first | decide | omega) (by first | omega | (simp <;> omega) | (simp at * <;> omega)) ?_)
              first
              | refine aops_cons rfl rfl (AOp.conviI Try.underlying5 Try.underlying3 rfl rfl (by first | omega | (simp <;> omega) | (simp at * <;> omega)) (by first | omega | (simp <;> omega) | (simp at * <;> omega)) ?_)
              | refine aops_cons rfl rfl (AOp.convi Try.underlying5 Try.underlying3 rfl rfl rfl ?_)
              first
              | refine aops_cons rfl rfl (AOp.addE rfl rfl rfl (by first | omega | (simp <;> omega) | (simp at * <;> omega)) (by first | omega | (simp <;> omega) | (simp at * <;> omega)) ?_)
              | refine aops_cons rfl rfl (AOp.add rfl rfl rfl rfl ?_)
              refine aops_cons rfl rfl (AOp.move rfl rfl ?_)
              first
              | refine aops_cons rfl rfl (AOp.quoE8 rfl rfl rfl (by first | decide | omega) (by first | omega | (simp <;> omega) | (simp at * <;> omega)) (by first | omega | (simp <;> omega) | (simp at * <;> omega)) ?_)
              | refine aops_cons rfl rfl (AOp.quo rfl rfl rfl (by first | decide | omega) rfl ?_)
              refine aops_cons rfl rfl (AOp.remE rfl rfl rfl (by first | decide | omega) (by first | omega | (simp <;> omega) | (simp at * <;> omega)) ?_)
              first
              | refine aops_cons rfl rfl (AOp.conviI Try.underlying5 Try.underlying3 rfl rfl (by first | omega | (simp <;> omega) | (simp at * <;> omega)) (by first | omega | (simp <;> omega) | (simp at * <;> omega)) ?_)
              | refine aops_cons rfl rfl (AOp.convi Try.underlying5 Try.underlying3 rfl rfl rfl ?_)
              first
              | refine aops_cons rfl rfl (AOp.addE rfl rfl rfl (by first | omega | (simp <;> omega) | (simp at * <;> omega)) (by first | omega | (simp <;> omega) | (simp at * <;> omega)) ?_)
              | refine aops_cons rfl rfl (AOp.add rfl rfl rfl rfl ?_)
              refine aops_cons rfl rfl (AOp.move rfl rfl ?_)
              refine aops_cons rfl rfl (AOp.remE rfl rfl rfl (by first | decide | omega) (by first | omega | (simp <;> omega) | (simp at * <;> omega)) ?_)
              first
              | refine aops_cons rfl rfl (AOp.conviI Try.underlying5 Try.underlying3 rfl rfl (by first | omega | (simp <;> omega) | (simp at * <;> omega)) (by first | omega | (simp <;> omega) | (simp at * <;> omega)) ?_)
              | refine aops_cons rfl rfl (AOp.convi Try.underlying5 Try.underlying3 rfl rfl rfl ?_)
              first
              | refine aops_cons rfl rfl (AOp.addE rfl rfl rfl (by first | omega | (simp <;> omega) | (simp at * <;> omega)) (by first | omega | (simp <;> omega) | (simp at * <;> omega)) ?_)
              | refine aops_cons rfl rfl (AOp.add rfl rfl rfl rfl ?_)
              refine aops_cons rfl rfl (AOp.move rfl rfl ?_)
              first
              | refine aops_cons rfl rfl (AOp.conviI Try.underlying5 Try.underlying3 rfl rfl (by first | omega | (simp <;> omega) | (simp at * <;> omega)) (by first | omega | (simp <;> omega) | (simp at * <;> omega)) ?_)
              | refine aops_cons rfl rfl (AOp.convi Try.underlying5 Try.underlying3 rfl rfl rfl ?_)
              first
              | refine aops_cons rfl rfl (AOp.mulE rfl rfl rfl (by first | omega | (simp <;> omega) | (simp at * <;> omega)) (by first | omega | (simp <;> omega) | (simp at * <;> omega)) ?_)
              | refine aops_cons rfl rfl (AOp.mul rfl rfl rfl rfl ?_)
              refine aops_cons rfl rfl (AOp.build' (places := [(0, 1), (1, 1), (2, 1), (3, 1)]) Try.zeroValue58 (by kernel_rfl) (by kernel_rfl) Try.underlying58 (by kernel_rfl) rfl rfl rfl rfl ?_)
              refine aops_cons rfl rfl (AOp.alloc Try.zeroValue58 (by kernel_rfl) rfl rfl ?_); intro b1
              first
              | refine aops_cons rfl rfl (AOp.storeB' Try.sizeOf58 rfl rfl rfl rfl rfl (pull_here _ _) rfl rfl ?_)
              | refine aops_cons rfl rfl (AOp.storeB' Try.sizeOf58 rfl rfl rfl rfl rfl (pull_there (pull_here _ _)) rfl rfl ?_)
              | refine aops_cons rfl rfl (AOp.storeR' Try.sizeOf58 rfl rfl rfl rfl rfl (pull_here _ _) (by first | exact idx_nat (by first | omega | (simp <;> omega) | (simp at * <;> omega)) | exact idx_map (by first | omega | (simp <;> omega) | (simp at * <;> omega)) | assumption) rfl rfl rfl ?_)
              | refine aops_cons rfl rfl (AOp.storeR' Try.sizeOf58 rfl rfl rfl rfl rfl (pull_there (pull_here _ _)) (by first | exact idx_nat (by first | omega | (simp <;> omega) | (simp at * <;> omega)) | exact idx_map (by first | omega | (simp <;> omega) | (simp at * <;> omega)) | assumption) rfl rfl rfl ?_)
              refine aops_nil ?_
              refine aw_seq ?_
              refine aw_draw 56 [0, 0, 0, 0, 0, 0, 0, 0, 0, 0, 0, 0, 0, 0, 0, 0, 0, 0, 0, 0, 0, 0, 0, 0, 0, 0, 0, 0, 0, 0, 0, 0, 0, 0, 0, 0, 0, 0, 0, 0, 0, 0, 0, 0, 0, 0, 0, 0, 0, 0, 0, 0, 0, 0, 0, 0] (by kernel_rfl) (by kernel_rfl) ?_
              refine psq_cons _ rfl (core0 (AOp.move rfl rfl ⟨rfl, rfl⟩)) ?_
              refine psq_cons _ rfl (core0 (AOp.callP Try.call30 rfl rfl rfl (by exact mayT hmy (by first | omega | (simp <;> omega) | (simp at * <;> omega))) ⟨rfl, rfl⟩)) ?_
              refine psq_cons _ rfl (core0 (AOp.move rfl rfl ⟨rfl, rfl⟩)) ?_
              refine psq_guard 2 true 103 _ rfl rfl rfl rfl (fun g5 => ?_) (fun g5 => ?_)
              focus
                have g5_ := g5
                try simp only [List.length_map, List.length_cons, List.length_nil, nrm] at g5
                all_goals try (exfalso; first | (simp at g5_; done) | omega)
                all_goals
                  refine psg _ (core0 (AOp.move rfl rfl ⟨rfl, rfl⟩)) ?_
                  refine psq_guard 2 true 103 _ rfl rfl rfl rfl (fun _ => ?_) (fun hh => by exfalso; first | (rw [g5_] at hh; exact absurd hh (by decide)) | (revert hh; simp [g5_]))
                  refine psg _ (core0 (AOp.callP Try.call30 rfl rfl rfl (by exact mayWalk w (by first | omega | (simp <;> omega) | (simp at * <;> omega))) ⟨rfl, rfl⟩)) ?_
                  refine psq_guard 2 true 103 _ rfl rfl rfl rfl (fun _ => ?_) (fun hh => by exfalso; first | (rw [g5_] at hh; exact absurd hh (by decide)) | (revert hh; simp [g5_]))
                  refine psg _ (core0 (AOp.move rfl rfl ⟨rfl, rfl⟩)) ?_
                  refine psq_guard 2 true 103 _ rfl rfl rfl rfl (fun _ => ?_) (fun hh => by exfalso; first | (rw [g5_] at hh; exact absurd hh (by decide)) | (revert hh; simp [g5_]))
                  refine psg _ (core0 (AOp.callP Try.call31 rfl rfl rfl (by exact refMay w (by first | omega | (simp <;> omega) | (simp at * <;> omega))) ⟨rfl, rfl⟩)) ?_
                  refine psq_guard 2 true 103 _ rfl rfl rfl rfl (fun _ => ?_) (fun hh => by exfalso; first | (rw [g5_] at hh; exact absurd hh (by decide)) | (revert hh; simp [g5_]))
                  refine psg _ (core0 (AOp.eqb Try.underlying4 rfl rfl rfl ⟨rfl, rfl⟩)) ?_
              rotate_right
              focus
                have g5_ := g5
                try simp only [List.length_map, List.length_cons, List.length_nil, nrm] at g5
                all_goals try (exfalso; first | (simp at g5_; done) | omega)
                all_goals
                  refine psq_guard 2 true 103 _ rfl rfl rfl rfl (fun hh => by exfalso; first | (rw [g5_] at hh; exact absurd hh (by decide)) | (revert hh; simp [g5_])) (fun _ => ?_)
                  refine psq_guard 2 true 103 _ rfl rfl rfl rfl (fun hh => by exfalso; first | (rw [g5_] at hh; exact absurd hh (by decide)) | (revert hh; simp [g5_])) (fun _ => ?_)
                  refine psq_guard 2 true 103 _ rfl rfl rfl rfl (fun hh => by exfalso; first | (rw [g5_] at hh; exact absurd hh (by decide)) | (revert hh; simp [g5_])) (fun _ => ?_)
                  refine psq_guard 2 true 103 _ rfl rfl rfl rfl (fun hh => by exfalso; first | (rw [g5_] at hh; exact absurd hh (by decide)) | (revert hh; simp [g5_])) (fun _ => ?_)
              all_goals
                first
                | refine psq_cons _ rfl (core0 (AOp.pick_t rfl rfl (by first | assumption | rfl) rfl ⟨rfl, rfl⟩)) ?_
                | refine psq_cons _ rfl (core0 (AOp.pick_f rfl rfl (by first | assumption | rfl) rfl ⟨rfl, rfl⟩)) ?_
                refine psq_cons _ rfl (core0 (AOp.move rfl rfl ⟨rfl, rfl⟩)) ?_
                refine psq_guard 9 true 110 _ rfl rfl rfl rfl (fun g6 => ?_) (fun g6 => ?_)
                focus
                  have g6_ := g6
                  try simp only [List.length_map, List.length_cons, List.length_nil, nrm] at g6
                  all_goals try (exfalso; first | (simp at g6_; done) | omega)
                  all_goals
                    refine psg _ (core0 (AOp.move rfl rfl ⟨rfl, rfl⟩)) ?_
                    refine psq_guard 9 true 110 _ rfl rfl rfl rfl (fun _ => ?_) (fun hh => by exfalso; first | (rw [g6_] at hh; exact absurd hh (by decide)) | (revert hh; simp [g6_]))
                    first
                    | refine psg _ (core0 (AOp.loadN Try.isAgg58 Try.sizeOf58 rfl rfl (reads_im _ _) rfl rfl ⟨rfl, rfl⟩)) ?_
                    | refine psg _ (core0 (AOp.loadN Try.isAgg58 Try.sizeOf58 rfl rfl (reads_box _ (.head _)) rfl rfl ⟨rfl, rfl⟩)) ?_
                    | refine psg _ (core0 (AOp.loadN Try.isAgg58 Try.sizeOf58 rfl rfl (reads_box _ (.tail _ (.head _))) rfl rfl ⟨rfl, rfl⟩)) ?_
                    | refine psg _ (core0 (AOp.loadN Try.isAgg58 Try.sizeOf58 rfl rfl (reads_row _ (.head _) (idx_nat (by first | omega | (simp <;> omega) | (simp at * <;> omega))) (by first | omega | (simp <;> omega) | (simp at * <;> omega))) rfl rfl ⟨rfl, rfl⟩)) ?_
                    | refine psg _ (core0 (AOp.loadN Try.isAgg58 Try.sizeOf58 rfl rfl (reads_row _ (.head _) (idx_map (by first | omega | (simp <;> omega) | (simp at * <;> omega))) (by first | omega | (simp <;> omega) | (simp at * <;> omega))) rfl rfl ⟨rfl, rfl⟩)) ?_
                    | refine psg _ (core0 (AOp.loadN Try.isAgg58 Try.sizeOf58 rfl rfl (reads_row _ (.head _) (by assumption) (by first | omega | (simp <;> omega) | (simp at * <;> omega))) rfl rfl ⟨rfl, rfl⟩)) ?_
                    | refine psg _ (core0 (AOp.loadN Try.isAgg58 Try.sizeOf58 rfl rfl (reads_row _ (.tail _ (.head _)) (idx_nat (by first | omega | (simp <;> omega) | (simp at * <;> omega))) (by first | omega | (simp <;> omega) | (simp at * <;> omega))) rfl rfl ⟨rfl, rfl⟩)) ?_
                    | refine psg _ (core0 (AOp.loadN Try.isAgg58 Try.sizeOf58 rfl rfl (reads_row _ (.tail _ (.head _)) (idx_map (by first | omega | (simp <;> omega) | (simp at * <;> omega))) (by first | omega | (simp <;> omega) | (simp at * <;> omega))) rfl rfl ⟨rfl, rfl⟩)) ?_
                    | refine psg _ (core0 (AOp.loadN Try.isAgg58 Try.sizeOf58 rfl rfl (reads_row _ (.tail _ (.head _)) (by assumption) (by first | omega | (simp <;> omega) | (simp at * <;> omega))) rfl rfl ⟨rfl, rfl⟩)) ?_
                    refine psq_guard 9 true 110 _ rfl rfl rfl rfl (fun _ => ?_) (fun hh => by exfalso; first | (rw [g6_] at hh; exact absurd hh (by decide)) | (revert hh; simp [g6_]))
                    refine psg _ (core0 (AOp.callP Try.call32 rfl rfl rfl (by exact gran x (⟨1 + (t.toNat : Int) % 3, 1 + (t.toNat : Int) / 3 % 3, 1 + (t.toNat : Int) % 2, (t.toNat : Int) * 2⟩ : L) hs (by first | omega | (simp <;> omega) | (simp at * <;> omega))) ⟨rfl, rfl⟩)) ?_
                    refine psq_guard 9 true 110 _ rfl rfl rfl rfl (fun _ => ?_) (fun hh => by exfalso; first | (rw [g6_] at hh; exact absurd hh (by decide)) | (revert hh; simp [g6_]))
                    refine psg _ (core0 (AOp.move rfl rfl ⟨rfl, rfl⟩)) ?_
                    refine psq_guard 9 true 110 _ rfl rfl rfl rfl (fun _ => ?_) (fun hh => by exfalso; first | (rw [g6_] at hh; exact absurd hh (by decide)) | (revert hh; simp [g6_]))
                    first
                    | refine psg _ (core0 (AOp.loadN Try.isAgg58 Try.sizeOf58 rfl rfl (reads_im _ _) rfl rfl ⟨rfl, rfl⟩)) ?_
                    | refine psg _ (core0 (AOp.loadN Try.isAgg58 Try.sizeOf58 rfl rfl (reads_box _ (.head _)) rfl rfl ⟨rfl, rfl⟩)) ?_
                    | refine psg _ (core0 (AOp.loadN Try.isAgg58 Try.sizeOf58 rfl rfl (reads_box _ (.tail _ (.head _))) rfl rfl ⟨rfl, rfl⟩)) ?_
                    | refine psg _ (core0 (AOp.loadN Try.isAgg58 Try.sizeOf58 rfl rfl (reads_row _ (.head _) (idx_nat (by first | omega | (simp <;> omega) | (simp at * <;> omega))) (by first | omega | (simp <;> omega) | (simp at * <;> omega))) rfl rfl ⟨rfl, rfl⟩)) ?_
                    | refine psg _ (core0 (AOp.loadN Try.isAgg58 Try.sizeOf58 rfl rfl (reads_row _ (.head _) (idx_map (by first | omega | (simp <;> omega) | (simp at * <;> omega))) (by first | omega | (simp <;> omega) | (simp at * <;> omega))) rfl rfl ⟨rfl, rfl⟩)) ?_
                    | refine psg _ (core0 (AOp.loadN Try.isAgg58 Try.sizeOf58 rfl rfl (reads_row _ (.head _) (by assumption) (by first | omega | (simp <;> omega) | (simp at * <;> omega))) rfl rfl ⟨rfl, rfl⟩)) ?_
                    | refine psg _ (core0 (AOp.loadN Try.isAgg58 Try.sizeOf58 rfl rfl (reads_row _ (.tail _ (.head _)) (idx_nat (by first | omega | (simp <;> omega) | (simp at * <;> omega))) (by first | omega | (simp <;> omega) | (simp at * <;> omega))) rfl rfl ⟨rfl, rfl⟩)) ?_
                    | refine psg _ (core0 (AOp.loadN Try.isAgg58 Try.sizeOf58 rfl rfl (reads_row _ (.tail _ (.head _)) (idx_map (by first | omega | (simp <;> omega) | (simp at * <;> omega))) (by first | omega | (simp <;> omega) | (simp at * <;> omega))) rfl rfl ⟨rfl, rfl⟩)) ?_
                    | refine psg _ (core0 (AOp.loadN Try.isAgg58 Try.sizeOf58 rfl rfl (reads_row _ (.tail _ (.head _)) (by assumption) (by first | omega | (simp <;> omega) | (simp at * <;> omega))) rfl rfl ⟨rfl, rfl⟩)) ?_
                    refine psq_guard 9 true 110 _ rfl rfl rfl rfl (fun _ => ?_) (fun hh => by exfalso; first | (rw [g6_] at hh; exact absurd hh (by decide)) | (revert hh; simp [g6_]))
                    refine psg _ (core0 (AOp.callP Try.call33 rfl rfl rfl (by exact rGrant x (⟨1 + (t.toNat : Int) % 3, 1 + (t.toNat : Int) / 3 % 3, 1 + (t.toNat : Int) % 2, (t.toNat : Int) * 2⟩ : L) hs (by first | omega | (simp <;> omega) | (simp at * <;> omega))) ⟨rfl, rfl⟩)) ?_
                    refine psq_guard 9 true 110 _ rfl rfl rfl rfl (fun _ => ?_) (fun hh => by exfalso; first | (rw [g6_] at hh; exact absurd hh (by decide)) | (revert hh; simp [g6_]))
                    refine psg _ (core0 (AOp.callP Try.call24 rfl rfl rfl (by exact sameLeasesT rfl (Nat.le_trans (len_gr2 _ _).2 (by first | omega | (simp <;> omega) | (simp at * <;> omega)))) ⟨rfl, rfl⟩)) ?_
                rotate_right
                focus
                  have g6_ := g6
                  try simp only [List.length_map, List.length_cons, List.length_nil, nrm] at g6
                  all_goals try (exfalso; first | (simp at g6_; done) | omega)
                  all_goals
                    refine psq_guard 9 true 110 _ rfl rfl rfl rfl (fun hh => by exfalso; first | (rw [g6_] at hh; exact absurd hh (by decide)) | (revert hh; simp [g6_])) (fun _ => ?_)
                    refine psq_guard 9 true 110 _ rfl rfl rfl rfl (fun hh => by exfalso; first | (rw [g6_] at hh; exact absurd hh (by decide)) | (revert hh; simp [g6_])) (fun _ => ?_)
                    refine psq_guard 9 true 110 _ rfl rfl rfl rfl (fun hh => by exfalso; first | (rw [g6_] at hh; exact absurd hh (by decide)) | (revert hh; simp [g6_])) (fun _ => ?_)
                    refine psq_guard 9 true 110 _ rfl rfl rfl rfl (fun hh => by exfalso; first | (rw [g6_] at hh; exact absurd hh (by decide)) | (revert hh; simp [g6_])) (fun _ => ?_)
                    refine psq_guard 9 true 110 _ rfl rfl rfl rfl (fun hh => by exfalso; first | (rw [g6_] at hh; exact absurd hh (by decide)) | (revert hh; simp [g6_])) (fun _ => ?_)
                    refine psq_guard 9 true 110 _ rfl rfl rfl rfl (fun hh => by exfalso; first | (rw [g6_] at hh; exact absurd hh (by decide)) | (revert hh; simp [g6_])) (fun _ => ?_)
                all_goals
                  first
                  | refine psq_cons _ rfl (core0 (AOp.pick_t rfl rfl (by first | assumption | rfl) rfl ⟨rfl, rfl⟩)) ?_
                  | refine psq_cons _ rfl (core0 (AOp.pick_f rfl rfl (by first | assumption | rfl) rfl ⟨rfl, rfl⟩)) ?_
                  refine psq_cons _ rfl (core0 (AOp.move rfl rfl ⟨rfl, rfl⟩)) ?_
                  refine psq_guard 18 true 119 _ rfl rfl rfl rfl (fun g7 => ?_) (fun g7 => ?_)
                  focus
                    have g7_ := g7
                    try simp only [List.length_map, List.length_cons, List.length_nil, nrm] at g7
                    all_goals try (exfalso; first | (simp at g7_; done) | omega)
                    all_goals
                      first
                      | refine psg _ (core0 (AOp.loadN Try.isAgg58 Try.sizeOf58 rfl rfl (reads_im _ _) rfl rfl ⟨rfl, rfl⟩)) ?_
                      | refine psg _ (core0 (AOp.loadN Try.isAgg58 Try.sizeOf58 rfl rfl (reads_box _ (.head _)) rfl rfl ⟨rfl, rfl⟩)) ?_
                      | refine psg _ (core0 (AOp.loadN Try.isAgg58 Try.sizeOf58 rfl rfl (reads_box _ (.tail _ (.head _))) rfl rfl ⟨rfl, rfl⟩)) ?_
                      | refine psg _ (core0 (AOp.loadN Try.isAgg58 Try.sizeOf58 rfl rfl (reads_row _ (.head _) (idx_nat (by first | omega | (simp <;> omega) | (simp at * <;> omega))) (by first | omega | (simp <;> omega) | (simp at * <;> omega))) rfl rfl ⟨rfl, rfl⟩)) ?_
                      | refine psg _ (core0 (AOp.loadN Try.isAgg58 Try.sizeOf58 rfl rfl (reads_row _ (.head _) (idx_map (by first | omega | (simp <;> omega) | (simp at * <;> omega))) (by first | omega | (simp <;> omega) | (simp at * <;> omega))) rfl rfl ⟨rfl, rfl⟩)) ?_
                      | refine psg _ (core0 (AOp.loadN Try.isAgg58 Try.sizeOf58 rfl rfl (reads_row _ (.head _) (by assumption) (by first | omega | (simp <;> omega) | (simp at * <;> omega))) rfl rfl ⟨rfl, rfl⟩)) ?_
                      | refine psg _ (core0 (AOp.loadN Try.isAgg58 Try.sizeOf58 rfl rfl (reads_row _ (.tail _ (.head _)) (idx_nat (by first | omega | (simp <;> omega) | (simp at * <;> omega))) (by first | omega | (simp <;> omega) | (simp at * <;> omega))) rfl rfl ⟨rfl, rfl⟩)) ?_
                      | refine psg _ (core0 (AOp.loadN Try.isAgg58 Try.sizeOf58 rfl rfl (reads_row _ (.tail _ (.head _)) (idx_map (by first | omega | (simp <;> omega) | (simp at * <;> omega))) (by first | omega | (simp <;> omega) | (simp at * <;> omega))) rfl rfl ⟨rfl, rfl⟩)) ?_
                      | refine psg _ (core0 (AOp.loadN Try.isAgg58 Try.sizeOf58 rfl rfl (reads_row _ (.tail _ (.head _)) (by assumption) (by first | omega | (simp <;> omega) | (simp at * <;> omega))) rfl rfl ⟨rfl, rfl⟩)) ?_
                      refine psq_guard 18 true 119 _ rfl rfl rfl rfl (fun _ => ?_) (fun hh => by exfalso; first | (rw [g7_] at hh; exact absurd hh (by decide)) | (revert hh; simp [g7_]))
                      refine psg _ (core0 (AOp.buildS' Try.underlying36 Try.sizeOf58 Try.zeroValue58 rfl rfl rfl rfl rfl rfl rfl rfl rfl rfl rfl ⟨rfl, rfl⟩)) ?_
                      refine psq_guard 18 true 119 _ rfl rfl rfl rfl (fun _ => ?_) (fun hh => by exfalso; first | (rw [g7_] at hh; exact absurd hh (by decide)) | (revert hh; simp [g7_]))
                      refine psg _ (core0 (AOp.callP Try.call31 rfl rfl rfl (by exact refMay [z] (by simp)) ⟨rfl, rfl⟩)) ?_
                      refine psq_guard 18 true 119 _ rfl rfl rfl rfl (fun _ => ?_) (fun hh => by exfalso; first | (rw [g7_] at hh; exact absurd hh (by decide)) | (revert hh; simp [g7_]))
                      refine psg _ (core0 (AOp.not rfl rfl ⟨rfl, rfl⟩)) ?_
                      refine psq_guard 18 true 119 _ rfl rfl rfl rfl (fun _ => ?_) (fun hh => by exfalso; first | (rw [g7_] at hh; exact absurd hh (by decide)) | (revert hh; simp [g7_]))
                      refine psg _ (core0 (AOp.move rfl rfl ⟨rfl, rfl⟩)) ?_
                  rotate_right
                  focus
                    have g7_ := g7
                    try simp only [List.length_map, List.length_cons, List.length_nil, nrm] at g7
                    all_goals try (exfalso; first | (simp at g7_; done) | omega)
                    all_goals
                      refine psq_guard 18 true 119 _ rfl rfl rfl rfl (fun hh => by exfalso; first | (rw [g7_] at hh; exact absurd hh (by decide)) | (revert hh; simp [g7_])) (fun _ => ?_)
                      refine psq_guard 18 true 119 _ rfl rfl rfl rfl (fun hh => by exfalso; first | (rw [g7_] at hh; exact absurd hh (by decide)) | (revert hh; simp [g7_])) (fun _ => ?_)
                      refine psq_guard 18 true 119 _ rfl rfl rfl rfl (fun hh => by exfalso; first | (rw [g7_] at hh; exact absurd hh (by decide)) | (revert hh; simp [g7_])) (fun _ => ?_)
                      refine psq_guard 18 true 119 _ rfl rfl rfl rfl (fun hh => by exfalso; first | (rw [g7_] at hh; exact absurd hh (by decide)) | (revert hh; simp [g7_])) (fun _ => ?_)
                  all_goals
                    first
                    | (refine psq_guardU 23 false 124 rfl rfl rfl rfl ?_; refine psq_guardU 23 false 124 rfl rfl rfl rfl ?_; refine psq_guardU 23 false 124 rfl rfl rfl rfl ?_; refine psq_guardU 23 false 124 rfl rfl rfl rfl ?_; refine psq_guardU 23 false 124 rfl rfl rfl rfl ?_; refine psq_guardU 23 false 124 rfl rfl rfl rfl ?_; refine psq_guardU 23 false 124 rfl rfl rfl rfl ?_)
                    | skip
                      refine psq_guard 23 false 124 _ rfl rfl rfl rfl (fun g8 => ?_) (fun g8 => ?_)
                      focus
                        have g8_ := g8
                        try simp only [List.length_map, List.length_cons, List.length_nil, nrm] at g8
                        all_goals try (exfalso; first | (simp at g8_; done) | omega)
                        all_goals
                          refine psg _ (core0 (AOp.move rfl rfl ⟨rfl, rfl⟩)) ?_
                          refine psq_guard 23 false 124 _ rfl rfl rfl rfl (fun _ => ?_) (fun hh => by exfalso; first | (rw [g8_] at hh; exact absurd hh (by decide)) | (revert hh; simp [g8_]))
                          first
                          | refine psg _ (core0 (AOp.loadN Try.isAgg58 Try.sizeOf58 rfl rfl (reads_im _ _) rfl rfl ⟨rfl, rfl⟩)) ?_
                          | refine psg _ (core0 (AOp.loadN Try.isAgg58 Try.sizeOf58 rfl rfl (reads_box _ (.head _)) rfl rfl ⟨rfl, rfl⟩)) ?_
                          | refine psg _ (core0 (AOp.loadN Try.isAgg58 Try.sizeOf58 rfl rfl (reads_box _ (.tail _ (.head _))) rfl rfl ⟨rfl, rfl⟩)) ?_
                          | refine psg _ (core0 (AOp.loadN Try.isAgg58 Try.sizeOf58 rfl rfl (reads_row _ (.head _) (idx_nat (by first | omega | (simp <;> omega) | (simp at * <;> omega))) (by first | omega | (simp <;> omega) | (simp at * <;> omega))) rfl rfl ⟨rfl, rfl⟩)) ?_
                          | refine psg _ (core0 (AOp.loadN Try.isAgg58 Try.sizeOf58 rfl rfl (reads_row _ (.head _) (idx_map (by first | omega | (simp <;> omega) | (simp at * <;> omega))) (by first | omega | (simp <;> omega) | (simp at * <;> omega))) rfl rfl ⟨rfl, rfl⟩)) ?_
                          | refine psg _ (core0 (AOp.loadN Try.isAgg58 Try.sizeOf58 rfl rfl (reads_row _ (.head _) (by assumption) (by first | omega | (simp <;> omega) | (simp at * <;> omega))) rfl rfl ⟨rfl, rfl⟩)) ?_
                          | refine psg _ (core0 (AOp.loadN Try.isAgg58 Try.sizeOf58 rfl rfl (reads_row _ (.tail _ (.head _)) (idx_nat (by first | omega | (simp <;> omega) | (simp at * <;> omega))) (by first | omega | (simp <;> omega) | (simp at * <;> omega))) rfl rfl ⟨rfl, rfl⟩)) ?_
                          | refine psg _ (core0 (AOp.loadN Try.isAgg58 Try.sizeOf58 rfl rfl (reads_row _ (.tail _ (.head _)) (idx_map (by first | omega | (simp <;> omega) | (simp at * <;> omega))) (by first | omega | (simp <;> omega) | (simp at * <;> omega))) rfl rfl ⟨rfl, rfl⟩)) ?_
                          | refine psg _ (core0 (AOp.loadN Try.isAgg58 Try.sizeOf58 rfl rfl (reads_row _ (.tail _ (.head _)) (by assumption) (by first | omega | (simp <;> omega) | (simp at * <;> omega))) rfl rfl ⟨rfl, rfl⟩)) ?_
                          refine psq_guard 23 false 124 _ rfl rfl rfl rfl (fun _ => ?_) (fun hh => by exfalso; first | (rw [g8_] at hh; exact absurd hh (by decide)) | (revert hh; simp [g8_]))
                          refine psg _ (core0 (AOp.callP Try.call32 rfl rfl rfl (by exact gran x z hs (by first | omega | (simp <;> omega) | (simp at * <;> omega))) ⟨rfl, rfl⟩)) ?_
                          refine psq_guard 23 false 124 _ rfl rfl rfl rfl (fun _ => ?_) (fun hh => by exfalso; first | (rw [g8_] at hh; exact absurd hh (by decide)) | (revert hh; simp [g8_]))
                          refine psg _ (core0 (AOp.move rfl rfl ⟨rfl, rfl⟩)) ?_
                          refine psq_guard 23 false 124 _ rfl rfl rfl rfl (fun _ => ?_) (fun hh => by exfalso; first | (rw [g8_] at hh; exact absurd hh (by decide)) | (revert hh; simp [g8_]))
                          first
                          | refine psg _ (core0 (AOp.loadN Try.isAgg58 Try.sizeOf58 rfl rfl (reads_im _ _) rfl rfl ⟨rfl, rfl⟩)) ?_
                          | refine psg _ (core0 (AOp.loadN Try.isAgg58 Try.sizeOf58 rfl rfl (reads_box _ (.head _)) rfl rfl ⟨rfl, rfl⟩)) ?_
                          | refine psg _ (core0 (AOp.loadN Try.isAgg58 Try.sizeOf58 rfl rfl (reads_box _ (.tail _ (.head _))) rfl rfl ⟨rfl, rfl⟩)) ?_
                          | refine psg _ (core0 (AOp.loadN Try.isAgg58 Try.sizeOf58 rfl rfl (reads_row _ (.head _) (idx_nat (by first | omega | (simp <;> omega) | (simp at * <;> omega))) (by first | omega | (simp <;> omega) | (simp at * <;> omega))) rfl rfl ⟨rfl, rfl⟩)) ?_
                          | refine psg _ (core0 (AOp.loadN Try.isAgg58 Try.sizeOf58 rfl rfl (reads_row _ (.head _) (idx_map (by first | omega | (simp <;> omega) | (simp at * <;> omega))) (by first | omega | (simp <;> omega) | (simp at * <;> omega))) rfl rfl ⟨rfl, rfl⟩)) ?_
                          | refine psg _ (core0 (AOp.loadN Try.isAgg58 Try.sizeOf58 rfl rfl (reads_row _ (.head _) (by assumption) (by first | omega | (simp <;> omega) | (simp at * <;> omega))) rfl rfl ⟨rfl, rfl⟩)) ?_
                          | refine psg _ (core0 (AOp.loadN Try.isAgg58 Try.sizeOf58 rfl rfl (reads_row _ (.tail _ (.head _)) (idx_nat (by first | omega | (simp <;> omega) | (simp at * <;> omega))) (by first | omega | (simp <;> omega) | (simp at * <;> omega))) rfl rfl ⟨rfl, rfl⟩)) ?_
                          | refine psg _ (core0 (AOp.loadN Try.isAgg58 Try.sizeOf58 rfl rfl (reads_row _ (.tail _ (.head _)) (idx_map (by first | omega | (simp <;> omega) | (simp at * <;> omega))) (by first | omega | (simp <;> omega) | (simp at * <;> omega))) rfl rfl ⟨rfl, rfl⟩)) ?_
                          | refine psg _ (core0 (AOp.loadN Try.isAgg58 Try.sizeOf58 rfl rfl (reads_row _ (.tail _ (.head _)) (by assumption) (by first | omega | (simp <;> omega) | (simp at * <;> omega))) rfl rfl ⟨rfl, rfl⟩)) ?_
                          refine psq_guard 23 false 124 _ rfl rfl rfl rfl (fun _ => ?_) (fun hh => by exfalso; first | (rw [g8_] at hh; exact absurd hh (by decide)) | (revert hh; simp [g8_]))
                          refine psg _ (core0 (AOp.callP Try.call33 rfl rfl rfl (by exact rGrant x z hs (by first | omega | (simp <;> omega) | (simp at * <;> omega))) ⟨rfl, rfl⟩)) ?_
                          refine psq_guard 23 false 124 _ rfl rfl rfl rfl (fun _ => ?_) (fun hh => by exfalso; first | (rw [g8_] at hh; exact absurd hh (by decide)) | (revert hh; simp [g8_]))
                          refine psg _ (core0 (AOp.callP Try.call24 rfl rfl rfl (by exact sameLeasesT rfl (Nat.le_trans (len_gr2 _ _).2 (by first | omega | (simp <;> omega) | (simp at * <;> omega)))) ⟨rfl, rfl⟩)) ?_
                      rotate_right
                      focus
                        have g8_ := g8
                        try simp only [List.length_map, List.length_cons, List.length_nil, nrm] at g8
                        all_goals try (exfalso; first | (simp at g8_; done) | omega)
                        all_goals
                          refine psq_guard 23 false 124 _ rfl rfl rfl rfl (fun hh => by exfalso; first | (rw [g8_] at hh; exact absurd hh (by decide)) | (revert hh; simp [g8_])) (fun _ => ?_)
                          refine psq_guard 23 false 124 _ rfl rfl rfl rfl (fun hh => by exfalso; first | (rw [g8_] at hh; exact absurd hh (by decide)) | (revert hh; simp [g8_])) (fun _ => ?_)
                          refine psq_guard 23 false 124 _ rfl rfl rfl rfl (fun hh => by exfalso; first | (rw [g8_] at hh; exact absurd hh (by decide)) | (revert hh; simp [g8_])) (fun _ => ?_)
                          refine psq_guard 23 false 124 _ rfl rfl rfl rfl (fun hh => by exfalso; first | (rw [g8_] at hh; exact absurd hh (by decide)) | (revert hh; simp [g8_])) (fun _ => ?_)
                          refine psq_guard 23 false 124 _ rfl rfl rfl rfl (fun hh => by exfalso; first | (rw [g8_] at hh; exact absurd hh (by decide)) | (revert hh; simp [g8_])) (fun _ => ?_)
                          refine psq_guard 23 false 124 _ rfl rfl rfl rfl (fun hh => by exfalso; first | (rw [g8_] at hh; exact absurd hh (by decide)) | (revert hh; simp [g8_])) (fun _ => ?_)
                    all_goals
                      refine psq_guard 18 true 119 _ rfl rfl rfl rfl (fun g9 => ?_) (fun g9 => ?_)
                      focus
                        have g9_ := g9
                        try simp only [List.length_map, List.length_cons, List.length_nil, nrm] at g9
                        all_goals try (exfalso; first | (simp at g9_; done) | omega)
                        all_goals
                          first
                          | refine psg _ (core0 (AOp.pick_t rfl rfl (by first | assumption | rfl) rfl ⟨rfl, rfl⟩)) ?_
                          | refine psg _ (core0 (AOp.pick_f rfl rfl (by first | assumption | rfl) rfl ⟨rfl, rfl⟩)) ?_
                      rotate_right
                      focus
                        have g9_ := g9
                        try simp only [List.length_map, List.length_cons, List.length_nil, nrm] at g9
                        all_goals try (exfalso; first | (simp at g9_; done) | omega)
                      all_goals
                        first
                        | refine psq_cons _ rfl (core0 (AOp.pick_t rfl rfl (by first | assumption | rfl) rfl ⟨rfl, rfl⟩)) ?_
                        | refine psq_cons _ rfl (core0 (AOp.pick_f rfl rfl (by first | assumption | rfl) rfl ⟨rfl, rfl⟩)) ?_
                        refine psq_cons _ rfl (core0 (AOp.move rfl rfl ⟨rfl, rfl⟩)) ?_
                        refine psq_guard 33 true 134 _ rfl rfl rfl rfl (fun g10 => ?_) (fun g10 => ?_)
                        focus
                          have g10_ := g10
                          try simp only [List.length_map, List.length_cons, List.length_nil, nrm] at g10
                          all_goals try (exfalso; first | (simp at g10_; done) | omega)
                          all_goals
                            refine psg _ (core0 (AOp.move rfl rfl ⟨rfl, rfl⟩)) ?_
                            refine psq_guard 33 true 134 _ rfl rfl rfl rfl (fun _ => ?_) (fun hh => by exfalso; first | (rw [g10_] at hh; exact absurd hh (by decide)) | (revert hh; simp [g10_]))
                            refine psg _ (core0 (AOp.move rfl rfl ⟨rfl, rfl⟩)) ?_
                            refine psq_guard 33 true 134 _ rfl rfl rfl rfl (fun _ => ?_) (fun hh => by exfalso; first | (rw [g10_] at hh; exact absurd hh (by decide)) | (revert hh; simp [g10_]))
                            first
                            | refine psg _ (core0 (AOp.conviI Try.underlying5 Try.underlying3 rfl rfl (by first | omega | (simp <;> omega) | (simp at * <;> omega)) (by first | omega | (simp <;> omega) | (simp at * <;> omega)) ⟨rfl, rfl⟩)) ?_
                            | refine psg _ (core0 (AOp.convi Try.underlying5 Try.underlying3 rfl rfl rfl ⟨rfl, rfl⟩)) ?_
                            refine psq_guard 33 true 134 _ rfl rfl rfl rfl (fun _ => ?_) (fun hh => by exfalso; first | (rw [g10_] at hh; exact absurd hh (by decide)) | (revert hh; simp [g10_]))
                            refine psg _ (core0 (AOp.callP Try.call34 rfl rfl rfl (by exact prune x _ (by first | omega | (simp <;> omega) | (simp at * <;> omega))) ⟨rfl, rfl⟩)) ?_
                            refine psq_guard 33 true 134 _ rfl rfl rfl rfl (fun _ => ?_) (fun hh => by exfalso; first | (rw [g10_] at hh; exact absurd hh (by decide)) | (revert hh; simp [g10_]))
                            refine psg _ (core0 (AOp.move rfl rfl ⟨rfl, rfl⟩)) ?_
                            refine psq_guard 33 true 134 _ rfl rfl rfl rfl (fun _ => ?_) (fun hh => by exfalso; first | (rw [g10_] at hh; exact absurd hh (by decide)) | (revert hh; simp [g10_]))
                            refine psg _ (core0 (AOp.move rfl rfl ⟨rfl, rfl⟩)) ?_
                            refine psq_guard 33 true 134 _ rfl rfl rfl rfl (fun _ => ?_) (fun hh => by exfalso; first | (rw [g10_] at hh; exact absurd hh (by decide)) | (revert hh; simp [g10_]))
                            first
                            | refine psg _ (core0 (AOp.conviI Try.underlying5 Try.underlying3 rfl rfl (by first | omega | (simp <;> omega) | (simp at * <;> omega)) (by first | omega | (simp <;> omega) | (simp at * <;> omega)) ⟨rfl, rfl⟩)) ?_
                            | refine psg _ (core0 (AOp.convi Try.underlying5 Try.underlying3 rfl rfl rfl ⟨rfl, rfl⟩)) ?_
                            refine psq_guard 33 true 134 _ rfl rfl rfl rfl (fun _ => ?_) (fun hh => by exfalso; first | (rw [g10_] at hh; exact absurd hh (by decide)) | (revert hh; simp [g10_]))
                            refine psg _ (core0 (AOp.callP Try.call35 rfl rfl rfl (by exact rPrune x _ (by first | omega | (simp <;> omega) | (simp at * <;> omega))) ⟨rfl, rfl⟩)) ?_
                            refine psq_guard 33 true 134 _ rfl rfl rfl rfl (fun _ => ?_) (fun hh => by exfalso; first | (rw [g10_] at hh; exact absurd hh (by decide)) | (revert hh; simp [g10_]))
                            refine psg _ (core0 (AOp.callP Try.call24 rfl rfl rfl (by exact sameLeasesT rfl (Nat.le_trans (len_prn _ _) (by first | omega | (simp <;> omega) | (simp at * <;> omega)))) ⟨rfl, rfl⟩)) ?_
                        rotate_right
                        focus
                          have g10_ := g10
                          try simp only [List.length_map, List.length_cons, List.length_nil, nrm] at g10
                          all_goals try (exfalso; first | (simp at g10_; done) | omega)
                          all_goals
                            refine psq_guard 33 true 134 _ rfl rfl rfl rfl (fun hh => by exfalso; first | (rw [g10_] at hh; exact absurd hh (by decide)) | (revert hh; simp [g10_])) (fun _ => ?_)
                            refine psq_guard 33 true 134 _ rfl rfl rfl rfl (fun hh => by exfalso; first | (rw [g10_] at hh; exact absurd hh (by decide)) | (revert hh; simp [g10_])) (fun _ => ?_)
                            refine psq_guard 33 true 134 _ rfl rfl rfl rfl (fun hh => by exfalso; first | (rw [g10_] at hh; exact absurd hh (by decide)) | (revert hh; simp [g10_])) (fun _ => ?_)
                            refine psq_guard 33 true 134 _ rfl rfl rfl rfl (fun hh => by exfalso; first | (rw [g10_] at hh; exact absurd hh (by decide)) | (revert hh; simp [g10_])) (fun _ => ?_)
                            refine psq_guard 33 true 134 _ rfl rfl rfl rfl (fun hh => by exfalso; first | (rw [g10_] at hh; exact absurd hh (by decide)) | (revert hh; simp [g10_])) (fun _ => ?_)
                            refine psq_guard 33 true 134 _ rfl rfl rfl rfl (fun hh => by exfalso; first | (rw [g10_] at hh; exact absurd hh (by decide)) | (revert hh; simp [g10_])) (fun _ => ?_)
                            refine psq_guard 33 true 134 _ rfl rfl rfl rfl (fun hh => by exfalso; first | (rw [g10_] at hh; exact absurd hh (by decide)) | (revert hh; simp [g10_])) (fun _ => ?_)
                            refine psq_guard 33 true 134 _ rfl rfl rfl rfl (fun hh => by exfalso; first | (rw [g10_] at hh; exact absurd hh (by decide)) | (revert hh; simp [g10_])) (fun _ => ?_)
                        all_goals
                          first
                          | refine psq_cons _ rfl (core0 (AOp.pick_t rfl rfl (by first | assumption | rfl) rfl ⟨rfl, rfl⟩)) ?_
                          | refine psq_cons _ rfl (core0 (AOp.pick_f rfl rfl (by first | assumption | rfl) rfl ⟨rfl, rfl⟩)) ?_
                          refine psq_cons _ rfl (core0 (AOp.move rfl rfl ⟨rfl, rfl⟩)) ?_
                          refine psq_guard 44 true 145 _ rfl rfl rfl rfl (fun g11 => ?_) (fun g11 => ?_)
                          focus
                            have g11_ := g11
                            try simp only [List.length_map, List.length_cons, List.length_nil, nrm] at g11
                            all_goals try (exfalso; first | (simp at g11_; done) | omega)
                            all_goals
                              refine psg _ (core0 (AOp.move rfl rfl ⟨rfl, rfl⟩)) ?_
                              refine psq_guard 44 true 145 _ rfl rfl rfl rfl (fun _ => ?_) (fun hh => by exfalso; first | (rw [g11_] at hh; exact absurd hh (by decide)) | (revert hh; simp [g11_]))
                              refine psg _ (core0 (AOp.move rfl rfl ⟨rfl, rfl⟩)) ?_
                              refine psq_guard 44 true 145 _ rfl rfl rfl rfl (fun _ => ?_) (fun hh => by exfalso; first | (rw [g11_] at hh; exact absurd hh (by decide)) | (revert hh; simp [g11_]))
                              first
                              | refine psg _ (core0 (AOp.conviI Try.underlying5 Try.underlying3 rfl rfl (by first | omega | (simp <;> omega) | (simp at * <;> omega)) (by first | omega | (simp <;> omega) | (simp at * <;> omega)) ⟨rfl, rfl⟩)) ?_
                              | refine psg _ (core0 (AOp.convi Try.underlying5 Try.underlying3 rfl rfl rfl ⟨rfl, rfl⟩)) ?_
                              refine psq_guard 44 true 145 _ rfl rfl rfl rfl (fun _ => ?_) (fun hh => by exfalso; first | (rw [g11_] at hh; exact absurd hh (by decide)) | (revert hh; simp [g11_]))
                              refine psg _ (core0 (AOp.move rfl rfl ⟨rfl, rfl⟩)) ?_
                              refine psq_guard 44 true 145 _ rfl rfl rfl rfl (fun _ => ?_) (fun hh => by exfalso; first | (rw [g11_] at hh; exact absurd hh (by decide)) | (revert hh; simp [g11_]))
                              refine psg _ (core0 (AOp.move rfl rfl ⟨rfl, rfl⟩)) ?_
                              refine psq_guard 44 true 145 _ rfl rfl rfl rfl (fun _ => ?_) (fun hh => by exfalso; first | (rw [g11_] at hh; exact absurd hh (by decide)) | (revert hh; simp [g11_]))
                              refine psg _ (core0 (AOp.callP Try.call22 rfl rfl rfl (by exact holds x _ _ _ hs (by first | omega | (simp <;> omega) | (simp at * <;> omega))) ⟨rfl, rfl⟩)) ?_
                              refine psq_guard 44 true 145 _ rfl rfl rfl rfl (fun _ => ?_) (fun hh => by exfalso; first | (rw [g11_] at hh; exact absurd hh (by decide)) | (revert hh; simp [g11_]))
                              refine psg _ (core0 (AOp.move rfl rfl ⟨rfl, rfl⟩)) ?_
                              refine psq_guard 44 true 145 _ rfl rfl rfl rfl (fun _ => ?_) (fun hh => by exfalso; first | (rw [g11_] at hh; exact absurd hh (by decide)) | (revert hh; simp [g11_]))
                              refine psg _ (core0 (AOp.move rfl rfl ⟨rfl, rfl⟩)) ?_
                              refine psq_guard 44 true 145 _ rfl rfl rfl rfl (fun _ => ?_) (fun hh => by exfalso; first | (rw [g11_] at hh; exact absurd hh (by decide)) | (revert hh; simp [g11_]))
                              first
                              | refine psg _ (core0 (AOp.conviI Try.underlying5 Try.underlying3 rfl rfl (by first | omega | (simp <;> omega) | (simp at * <;> omega)) (by first | omega | (simp <;> omega) | (simp at * <;> omega)) ⟨rfl, rfl⟩)) ?_
                              | refine psg _ (core0 (AOp.convi Try.underlying5 Try.underlying3 rfl rfl rfl ⟨rfl, rfl⟩)) ?_
                              refine psq_guard 44 true 145 _ rfl rfl rfl rfl (fun _ => ?_) (fun hh => by exfalso; first | (rw [g11_] at hh; exact absurd hh (by decide)) | (revert hh; simp [g11_]))
                              refine psg _ (core0 (AOp.move rfl rfl ⟨rfl, rfl⟩)) ?_
                              refine psq_guard 44 true 145 _ rfl rfl rfl rfl (fun _ => ?_) (fun hh => by exfalso; first | (rw [g11_] at hh; exact absurd hh (by decide)) | (revert hh; simp [g11_]))
                              refine psg _ (core0 (AOp.move rfl rfl ⟨rfl, rfl⟩)) ?_
                          rotate_right
                          focus
                            have g11_ := g11
                            try simp only [List.length_map, List.length_cons, List.length_nil, nrm] at g11
                            all_goals try (exfalso; first | (simp at g11_; done) | omega)
                            all_goals
                              refine psq_guard 44 true 145 _ rfl rfl rfl rfl (fun hh => by exfalso; first | (rw [g11_] at hh; exact absurd hh (by decide)) | (revert hh; simp [g11_])) (fun _ => ?_)
                              refine psq_guard 44 true 145 _ rfl rfl rfl rfl (fun hh => by exfalso; first | (rw [g11_] at hh; exact absurd hh (by decide)) | (revert hh; simp [g11_])) (fun _ => ?_)
                              refine psq_guard 44 true 145 _ rfl rfl rfl rfl (fun hh => by exfalso; first | (rw [g11_] at hh; exact absurd hh (by decide)) | (revert hh; simp [g11_])) (fun _ => ?_)
                              refine psq_guard 44 true 145 _ rfl rfl rfl rfl (fun hh => by exfalso; first | (rw [g11_] at hh; exact absurd hh (by decide)) | (revert hh; simp [g11_])) (fun _ => ?_)
                              refine psq_guard 44 true 145 _ rfl rfl rfl rfl (fun hh => by exfalso; first | (rw [g11_] at hh; exact absurd hh (by decide)) | (revert hh; simp [g11_])) (fun _ => ?_)
                              refine psq_guard 44 true 145 _ rfl rfl rfl rfl (fun hh => by exfalso; first | (rw [g11_] at hh; exact absurd hh (by decide)) | (revert hh; simp [g11_])) (fun _ => ?_)
                              refine psq_guard 44 true 145 _ rfl rfl rfl rfl (fun hh => by exfalso; first | (rw [g11_] at hh; exact absurd hh (by decide)) | (revert hh; simp [g11_])) (fun _ => ?_)
                              refine psq_guard 44 true 145 _ rfl rfl rfl rfl (fun hh => by exfalso; first | (rw [g11_] at hh; exact absurd hh (by decide)) | (revert hh; simp [g11_])) (fun _ => ?_)
                              refine psq_guard 44 true 145 _ rfl rfl rfl rfl (fun hh => by exfalso; first | (rw [g11_] at hh; exact absurd hh (by decide)) | (revert hh; simp [g11_])) (fun _ => ?_)
                              refine psq_guard 44 true 145 _ rfl rfl rfl rfl (fun hh => by exfalso; first | (rw [g11_] at hh; exact absurd hh (by decide)) | (revert hh; simp [g11_])) (fun _ => ?_)
                          all_goals
                            refine psq_nil ?_
                            refine aops_guard 44 true 145 _ rfl rfl rfl rfl rfl (fun g12 => ?_) (fun g12 => ?_)
                            focus
                              have g12_ := g12
                              try simp only [List.length_map, List.length_cons, List.length_nil, nrm] at g12
                              all_goals try (exfalso; first | (simp at g12_; done) | omega)
                              all_goals
                                refine AOp.callP Try.call23 rfl rfl rfl (by exact rHolds x _ _ _ hs (by first | omega | (simp <;> omega) | (simp at * <;> omega))) ?_
                                refine aops_guard 44 true 145 _ rfl rfl rfl rfl rfl (fun _ => ?_) (fun hh => by exfalso; first | (rw [g12_] at hh; exact absurd hh (by decide)) | (revert hh; simp [g12_]))
                                refine AOp.eql rfl rfl rfl ?_
                            rotate_right
                            focus
                              have g12_ := g12
                              try simp only [List.length_map, List.length_cons, List.length_nil, nrm] at g12
                              all_goals try (exfalso; first | (simp at g12_; done) | omega)
                              all_goals
                                refine aops_guard 44 true 145 _ rfl rfl rfl rfl rfl (fun hh => by exfalso; first | (rw [g12_] at hh; exact absurd hh (by decide)) | (revert hh; simp [g12_])) (fun _ => ?_)
                            all_goals
                              first
                              | refine aops_cons rfl rfl (AOp.pick_t rfl rfl (by first | assumption | rfl) rfl ?_)
                              | refine aops_cons rfl rfl (AOp.pick_f rfl rfl (by first | assumption | rfl) rfl ?_)
                              refine aops_cons rfl rfl (AOp.assign rfl rfl ?_)
                              refine aops_nil ?_
                              refine aw_ret ?_
                              refine ⟨_, (res1 Try.results4 rfl), ?_⟩
                              first | rfl | (simp; done) | (simp; omega)
          all_goals
            refine aw_seq ?_
            refine aw_block ?_
            refine aw_seq ?_
            refine aw_region ?_
            refine aops_cons rfl rfl (AOp.assign rfl rfl ?_)
            refine aops_nil ?_
            refine aw_block ?_
            refine aw_loop (β := Nat) (S := (fun (z0 : Nat) => match z0 with | k => [(1, ls w), (3, .sc (.int .u8 (t.toNat : Int))), (4, .sc (.int .i64 c)), (5, .sc (.int .i64 f)), (8, .im z.e), (13, ls x), (14, .sc (.int .i64 (i : Int))), (15, .sc (.int .i64 (k : Int)))])) (B := (fun (z0 : Nat) => match z0 with | k => [])) (pre := (fun (z0 : Nat) => match z0 with | k => k ≤ 5)) (μ := (fun (z0 : Nat) => match z0 with | k => 5 - k)) 0 (wk_env (sube_cons rfl (sube_cons rfl (sube_cons rfl (sube_cons rfl (sube_cons rfl (sube_cons rfl (sube_cons rfl (sube_cons rfl (sube_nil _)))))))))) ?_ ?_
            · exact Nat.zero_le _
            · rintro k hk
              change AW _ _ _ ([(1, ls w), (3, .sc (.int .u8 (t.toNat : Int))), (4, .sc (.int .i64 c)), (5, .sc (.int .i64 f)), (8, .im z.e), (13, ls x), (14, .sc (.int .i64 (i : Int))), (15, .sc (.int .i64 (k : Int)))] : Env) ([] : List Blk) _
              replace hk : k ≤ 5 := hk
              refine aw_seq ?_
              refine aw_seq ?_
              refine aw_region ?_
              refine aops_cons rfl rfl (AOp.move rfl rfl ?_)
              refine aops_cons rfl rfl (AOp.lss rfl rfl rfl ?_)
              refine aops_nil ?_
              refine aw_cond _ rfl (fun h13 => ?_) (fun h13 => ?_)
              focus
                have h13_ := h13
                try simp only [List.length_map, List.length_cons, List.length_nil, nrm] at h13
                all_goals try (exfalso; first | (simp at h13_; done) | omega)
                all_goals
                  refine aw_skip ?_
                  skip
              rotate_right
              focus
                have h13_ := h13
                try simp only [List.length_map, List.length_cons, List.length_nil, nrm] at h13
                all_goals try (exfalso; first | (simp at h13_; done) | omega)
                all_goals
                  refine aw_exit ?_
                  refine aw_region ?_
                  refine aops_cons rfl rfl (AOp.move rfl rfl ?_)
                  first
                  | refine aops_cons rfl rfl (AOp.addE rfl rfl rfl (by first | omega | (simp <;> omega) | (simp at * <;> omega)) (by first | omega | (simp <;> omega) | (simp at * <;> omega)) ?_)
                  | refine aops_cons rfl rfl (AOp.add rfl rfl rfl rfl ?_)
                  refine aops_cons rfl rfl (AOp.assign rfl rfl ?_)
                  refine aops_nil ?_
                  refine ⟨i + 1, ?_, ?_, (wk_env (sube_cons rfl (sube_cons rfl (sube_cons rfl (sube_cons rfl (sube_cons rfl (sube_cons rfl (sube_cons rfl (sube_nil _)))))))))⟩
                  · dsimp only; omega
                  · dsimp only; omega
              all_goals
                refine aw_seq ?_
                refine aw_block ?_
                refine aw_seq ?_
                refine aw_seq ?_
                refine aw_region ?_
                refine aops_cons rfl rfl (AOp.move rfl rfl ?_)
                refine aops_cons rfl rfl (AOp.move rfl rfl ?_)
                first
                | refine aops_cons rfl rfl (AOp.conviI Try.underlying5 Try.underlying3 rfl rfl (by first | omega | (simp <;> omega) | (simp at * <;> omega)) (by first | omega | (simp <;> omega) | (simp at * <;> omega)) ?_)
                | refine aops_cons rfl rfl (AOp.convi Try.underlying5 Try.underlying3 rfl rfl rfl ?_)
                refine aops_cons rfl rfl (AOp.move rfl rfl ?_)
                refine aops_cons rfl rfl (AOp.move rfl rfl ?_)
                refine aops_cons rfl rfl (AOp.callP Try.call22 rfl rfl rfl (by exact holds x _ _ _ hs (by first | omega | (simp <;> omega) | (simp at * <;> omega))) ?_)
                refine aops_cons rfl rfl (AOp.move rfl rfl ?_)
                refine aops_cons rfl rfl (AOp.move rfl rfl ?_)
                first
                | refine aops_cons rfl rfl (AOp.conviI Try.underlying5 Try.underlying3 rfl rfl (by first | omega | (simp <;> omega) | (simp at * <;> omega)) (by first | omega | (simp <;> omega) | (simp at * <;> omega)) ?_)
                | refine aops_cons rfl rfl (AOp.convi Try.underlying5 Try.underlying3 rfl rfl rfl ?_)
                refine aops_cons rfl rfl (AOp.move rfl rfl ?_)
                refine aops_cons rfl rfl (AOp.move rfl rfl ?_)
                refine aops_cons rfl rfl (AOp.callP Try.call23 rfl rfl rfl (by exact rHolds x _ _ _ hs (by first | omega | (simp <;> omega) | (simp at * <;> omega))) ?_)
                refine aops_cons rfl rfl (AOp.neq rfl rfl rfl ?_)
                refine aops_cons rfl rfl (AOp.move rfl rfl ?_)
                refine aops_guard 13 false 52 _ rfl rfl rfl rfl rfl (fun g14 => ?_) (fun g14 => ?_)
                focus
                  have g14_ := g14
                  try simp only [List.length_map, List.length_cons, List.length_nil, nrm] at g14
                  all_goals try (exfalso; first | (simp at g14_; done) | omega)
                  all_goals
                    refine AOp.move rfl rfl ?_
                    refine aops_guard 13 false 52 _ rfl rfl rfl rfl rfl (fun _ => ?_) (fun hh => by exfalso; first | (rw [g14_] at hh; exact absurd hh (by decide)) | (revert hh; simp [g14_]))
                    refine AOp.move rfl rfl ?_
                    refine aops_guard 13 false 52 _ rfl rfl rfl rfl rfl (fun _ => ?_) (fun hh => by exfalso; first | (rw [g14_] at hh; exact absurd hh (by decide)) | (revert hh; simp [g14_]))
                    refine AOp.move rfl rfl ?_
                    refine aops_guard 13 false 52 _ rfl rfl rfl rfl rfl (fun _ => ?_) (fun hh => by exfalso; first | (rw [g14_] at hh; exact absurd hh (by decide)) | (revert hh; simp [g14_]))
                    refine AOp.callP Try.call25 rfl rfl rfl (by exact drop x _ _ (by first | omega | (simp <;> omega) | (simp at * <;> omega))) ?_
                    refine aops_guard 13 false 52 _ rfl rfl rfl rfl rfl (fun _ => ?_) (fun hh => by exfalso; first | (rw [g14_] at hh; exact absurd hh (by decide)) | (revert hh; simp [g14_]))
                    refine AOp.move rfl rfl ?_
                    refine aops_guard 13 false 52 _ rfl rfl rfl rfl rfl (fun _ => ?_) (fun hh => by exfalso; first | (rw [g14_] at hh; exact absurd hh (by decide)) | (revert hh; simp [g14_]))
                    refine AOp.move rfl rfl ?_
                    refine aops_guard 13 false 52 _ rfl rfl rfl rfl rfl (fun _ => ?_) (fun hh => by exfalso; first | (rw [g14_] at hh; exact absurd hh (by decide)) | (revert hh; simp [g14_]))
                    refine AOp.move rfl rfl ?_
                    refine aops_guard 13 false 52 _ rfl rfl rfl rfl rfl (fun _ => ?_) (fun hh => by exfalso; first | (rw [g14_] at hh; exact absurd hh (by decide)) | (revert hh; simp [g14_]))
                    refine AOp.callP Try.call26 rfl rfl rfl (by exact rDrop x _ _ (by first | omega | (simp <;> omega) | (simp at * <;> omega))) ?_
                    refine aops_guard 13 false 52 _ rfl rfl rfl rfl rfl (fun _ => ?_) (fun hh => by exfalso; first | (rw [g14_] at hh; exact absurd hh (by decide)) | (revert hh; simp [g14_]))
                    refine AOp.callP Try.call24 rfl rfl rfl (by exact sameLeasesT rfl (Nat.le_trans (len_drp _ _ _) (by first | omega | (simp <;> omega) | (simp at * <;> omega)))) ?_
                    refine aops_guard 13 false 52 _ rfl rfl rfl rfl rfl (fun _ => ?_) (fun hh => by exfalso; first | (rw [g14_] at hh; exact absurd hh (by decide)) | (revert hh; simp [g14_]))
                    refine AOp.not rfl rfl ?_
                rotate_right
                focus
                  have g14_ := g14
                  try simp only [List.length_map, List.length_cons, List.length_nil, nrm] at g14
                  all_goals try (exfalso; first | (simp at g14_; done) | omega)
                  all_goals
                    refine aops_guard 13 false 52 _ rfl rfl rfl rfl rfl (fun hh => by exfalso; first | (rw [g14_] at hh; exact absurd hh (by decide)) | (revert hh; simp [g14_])) (fun _ => ?_)
                    refine aops_guard 13 false 52 _ rfl rfl rfl rfl rfl (fun hh => by exfalso; first | (rw [g14_] at hh; exact absurd hh (by decide)) | (revert hh; simp [g14_])) (fun _ => ?_)
                    refine aops_guard 13 false 52 _ rfl rfl rfl rfl rfl (fun hh => by exfalso; first | (rw [g14_] at hh; exact absurd hh (by decide)) | (revert hh; simp [g14_])) (fun _ => ?_)
                    refine aops_guard 13 false 52 _ rfl rfl rfl rfl rfl (fun hh => by exfalso; first | (rw [g14_] at hh; exact absurd hh (by decide)) | (revert hh; simp [g14_])) (fun _ => ?_)
                    refine aops_guard 13 false 52 _ rfl rfl rfl rfl rfl (fun hh => by exfalso; first | (rw [g14_] at hh; exact absurd hh (by decide)) | (revert hh; simp [g14_])) (fun _ => ?_)
                    refine aops_guard 13 false 52 _ rfl rfl rfl rfl rfl (fun hh => by exfalso; first | (rw [g14_] at hh; exact absurd hh (by decide)) | (revert hh; simp [g14_])) (fun _ => ?_)
                    refine aops_guard 13 false 52 _ rfl rfl rfl rfl rfl (fun hh => by exfalso; first | (rw [g14_] at hh; exact absurd hh (by decide)) | (revert hh; simp [g14_])) (fun _ => ?_)
                    refine aops_guard 13 false 52 _ rfl rfl rfl rfl rfl (fun hh => by exfalso; first | (rw [g14_] at hh; exact absurd hh (by decide)) | (revert hh; simp [g14_])) (fun _ => ?_)
                    refine aops_guard 13 false 52 _ rfl rfl rfl rfl rfl (fun hh => by exfalso; first | (rw [g14_] at hh; exact absurd hh (by decide)) | (revert hh; simp [g14_])) (fun _ => ?_)
                all_goals
                  first
                  | refine aops_cons rfl rfl (AOp.pick_t rfl rfl (by first | assumption | rfl) rfl ?_)
                  | refine aops_cons rfl rfl (AOp.pick_f rfl rfl (by first | assumption | rfl) rfl ?_)
                  refine aops_nil ?_
                  refine aw_cond _ rfl (fun h15 => ?_) (fun h15 => ?_)
                  focus
                    have h15_ := h15
                    try simp only [List.length_map, List.length_cons, List.length_nil, nrm] at h15
                    all_goals try (exfalso; first | (simp at h15_; done) | omega)
                    all_goals
                      refine aw_seq ?_
                      refine aw_region ?_
                      refine aops_cons rfl rfl (AOp.assign rfl rfl ?_)
                      refine aops_nil ?_
                      refine aw_ret ?_
                      refine ⟨_, (res1 Try.results4 rfl), ?_⟩
                      first | rfl | (simp; done) | (simp; omega)
                  rotate_right
                  focus
                    have h15_ := h15
                    try simp only [List.length_map, List.length_cons, List.length_nil, nrm] at h15
                    all_goals try (exfalso; first | (simp at h15_; done) | omega)
                    all_goals
                      refine aw_skip ?_
                      skip
                  all_goals
                    refine aw_seq ?_
                    refine aw_region ?_
                    refine aops_cons rfl rfl (AOp.assign rfl rfl ?_)
                    refine aops_nil ?_
                    refine aw_block ?_
                    refine aw_loop (β := Nat) (S := (fun (z0 : Nat) => match z0 with | m => [(1, ls w), (3, .sc (.int .u8 (t.toNat : Int))), (4, .sc (.int .i64 c)), (5, .sc (.int .i64 f)), (8, .im z.e), (13, ls x), (14, .sc (.int .i64 (i : Int))), (15, .sc (.int .i64 (k : Int))), (16, .sc (.int .i64 ((m : Int) + 1)))])) (B := (fun (z0 : Nat) => match z0 with | m => [])) (pre := (fun (z0 : Nat) => match z0 with | m => m ≤ 2)) (μ := (fun (z0 : Nat) => match z0 with | m => 2 - m)) 0 (wk_env (sube_cons rfl (sube_cons rfl (sube_cons rfl (sube_cons rfl (sube_cons rfl (sube_cons rfl (sube_cons rfl (sube_cons rfl (sube_cons rfl (sube_nil _))))))))))) ?_ ?_
                    · exact Nat.zero_le _
                    · rintro m hm
                      change AW _ _ _ ([(1, ls w), (3, .sc (.int .u8 (t.toNat : Int))), (4, .sc (.int .i64 c)), (5, .sc (.int .i64 f)), (8, .im z.e), (13, ls x), (14, .sc (.int .i64 (i : Int))), (15, .sc (.int .i64 (k : Int))), (16, .sc (.int .i64 ((m : Int) + 1)))] : Env) ([] : List Blk) _
                      replace hm : m ≤ 2 := hm
                      refine aw_seq ?_
                      refine aw_seq ?_
                      refine aw_region ?_
                      refine aops_cons rfl rfl (AOp.move rfl rfl ?_)
                      refine aops_cons rfl rfl (AOp.lss rfl rfl rfl ?_)
                      refine aops_nil ?_
                      refine aw_cond _ rfl (fun h16 => ?_) (fun h16 => ?_)
                      focus
                        have h16_ := h16
                        try simp only [List.length_map, List.length_cons, List.length_nil, nrm] at h16
                        all_goals try (exfalso; first | (simp at h16_; done) | omega)
                        all_goals
                          refine aw_skip ?_
                          skip
                      rotate_right
                      focus
                        have h16_ := h16
                        try simp only [List.length_map, List.length_cons, List.length_nil, nrm] at h16
                        all_goals try (exfalso; first | (simp at h16_; done) | omega)
                        all_goals
                          refine aw_exit ?_
                          refine aw_region ?_
                          refine aops_cons rfl rfl (AOp.move rfl rfl ?_)
                          first
                          | refine aops_cons rfl rfl (AOp.addE rfl rfl rfl (by first | omega | (simp <;> omega) | (simp at * <;> omega)) (by first | omega | (simp <;> omega) | (simp at * <;> omega)) ?_)
                          | refine aops_cons rfl rfl (AOp.add rfl rfl rfl rfl ?_)
                          refine aops_cons rfl rfl (AOp.assign rfl rfl ?_)
                          refine aops_nil ?_
                          refine ⟨k + 1, ?_, ?_, (wk_env (sube_cons rfl (sube_cons rfl (sube_cons rfl (sube_cons rfl (sube_cons rfl (sube_cons rfl (sube_cons rfl (sube_cons rfl (sube_nil _))))))))))⟩
                          · dsimp only; omega
                          · dsimp only; omega
                      all_goals
                        refine aw_seq ?_
                        refine aw_block ?_
                        refine aw_seq ?_
                        refine aw_region ?_
                        refine aops_cons rfl rfl (AOp.move rfl rfl ?_)
                        refine aops_cons rfl rfl (AOp.move rfl rfl ?_)
                        first
                        | refine aops_cons rfl rfl (AOp.conviI Try.underlying5 Try.underlying3 rfl rfl (by first | omega | (simp <;> omega) | (simp at * <;> omega)) (by first | omega | (simp <;> omega) | (simp at * <;> omega)) ?_)
                        | refine aops_cons rfl rfl (AOp.convi Try.underlying5 Try.underlying3 rfl rfl rfl ?_)
                        refine aops_cons rfl rfl (AOp.move rfl rfl ?_)
                        refine aops_cons rfl rfl (AOp.move rfl rfl ?_)
                        refine aops_cons rfl rfl (AOp.move rfl rfl ?_)
                        refine aops_cons rfl rfl (AOp.callP Try.call28 rfl rfl rfl (by exact clash x _ _ _ _ hs (by first | omega | (simp <;> omega) | (simp at * <;> omega))) ?_)
                        refine aops_cons rfl rfl (AOp.move rfl rfl ?_)
                        refine aops_cons rfl rfl (AOp.move rfl rfl ?_)
                        first
                        | refine aops_cons rfl rfl (AOp.conviI Try.underlying5 Try.underlying3 rfl rfl (by first | omega | (simp <;> omega) | (simp at * <;> omega)) (by first | omega | (simp <;> omega) | (simp at * <;> omega)) ?_)
                        | refine aops_cons rfl rfl (AOp.convi Try.underlying5 Try.underlying3 rfl rfl rfl ?_)
                        refine aops_cons rfl rfl (AOp.move rfl rfl ?_)
                        refine aops_cons rfl rfl (AOp.move rfl rfl ?_)
                        refine aops_cons rfl rfl (AOp.move rfl rfl ?_)
                        refine aops_cons rfl rfl (AOp.callP Try.call29 rfl rfl rfl (by exact rClash x _ _ _ _ hs hc3 (by first | omega | (simp <;> omega) | (simp at * <;> omega))) ?_)
                        refine aops_cons rfl rfl (AOp.callP Try.call27 rfl rfl rfl (by exact sameIntsT rfl (Nat.le_trans (len_cls _ _ _ _ _) (by first | omega | (simp <;> omega) | (simp at * <;> omega)))) ?_)
                        refine aops_cons rfl rfl (AOp.not rfl rfl ?_)
                        refine aops_nil ?_
                        refine aw_cond _ rfl (fun h17 => ?_) (fun h17 => ?_)
                        focus
                          have h17_ := h17
                          try simp only [List.length_map, List.length_cons, List.length_nil, nrm] at h17
                          all_goals try (exfalso; first | (simp at h17_; done) | omega)
                          all_goals
                            refine aw_seq ?_
                            refine aw_region ?_
                            refine aops_cons rfl rfl (AOp.assign rfl rfl ?_)
                            refine aops_nil ?_
                            refine aw_ret ?_
                            refine ⟨_, (res1 Try.results4 rfl), ?_⟩
                            first | rfl | (simp; done) | (simp; omega)
                        rotate_right
                        focus
                          have h17_ := h17
                          try simp only [List.length_map, List.length_cons, List.length_nil, nrm] at h17
                          all_goals try (exfalso; first | (simp at h17_; done) | omega)
                          all_goals
                            refine aw_skip ?_
                            skip
                        all_goals
                          refine aw_region ?_
                          refine aops_cons rfl rfl (AOp.move rfl rfl ?_)
                          first
                          | refine aops_cons rfl rfl (AOp.addE rfl rfl rfl (by first | omega | (simp <;> omega) | (simp at * <;> omega)) (by first | omega | (simp <;> omega) | (simp at * <;> omega)) ?_)
                          | refine aops_cons rfl rfl (AOp.add rfl rfl rfl rfl ?_)
                          refine aops_cons rfl rfl (AOp.assign rfl rfl ?_)
                          refine aops_nil ?_
                          refine ⟨m + 1, ?_, ?_, (wk_env (sube_cons rfl (sube_cons rfl (sube_cons rfl (sube_cons rfl (sube_cons rfl (sube_cons rfl (sube_cons rfl (sube_cons rfl (sube_cons rfl (sube_nil _)))))))))))⟩
                          · dsimp only; omega
                          · dsimp only; omega

end Go.Proofs.Ytdlkmimgdghgcaa
