/- Own text: who else holds it. -/
import Derived.Test.YtdacnebhlgibhaaLb
set_option linter.unusedVariables false
set_option linter.unusedSimpArgs false
set_option linter.all false
set_option maxRecDepth 100000
set_option maxHeartbeats 2000000
namespace Go.Proofs.Ytdacnebhlgibhaa
open Go Go.Aw

def clp (l : List L) (now c f m : Int) (x : L) : Bool := decide (x.f = f ∧ x.c ≠ c) && decide (hld l now x.c f ≠ 0 ∧ (m = 2 ∨ hld l now x.c f = 2))
def cls (l : List L) (now c f m : Int) : List Int := (l.filter (clp l now c f m)).map (·.c)

theorem clash (l : List L) (now c f m : Int) (hs : srt l) (hl : l.length ≤ 1000000) : Pur Try.prog 107 [ls l, .sc (.int .i64 now), .sc (.int .i64 c), .sc (.int .i64 f), .sc (.int .i64 m)] (ints (cls l now c f m)) := by
  refine acallsN Try.func107 rfl Try.ntmps107 rfl ?_
  refine aw_seq ?_
  refine aw_region ?_
  refine aops_cons rfl rfl (AOp.assign rfl rfl ?_)
  refine aops_nil ?_
  refine aw_seq ?_
  refine aw_seq ?_
  refine aw_region ?_
  refine aops_cons rfl rfl (AOp.move rfl rfl ?_)
  refine aops_cons rfl rfl (AOp.lenS (by first | exact List.length_map _ | rfl) Try.underlying27 rfl rfl ?_)
  refine aops_cons rfl rfl (AOp.move rfl rfl ?_)
  refine aops_nil ?_
  refine aw_block ?_
  refine aw_loop (β := Nat × Value) (S := (fun (z0 : Nat × Value) => match z0 with | (i, w) => [(0, ls l), (1, .sc (.int .i64 now)), (2, .sc (.int .i64 c)), (3, .sc (.int .i64 f)), (4, .sc (.int .i64 m)), (10, .sc w), (14, ls l), (15, .sc (.int .i64 (l.length : Nat))), (16, .sc (.int .i64 (i : Int)))])) (B := (fun (z0 : Nat × Value) => match z0 with | (i, w) => [.row w 3 1 ((((l.take i).filter (clp l now c f m)).map (·.c)).map ie)])) (pre := (fun (z0 : Nat × Value) => match z0 with | (i, w) => i ≤ l.length)) (μ := (fun (z0 : Nat × Value) => match z0 with | (i, w) => l.length - i)) (0, .slice none 0 0) ((wk_nil 3 1).trans (wk_env (sube_cons rfl (sube_cons rfl (sube_cons rfl (sube_cons rfl (sube_cons rfl (sube_cons rfl (sube_cons rfl (sube_cons rfl (sube_cons rfl (sube_nil _)))))))))))) ?_ ?_
  · exact Nat.zero_le _
  · rintro ⟨i, w⟩ hp
    change AW _ _ _ ([(0, ls l), (1, .sc (.int .i64 now)), (2, .sc (.int .i64 c)), (3, .sc (.int .i64 f)), (4, .sc (.int .i64 m)), (10, .sc w), (14, ls l), (15, .sc (.int .i64 (l.length : Nat))), (16, .sc (.int .i64 (i : Int)))] : Env) ([.row w 3 1 ((((l.take i).filter (clp l now c f m)).map (·.c)).map ie)] : List Blk) _
    replace hp : i ≤ l.length := hp
    refine aw_seq ?_
    refine aw_region ?_
    refine aops_cons rfl rfl (AOp.lss rfl rfl rfl ?_)
    refine aops_nil ?_
    refine aw_seq ?_
    refine aw_cond _ rfl (fun h1 => ?_) (fun h1 => ?_)
    focus
      have h1_ := h1
      try simp only [List.length_map, List.length_cons, List.length_nil, nrm] at h1
      all_goals try (exfalso; first | (simp at h1_; done) | omega)
      all_goals
        refine aw_skip ?_
        skip
    rotate_right
    focus
      have h1_ := h1
      try simp only [List.length_map, List.length_cons, List.length_nil, nrm] at h1
      all_goals try (exfalso; first | (simp at h1_; done) | omega)
      all_goals
        refine aw_exit ?_
        refine aw_seq ?_
        refine aw_region ?_
        refine aops_cons rfl rfl (AOp.move rfl rfl ?_)
        refine aops_cons rfl rfl (AOp.assign rfl rfl ?_)
        refine aops_nil ?_
        refine aw_weak (wk_freeze (pull_here _ _) (subf_new (s := 10) rfl (subf_nil _ _ _))) ?_
        refine aw_weak (wk_drop (List.nil_sublist _)) ?_
        refine aw_ret ?_
        refine ⟨_, (res1 Try.results107 rfl), ?_⟩
        refine ⟨?_, rfl⟩
        rw [List.take_of_length_le (by omega)]; rfl
    all_goals
      refine aw_seq ?_
      refine aw_block ?_
      refine aw_seq ?_
      refine aw_region ?_
      refine aops_cons rfl rfl (AOp.indexLN Try.underlying27 Try.sizeOf111 rfl rfl rfl (by first | first | omega | (simp <;> omega) | (simp at * <;> omega) | (have := List.length_filter_le (clp l now c f m) (l.take i); simp at this ⊢; omega)) (fun _ => rfl) ?_)
      refine aops_cons rfl rfl (AOp.loadN Try.isAgg111 Try.sizeOf111 rfl rfl (reads_im _ _) rfl rfl ?_)
      refine aops_cons rfl rfl (AOp.alloc Try.zeroValue111 (by kernel_rfl) rfl rfl ?_); intro b1
      refine aops_cons rfl rfl (AOp.storeB' Try.sizeOf111 rfl rfl rfl rfl rfl (pull_here _ _) rfl rfl ?_)
      refine aops_nil ?_
      refine aw_seq ?_
      refine aw_seq ?_
      refine aw_region ?_
      refine aops_cons rfl rfl (AOp.fieldB Try.underlying111 rfl Try.sizeOf3 (by decide) rfl rfl rfl ?_)
      refine aops_cons rfl rfl (AOp.load1 Try.isAgg3 rfl rfl (reads_box _ (.head _)) rfl ?_)
      refine aops_cons rfl rfl (AOp.move rfl rfl ?_)
      refine aops_cons rfl rfl (AOp.neq rfl rfl rfl ?_)
      refine aops_cons rfl rfl (AOp.move rfl rfl ?_)
      refine aops_guard 4 false 24 _ rfl rfl rfl rfl rfl (fun g2 => ?_) (fun g2 => ?_)
      focus
        have g2_ := g2
        try simp only [List.length_map, List.length_cons, List.length_nil, nrm] at g2
        all_goals try (exfalso; first | (simp at g2_; done) | omega)
        all_goals
          refine AOp.fieldB Try.underlying111 rfl Try.sizeOf3 (by decide) rfl rfl rfl ?_
          refine aops_guard 4 false 24 _ rfl rfl rfl rfl rfl (fun _ => ?_) (fun hh => by exfalso; first | (rw [g2_] at hh; exact absurd hh (by decide)) | (revert hh; simp [g2_]))
          refine AOp.load1 Try.isAgg3 rfl rfl (reads_box _ (.head _)) rfl ?_
          refine aops_guard 4 false 24 _ rfl rfl rfl rfl rfl (fun _ => ?_) (fun hh => by exfalso; first | (rw [g2_] at hh; exact absurd hh (by decide)) | (revert hh; simp [g2_]))
          refine AOp.move rfl rfl ?_
          refine aops_guard 4 false 24 _ rfl rfl rfl rfl rfl (fun _ => ?_) (fun hh => by exfalso; first | (rw [g2_] at hh; exact absurd hh (by decide)) | (revert hh; simp [g2_]))
          refine AOp.eql rfl rfl rfl ?_
      rotate_right
      focus
        have g2_ := g2
        try simp only [List.length_map, List.length_cons, List.length_nil, nrm] at g2
        all_goals try (exfalso; first | (simp at g2_; done) | omega)
        all_goals
          refine aops_guard 4 false 24 _ rfl rfl rfl rfl rfl (fun hh => by exfalso; first | (rw [g2_] at hh; exact absurd hh (by decide)) | (revert hh; simp [g2_])) (fun _ => ?_)
          refine aops_guard 4 false 24 _ rfl rfl rfl rfl rfl (fun hh => by exfalso; first | (rw [g2_] at hh; exact absurd hh (by decide)) | (revert hh; simp [g2_])) (fun _ => ?_)
          refine aops_guard 4 false 24 _ rfl rfl rfl rfl rfl (fun hh => by exfalso; first | (rw [g2_] at hh; exact absurd hh (by decide)) | (revert hh; simp [g2_])) (fun _ => ?_)
      all_goals
        first
        | refine aops_cons rfl rfl (AOp.pick_t rfl rfl (by first | assumption | rfl) rfl ?_)
        | refine aops_cons rfl rfl (AOp.pick_f rfl rfl (by first | assumption | rfl) rfl ?_)
        refine aops_nil ?_
        refine aw_cond _ rfl (fun h3 => ?_) (fun h3 => ?_)
        focus
          have h3_ := h3
          try simp only [List.length_map, List.length_cons, List.length_nil, nrm] at h3
          all_goals try (exfalso; first | (simp at h3_; done) | omega)
          all_goals
            refine aw_exit ?_
            refine aw_region ?_
            refine aops_cons rfl rfl (AOp.addE rfl rfl rfl (by first | first | omega | (simp <;> omega) | (simp at * <;> omega) | (have := List.length_filter_le (clp l now c f m) (l.take i); simp at this ⊢; omega)) (by first | first | omega | (simp <;> omega) | (simp at * <;> omega) | (have := List.length_filter_le (clp l now c f m) (l.take i); simp at this ⊢; omega)) ?_)
            refine aops_cons rfl rfl (AOp.move rfl rfl ?_)
            refine aops_nil ?_
            (refine ⟨(i + 1, _), ?_, ?_, (wk_drop ?_).trans ((wk_roweq (A := []) (filter_no ?_ ?_)).trans (wk_env (sube_cons rfl (sube_cons rfl (sube_cons rfl (sube_cons rfl (sube_cons rfl (sube_cons rfl (sube_cons rfl (sube_cons rfl (sube_cons rfl (sube_nil _))))))))))))⟩; (dsimp only; omega); (dsimp only; omega); (focus ((repeat (first | exact List.Sublist.slnil | apply List.Sublist.cons_cons | apply List.Sublist.cons)); done)); omega; focus (simp [clp, *]; done))
        rotate_right
        focus
          have h3_ := h3
          try simp only [List.length_map, List.length_cons, List.length_nil, nrm] at h3
          all_goals try (exfalso; first | (simp at h3_; done) | omega)
          all_goals
            refine aw_skip ?_
            skip
        all_goals
          refine aw_seq ?_
          refine aw_region ?_
          refine aops_cons rfl rfl (AOp.move rfl rfl ?_)
          refine aops_cons rfl rfl (AOp.move rfl rfl ?_)
          refine aops_cons rfl rfl (AOp.fieldB Try.underlying111 rfl Try.sizeOf3 (by decide) rfl rfl rfl ?_)
          refine aops_cons rfl rfl (AOp.load1 Try.isAgg3 rfl rfl (reads_box _ (.head _)) rfl ?_)
          refine aops_cons rfl rfl (AOp.move rfl rfl ?_)
          refine aops_cons rfl rfl (AOp.callP Try.call131 rfl rfl rfl (by exact holds l now _ f hs hl) ?_)
          refine aops_cons rfl rfl (AOp.assign rfl rfl ?_)
          refine aops_nil ?_
          refine aw_seq ?_
          refine aw_region ?_
          refine aops_cons rfl rfl (AOp.move rfl rfl ?_)
          refine aops_cons rfl rfl (AOp.neq rfl rfl rfl ?_)
          refine aops_cons rfl rfl (AOp.move rfl rfl ?_)
          refine aops_guard 2 true 38 _ rfl rfl rfl rfl rfl (fun g4 => ?_) (fun g4 => ?_)
          focus
            have g4_ := g4
            try simp only [List.length_map, List.length_cons, List.length_nil, nrm] at g4
            all_goals try (exfalso; first | (simp at g4_; done) | omega)
            all_goals
              refine AOp.move rfl rfl ?_
              refine aops_guard 2 true 38 _ rfl rfl rfl rfl rfl (fun _ => ?_) (fun hh => by exfalso; first | (rw [g4_] at hh; exact absurd hh (by decide)) | (revert hh; simp [g4_]))
              refine AOp.eql rfl rfl rfl ?_
              refine aops_guard 2 true 38 _ rfl rfl rfl rfl rfl (fun _ => ?_) (fun hh => by exfalso; first | (rw [g4_] at hh; exact absurd hh (by decide)) | (revert hh; simp [g4_]))
              refine AOp.move rfl rfl ?_
          rotate_right
          focus
            have g4_ := g4
            try simp only [List.length_map, List.length_cons, List.length_nil, nrm] at g4
            all_goals try (exfalso; first | (simp at g4_; done) | omega)
            all_goals
              refine aops_guard 2 true 38 _ rfl rfl rfl rfl rfl (fun hh => by exfalso; first | (rw [g4_] at hh; exact absurd hh (by decide)) | (revert hh; simp [g4_])) (fun _ => ?_)
              refine aops_guard 2 true 38 _ rfl rfl rfl rfl rfl (fun hh => by exfalso; first | (rw [g4_] at hh; exact absurd hh (by decide)) | (revert hh; simp [g4_])) (fun _ => ?_)
          all_goals
            first
            | (refine aops_guardU 5 false 41 rfl rfl rfl rfl rfl ?_; refine aops_guardU 5 false 41 rfl rfl rfl rfl rfl ?_)
            | skip
              refine aops_guard 5 false 41 _ rfl rfl rfl rfl rfl (fun g5 => ?_) (fun g5 => ?_)
              focus
                have g5_ := g5
                try simp only [List.length_map, List.length_cons, List.length_nil, nrm] at g5
                all_goals try (exfalso; first | (simp at g5_; done) | omega)
                all_goals
                  refine AOp.move rfl rfl ?_
                  refine aops_guard 5 false 41 _ rfl rfl rfl rfl rfl (fun _ => ?_) (fun hh => by exfalso; first | (rw [g5_] at hh; exact absurd hh (by decide)) | (revert hh; simp [g5_]))
                  refine AOp.eql rfl rfl rfl ?_
              rotate_right
              focus
                have g5_ := g5
                try simp only [List.length_map, List.length_cons, List.length_nil, nrm] at g5
                all_goals try (exfalso; first | (simp at g5_; done) | omega)
                all_goals
                  refine aops_guard 5 false 41 _ rfl rfl rfl rfl rfl (fun hh => by exfalso; first | (rw [g5_] at hh; exact absurd hh (by decide)) | (revert hh; simp [g5_])) (fun _ => ?_)
            all_goals
              refine aops_guard 2 true 38 _ rfl rfl rfl rfl rfl (fun g6 => ?_) (fun g6 => ?_)
              focus
                have g6_ := g6
                try simp only [List.length_map, List.length_cons, List.length_nil, nrm] at g6
                all_goals try (exfalso; first | (simp at g6_; done) | omega)
                all_goals
                  first
                  | refine AOp.pick_t rfl rfl (by first | assumption | rfl) rfl ?_
                  | refine AOp.pick_f rfl rfl (by first | assumption | rfl) rfl ?_
              rotate_right
              focus
                have g6_ := g6
                try simp only [List.length_map, List.length_cons, List.length_nil, nrm] at g6
                all_goals try (exfalso; first | (simp at g6_; done) | omega)
              all_goals
                first
                | refine aops_cons rfl rfl (AOp.pick_t rfl rfl (by first | assumption | rfl) rfl ?_)
                | refine aops_cons rfl rfl (AOp.pick_f rfl rfl (by first | assumption | rfl) rfl ?_)
                refine aops_nil ?_
                refine aw_cond _ rfl (fun h7 => ?_) (fun h7 => ?_)
                focus
                  have h7_ := h7
                  try simp only [List.length_map, List.length_cons, List.length_nil, nrm] at h7
                  all_goals try (exfalso; first | (simp at h7_; done) | omega)
                  all_goals
                    refine aw_region ?_
                    refine aops_cons rfl rfl (AOp.move rfl rfl ?_)
                    refine aops_cons rfl rfl (AOp.fieldB Try.underlying111 rfl Try.sizeOf3 (by decide) rfl rfl rfl ?_)
                    refine aops_cons rfl rfl (AOp.load1 Try.isAgg3 rfl rfl (reads_box _ (.head _)) rfl ?_)
                    refine aops_cons rfl rfl (AOp.buildS' Try.underlying42 Try.sizeOf3 Try.zeroValue3 rfl rfl rfl rfl rfl rfl rfl rfl rfl rfl rfl ?_)
                    (refine aops_cons rfl rfl (AOp.append' (bytes := 8) Try.zeroValue3 Try.sizeOf3 Try.underlying42 (by kernel_rfl) rfl rfl rfl (pull_there (pull_here _ _)) rfl (src_sl Try.underlying42 (all_len rfl)) (by first | first | omega | (simp <;> omega) | (simp at * <;> omega) | (have := List.length_filter_le (clp l now c f m) (l.take i); simp at this ⊢; omega)) (by decide) ?_); intro b2)
                    refine aops_cons rfl rfl (AOp.assign rfl rfl ?_)
                    refine aops_nil ?_
                    skip
                rotate_right
                focus
                  have h7_ := h7
                  try simp only [List.length_map, List.length_cons, List.length_nil, nrm] at h7
                  all_goals try (exfalso; first | (simp at h7_; done) | omega)
                  all_goals
                    refine aw_skip ?_
                    skip
                all_goals
                  refine aw_region ?_
                  refine aops_cons rfl rfl (AOp.addE rfl rfl rfl (by first | first | omega | (simp <;> omega) | (simp at * <;> omega) | (have := List.length_filter_le (clp l now c f m) (l.take i); simp at this ⊢; omega)) (by first | first | omega | (simp <;> omega) | (simp at * <;> omega) | (have := List.length_filter_le (clp l now c f m) (l.take i); simp at this ⊢; omega)) ?_)
                  refine aops_cons rfl rfl (AOp.move rfl rfl ?_)
                  refine aops_nil ?_
                  first
                  | (refine ⟨(i + 1, _), ?_, ?_, (wk_drop ?_).trans ((wk_roweq (A := []) (filter_yes ?_ ?_)).trans (wk_env (sube_cons rfl (sube_cons rfl (sube_cons rfl (sube_cons rfl (sube_cons rfl (sube_cons rfl (sube_cons rfl (sube_cons rfl (sube_cons rfl (sube_nil _))))))))))))⟩; (dsimp only; omega); (dsimp only; omega); (focus ((repeat (first | exact List.Sublist.slnil | apply List.Sublist.cons_cons | apply List.Sublist.cons)); done)); omega; focus (simp [clp, *]; done))
                  | (refine ⟨(i + 1, _), ?_, ?_, (wk_drop ?_).trans ((wk_roweq (A := []) (filter_no ?_ ?_)).trans (wk_env (sube_cons rfl (sube_cons rfl (sube_cons rfl (sube_cons rfl (sube_cons rfl (sube_cons rfl (sube_cons rfl (sube_cons rfl (sube_cons rfl (sube_nil _))))))))))))⟩; (dsimp only; omega); (dsimp only; omega); (focus ((repeat (first | exact List.Sublist.slnil | apply List.Sublist.cons_cons | apply List.Sublist.cons)); done)); omega; focus (simp [clp, *]; done))

end Go.Proofs.Ytdacnebhlgibhaa
