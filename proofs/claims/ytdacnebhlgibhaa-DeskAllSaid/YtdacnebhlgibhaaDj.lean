/- Own text: any number may read beside one another. -/
import Derived.Test.YtdacnebhlgibhaaDi
set_option linter.unusedVariables false
set_option linter.unusedSimpArgs false
set_option linter.all false
set_option maxRecDepth 100000
set_option maxHeartbeats 2000000
namespace Go.Proofs.Ytdacnebhlgibhaa
open Go Go.Aw

theorem acalls_args {P : Program} {f : FuncId} {args args' : List AV} {A : List Blk} {R E : AV → List Blk → Prop} (h : ACalls P f args' A R E) (hh : ∀ H vs, RelA H args vs → RelA H args' vs) : ACalls P f args A R E := fun H G W vs s a => h H G W vs s (hh H vs a)
theorem nil_dk {H : Hp} {u : Value} (h : Rel H (.ag [.sc (.slice none 0 0), .sc (.slice none 0 0)]) u) : Rel H (dk ⟨[], []⟩) u :=
  fz_ag (.cons (fz_row (.slice none 0 0) []) (.cons (fz_row _ _) .nil)) H u (nil_sl H _ (.sc _)) h
theorem relA_head {H : Hp} {x y : AV} {l : List AV} {vs : Array Value} (hh : ∀ u, Rel H x u → Rel H y u) (h : RelA H (x :: l) vs) : RelA H (y :: l) vs := by
  refine ⟨by simpa using h.1, fun j z hz => ?_⟩
  cases j with
  | zero => cases hz; obtain ⟨u, h1, h2⟩ := h.2 0 x rfl; exact ⟨u, h1, hh u h2⟩
  | succ j => exact h.2 (j + 1) z (by simpa using hz)
theorem u1 : uniq [⟨2, 1, 2, 1⟩] := by simp [uniq]
theorem s1 : srt [⟨1, 2, 2, 60⟩] := by simp [srt]
theorem bA1 : Pur Try.prog 21 [.ag [.sc (.slice none 0 0), .sc (.slice none 0 0)], .sc (.int .i64 0), .ag (Wt.e ⟨1, 1, 2, 2⟩)] (askA ((⟨[⟨1, 2, 2, 60⟩], []⟩ : Dk), true, [], 0)) := by
  have h := ask ⟨[], []⟩ 0 ⟨1, 1, 2, 2⟩ List.Pairwise.nil List.Pairwise.nil (by decide) (by decide) (by decide) (by decide)
  exact acalls_args h (fun H vs k => relA_head (fun u => nil_dk) k)
theorem bA2 : Pur Try.prog 21 [dk (⟨[⟨1, 2, 2, 60⟩], []⟩ : Dk), .sc (.int .i64 5), .ag (Wt.e ⟨2, 1, 2, 1⟩)] (askA ((⟨[⟨1, 2, 2, 60⟩], [⟨2, 1, 2, 1⟩]⟩ : Dk), false, [1], 0)) := by
  have h := ask (⟨[⟨1, 2, 2, 60⟩], []⟩ : Dk) 5 ⟨2, 1, 2, 1⟩ s1 List.Pairwise.nil (by decide) (by decide) (by decide) (by decide)
  exact h
theorem bR1 : Pur Try.prog 18 [dk (⟨[⟨1, 2, 2, 60⟩], [⟨2, 1, 2, 1⟩]⟩ : Dk), .sc (.int .i64 59)] (.tp [dk (⟨[⟨1, 2, 2, 60⟩], [⟨2, 1, 2, 1⟩]⟩ : Dk), ws [], prs [(2, 1)]]) := by
  have h := runL (⟨[⟨1, 2, 2, 60⟩], [⟨2, 1, 2, 1⟩]⟩ : Dk) 59 s1 (by decide) (by decide) (by decide) (by decide)
  exact h
theorem bR2 : Pur Try.prog 18 [dk (⟨[⟨1, 2, 2, 60⟩], [⟨2, 1, 2, 1⟩]⟩ : Dk), .sc (.int .i64 60)] (.tp [dk (⟨[⟨2, 2, 1, 120⟩], []⟩ : Dk), ws [⟨2, 1, 2, 1⟩], prs []]) := by
  have h := runL (⟨[⟨1, 2, 2, 60⟩], [⟨2, 1, 2, 1⟩]⟩ : Dk) 60 s1 (by decide) (by decide) (by decide) (by decide)
  exact h
theorem bG : Pur Try.prog 16 [dk (⟨[⟨1, 2, 2, 60⟩], []⟩ : Dk), .sc (.int .i64 1), .sc (.int .i64 2)] (dk ⟨[], []⟩) := by
  have h := giveD (⟨[⟨1, 2, 2, 60⟩], []⟩ : Dk) 1 2 (by decide) (by decide)
  exact h

theorem begun  : Pur Try.prog 13 [] (.sc (.bool true)) := by
  refine acallsN Try.func13 rfl Try.ntmps13 rfl ?_
  refine aw_seq ?_
  refine aw_region ?_
  refine aops_cons rfl rfl (AOp.assign rfl rfl ?_)
  refine aops_nil ?_
  refine aw_seq ?_
  refine aw_region ?_
  refine aops_cons rfl rfl (AOp.build' (places := [(0, 1), (1, 1)]) Try.zeroValue30 (by kernel_rfl) (by kernel_rfl) Try.underlying30 (by kernel_rfl) rfl rfl rfl rfl ?_)
  refine aops_cons rfl rfl (AOp.build' (places := [(0, 1), (1, 1), (2, 1), (3, 1)]) Try.zeroValue25 (by kernel_rfl) (by kernel_rfl) Try.underlying25 (by kernel_rfl) rfl rfl rfl rfl ?_)
  refine aops_cons rfl rfl (AOp.callP Try.call21 rfl rfl rfl bA1 ?_)
  refine aops_cons rfl rfl (AOp.move rfl rfl ?_)
  refine aops_cons rfl rfl (AOp.extract rfl rfl rfl ?_)
  refine aops_cons rfl rfl (AOp.extract rfl rfl rfl ?_)
  refine aops_cons rfl rfl (AOp.extract rfl rfl rfl ?_)
  refine aops_cons rfl rfl (AOp.extract rfl rfl rfl ?_)
  refine aops_cons rfl rfl (AOp.alloc Try.zeroValue30 (by kernel_rfl) rfl rfl ?_); intro b1
  refine aops_cons rfl rfl (AOp.storeB' Try.sizeOf30 rfl rfl rfl rfl rfl (pull_here _ _) rfl rfl ?_)
  refine aops_cons rfl rfl (AOp.assign rfl rfl ?_)
  refine aops_cons rfl rfl (AOp.assign rfl rfl ?_)
  refine aops_cons rfl rfl (AOp.assign rfl rfl ?_)
  refine aops_nil ?_
  refine aw_seq ?_
  refine aw_region ?_
  refine aops_cons rfl rfl (AOp.loadN Try.isAgg30 Try.sizeOf30 rfl rfl (reads_box _ (.head _)) rfl rfl ?_)
  refine aops_cons rfl rfl (AOp.build' (places := [(0, 1), (1, 1), (2, 1), (3, 1)]) Try.zeroValue25 (by kernel_rfl) (by kernel_rfl) Try.underlying25 (by kernel_rfl) rfl rfl rfl rfl ?_)
  refine aops_cons rfl rfl (AOp.callP Try.call21 rfl rfl rfl bA2 ?_)
  refine aops_cons rfl rfl (AOp.move rfl rfl ?_)
  refine aops_cons rfl rfl (AOp.extract rfl rfl rfl ?_)
  refine aops_cons rfl rfl (AOp.extract rfl rfl rfl ?_)
  refine aops_cons rfl rfl (AOp.extract rfl rfl rfl ?_)
  refine aops_cons rfl rfl (AOp.extract rfl rfl rfl ?_)
  refine aops_cons rfl rfl (AOp.alloc Try.zeroValue30 (by kernel_rfl) rfl rfl ?_); intro b2
  refine aops_cons rfl rfl (AOp.storeB' Try.sizeOf30 rfl rfl rfl rfl rfl (pull_here _ _) rfl rfl ?_)
  refine aops_cons rfl rfl (AOp.assign rfl rfl ?_)
  refine aops_cons rfl rfl (AOp.assign rfl rfl ?_)
  refine aops_cons rfl rfl (AOp.assign rfl rfl ?_)
  refine aops_nil ?_
  refine aw_seq ?_
  refine aw_region ?_
  refine aops_cons rfl rfl (AOp.loadN Try.isAgg30 Try.sizeOf30 rfl rfl (reads_box _ (.head _)) rfl rfl ?_)
  refine aops_cons rfl rfl (AOp.callP Try.call18 rfl rfl rfl bR1 ?_)
  refine aops_cons rfl rfl (AOp.move rfl rfl ?_)
  refine aops_cons rfl rfl (AOp.extract rfl rfl rfl ?_)
  refine aops_cons rfl rfl (AOp.extract rfl rfl rfl ?_)
  refine aops_cons rfl rfl (AOp.extract rfl rfl rfl ?_)
  refine aops_cons rfl rfl (AOp.alloc Try.zeroValue30 (by kernel_rfl) rfl rfl ?_); intro b3
  refine aops_cons rfl rfl (AOp.storeB' Try.sizeOf30 rfl rfl rfl rfl rfl (pull_here _ _) rfl rfl ?_)
  refine aops_cons rfl rfl (AOp.assign rfl rfl ?_)
  refine aops_cons rfl rfl (AOp.assign rfl rfl ?_)
  refine aops_nil ?_
  refine aw_seq ?_
  refine aw_region ?_
  refine aops_cons rfl rfl (AOp.loadN Try.isAgg30 Try.sizeOf30 rfl rfl (reads_box _ (.tail _ (.head _))) rfl rfl ?_)
  refine aops_cons rfl rfl (AOp.callP Try.call18 rfl rfl rfl bR2 ?_)
  refine aops_cons rfl rfl (AOp.move rfl rfl ?_)
  refine aops_cons rfl rfl (AOp.extract rfl rfl rfl ?_)
  refine aops_cons rfl rfl (AOp.extract rfl rfl rfl ?_)
  refine aops_cons rfl rfl (AOp.extract rfl rfl rfl ?_)
  refine aops_cons rfl rfl (AOp.alloc Try.zeroValue30 (by kernel_rfl) rfl rfl ?_); intro b4
  refine aops_cons rfl rfl (AOp.storeB' Try.sizeOf30 rfl rfl rfl rfl rfl (pull_here _ _) rfl rfl ?_)
  refine aops_cons rfl rfl (AOp.assign rfl rfl ?_)
  refine aops_cons rfl rfl (AOp.assign rfl rfl ?_)
  refine aops_nil ?_
  refine aw_seq ?_
  refine aw_region ?_
  refine aops_cons rfl rfl (AOp.move rfl rfl ?_)
  refine aops_cons rfl rfl (AOp.move rfl rfl ?_)
  refine aops_guard 1 true 44 _ rfl rfl rfl rfl rfl (fun g1 => ?_) (fun g1 => ?_)
  focus
    have g1_ := g1
    try simp only [List.length_map, List.length_cons, List.length_nil, nrm] at g1
    all_goals try (exfalso; first | contradiction | (simp at g1_; done) | omega)
    all_goals
      refine AOp.move rfl rfl ?_
      refine aops_guard 1 true 44 _ rfl rfl rfl rfl rfl (fun _ => ?_) (fun hh => by exfalso; first | (rw [g1_] at hh; exact absurd hh (by decide)) | (revert hh; simp [g1_]))
      refine AOp.eql rfl rfl rfl ?_
  rotate_right
  focus
    have g1_ := g1
    try simp only [List.length_map, List.length_cons, List.length_nil, nrm] at g1
    all_goals try (exfalso; first | contradiction | (simp at g1_; done) | omega)
  all_goals
    refine aops_cons rfl rfl (AOp.pick_t rfl rfl (by first | assumption | rfl) rfl ?_)
    refine aops_cons rfl rfl (AOp.move rfl rfl ?_)
    refine aops_guard 5 true 48 _ rfl rfl rfl rfl rfl (fun g2 => ?_) (fun g2 => ?_)
    focus
      have g2_ := g2
      try simp only [List.length_map, List.length_cons, List.length_nil, nrm] at g2
      all_goals try (exfalso; first | contradiction | (simp at g2_; done) | omega)
      all_goals
        refine AOp.fieldB Try.underlying30 rfl Try.sizeOf27 (by decide) rfl rfl rfl ?_
        refine aops_guard 5 true 48 _ rfl rfl rfl rfl rfl (fun _ => ?_) (fun hh => by exfalso; first | (rw [g2_] at hh; exact absurd hh (by decide)) | (revert hh; simp [g2_]))
        refine AOp.load1 Try.isAgg27 rfl rfl (reads_box _ (.tail _ (.tail _ (.tail _ (.head _))))) rfl ?_
        refine aops_guard 5 true 48 _ rfl rfl rfl rfl rfl (fun _ => ?_) (fun hh => by exfalso; first | (rw [g2_] at hh; exact absurd hh (by decide)) | (revert hh; simp [g2_]))
        refine AOp.lenS (by first | exact List.length_map _ | rfl) Try.underlying27 rfl rfl ?_
        refine aops_guard 5 true 48 _ rfl rfl rfl rfl rfl (fun _ => ?_) (fun hh => by exfalso; first | (rw [g2_] at hh; exact absurd hh (by decide)) | (revert hh; simp [g2_]))
        refine AOp.eql rfl rfl rfl ?_
    rotate_right
    focus
      have g2_ := g2
      try simp only [List.length_map, List.length_cons, List.length_nil, nrm] at g2
      all_goals try (exfalso; first | contradiction | (simp at g2_; done) | omega)
    all_goals
      refine aops_cons rfl rfl (AOp.pick_t rfl rfl (by first | assumption | rfl) rfl ?_)
      refine aops_cons rfl rfl (AOp.move rfl rfl ?_)
      refine aops_guard 11 true 54 _ rfl rfl rfl rfl rfl (fun g3 => ?_) (fun g3 => ?_)
      focus
        have g3_ := g3
        try simp only [List.length_map, List.length_cons, List.length_nil, nrm] at g3
        all_goals try (exfalso; first | contradiction | (simp at g3_; done) | omega)
        all_goals
          refine AOp.move rfl rfl ?_
          refine aops_guard 11 true 54 _ rfl rfl rfl rfl rfl (fun _ => ?_) (fun hh => by exfalso; first | (rw [g3_] at hh; exact absurd hh (by decide)) | (revert hh; simp [g3_]))
          refine AOp.not rfl rfl ?_
      rotate_right
      focus
        have g3_ := g3
        try simp only [List.length_map, List.length_cons, List.length_nil, nrm] at g3
        all_goals try (exfalso; first | contradiction | (simp at g3_; done) | omega)
      all_goals
        refine aops_cons rfl rfl (AOp.pick_t rfl rfl (by first | assumption | rfl) rfl ?_)
        refine aops_cons rfl rfl (AOp.move rfl rfl ?_)
        refine aops_guard 15 true 58 _ rfl rfl rfl rfl rfl (fun g4 => ?_) (fun g4 => ?_)
        focus
          have g4_ := g4
          try simp only [List.length_map, List.length_cons, List.length_nil, nrm] at g4
          all_goals try (exfalso; first | contradiction | (simp at g4_; done) | omega)
          all_goals
            refine AOp.move rfl rfl ?_
            refine aops_guard 15 true 58 _ rfl rfl rfl rfl rfl (fun _ => ?_) (fun hh => by exfalso; first | (rw [g4_] at hh; exact absurd hh (by decide)) | (revert hh; simp [g4_]))
            refine AOp.eql rfl rfl rfl ?_
        rotate_right
        focus
          have g4_ := g4
          try simp only [List.length_map, List.length_cons, List.length_nil, nrm] at g4
          all_goals try (exfalso; first | contradiction | (simp at g4_; done) | omega)
        all_goals
          refine aops_cons rfl rfl (AOp.pick_t rfl rfl (by first | assumption | rfl) rfl ?_)
          refine aops_cons rfl rfl (AOp.move rfl rfl ?_)
          refine aops_guard 19 true 62 _ rfl rfl rfl rfl rfl (fun g5 => ?_) (fun g5 => ?_)
          focus
            have g5_ := g5
            try simp only [List.length_map, List.length_cons, List.length_nil, nrm] at g5
            all_goals try (exfalso; first | contradiction | (simp at g5_; done) | omega)
            all_goals
              refine AOp.move rfl rfl ?_
              refine aops_guard 19 true 62 _ rfl rfl rfl rfl rfl (fun _ => ?_) (fun hh => by exfalso; first | (rw [g5_] at hh; exact absurd hh (by decide)) | (revert hh; simp [g5_]))
              refine AOp.lenS (by first | exact List.length_map _ | rfl) Try.underlying42 rfl rfl ?_
              refine aops_guard 19 true 62 _ rfl rfl rfl rfl rfl (fun _ => ?_) (fun hh => by exfalso; first | (rw [g5_] at hh; exact absurd hh (by decide)) | (revert hh; simp [g5_]))
              refine AOp.eql rfl rfl rfl ?_
          rotate_right
          focus
            have g5_ := g5
            try simp only [List.length_map, List.length_cons, List.length_nil, nrm] at g5
            all_goals try (exfalso; first | contradiction | (simp at g5_; done) | omega)
          all_goals
            refine aops_cons rfl rfl (AOp.pick_t rfl rfl (by first | assumption | rfl) rfl ?_)
            refine aops_cons rfl rfl (AOp.move rfl rfl ?_)
            refine aops_guard 24 true 67 _ rfl rfl rfl rfl rfl (fun g6 => ?_) (fun g6 => ?_)
            focus
              have g6_ := g6
              try simp only [List.length_map, List.length_cons, List.length_nil, nrm] at g6
              all_goals try (exfalso; first | contradiction | (simp at g6_; done) | omega)
              all_goals
                refine AOp.move rfl rfl ?_
                refine aops_guard 24 true 67 _ rfl rfl rfl rfl rfl (fun _ => ?_) (fun hh => by exfalso; first | (rw [g6_] at hh; exact absurd hh (by decide)) | (revert hh; simp [g6_]))
                refine AOp.indexLN Try.underlying42 Try.sizeOf3 rfl rfl rfl (by first | omega | (simp <;> omega) | (simp at * <;> omega)) (fun _ => rfl) ?_
                refine aops_guard 24 true 67 _ rfl rfl rfl rfl rfl (fun _ => ?_) (fun hh => by exfalso; first | (rw [g6_] at hh; exact absurd hh (by decide)) | (revert hh; simp [g6_]))
                refine AOp.load1 Try.isAgg3 rfl rfl (reads_im _ _) rfl ?_
                refine aops_guard 24 true 67 _ rfl rfl rfl rfl rfl (fun _ => ?_) (fun hh => by exfalso; first | (rw [g6_] at hh; exact absurd hh (by decide)) | (revert hh; simp [g6_]))
                refine AOp.eql rfl rfl rfl ?_
            rotate_right
            focus
              have g6_ := g6
              try simp only [List.length_map, List.length_cons, List.length_nil, nrm] at g6
              all_goals try (exfalso; first | contradiction | (simp at g6_; done) | omega)
            all_goals
              refine aops_cons rfl rfl (AOp.pick_t rfl rfl (by first | assumption | rfl) rfl ?_)
              refine aops_cons rfl rfl (AOp.move rfl rfl ?_)
              refine aops_guard 30 true 73 _ rfl rfl rfl rfl rfl (fun g7 => ?_) (fun g7 => ?_)
              focus
                have g7_ := g7
                try simp only [List.length_map, List.length_cons, List.length_nil, nrm] at g7
                all_goals try (exfalso; first | contradiction | (simp at g7_; done) | omega)
                all_goals
                  refine AOp.fieldB Try.underlying30 rfl Try.sizeOf28 (by decide) rfl rfl rfl ?_
                  refine aops_guard 30 true 73 _ rfl rfl rfl rfl rfl (fun _ => ?_) (fun hh => by exfalso; first | (rw [g7_] at hh; exact absurd hh (by decide)) | (revert hh; simp [g7_]))
                  refine AOp.load1 Try.isAgg28 rfl rfl (reads_box _ (.tail _ (.tail _ (.head _)))) rfl ?_
                  refine aops_guard 30 true 73 _ rfl rfl rfl rfl rfl (fun _ => ?_) (fun hh => by exfalso; first | (rw [g7_] at hh; exact absurd hh (by decide)) | (revert hh; simp [g7_]))
                  refine AOp.lenS (by first | exact List.length_map _ | rfl) Try.underlying28 rfl rfl ?_
                  refine aops_guard 30 true 73 _ rfl rfl rfl rfl rfl (fun _ => ?_) (fun hh => by exfalso; first | (rw [g7_] at hh; exact absurd hh (by decide)) | (revert hh; simp [g7_]))
                  refine AOp.eql rfl rfl rfl ?_
              rotate_right
              focus
                have g7_ := g7
                try simp only [List.length_map, List.length_cons, List.length_nil, nrm] at g7
                all_goals try (exfalso; first | contradiction | (simp at g7_; done) | omega)
              all_goals
                refine aops_cons rfl rfl (AOp.pick_t rfl rfl (by first | assumption | rfl) rfl ?_)
                refine aops_cons rfl rfl (AOp.move rfl rfl ?_)
                refine aops_guard 36 true 79 _ rfl rfl rfl rfl rfl (fun g8 => ?_) (fun g8 => ?_)
                focus
                  have g8_ := g8
                  try simp only [List.length_map, List.length_cons, List.length_nil, nrm] at g8
                  all_goals try (exfalso; first | contradiction | (simp at g8_; done) | omega)
                  all_goals
                    refine AOp.move rfl rfl ?_
                    refine aops_guard 36 true 79 _ rfl rfl rfl rfl rfl (fun _ => ?_) (fun hh => by exfalso; first | (rw [g8_] at hh; exact absurd hh (by decide)) | (revert hh; simp [g8_]))
                    refine AOp.lenS (by first | exact List.length_map _ | rfl) Try.underlying28 rfl rfl ?_
                    refine aops_guard 36 true 79 _ rfl rfl rfl rfl rfl (fun _ => ?_) (fun hh => by exfalso; first | (rw [g8_] at hh; exact absurd hh (by decide)) | (revert hh; simp [g8_]))
                    refine AOp.eql rfl rfl rfl ?_
                rotate_right
                focus
                  have g8_ := g8
                  try simp only [List.length_map, List.length_cons, List.length_nil, nrm] at g8
                  all_goals try (exfalso; first | contradiction | (simp at g8_; done) | omega)
                all_goals
                  refine aops_cons rfl rfl (AOp.pick_t rfl rfl (by first | assumption | rfl) rfl ?_)
                  refine aops_cons rfl rfl (AOp.move rfl rfl ?_)
                  refine aops_guard 41 true 84 _ rfl rfl rfl rfl rfl (fun g9 => ?_) (fun g9 => ?_)
                  focus
                    have g9_ := g9
                    try simp only [List.length_map, List.length_cons, List.length_nil, nrm] at g9
                    all_goals try (exfalso; first | contradiction | (simp at g9_; done) | omega)
                    all_goals
                      refine AOp.move rfl rfl ?_
                      refine aops_guard 41 true 84 _ rfl rfl rfl rfl rfl (fun _ => ?_) (fun hh => by exfalso; first | (rw [g9_] at hh; exact absurd hh (by decide)) | (revert hh; simp [g9_]))
                      refine AOp.lenS (by first | exact List.length_map _ | rfl) Try.underlying37 rfl rfl ?_
                      refine aops_guard 41 true 84 _ rfl rfl rfl rfl rfl (fun _ => ?_) (fun hh => by exfalso; first | (rw [g9_] at hh; exact absurd hh (by decide)) | (revert hh; simp [g9_]))
                      refine AOp.eql rfl rfl rfl ?_
                  rotate_right
                  focus
                    have g9_ := g9
                    try simp only [List.length_map, List.length_cons, List.length_nil, nrm] at g9
                    all_goals try (exfalso; first | contradiction | (simp at g9_; done) | omega)
                  all_goals
                    refine aops_cons rfl rfl (AOp.pick_t rfl rfl (by first | assumption | rfl) rfl ?_)
                    refine aops_cons rfl rfl (AOp.move rfl rfl ?_)
                    refine aops_guard 46 true 89 _ rfl rfl rfl rfl rfl (fun g10 => ?_) (fun g10 => ?_)
                    focus
                      have g10_ := g10
                      try simp only [List.length_map, List.length_cons, List.length_nil, nrm] at g10
                      all_goals try (exfalso; first | contradiction | (simp at g10_; done) | omega)
                      all_goals
                        refine AOp.fieldB Try.underlying30 rfl Try.sizeOf28 (by decide) rfl rfl rfl ?_
                        refine aops_guard 46 true 89 _ rfl rfl rfl rfl rfl (fun _ => ?_) (fun hh => by exfalso; first | (rw [g10_] at hh; exact absurd hh (by decide)) | (revert hh; simp [g10_]))
                        refine AOp.load1 Try.isAgg28 rfl rfl (reads_box _ (.tail _ (.head _))) rfl ?_
                        refine aops_guard 46 true 89 _ rfl rfl rfl rfl rfl (fun _ => ?_) (fun hh => by exfalso; first | (rw [g10_] at hh; exact absurd hh (by decide)) | (revert hh; simp [g10_]))
                        refine AOp.lenS (by first | exact List.length_map _ | rfl) Try.underlying28 rfl rfl ?_
                        refine aops_guard 46 true 89 _ rfl rfl rfl rfl rfl (fun _ => ?_) (fun hh => by exfalso; first | (rw [g10_] at hh; exact absurd hh (by decide)) | (revert hh; simp [g10_]))
                        refine AOp.eql rfl rfl rfl ?_
                    rotate_right
                    focus
                      have g10_ := g10
                      try simp only [List.length_map, List.length_cons, List.length_nil, nrm] at g10
                      all_goals try (exfalso; first | contradiction | (simp at g10_; done) | omega)
                    all_goals
                      refine aops_cons rfl rfl (AOp.pick_t rfl rfl (by first | assumption | rfl) rfl ?_)
                      refine aops_cons rfl rfl (AOp.move rfl rfl ?_)
                      refine aops_guard 52 true 95 _ rfl rfl rfl rfl rfl (fun g11 => ?_) (fun g11 => ?_)
                      focus
                        have g11_ := g11
                        try simp only [List.length_map, List.length_cons, List.length_nil, nrm] at g11
                        all_goals try (exfalso; first | contradiction | (simp at g11_; done) | omega)
                        all_goals
                          refine AOp.move rfl rfl ?_
                          refine aops_guard 52 true 95 _ rfl rfl rfl rfl rfl (fun _ => ?_) (fun hh => by exfalso; first | (rw [g11_] at hh; exact absurd hh (by decide)) | (revert hh; simp [g11_]))
                          refine AOp.lenS (by first | exact List.length_map _ | rfl) Try.underlying28 rfl rfl ?_
                          refine aops_guard 52 true 95 _ rfl rfl rfl rfl rfl (fun _ => ?_) (fun hh => by exfalso; first | (rw [g11_] at hh; exact absurd hh (by decide)) | (revert hh; simp [g11_]))
                          refine AOp.eql rfl rfl rfl ?_
                      rotate_right
                      focus
                        have g11_ := g11
                        try simp only [List.length_map, List.length_cons, List.length_nil, nrm] at g11
                        all_goals try (exfalso; first | contradiction | (simp at g11_; done) | omega)
                      all_goals
                        refine aops_cons rfl rfl (AOp.pick_t rfl rfl (by first | assumption | rfl) rfl ?_)
                        refine aops_cons rfl rfl (AOp.move rfl rfl ?_)
                        refine aops_guard 57 true 100 _ rfl rfl rfl rfl rfl (fun g12 => ?_) (fun g12 => ?_)
                        focus
                          have g12_ := g12
                          try simp only [List.length_map, List.length_cons, List.length_nil, nrm] at g12
                          all_goals try (exfalso; first | contradiction | (simp at g12_; done) | omega)
                          all_goals
                            refine AOp.move rfl rfl ?_
                            refine aops_guard 57 true 100 _ rfl rfl rfl rfl rfl (fun _ => ?_) (fun hh => by exfalso; first | (rw [g12_] at hh; exact absurd hh (by decide)) | (revert hh; simp [g12_]))
                            refine AOp.lenS (by first | exact List.length_map _ | rfl) Try.underlying37 rfl rfl ?_
                            refine aops_guard 57 true 100 _ rfl rfl rfl rfl rfl (fun _ => ?_) (fun hh => by exfalso; first | (rw [g12_] at hh; exact absurd hh (by decide)) | (revert hh; simp [g12_]))
                            refine AOp.eql rfl rfl rfl ?_
                        rotate_right
                        focus
                          have g12_ := g12
                          try simp only [List.length_map, List.length_cons, List.length_nil, nrm] at g12
                          all_goals try (exfalso; first | contradiction | (simp at g12_; done) | omega)
                        all_goals
                          refine aops_cons rfl rfl (AOp.pick_t rfl rfl (by first | assumption | rfl) rfl ?_)
                          refine aops_cons rfl rfl (AOp.move rfl rfl ?_)
                          refine aops_guard 62 true 105 _ rfl rfl rfl rfl rfl (fun g13 => ?_) (fun g13 => ?_)
                          focus
                            have g13_ := g13
                            try simp only [List.length_map, List.length_cons, List.length_nil, nrm] at g13
                            all_goals try (exfalso; first | contradiction | (simp at g13_; done) | omega)
                            all_goals
                              refine AOp.fieldB Try.underlying30 rfl Try.sizeOf27 (by decide) rfl rfl rfl ?_
                              refine aops_guard 62 true 105 _ rfl rfl rfl rfl rfl (fun _ => ?_) (fun hh => by exfalso; first | (rw [g13_] at hh; exact absurd hh (by decide)) | (revert hh; simp [g13_]))
                              refine AOp.load1 Try.isAgg27 rfl rfl (reads_box _ (.head _)) rfl ?_
                              refine aops_guard 62 true 105 _ rfl rfl rfl rfl rfl (fun _ => ?_) (fun hh => by exfalso; first | (rw [g13_] at hh; exact absurd hh (by decide)) | (revert hh; simp [g13_]))
                              refine AOp.lenS (by first | exact List.length_map _ | rfl) Try.underlying27 rfl rfl ?_
                              refine aops_guard 62 true 105 _ rfl rfl rfl rfl rfl (fun _ => ?_) (fun hh => by exfalso; first | (rw [g13_] at hh; exact absurd hh (by decide)) | (revert hh; simp [g13_]))
                              refine AOp.eql rfl rfl rfl ?_
                          rotate_right
                          focus
                            have g13_ := g13
                            try simp only [List.length_map, List.length_cons, List.length_nil, nrm] at g13
                            all_goals try (exfalso; first | contradiction | (simp at g13_; done) | omega)
                          all_goals
                            refine aops_cons rfl rfl (AOp.pick_t rfl rfl (by first | assumption | rfl) rfl ?_)
                            refine aops_cons rfl rfl (AOp.move rfl rfl ?_)
                            refine aops_guard 68 true 111 _ rfl rfl rfl rfl rfl (fun g14 => ?_) (fun g14 => ?_)
                            focus
                              have g14_ := g14
                              try simp only [List.length_map, List.length_cons, List.length_nil, nrm] at g14
                              all_goals try (exfalso; first | contradiction | (simp at g14_; done) | omega)
                              all_goals
                                refine AOp.loadN Try.isAgg30 Try.sizeOf30 rfl rfl (reads_box _ (.tail _ (.tail _ (.tail _ (.head _))))) rfl rfl ?_
                                refine aops_guard 68 true 111 _ rfl rfl rfl rfl rfl (fun _ => ?_) (fun hh => by exfalso; first | (rw [g14_] at hh; exact absurd hh (by decide)) | (revert hh; simp [g14_]))
                                refine AOp.callP Try.call16 rfl rfl rfl bG ?_
                                refine aops_guard 68 true 111 _ rfl rfl rfl rfl rfl (fun _ => ?_) (fun hh => by exfalso; first | (rw [g14_] at hh; exact absurd hh (by decide)) | (revert hh; simp [g14_]))
                                refine AOp.field1 Try.underlying30 rfl rfl Try.isAgg27 rfl rfl rfl ?_
                                refine aops_guard 68 true 111 _ rfl rfl rfl rfl rfl (fun _ => ?_) (fun hh => by exfalso; first | (rw [g14_] at hh; exact absurd hh (by decide)) | (revert hh; simp [g14_]))
                                refine AOp.lenS (by first | exact List.length_map _ | rfl) Try.underlying27 rfl rfl ?_
                                refine aops_guard 68 true 111 _ rfl rfl rfl rfl rfl (fun _ => ?_) (fun hh => by exfalso; first | (rw [g14_] at hh; exact absurd hh (by decide)) | (revert hh; simp [g14_]))
                                refine AOp.eql rfl rfl rfl ?_
                            rotate_right
                            focus
                              have g14_ := g14
                              try simp only [List.length_map, List.length_cons, List.length_nil, nrm] at g14
                              all_goals try (exfalso; first | contradiction | (simp at g14_; done) | omega)
                            all_goals
                              refine aops_cons rfl rfl (AOp.pick_t rfl rfl (by first | assumption | rfl) rfl ?_)
                              refine aops_cons rfl rfl (AOp.assign rfl rfl ?_)
                              refine aops_nil ?_
                              refine aw_weak (wk_drop (List.nil_sublist _)) ?_
                              refine aw_ret ?_
                              refine ⟨_, (res1 Try.results13 rfl), ?_⟩
                              first | exact ⟨rfl, rfl⟩ | exact ⟨by simp, rfl⟩


structure Q3 where
  a : UInt8
  b : UInt8
  c : UInt8
def Q3.e (q : Q3) : List AV := [.sc (.int .u8 (q.a.toNat : Int)), .sc (.int .u8 (q.b.toNat : Int)), .sc (.int .u8 (q.c.toNat : Int))]
def q3s (l : List Q3) : AV := .sl (l.map Q3.e)
/-- All read. -/
def GR (d : Dk) (now : Int) : Prop := GD 3 d now ∧ d.w = [] ∧ ∀ y ∈ d.l, y.m = 1
theorem ask_reads {d : Dk} {a now : Int} {w : Wt} (h : GR d a) (han : a ≤ now) (h0 : 0 ≤ now) (hw : okWt 3 w) (hm : w.m = 1) :
    askD d now w = (lets ⟨prn d.l now, d.w⟩ now w, true, [], 0) ∧ GR (lets ⟨prn d.l now, d.w⟩ now w) now ∧ hld (lets ⟨prn d.l now, d.w⟩ now w).l (now + 60 - 1) w.c w.f = 1 ∧ hld (lets ⟨prn d.l now, d.w⟩ now w).l (now + 60) w.c w.f = 0 := by
  obtain ⟨hg, hwn, hl⟩ := h
  have hg1 := gd_prn hg han
  have hl1 : ∀ y ∈ prn d.l now, y.m = 1 := fun y hy => hl y (List.mem_filter.1 hy).1
  have hcl : cls (prn d.l now) now w.c w.f w.m = [] := by
    unfold cls
    rw [List.map_eq_nil_iff, List.filter_eq_nil_iff]
    intro y hy
    unfold clp
    rw [hm]
    simp
    intro _ _ h0 h2
    obtain ⟨z, hz, _, _, _, e⟩ := hld_mem h0
    have := hl1 z hz
    omega
  have hfr : free ⟨prn d.l now, d.w⟩ now w = true := by
    unfold free
    have : ahead d.w w.c w.f = false := by rw [hwn]; rfl
    simp [hcl, this]
  have hg2 := gd_lets hg1 h0 hw hcl
  have hl2 : ∀ y ∈ (lets ⟨prn d.l now, d.w⟩ now w).l, y.m = 1 := fun y hy => by
    rcases mem_gr2 hy with h' | rfl | ⟨b, hb, _, rfl⟩
    · exact hl1 y h'
    · exact hm
    · have := hl1 b hb
      unfold up; dsimp only; omega
  refine ⟨ask_yes hfr, ⟨hg2.1, by show dropW d.w w.c = []; rw [hwn]; rfl, hl2⟩, ?_, ?_⟩
  · have key := (hld_gr2_eq (x := ⟨w.c, w.f, w.m, now + 60⟩) (now + 60 - 1) hg1.s (by dsimp only; omega) (fun y hy => by have := hl1 y hy; omega)).2.1 (by dsimp only; omega)
    dsimp only at key
    have hne : hld (lets ⟨prn d.l now, d.w⟩ now w).l (now + 60 - 1) w.c w.f ≠ 0 := by
      show hld (gr2 (prn d.l now) ⟨w.c, w.f, w.m, now + 60⟩) (now + 60 - 1) w.c w.f ≠ 0
      omega
    obtain ⟨z, hz, _, _, _, e⟩ := hld_mem hne
    rw [e]; exact hl2 z hz
  · by_cases hne : hld (lets ⟨prn d.l now, d.w⟩ now w).l (now + 60) w.c w.f = 0
    · exact hne
    · obtain ⟨z, hz, _, _, hlt, _⟩ := hld_mem hne
      have := hg2.1.live z hz
      omega
theorem cnt_le (p : Int → Bool) (j : Nat) : cnt p j ≤ j := by
  induction j with
  | zero => exact Nat.le_refl _
  | succ j ih => unfold cnt; split <;> omega
theorem gd_cnt {k : Int} {d : Dk} {a f : Int} (h : GD k d a) : ¬ (0 < cnt (fun c => decide (hld d.l a c f = 2)) 3 ∧ 1 < cnt (fun c => decide (hld d.l a c f ≠ 0)) 3) := by
  have h12 := h.one f 1 2 (by decide)
  have h13 := h.one f 1 3 (by decide)
  have h21 := h.one f 2 1 (by decide)
  have h23 := h.one f 2 3 (by decide)
  have h31 := h.one f 3 1 (by decide)
  have h32 := h.one f 3 2 (by decide)
  simp only [cnt, decide_eq_true_eq]
  rw [show ((0 : Nat) : Int) + 1 = 1 by decide, show ((1 : Nat) : Int) + 1 = 2 by decide, show ((2 : Nat) : Int) + 1 = 3 by decide]
  generalize hld d.l a 1 f = p at *
  generalize hld d.l a 2 f = q at *
  generalize hld d.l a 3 f = r at *
  split <;> split <;> split <;> split <;> split <;> split <;> omega
theorem ask_ahead {d : Dk} {now : Int} {w : Wt} (h : (askD d now w).2.1 = true) : ahead d.w w.c w.f = false := by
  unfold askD at h
  split at h
  · rename_i hf; exact (free_cls hf).2
  · split at h <;> cases h
theorem rMayT {k : Int} {d : Dk} {now : Int} (hk : k ≤ 6) (h : GD k d now) : Pur Try.prog 27 [ls d.l] (.sc (.bool true)) := by
  have hh := refMay d.l (by have := h.lenl hk; omega)
  rwa [may_of h.s (fun y hy => by have := h.ok y hy; unfold okL; omega)] at hh

theorem askR {d : Dk} {a now : Int} {w : Wt} (h : GR d a) (han : a ≤ now) (h0 : 0 ≤ now) (h1 : now ≤ 1000000) (hw : okWt 3 w) (hm : w.m = 1) : Pur Try.prog 21 [dk d, .sc (.int .i64 now), .ag w.e] (askA (lets ⟨prn d.l now, d.w⟩ now w, true, [], 0)) := by
  have k := ask d now w h.1.s h.1.u h0 h1 (by have := h.1.lenl (by decide); omega) (by have := h.1.lenw; omega)
  rwa [(ask_reads h han h0 hw hm).1] at k

theorem deskReadsWalk (l : List Q3) : ACalls Try.prog 6 [q3s l] [] (fun r A' => r = .sc (.bool true)) (fun _ _ => False) := by
  unfold q3s
  refine acallsN Try.func6 rfl Try.ntmps6 rfl ?_
  refine aw_seq ?_
  refine aw_region ?_
  refine aops_cons rfl rfl (AOp.assign rfl rfl ?_)
  refine aops_nil ?_
  refine aw_seq ?_
  refine aw_seq ?_
  refine aw_region ?_
  refine aops_cons rfl rfl (AOp.callP Try.call13 rfl rfl rfl begun ?_)
  refine aops_cons rfl rfl (AOp.not rfl rfl ?_)
  refine aops_nil ?_
  refine aw_cond _ rfl (fun h1 => ?_) (fun h1 => ?_)
  focus
    have h1_ := h1
    try simp only [List.length_map, List.length_cons, List.length_nil, nrm] at h1
    all_goals try (exfalso; first | contradiction | (simp at h1_; done) | omega)
  rotate_right
  focus
    have h1_ := h1
    try simp only [List.length_map, List.length_cons, List.length_nil, nrm] at h1
    all_goals try (exfalso; first | contradiction | (simp at h1_; done) | omega)
    all_goals
      refine aw_skip ?_
      skip
  all_goals
    refine aw_seq ?_
    refine aw_seq ?_
    refine aw_region ?_
    refine aops_cons rfl rfl (AOp.move rfl rfl ?_)
    refine aops_cons rfl rfl (AOp.lenS (by first | exact List.length_map _ | rfl) Try.underlying49 rfl rfl ?_)
    refine aops_cons rfl rfl (AOp.gtr rfl rfl rfl ?_)
    refine aops_nil ?_
    refine aw_cond _ rfl (fun h2 => ?_) (fun h2 => ?_)
    focus
      have h2_ := h2
      try simp only [List.length_map, List.length_cons, List.length_nil, nrm] at h2
      all_goals try (exfalso; first | contradiction | (simp at h2_; done) | omega)
      all_goals
        refine aw_seq ?_
        refine aw_region ?_
        refine aops_cons rfl rfl (AOp.assign rfl rfl ?_)
        refine aops_nil ?_
        refine aw_ret ?_
        refine ⟨_, (res1 Try.results6 rfl), ?_⟩
        rfl
    rotate_right
    focus
      have h2_ := h2
      try simp only [List.length_map, List.length_cons, List.length_nil, nrm] at h2
      all_goals try (exfalso; first | contradiction | (simp at h2_; done) | omega)
      all_goals
        refine aw_skip ?_
        skip
    all_goals
      refine aw_seq ?_
      refine aw_region ?_
      refine aops_cons rfl rfl (AOp.build' (places := [(0, 1), (1, 1)]) Try.zeroValue30 (by kernel_rfl) (by kernel_rfl) Try.underlying30 (by kernel_rfl) rfl rfl rfl rfl ?_)
      refine aops_cons rfl rfl (AOp.alloc Try.zeroValue30 (by kernel_rfl) rfl rfl ?_); intro b1
      refine aops_cons rfl rfl (AOp.storeB' Try.sizeOf30 rfl rfl rfl rfl rfl (pull_here _ _) rfl rfl ?_)
      refine aops_nil ?_
      refine aw_seq ?_
      refine aw_region ?_
      refine aops_cons rfl rfl (AOp.assign rfl rfl ?_)
      refine aops_nil ?_
      refine aw_seq ?_
      refine aw_seq ?_
      refine aw_region ?_
      refine aops_cons rfl rfl (AOp.assign rfl rfl ?_)
      refine aops_nil ?_
      refine aw_block ?_
      refine aw_loop (β := Nat × Int × Dk) (S := (fun (z0 : Nat × Int × Dk) => match z0 with | (i, n, d) => [(0, q3s l), (3, .sc (.pointer (some ⟨b1, 0, none⟩))), (4, .sc (.int .i64 n)), (5, .sc (.int .i64 (i : Int)))])) (B := (fun (z0 : Nat × Int × Dk) => match z0 with | (i, n, d) => [.box b1 30 d.e])) (pre := (fun (z0 : Nat × Int × Dk) => match z0 with | (i, n, d) => i ≤ l.length ∧ 0 ≤ n ∧ n ≤ 20 * (i : Int) ∧ GR d n)) (μ := (fun (z0 : Nat × Int × Dk) => match z0 with | (i, n, d) => l.length - i)) (0, 0, ⟨[], []⟩) (((wk_nil 25 4).trans (wk_frz (pull_here _ _) (.box _ _ (.cons (fz_row _ _) (.cons (fz_row _ _) .nil)) .nil) (subz_cons (s := 0) rfl (fz_id _ _ _) (subz_cons (s := 3) rfl (fz_id _ _ _) (subz_cons (s := 4) rfl (fz_id _ _ _) (subz_cons (s := 5) rfl (fz_id _ _ _) (subz_nil _ _ _))))))).trans (wk_env (sube_cons rfl (sube_cons rfl (sube_cons rfl (sube_cons rfl (sube_nil _))))))) ?_ ?_
      · exact ⟨Nat.zero_le _, Int.le_refl _, by decide, gd_nil 3 0, rfl, fun y hy => by cases hy⟩
      · rintro ⟨i, n, d⟩ ⟨hi, hn0, hn, hg⟩
        change AW _ _ _ ([(0, q3s l), (3, .sc (.pointer (some ⟨b1, 0, none⟩))), (4, .sc (.int .i64 n)), (5, .sc (.int .i64 (i : Int)))] : Env) ([.box b1 30 d.e] : List Blk) _
        refine aw_seq ?_
        refine aw_seq ?_
        refine aw_region ?_
        refine aops_cons rfl rfl (AOp.move rfl rfl ?_)
        refine aops_cons rfl rfl (AOp.move rfl rfl ?_)
        refine aops_cons rfl rfl (AOp.lenS (by first | exact List.length_map _ | rfl) Try.underlying49 rfl rfl ?_)
        refine aops_cons rfl rfl (AOp.lss rfl rfl rfl ?_)
        refine aops_nil ?_
        refine aw_cond _ rfl (fun h3 => ?_) (fun h3 => ?_)
        focus
          have h3_ := h3
          try simp only [List.length_map, List.length_cons, List.length_nil, nrm] at h3
          all_goals try (exfalso; first | contradiction | (simp at h3_; done) | omega)
          all_goals
            refine aw_skip ?_
            skip
        rotate_right
        focus
          have h3_ := h3
          try simp only [List.length_map, List.length_cons, List.length_nil, nrm] at h3
          all_goals try (exfalso; first | contradiction | (simp at h3_; done) | omega)
          all_goals
            refine aw_exit ?_
            refine aw_seq ?_
            refine aw_region ?_
            refine aops_cons rfl rfl (AOp.assign rfl rfl ?_)
            refine aops_nil ?_
            refine aw_ret ?_
            refine ⟨_, (res1 Try.results6 rfl), ?_⟩
            rfl
        all_goals
          refine aw_seq ?_
          refine aw_block ?_
          refine aw_seq ?_
          refine aw_region ?_
          refine aops_cons rfl rfl (AOp.move rfl rfl ?_)
          refine aops_cons rfl rfl (AOp.move rfl rfl ?_)
          refine aops_cons rfl rfl (AOp.move rfl rfl ?_)
          refine aops_cons rfl rfl (AOp.indexLN Try.underlying49 Try.sizeOf51 rfl rfl rfl (by first | omega | (simp <;> omega) | (simp at * <;> omega)) (fun _ => rfl) ?_)
          refine aops_cons rfl rfl (AOp.indexAI Try.underlying51 Try.sizeOf5 rfl rfl rfl (by first | omega | (simp <;> omega) | (simp at * <;> omega)) (by first | omega | (simp <;> omega) | (simp at * <;> omega)) rfl ?_)
          refine aops_cons rfl rfl (AOp.load1 Try.isAgg5 rfl rfl (reads_im _ _) rfl ?_)
          refine aops_cons rfl rfl (AOp.remE rfl rfl rfl (by first | decide | omega) (by first | omega | (simp <;> omega) | (simp at * <;> omega)) ?_)
          refine aops_cons rfl rfl (AOp.conviI Try.underlying5 Try.underlying3 rfl rfl (by first | omega | (simp <;> omega) | (simp at * <;> omega)) (by first | omega | (simp <;> omega) | (simp at * <;> omega)) ?_)
          refine aops_cons rfl rfl (AOp.addE rfl rfl rfl (by first | omega | (simp <;> omega) | (simp at * <;> omega)) (by first | omega | (simp <;> omega) | (simp at * <;> omega)) ?_)
          refine aops_cons rfl rfl (AOp.assign rfl rfl ?_)
          refine aops_nil ?_
          refine aw_seq ?_
          refine aw_draw 17 [0, 0, 0, 0, 0, 0, 0, 0, 0, 0, 0, 0, 0, 0, 0, 0, 0] (by kernel_rfl) (by kernel_rfl) ?_
          refine psq_cons _ rfl (core0 (AOp.move rfl rfl ⟨rfl, rfl⟩)) ?_
          refine psq_cons _ rfl (core0 (AOp.move rfl rfl ⟨rfl, rfl⟩)) ?_
          refine psq_cons _ rfl (core0 (AOp.indexLN Try.underlying49 Try.sizeOf51 rfl rfl rfl (by first | omega | (simp <;> omega) | (simp at * <;> omega)) (fun _ => rfl) ⟨rfl, rfl⟩)) ?_
          refine psq_cons _ rfl (core0 (AOp.indexAI Try.underlying51 Try.sizeOf5 rfl rfl rfl (by first | omega | (simp <;> omega) | (simp at * <;> omega)) (by first | omega | (simp <;> omega) | (simp at * <;> omega)) rfl ⟨rfl, rfl⟩)) ?_
          refine psq_cons _ rfl (core0 (AOp.load1 Try.isAgg5 rfl rfl (reads_im _ _) rfl ⟨rfl, rfl⟩)) ?_
          refine psq_cons _ rfl (core0 (AOp.remE rfl rfl rfl (by first | decide | omega) (by first | omega | (simp <;> omega) | (simp at * <;> omega)) ⟨rfl, rfl⟩)) ?_
          refine psq_cons _ rfl (core0 (AOp.conviI Try.underlying5 Try.underlying3 rfl rfl (by first | omega | (simp <;> omega) | (simp at * <;> omega)) (by first | omega | (simp <;> omega) | (simp at * <;> omega)) ⟨rfl, rfl⟩)) ?_
          refine psq_cons _ rfl (core0 (AOp.addE rfl rfl rfl (by first | omega | (simp <;> omega) | (simp at * <;> omega)) (by first | omega | (simp <;> omega) | (simp at * <;> omega)) ⟨rfl, rfl⟩)) ?_
          refine psq_cons _ rfl (core0 (AOp.move rfl rfl ⟨rfl, rfl⟩)) ?_
          refine psq_cons _ rfl (core0 (AOp.move rfl rfl ⟨rfl, rfl⟩)) ?_
          refine psq_cons _ rfl (core0 (AOp.indexLN Try.underlying49 Try.sizeOf51 rfl rfl rfl (by first | omega | (simp <;> omega) | (simp at * <;> omega)) (fun _ => rfl) ⟨rfl, rfl⟩)) ?_
          refine psq_cons _ rfl (core0 (AOp.indexAI Try.underlying51 Try.sizeOf5 rfl rfl rfl (by first | omega | (simp <;> omega) | (simp at * <;> omega)) (by first | omega | (simp <;> omega) | (simp at * <;> omega)) rfl ⟨rfl, rfl⟩)) ?_
          refine psq_cons _ rfl (core0 (AOp.load1 Try.isAgg5 rfl rfl (reads_im _ _) rfl ⟨rfl, rfl⟩)) ?_
          refine psq_cons _ rfl (core0 (AOp.remE rfl rfl rfl (by first | decide | omega) (by first | omega | (simp <;> omega) | (simp at * <;> omega)) ⟨rfl, rfl⟩)) ?_
          refine psq_cons _ rfl (core0 (AOp.conviI Try.underlying5 Try.underlying3 rfl rfl (by first | omega | (simp <;> omega) | (simp at * <;> omega)) (by first | omega | (simp <;> omega) | (simp at * <;> omega)) ⟨rfl, rfl⟩)) ?_
          refine psq_cons _ rfl (core0 (AOp.addE rfl rfl rfl (by first | omega | (simp <;> omega) | (simp at * <;> omega)) (by first | omega | (simp <;> omega) | (simp at * <;> omega)) ⟨rfl, rfl⟩)) ?_
          refine psq_cons _ rfl (core0 (AOp.assign rfl rfl ⟨rfl, rfl⟩)) ?_
          refine psq_nil ?_
          refine aops_cons rfl rfl (AOp.assign rfl rfl ?_)
          refine aops_nil ?_
          refine aw_seq ?_
          have hok : okWt 3 (⟨1 + (l[i].a.toNat : Int) % 3, 1 + (i : Int), 1 + (l[i].b.toNat : Int) % 3, 1⟩ : Wt) := by unfold okWt; dsimp only; omega
          obtain ⟨e1, h2, e3, e4⟩ := ask_reads (w := (⟨1 + (l[i].a.toNat : Int) % 3, 1 + (i : Int), 1 + (l[i].b.toNat : Int) % 3, 1⟩ : Wt)) hg (show n ≤ (n + (l[i].c.toNat : Int) % 20) by omega) (by omega) hok rfl
          dsimp only at e3 e4
          have e5 : (lets ⟨prn d.l (n + (l[i].c.toNat : Int) % 20), d.w⟩ (n + (l[i].c.toNat : Int) % 20) (⟨1 + (l[i].a.toNat : Int) % 3, 1 + (i : Int), 1 + (l[i].b.toNat : Int) % 3, 1⟩ : Wt)).w.length = 0 := by rw [h2.2.1]; rfl
          refine aw_region ?_
          refine aops_cons rfl rfl (AOp.loadN Try.isAgg30 Try.sizeOf30 rfl rfl (reads_box _ (.head _)) rfl rfl ?_)
          refine aops_cons rfl rfl (AOp.move rfl rfl ?_)
          refine aops_cons rfl rfl (AOp.move rfl rfl ?_)
          refine aops_cons rfl rfl (AOp.move rfl rfl ?_)
          refine aops_cons rfl rfl (AOp.addE rfl rfl rfl (by first | omega | (simp <;> omega) | (simp at * <;> omega)) (by first | omega | (simp <;> omega) | (simp at * <;> omega)) ?_)
          refine aops_cons rfl rfl (AOp.move rfl rfl ?_)
          refine aops_cons rfl rfl (AOp.build' (places := [(0, 1), (1, 1), (2, 1), (3, 1)]) Try.zeroValue25 (by kernel_rfl) (by kernel_rfl) Try.underlying25 (by kernel_rfl) rfl rfl rfl rfl ?_)
          refine aops_cons rfl rfl (AOp.callP Try.call21 rfl rfl rfl (by exact askR (w := (⟨1 + (l[i].a.toNat : Int) % 3, 1 + (i : Int), 1 + (l[i].b.toNat : Int) % 3, 1⟩ : Wt)) hg (by first | omega | (simp <;> omega) | (simp at * <;> omega)) (by first | omega | (simp <;> omega) | (simp at * <;> omega)) (by first | omega | (simp <;> omega) | (simp at * <;> omega)) hok rfl) ?_)
          refine aops_cons rfl rfl (AOp.move rfl rfl ?_)
          refine aops_cons rfl rfl (AOp.extract rfl rfl rfl ?_)
          refine aops_cons rfl rfl (AOp.extract rfl rfl rfl ?_)
          refine aops_cons rfl rfl (AOp.extract rfl rfl rfl ?_)
          refine aops_cons rfl rfl (AOp.extract rfl rfl rfl ?_)
          refine aops_cons rfl rfl (AOp.alloc Try.zeroValue30 (by kernel_rfl) rfl rfl ?_); intro b2
          refine aops_cons rfl rfl (AOp.storeB' Try.sizeOf30 rfl rfl rfl rfl rfl (pull_here _ _) rfl rfl ?_)
          refine aops_cons rfl rfl (AOp.assign rfl rfl ?_)
          refine aops_cons rfl rfl (AOp.assign rfl rfl ?_)
          refine aops_cons rfl rfl (AOp.assign rfl rfl ?_)
          refine aops_nil ?_
          refine aw_seq ?_
          refine aw_seq ?_
          refine aw_region ?_
          refine aops_cons rfl rfl (AOp.move rfl rfl ?_)
          refine aops_cons rfl rfl (AOp.not rfl rfl ?_)
          refine aops_cons rfl rfl (AOp.move rfl rfl ?_)
          refine aops_guard 2 false 64 _ rfl rfl rfl rfl rfl (fun g4 => ?_) (fun g4 => ?_)
          focus
            have g4_ := g4
            try simp only [List.length_map, List.length_cons, List.length_nil, nrm] at g4
            all_goals try (exfalso; first | contradiction | (simp at g4_; done) | omega)
            all_goals
              refine AOp.move rfl rfl ?_
              refine aops_guard 2 false 64 _ rfl rfl rfl rfl rfl (fun _ => ?_) (fun hh => by exfalso; first | (rw [g4_] at hh; exact absurd hh (by decide)) | (revert hh; simp [g4_]))
              refine AOp.lenS (by first | exact List.length_map _ | rfl) Try.underlying42 rfl rfl ?_
              refine aops_guard 2 false 64 _ rfl rfl rfl rfl rfl (fun _ => ?_) (fun hh => by exfalso; first | (rw [g4_] at hh; exact absurd hh (by decide)) | (revert hh; simp [g4_]))
              refine AOp.neq rfl rfl rfl ?_
          rotate_right
          focus
            have g4_ := g4
            try simp only [List.length_map, List.length_cons, List.length_nil, nrm] at g4
            all_goals try (exfalso; first | contradiction | (simp at g4_; done) | omega)
          all_goals
            refine aops_cons rfl rfl (AOp.pick_f rfl rfl (by first | assumption | rfl) rfl ?_)
            refine aops_cons rfl rfl (AOp.move rfl rfl ?_)
            refine aops_guard 7 false 69 _ rfl rfl rfl rfl rfl (fun g5 => ?_) (fun g5 => ?_)
            focus
              have g5_ := g5
              try simp only [List.length_map, List.length_cons, List.length_nil, nrm] at g5
              all_goals try (exfalso; first | contradiction | (simp at g5_; done) | omega)
              all_goals
                refine AOp.move rfl rfl ?_
                refine aops_guard 7 false 69 _ rfl rfl rfl rfl rfl (fun _ => ?_) (fun hh => by exfalso; first | (rw [g5_] at hh; exact absurd hh (by decide)) | (revert hh; simp [g5_]))
                refine AOp.neq rfl rfl rfl ?_
            rotate_right
            focus
              have g5_ := g5
              try simp only [List.length_map, List.length_cons, List.length_nil, nrm] at g5
              all_goals try (exfalso; first | contradiction | (simp at g5_; done) | omega)
            all_goals
              refine aops_cons rfl rfl (AOp.pick_f rfl rfl (by first | assumption | rfl) rfl ?_)
              refine aops_cons rfl rfl (AOp.move rfl rfl ?_)
              refine aops_guard 11 false 73 _ rfl rfl rfl rfl rfl (fun g6 => ?_) (fun g6 => ?_)
              focus
                have g6_ := g6
                try simp only [List.length_map, List.length_cons, List.length_nil, nrm] at g6
                all_goals try (exfalso; first | contradiction | (simp at g6_; done) | omega)
                all_goals
                  refine AOp.fieldB Try.underlying30 rfl Try.sizeOf28 (by decide) rfl rfl rfl ?_
                  refine aops_guard 11 false 73 _ rfl rfl rfl rfl rfl (fun _ => ?_) (fun hh => by exfalso; first | (rw [g6_] at hh; exact absurd hh (by decide)) | (revert hh; simp [g6_]))
                  refine AOp.load1 Try.isAgg28 rfl rfl (reads_box _ (.head _)) rfl ?_
                  refine aops_guard 11 false 73 _ rfl rfl rfl rfl rfl (fun _ => ?_) (fun hh => by exfalso; first | (rw [g6_] at hh; exact absurd hh (by decide)) | (revert hh; simp [g6_]))
                  refine AOp.lenS (by first | exact List.length_map _ | rfl) Try.underlying28 rfl rfl ?_
                  refine aops_guard 11 false 73 _ rfl rfl rfl rfl rfl (fun _ => ?_) (fun hh => by exfalso; first | (rw [g6_] at hh; exact absurd hh (by decide)) | (revert hh; simp [g6_]))
                  refine AOp.neq rfl rfl rfl ?_
              rotate_right
              focus
                have g6_ := g6
                try simp only [List.length_map, List.length_cons, List.length_nil, nrm] at g6
                all_goals try (exfalso; first | contradiction | (simp at g6_; done) | omega)
              all_goals
                refine aops_cons rfl rfl (AOp.pick_f rfl rfl (by first | assumption | rfl) rfl ?_)
                refine aops_cons rfl rfl (AOp.move rfl rfl ?_)
                refine aops_guard 17 false 79 _ rfl rfl rfl rfl rfl (fun g7 => ?_) (fun g7 => ?_)
                focus
                  have g7_ := g7
                  try simp only [List.length_map, List.length_cons, List.length_nil, nrm] at g7
                  all_goals try (exfalso; first | contradiction | (simp at g7_; done) | omega)
                  all_goals
                    refine AOp.fieldB Try.underlying30 rfl Try.sizeOf27 (by decide) rfl rfl rfl ?_
                    refine aops_guard 17 false 79 _ rfl rfl rfl rfl rfl (fun _ => ?_) (fun hh => by exfalso; first | (rw [g7_] at hh; exact absurd hh (by decide)) | (revert hh; simp [g7_]))
                    refine AOp.load1 Try.isAgg27 rfl rfl (reads_box _ (.head _)) rfl ?_
                    refine aops_guard 17 false 79 _ rfl rfl rfl rfl rfl (fun _ => ?_) (fun hh => by exfalso; first | (rw [g7_] at hh; exact absurd hh (by decide)) | (revert hh; simp [g7_]))
                    refine AOp.move rfl rfl ?_
                    refine aops_guard 17 false 79 _ rfl rfl rfl rfl rfl (fun _ => ?_) (fun hh => by exfalso; first | (rw [g7_] at hh; exact absurd hh (by decide)) | (revert hh; simp [g7_]))
                    refine AOp.addE rfl rfl rfl (by first | omega | (simp <;> omega) | (simp at * <;> omega)) (by first | omega | (simp <;> omega) | (simp at * <;> omega)) ?_
                    refine aops_guard 17 false 79 _ rfl rfl rfl rfl rfl (fun _ => ?_) (fun hh => by exfalso; first | (rw [g7_] at hh; exact absurd hh (by decide)) | (revert hh; simp [g7_]))
                    refine AOp.subE rfl rfl rfl (by first | omega | (simp <;> omega) | (simp at * <;> omega)) (by first | omega | (simp <;> omega) | (simp at * <;> omega)) ?_
                    refine aops_guard 17 false 79 _ rfl rfl rfl rfl rfl (fun _ => ?_) (fun hh => by exfalso; first | (rw [g7_] at hh; exact absurd hh (by decide)) | (revert hh; simp [g7_]))
                    refine AOp.move rfl rfl ?_
                    refine aops_guard 17 false 79 _ rfl rfl rfl rfl rfl (fun _ => ?_) (fun hh => by exfalso; first | (rw [g7_] at hh; exact absurd hh (by decide)) | (revert hh; simp [g7_]))
                    refine AOp.move rfl rfl ?_
                    refine aops_guard 17 false 79 _ rfl rfl rfl rfl rfl (fun _ => ?_) (fun hh => by exfalso; first | (rw [g7_] at hh; exact absurd hh (by decide)) | (revert hh; simp [g7_]))
                    refine AOp.callP Try.call26 rfl rfl rfl (by exact rHolds _ _ _ _ h2.1.s (Nat.le_trans (h2.1.lenl (by decide)) (by decide))) ?_
                    refine aops_guard 17 false 79 _ rfl rfl rfl rfl rfl (fun _ => ?_) (fun hh => by exfalso; first | (rw [g7_] at hh; exact absurd hh (by decide)) | (revert hh; simp [g7_]))
                    refine AOp.neq rfl rfl rfl ?_
                rotate_right
                focus
                  have g7_ := g7
                  try simp only [List.length_map, List.length_cons, List.length_nil, nrm] at g7
                  all_goals try (exfalso; first | contradiction | (simp at g7_; done) | omega)
                all_goals
                  refine aops_cons rfl rfl (AOp.pick_f rfl rfl (by first | assumption | rfl) rfl ?_)
                  refine aops_cons rfl rfl (AOp.move rfl rfl ?_)
                  refine aops_guard 28 false 90 _ rfl rfl rfl rfl rfl (fun g8 => ?_) (fun g8 => ?_)
                  focus
                    have g8_ := g8
                    try simp only [List.length_map, List.length_cons, List.length_nil, nrm] at g8
                    all_goals try (exfalso; first | contradiction | (simp at g8_; done) | omega)
                    all_goals
                      refine AOp.fieldB Try.underlying30 rfl Try.sizeOf27 (by decide) rfl rfl rfl ?_
                      refine aops_guard 28 false 90 _ rfl rfl rfl rfl rfl (fun _ => ?_) (fun hh => by exfalso; first | (rw [g8_] at hh; exact absurd hh (by decide)) | (revert hh; simp [g8_]))
                      refine AOp.load1 Try.isAgg27 rfl rfl (reads_box _ (.head _)) rfl ?_
                      refine aops_guard 28 false 90 _ rfl rfl rfl rfl rfl (fun _ => ?_) (fun hh => by exfalso; first | (rw [g8_] at hh; exact absurd hh (by decide)) | (revert hh; simp [g8_]))
                      refine AOp.move rfl rfl ?_
                      refine aops_guard 28 false 90 _ rfl rfl rfl rfl rfl (fun _ => ?_) (fun hh => by exfalso; first | (rw [g8_] at hh; exact absurd hh (by decide)) | (revert hh; simp [g8_]))
                      refine AOp.addE rfl rfl rfl (by first | omega | (simp <;> omega) | (simp at * <;> omega)) (by first | omega | (simp <;> omega) | (simp at * <;> omega)) ?_
                      refine aops_guard 28 false 90 _ rfl rfl rfl rfl rfl (fun _ => ?_) (fun hh => by exfalso; first | (rw [g8_] at hh; exact absurd hh (by decide)) | (revert hh; simp [g8_]))
                      refine AOp.move rfl rfl ?_
                      refine aops_guard 28 false 90 _ rfl rfl rfl rfl rfl (fun _ => ?_) (fun hh => by exfalso; first | (rw [g8_] at hh; exact absurd hh (by decide)) | (revert hh; simp [g8_]))
                      refine AOp.move rfl rfl ?_
                      refine aops_guard 28 false 90 _ rfl rfl rfl rfl rfl (fun _ => ?_) (fun hh => by exfalso; first | (rw [g8_] at hh; exact absurd hh (by decide)) | (revert hh; simp [g8_]))
                      refine AOp.callP Try.call26 rfl rfl rfl (by exact rHolds _ _ _ _ h2.1.s (Nat.le_trans (h2.1.lenl (by decide)) (by decide))) ?_
                      refine aops_guard 28 false 90 _ rfl rfl rfl rfl rfl (fun _ => ?_) (fun hh => by exfalso; first | (rw [g8_] at hh; exact absurd hh (by decide)) | (revert hh; simp [g8_]))
                      refine AOp.neq rfl rfl rfl ?_
                  rotate_right
                  focus
                    have g8_ := g8
                    try simp only [List.length_map, List.length_cons, List.length_nil, nrm] at g8
                    all_goals try (exfalso; first | contradiction | (simp at g8_; done) | omega)
                  all_goals
                    refine aops_cons rfl rfl (AOp.pick_f rfl rfl (by first | assumption | rfl) rfl ?_)
                    refine aops_nil ?_
                    refine aw_cond _ rfl (fun h9 => ?_) (fun h9 => ?_)
                    focus
                      have h9_ := h9
                      try simp only [List.length_map, List.length_cons, List.length_nil, nrm] at h9
                      all_goals try (exfalso; first | contradiction | (simp at h9_; done) | omega)
                    rotate_right
                    focus
                      have h9_ := h9
                      try simp only [List.length_map, List.length_cons, List.length_nil, nrm] at h9
                      all_goals try (exfalso; first | contradiction | (simp at h9_; done) | omega)
                      all_goals
                        refine aw_skip ?_
                        skip
                    all_goals
                      refine aw_region ?_
                      refine aops_cons rfl rfl (AOp.loadN Try.isAgg30 Try.sizeOf30 rfl rfl (reads_box _ (.head _)) rfl rfl ?_)
                      refine aops_cons rfl rfl (AOp.storeB' Try.sizeOf30 rfl rfl rfl rfl rfl (pull_there (pull_here _ _)) rfl rfl ?_)
                      refine aops_nil ?_
                      refine aw_region ?_
                      refine aops_cons rfl rfl (AOp.move rfl rfl ?_)
                      refine aops_cons rfl rfl (AOp.addE rfl rfl rfl (by first | omega | (simp <;> omega) | (simp at * <;> omega)) (by first | omega | (simp <;> omega) | (simp at * <;> omega)) ?_)
                      refine aops_cons rfl rfl (AOp.assign rfl rfl ?_)
                      refine aops_nil ?_
                      refine ⟨(i + 1, (n + (l[i].c.toNat : Int) % 20), (lets ⟨prn d.l (n + (l[i].c.toNat : Int) % 20), d.w⟩ (n + (l[i].c.toNat : Int) % 20) (⟨1 + (l[i].a.toNat : Int) % 3, 1 + (i : Int), 1 + (l[i].b.toNat : Int) % 3, 1⟩ : Wt))), ⟨by omega, by omega, by omega, h2⟩, by dsimp only; omega, ((wk_drop (A' := [.box b1 30 (lets ⟨prn d.l (n + (l[i].c.toNat : Int) % 20), d.w⟩ (n + (l[i].c.toNat : Int) % 20) (⟨1 + (l[i].a.toNat : Int) % 3, 1 + (i : Int), 1 + (l[i].b.toNat : Int) % 3, 1⟩ : Wt)).e]) (by (focus ((repeat (first | exact List.Sublist.slnil | apply List.Sublist.cons_cons | apply List.Sublist.cons)); done)))).trans (wk_env (sube_cons rfl (sube_cons rfl (sube_cons rfl (sube_cons rfl (sube_nil _)))))))⟩

end Go.Proofs.Ytdacnebhlgibhaa
