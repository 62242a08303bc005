/- Own text: who is granted one holds it. -/
import Derived.Test.YtdlkmimgdghgcaaLp
import Derived.Test.YtdlkmimgdghgcaaAwN
set_option linter.unusedVariables false
set_option linter.unusedSimpArgs false
set_option linter.all false
set_option maxRecDepth 100000
set_option maxHeartbeats 2000000
namespace Go.Proofs.Ytdlkmimgdghgcaa
open Go Go.Aw

theorem grows {x : List L} {y : L} {t : Int} (hs : srt x) (hm : ∀ z ∈ x, 0 ≤ z.m) (hy : 0 ≤ y.m) (i k : Int) : (¬ (i = y.c ∧ k = y.f) → hld (gr2 x y) t i k = hld x t i k) ∧ (i = y.c → k = y.f → hld x t i k ≤ hld (gr2 x y) t i k ∧ (t < y.u → y.m ≤ hld (gr2 x y) t i k)) := by
  refine ⟨fun h => hld_gr2_ne h, fun e1 e2 => ?_⟩
  subst e1 e2
  exact ⟨(hld_gr2_eq t hs hy hm).1, (hld_gr2_eq t hs hy hm).2.1⟩

theorem leaseGrowsWalk (l : List UInt8) (c f m u t : UInt8) : ACalls Try.prog 8 [bytes l, i8 c, i8 f, i8 m, i8 u, i8 t] [] (fun r A' => r = .sc (.bool true)) (fun _ _ => False) := by
  unfold i8 bytes
  have ut := UInt8.toNat_lt t
  have uu := UInt8.toNat_lt u
  have uc := UInt8.toNat_lt c
  have uf := UInt8.toNat_lt f
  have um := UInt8.toNat_lt m
  refine acallsN Try.func8 rfl Try.ntmps8 rfl ?_
  refine aw_seq ?_
  refine aw_region ?_
  refine aops_cons rfl rfl (AOp.assign rfl rfl ?_)
  refine aops_nil ?_
  refine aw_seq ?_
  refine aw_seq ?_
  refine aw_region ?_
  refine aops_cons rfl rfl (AOp.callP Try.call20 rfl rfl rfl begun ?_)
  refine aops_cons rfl rfl (AOp.not rfl rfl ?_)
  refine aops_nil ?_
  refine aw_cond _ rfl (fun h1 => ?_) (fun h1 => ?_)
  focus
    have h1_ := h1
    try simp only [List.length_map, List.length_cons, List.length_nil, nrm] at h1
    all_goals try (exfalso; first | (simp at h1_; done) | omega)
    all_goals
      refine aw_seq ?_
      refine aw_region ?_
      refine aops_cons rfl rfl (AOp.assign rfl rfl ?_)
      refine aops_nil ?_
      refine aw_ret ?_
      refine ⟨_, (res1 Try.results8 rfl), ?_⟩
      first | rfl | (simp; omega)
  rotate_right
  focus
    have h1_ := h1
    try simp only [List.length_map, List.length_cons, List.length_nil, nrm] at h1
    all_goals try (exfalso; first | (simp at h1_; done) | omega)
    all_goals
      refine aw_skip ?_
      skip
  all_goals
    refine aw_seq ?_
    refine aw_seq ?_
    refine aw_region ?_
    refine aops_cons rfl rfl (AOp.move rfl rfl ?_)
    first
    | refine aops_cons rfl rfl (AOp.lenS (by first | exact List.length_map _ | rfl) Try.underlying22 rfl rfl ?_)
    | refine aops_cons rfl rfl (AOp.lenN Try.underlying22 rfl rfl ?_)
    | refine aops_cons rfl rfl (AOp.lenR (by first | exact List.length_map _ | rfl) Try.underlying22 (.head _) rfl rfl ?_)
    | refine aops_cons rfl rfl (AOp.lenR (by first | exact List.length_map _ | rfl) Try.underlying22 (.tail _ (.head _)) rfl rfl ?_)
    refine aops_cons rfl rfl (AOp.gtr rfl rfl rfl ?_)
    refine aops_nil ?_
    refine aw_cond _ rfl (fun h2 => ?_) (fun h2 => ?_)
    focus
      have h2_ := h2
      try simp only [List.length_map, List.length_cons, List.length_nil, nrm] at h2
      all_goals try (exfalso; first | (simp at h2_; done) | omega)
      all_goals
        refine aw_seq ?_
        refine aw_region ?_
        refine aops_cons rfl rfl (AOp.assign rfl rfl ?_)
        refine aops_nil ?_
        refine aw_ret ?_
        refine ⟨_, (res1 Try.results8 rfl), ?_⟩
        first | rfl | (simp; omega)
    rotate_right
    focus
      have h2_ := h2
      try simp only [List.length_map, List.length_cons, List.length_nil, nrm] at h2
      all_goals try (exfalso; first | (simp at h2_; done) | omega)
      all_goals
        refine aw_skip ?_
        skip
    all_goals
      refine aw_seq ?_
      refine aw_region ?_
      refine aops_cons rfl rfl (AOp.move rfl rfl ?_)
      refine aops_cons rfl rfl (AOp.callN (Af := []) Try.call14 rfl rfl rfl (List.Perm.refl _) (by exact made l) (fun r' A'' hr => ?_))
      obtain ⟨b, rfl, rfl⟩ := hr
      try unfold picksB
      refine aops_cons rfl rfl (AOp.callN (Af := []) Try.call21 rfl rfl rfl (List.Perm.refl _) (by exact leases l 0 b (Nat.zero_le _) (by first | omega | (simp <;> omega) | (simp at * <;> omega))) (fun r' A'' hr => ?_))
      obtain ⟨x, n', rfl, hg, hn', rfl⟩ := hr
      have hs := hg.1
      have hx := hg.2.1
      refine aops_cons rfl rfl (AOp.assign rfl rfl ?_)
      refine aops_nil ?_
      refine aw_seq ?_
      refine aw_region ?_
      refine aops_cons rfl rfl (AOp.move rfl rfl ?_)
      refine aops_cons rfl rfl (AOp.remE rfl rfl rfl (by first | decide | omega) (by first | omega | (simp <;> omega) | (simp at * <;> omega)) ?_)
      first
      | refine aops_cons rfl rfl (AOp.conviI Try.underlying5 Try.underlying3 rfl rfl (by first | omega | (simp <;> omega) | (simp at * <;> omega)) (by first | omega | (simp <;> omega) | (simp at * <;> omega)) ?_)
      | refine aops_cons rfl rfl (AOp.convi Try.underlying5 Try.underlying3 rfl rfl rfl ?_)
      first
      | refine aops_cons rfl rfl (AOp.addE rfl rfl rfl (by first | omega | (simp <;> omega) | (simp at * <;> omega)) (by first | omega | (simp <;> omega) | (simp at * <;> omega)) ?_)
      | refine aops_cons rfl rfl (AOp.add rfl rfl rfl rfl ?_)
      refine aops_cons rfl rfl (AOp.move rfl rfl ?_)
      refine aops_cons rfl rfl (AOp.remE rfl rfl rfl (by first | decide | omega) (by first | omega | (simp <;> omega) | (simp at * <;> omega)) ?_)
      first
      | refine aops_cons rfl rfl (AOp.conviI Try.underlying5 Try.underlying3 rfl rfl (by first | omega | (simp <;> omega) | (simp at * <;> omega)) (by first | omega | (simp <;> omega) | (simp at * <;> omega)) ?_)
      | refine aops_cons rfl rfl (AOp.convi Try.underlying5 Try.underlying3 rfl rfl rfl ?_)
      first
      | refine aops_cons rfl rfl (AOp.addE rfl rfl rfl (by first | omega | (simp <;> omega) | (simp at * <;> omega)) (by first | omega | (simp <;> omega) | (simp at * <;> omega)) ?_)
      | refine aops_cons rfl rfl (AOp.add rfl rfl rfl rfl ?_)
      refine aops_cons rfl rfl (AOp.move rfl rfl ?_)
      refine aops_cons rfl rfl (AOp.remE rfl rfl rfl (by first | decide | omega) (by first | omega | (simp <;> omega) | (simp at * <;> omega)) ?_)
      first
      | refine aops_cons rfl rfl (AOp.conviI Try.underlying5 Try.underlying3 rfl rfl (by first | omega | (simp <;> omega) | (simp at * <;> omega)) (by first | omega | (simp <;> omega) | (simp at * <;> omega)) ?_)
      | refine aops_cons rfl rfl (AOp.convi Try.underlying5 Try.underlying3 rfl rfl rfl ?_)
      first
      | refine aops_cons rfl rfl (AOp.addE rfl rfl rfl (by first | omega | (simp <;> omega) | (simp at * <;> omega)) (by first | omega | (simp <;> omega) | (simp at * <;> omega)) ?_)
      | refine aops_cons rfl rfl (AOp.add rfl rfl rfl rfl ?_)
      refine aops_cons rfl rfl (AOp.move rfl rfl ?_)
      first
      | refine aops_cons rfl rfl (AOp.conviI Try.underlying5 Try.underlying3 rfl rfl (by first | omega | (simp <;> omega) | (simp at * <;> omega)) (by first | omega | (simp <;> omega) | (simp at * <;> omega)) ?_)
      | refine aops_cons rfl rfl (AOp.convi Try.underlying5 Try.underlying3 rfl rfl rfl ?_)
      refine aops_cons rfl rfl (AOp.build' (places := [(0, 1), (1, 1), (2, 1), (3, 1)]) Try.zeroValue58 (by kernel_rfl) (by kernel_rfl) Try.underlying58 (by kernel_rfl) rfl rfl rfl rfl ?_)
      refine aops_cons rfl rfl (AOp.alloc Try.zeroValue58 (by kernel_rfl) rfl rfl ?_); intro b1
      first
      | refine aops_cons rfl rfl (AOp.storeB' Try.sizeOf58 rfl rfl rfl rfl rfl (pull_here _ _) rfl rfl ?_)
      | refine aops_cons rfl rfl (AOp.storeB' Try.sizeOf58 rfl rfl rfl rfl rfl (pull_there (pull_here _ _)) rfl rfl ?_)
      | refine aops_cons rfl rfl (AOp.storeR' Try.sizeOf58 rfl rfl rfl rfl rfl (pull_here _ _) (by first | exact idx_nat (by first | omega | (simp <;> omega) | (simp at * <;> omega)) | exact idx_map (by first | omega | (simp <;> omega) | (simp at * <;> omega)) | assumption) rfl rfl rfl ?_)
      | refine aops_cons rfl rfl (AOp.storeR' Try.sizeOf58 rfl rfl rfl rfl rfl (pull_there (pull_here _ _)) (by first | exact idx_nat (by first | omega | (simp <;> omega) | (simp at * <;> omega)) | exact idx_map (by first | omega | (simp <;> omega) | (simp at * <;> omega)) | assumption) rfl rfl rfl ?_)
      refine aops_nil ?_
      refine aw_seq ?_
      refine aw_region ?_
      refine aops_cons rfl rfl (AOp.move rfl rfl ?_)
      first
      | refine aops_cons rfl rfl (AOp.loadN Try.isAgg58 Try.sizeOf58 rfl rfl (reads_im _ _) rfl rfl ?_)
      | refine aops_cons rfl rfl (AOp.loadN Try.isAgg58 Try.sizeOf58 rfl rfl (reads_box _ (.head _)) rfl rfl ?_)
      | refine aops_cons rfl rfl (AOp.loadN Try.isAgg58 Try.sizeOf58 rfl rfl (reads_box _ (.tail _ (.head _))) rfl rfl ?_)
      | refine aops_cons rfl rfl (AOp.loadN Try.isAgg58 Try.sizeOf58 rfl rfl (reads_row _ (.head _) (idx_nat (by first | omega | (simp <;> omega) | (simp at * <;> omega))) (by first | omega | (simp <;> omega) | (simp at * <;> omega))) rfl rfl ?_)
      | refine aops_cons rfl rfl (AOp.loadN Try.isAgg58 Try.sizeOf58 rfl rfl (reads_row _ (.head _) (idx_map (by first | omega | (simp <;> omega) | (simp at * <;> omega))) (by first | omega | (simp <;> omega) | (simp at * <;> omega))) rfl rfl ?_)
      | refine aops_cons rfl rfl (AOp.loadN Try.isAgg58 Try.sizeOf58 rfl rfl (reads_row _ (.head _) (by assumption) (by first | omega | (simp <;> omega) | (simp at * <;> omega))) rfl rfl ?_)
      | refine aops_cons rfl rfl (AOp.loadN Try.isAgg58 Try.sizeOf58 rfl rfl (reads_row _ (.tail _ (.head _)) (idx_nat (by first | omega | (simp <;> omega) | (simp at * <;> omega))) (by first | omega | (simp <;> omega) | (simp at * <;> omega))) rfl rfl ?_)
      | refine aops_cons rfl rfl (AOp.loadN Try.isAgg58 Try.sizeOf58 rfl rfl (reads_row _ (.tail _ (.head _)) (idx_map (by first | omega | (simp <;> omega) | (simp at * <;> omega))) (by first | omega | (simp <;> omega) | (simp at * <;> omega))) rfl rfl ?_)
      | refine aops_cons rfl rfl (AOp.loadN Try.isAgg58 Try.sizeOf58 rfl rfl (reads_row _ (.tail _ (.head _)) (by assumption) (by first | omega | (simp <;> omega) | (simp at * <;> omega))) rfl rfl ?_)
      refine aops_cons rfl rfl (AOp.callP Try.call32 rfl rfl rfl (by exact gran x (⟨1 + (c.toNat : Int) % 3, 1 + (f.toNat : Int) % 3, 1 + (m.toNat : Int) % 2, (u.toNat : Int)⟩ : L) hs (by first | omega | (simp <;> omega) | (simp at * <;> omega))) ?_)
      refine aops_cons rfl rfl (AOp.assign rfl rfl ?_)
      refine aops_nil ?_
      refine aw_seq ?_
      refine aw_region ?_
      refine aops_cons rfl rfl (AOp.move rfl rfl ?_)
      first
      | refine aops_cons rfl rfl (AOp.conviI Try.underlying5 Try.underlying3 rfl rfl (by first | omega | (simp <;> omega) | (simp at * <;> omega)) (by first | omega | (simp <;> omega) | (simp at * <;> omega)) ?_)
      | refine aops_cons rfl rfl (AOp.convi Try.underlying5 Try.underlying3 rfl rfl rfl ?_)
      refine aops_cons rfl rfl (AOp.assign rfl rfl ?_)
      refine aops_nil ?_
      refine aw_seq ?_
      refine aw_seq ?_
      have hly := len_gr2 x (⟨1 + (c.toNat : Int) % 3, 1 + (f.toNat : Int) % 3, 1 + (m.toNat : Int) % 2, (u.toNat : Int)⟩ : L)
      have hsy : srt (gr2 x (⟨1 + (c.toNat : Int) % 3, 1 + (f.toNat : Int) % 3, 1 + (m.toNat : Int) % 2, (u.toNat : Int)⟩ : L)) := srt_gr2 hs
      have hmy : may (gr2 x (⟨1 + (c.toNat : Int) % 3, 1 + (f.toNat : Int) % 3, 1 + (m.toNat : Int) % 2, (u.toNat : Int)⟩ : L)) = true := goodL_gr hg (by dsimp only; omega)
      have hm0 : ∀ y ∈ x, 0 ≤ y.m := fun y hy => by have := hg.2.2 y hy; omega
      refine aw_region ?_
      refine aops_cons rfl rfl (AOp.assign rfl rfl ?_)
      refine aops_nil ?_
      refine aw_block ?_
      refine aw_loop (β := Nat) (S := (fun (z0 : Nat) => match z0 with | i => [(13, ls x), (14, .sc (.pointer (some ⟨b1, 0, none⟩))), (15, ls (gr2 x (⟨1 + (c.toNat : Int) % 3, 1 + (f.toNat : Int) % 3, 1 + (m.toNat : Int) % 2, (u.toNat : Int)⟩ : L))), (16, .sc (.int .i64 (t.toNat : Int))), (17, .sc (.int .i64 ((i : Int) + 1)))])) (B := (fun (z0 : Nat) => match z0 with | i => [.box b1 58 (L.e (⟨1 + (c.toNat : Int) % 3, 1 + (f.toNat : Int) % 3, 1 + (m.toNat : Int) % 2, (u.toNat : Int)⟩ : L))])) (pre := (fun (z0 : Nat) => match z0 with | i => i ≤ 3)) (μ := (fun (z0 : Nat) => match z0 with | i => 3 - i)) 0 ((wk_drop (by (focus ((repeat (first | exact List.Sublist.slnil | apply List.Sublist.cons_cons | apply List.Sublist.cons)); done)))).trans (wk_env (sube_cons rfl (sube_cons rfl (sube_cons rfl (sube_cons rfl (sube_cons rfl (sube_nil _)))))))) ?_ ?_
      · exact Nat.zero_le _
      · rintro i hi
        change AW _ _ _ ([(13, ls x), (14, .sc (.pointer (some ⟨b1, 0, none⟩))), (15, ls (gr2 x (⟨1 + (c.toNat : Int) % 3, 1 + (f.toNat : Int) % 3, 1 + (m.toNat : Int) % 2, (u.toNat : Int)⟩ : L))), (16, .sc (.int .i64 (t.toNat : Int))), (17, .sc (.int .i64 ((i : Int) + 1)))] : Env) ([.box b1 58 (L.e (⟨1 + (c.toNat : Int) % 3, 1 + (f.toNat : Int) % 3, 1 + (m.toNat : Int) % 2, (u.toNat : Int)⟩ : L))] : List Blk) _
        replace hi : i ≤ 3 := hi
        refine aw_seq ?_
        refine aw_seq ?_
        refine aw_region ?_
        refine aops_cons rfl rfl (AOp.move rfl rfl ?_)
        refine aops_cons rfl rfl (AOp.leq rfl rfl rfl ?_)
        refine aops_nil ?_
        refine aw_cond _ rfl (fun h3 => ?_) (fun h3 => ?_)
        focus
          have h3_ := h3
          try simp only [List.length_map, List.length_cons, List.length_nil, nrm] at h3
          all_goals try (exfalso; first | (simp at h3_; done) | omega)
          all_goals
            refine aw_skip ?_
            skip
        rotate_right
        focus
          have h3_ := h3
          try simp only [List.length_map, List.length_cons, List.length_nil, nrm] at h3
          all_goals try (exfalso; first | (simp at h3_; done) | omega)
          all_goals
            refine aw_exit ?_
            refine aw_seq ?_
            refine aw_region ?_
            refine aops_cons rfl rfl (AOp.move rfl rfl ?_)
            refine aops_cons rfl rfl (AOp.callP Try.call30 rfl rfl rfl (by exact mayT hmy (by first | omega | (simp <;> omega) | (simp at * <;> omega))) ?_)
            refine aops_cons rfl rfl (AOp.move rfl rfl ?_)
            refine aops_guard 2 true 107 _ rfl rfl rfl rfl rfl (fun g4 => ?_) (fun g4 => ?_)
            focus
              have g4_ := g4
              try simp only [List.length_map, List.length_cons, List.length_nil, nrm] at g4
              all_goals try (exfalso; first | (simp at g4_; done) | omega)
              all_goals
                refine AOp.move rfl rfl ?_
                refine aops_guard 2 true 107 _ rfl rfl rfl rfl rfl (fun _ => ?_) (fun hh => by exfalso; first | (rw [g4_] at hh; exact absurd hh (by decide)) | (revert hh; simp [g4_]))
                first
                | refine AOp.lenS (by first | exact List.length_map _ | rfl) Try.underlying36 rfl rfl ?_
                | refine AOp.lenN Try.underlying36 rfl rfl ?_
                | refine AOp.lenR (by first | exact List.length_map _ | rfl) Try.underlying36 (.head _) rfl rfl ?_
                | refine AOp.lenR (by first | exact List.length_map _ | rfl) Try.underlying36 (.tail _ (.head _)) rfl rfl ?_
                refine aops_guard 2 true 107 _ rfl rfl rfl rfl rfl (fun _ => ?_) (fun hh => by exfalso; first | (rw [g4_] at hh; exact absurd hh (by decide)) | (revert hh; simp [g4_]))
                refine AOp.move rfl rfl ?_
                refine aops_guard 2 true 107 _ rfl rfl rfl rfl rfl (fun _ => ?_) (fun hh => by exfalso; first | (rw [g4_] at hh; exact absurd hh (by decide)) | (revert hh; simp [g4_]))
                first
                | refine AOp.lenS (by first | exact List.length_map _ | rfl) Try.underlying36 rfl rfl ?_
                | refine AOp.lenN Try.underlying36 rfl rfl ?_
                | refine AOp.lenR (by first | exact List.length_map _ | rfl) Try.underlying36 (.head _) rfl rfl ?_
                | refine AOp.lenR (by first | exact List.length_map _ | rfl) Try.underlying36 (.tail _ (.head _)) rfl rfl ?_
                refine aops_guard 2 true 107 _ rfl rfl rfl rfl rfl (fun _ => ?_) (fun hh => by exfalso; first | (rw [g4_] at hh; exact absurd hh (by decide)) | (revert hh; simp [g4_]))
                refine AOp.geq rfl rfl rfl ?_
            rotate_right
            focus
              have g4_ := g4
              try simp only [List.length_map, List.length_cons, List.length_nil, nrm] at g4
              all_goals try (exfalso; first | (simp at g4_; done) | omega)
              all_goals
                refine aops_guard 2 true 107 _ rfl rfl rfl rfl rfl (fun hh => by exfalso; first | (rw [g4_] at hh; exact absurd hh (by decide)) | (revert hh; simp [g4_])) (fun _ => ?_)
                refine aops_guard 2 true 107 _ rfl rfl rfl rfl rfl (fun hh => by exfalso; first | (rw [g4_] at hh; exact absurd hh (by decide)) | (revert hh; simp [g4_])) (fun _ => ?_)
                refine aops_guard 2 true 107 _ rfl rfl rfl rfl rfl (fun hh => by exfalso; first | (rw [g4_] at hh; exact absurd hh (by decide)) | (revert hh; simp [g4_])) (fun _ => ?_)
                refine aops_guard 2 true 107 _ rfl rfl rfl rfl rfl (fun hh => by exfalso; first | (rw [g4_] at hh; exact absurd hh (by decide)) | (revert hh; simp [g4_])) (fun _ => ?_)
            all_goals
              first
              | refine aops_cons rfl rfl (AOp.pick_t rfl rfl (by first | assumption | rfl) rfl ?_)
              | refine aops_cons rfl rfl (AOp.pick_f rfl rfl (by first | assumption | rfl) rfl ?_)
              refine aops_cons rfl rfl (AOp.move rfl rfl ?_)
              refine aops_guard 9 true 114 _ rfl rfl rfl rfl rfl (fun g5 => ?_) (fun g5 => ?_)
              focus
                have g5_ := g5
                try simp only [List.length_map, List.length_cons, List.length_nil, nrm] at g5
                all_goals try (exfalso; first | (simp at g5_; done) | omega)
                all_goals
                  refine AOp.move rfl rfl ?_
                  refine aops_guard 9 true 114 _ rfl rfl rfl rfl rfl (fun _ => ?_) (fun hh => by exfalso; first | (rw [g5_] at hh; exact absurd hh (by decide)) | (revert hh; simp [g5_]))
                  first
                  | refine AOp.lenS (by first | exact List.length_map _ | rfl) Try.underlying36 rfl rfl ?_
                  | refine AOp.lenN Try.underlying36 rfl rfl ?_
                  | refine AOp.lenR (by first | exact List.length_map _ | rfl) Try.underlying36 (.head _) rfl rfl ?_
                  | refine AOp.lenR (by first | exact List.length_map _ | rfl) Try.underlying36 (.tail _ (.head _)) rfl rfl ?_
                  refine aops_guard 9 true 114 _ rfl rfl rfl rfl rfl (fun _ => ?_) (fun hh => by exfalso; first | (rw [g5_] at hh; exact absurd hh (by decide)) | (revert hh; simp [g5_]))
                  refine AOp.move rfl rfl ?_
                  refine aops_guard 9 true 114 _ rfl rfl rfl rfl rfl (fun _ => ?_) (fun hh => by exfalso; first | (rw [g5_] at hh; exact absurd hh (by decide)) | (revert hh; simp [g5_]))
                  first
                  | refine AOp.lenS (by first | exact List.length_map _ | rfl) Try.underlying36 rfl rfl ?_
                  | refine AOp.lenN Try.underlying36 rfl rfl ?_
                  | refine AOp.lenR (by first | exact List.length_map _ | rfl) Try.underlying36 (.head _) rfl rfl ?_
                  | refine AOp.lenR (by first | exact List.length_map _ | rfl) Try.underlying36 (.tail _ (.head _)) rfl rfl ?_
                  refine aops_guard 9 true 114 _ rfl rfl rfl rfl rfl (fun _ => ?_) (fun hh => by exfalso; first | (rw [g5_] at hh; exact absurd hh (by decide)) | (revert hh; simp [g5_]))
                  first
                  | refine AOp.addE rfl rfl rfl (by first | omega | (simp <;> omega) | (simp at * <;> omega)) (by first | omega | (simp <;> omega) | (simp at * <;> omega)) ?_
                  | refine AOp.add rfl rfl rfl rfl ?_
                  refine aops_guard 9 true 114 _ rfl rfl rfl rfl rfl (fun _ => ?_) (fun hh => by exfalso; first | (rw [g5_] at hh; exact absurd hh (by decide)) | (revert hh; simp [g5_]))
                  refine AOp.leq rfl rfl rfl ?_
              rotate_right
              focus
                have g5_ := g5
                try simp only [List.length_map, List.length_cons, List.length_nil, nrm] at g5
                all_goals try (exfalso; first | (simp at g5_; done) | omega)
                all_goals
                  refine aops_guard 9 true 114 _ rfl rfl rfl rfl rfl (fun hh => by exfalso; first | (rw [g5_] at hh; exact absurd hh (by decide)) | (revert hh; simp [g5_])) (fun _ => ?_)
                  refine aops_guard 9 true 114 _ rfl rfl rfl rfl rfl (fun hh => by exfalso; first | (rw [g5_] at hh; exact absurd hh (by decide)) | (revert hh; simp [g5_])) (fun _ => ?_)
                  refine aops_guard 9 true 114 _ rfl rfl rfl rfl rfl (fun hh => by exfalso; first | (rw [g5_] at hh; exact absurd hh (by decide)) | (revert hh; simp [g5_])) (fun _ => ?_)
                  refine aops_guard 9 true 114 _ rfl rfl rfl rfl rfl (fun hh => by exfalso; first | (rw [g5_] at hh; exact absurd hh (by decide)) | (revert hh; simp [g5_])) (fun _ => ?_)
                  refine aops_guard 9 true 114 _ rfl rfl rfl rfl rfl (fun hh => by exfalso; first | (rw [g5_] at hh; exact absurd hh (by decide)) | (revert hh; simp [g5_])) (fun _ => ?_)
              all_goals
                first
                | refine aops_cons rfl rfl (AOp.pick_t rfl rfl (by first | assumption | rfl) rfl ?_)
                | refine aops_cons rfl rfl (AOp.pick_f rfl rfl (by first | assumption | rfl) rfl ?_)
                refine aops_cons rfl rfl (AOp.assign rfl rfl ?_)
                refine aops_nil ?_
                refine aw_ret ?_
                refine ⟨_, (res1 Try.results8 rfl), ?_⟩
                first | rfl | (simp; omega)
        all_goals
          refine aw_seq ?_
          refine aw_block ?_
          refine aw_seq ?_
          refine aw_region ?_
          refine aops_cons rfl rfl (AOp.assign rfl rfl ?_)
          refine aops_nil ?_
          refine aw_block ?_
          refine aw_loop (β := Nat) (S := (fun (z0 : Nat) => match z0 with | k => [(13, ls x), (14, .sc (.pointer (some ⟨b1, 0, none⟩))), (15, ls (gr2 x (⟨1 + (c.toNat : Int) % 3, 1 + (f.toNat : Int) % 3, 1 + (m.toNat : Int) % 2, (u.toNat : Int)⟩ : L))), (16, .sc (.int .i64 (t.toNat : Int))), (17, .sc (.int .i64 ((i : Int) + 1))), (18, .sc (.int .i64 ((k : Int) + 1)))])) (B := (fun (z0 : Nat) => match z0 with | k => [.box b1 58 (L.e (⟨1 + (c.toNat : Int) % 3, 1 + (f.toNat : Int) % 3, 1 + (m.toNat : Int) % 2, (u.toNat : Int)⟩ : L))])) (pre := (fun (z0 : Nat) => match z0 with | k => k ≤ 3)) (μ := (fun (z0 : Nat) => match z0 with | k => 3 - k)) 0 (wk_env (sube_cons rfl (sube_cons rfl (sube_cons rfl (sube_cons rfl (sube_cons rfl (sube_cons rfl (sube_nil _)))))))) ?_ ?_
          · exact Nat.zero_le _
          · rintro k hk
            change AW _ _ _ ([(13, ls x), (14, .sc (.pointer (some ⟨b1, 0, none⟩))), (15, ls (gr2 x (⟨1 + (c.toNat : Int) % 3, 1 + (f.toNat : Int) % 3, 1 + (m.toNat : Int) % 2, (u.toNat : Int)⟩ : L))), (16, .sc (.int .i64 (t.toNat : Int))), (17, .sc (.int .i64 ((i : Int) + 1))), (18, .sc (.int .i64 ((k : Int) + 1)))] : Env) ([.box b1 58 (L.e (⟨1 + (c.toNat : Int) % 3, 1 + (f.toNat : Int) % 3, 1 + (m.toNat : Int) % 2, (u.toNat : Int)⟩ : L))] : List Blk) _
            replace hk : k ≤ 3 := hk
            refine aw_seq ?_
            refine aw_seq ?_
            refine aw_region ?_
            refine aops_cons rfl rfl (AOp.move rfl rfl ?_)
            refine aops_cons rfl rfl (AOp.leq rfl rfl rfl ?_)
            refine aops_nil ?_
            refine aw_cond _ rfl (fun h6 => ?_) (fun h6 => ?_)
            focus
              have h6_ := h6
              try simp only [List.length_map, List.length_cons, List.length_nil, nrm] at h6
              all_goals try (exfalso; first | (simp at h6_; done) | omega)
              all_goals
                refine aw_skip ?_
                skip
            rotate_right
            focus
              have h6_ := h6
              try simp only [List.length_map, List.length_cons, List.length_nil, nrm] at h6
              all_goals try (exfalso; first | (simp at h6_; done) | omega)
              all_goals
                refine aw_exit ?_
                refine aw_region ?_
                refine aops_cons rfl rfl (AOp.move rfl rfl ?_)
                first
                | refine aops_cons rfl rfl (AOp.addE rfl rfl rfl (by first | omega | (simp <;> omega) | (simp at * <;> omega)) (by first | omega | (simp <;> omega) | (simp at * <;> omega)) ?_)
                | refine aops_cons rfl rfl (AOp.add rfl rfl rfl rfl ?_)
                refine aops_cons rfl rfl (AOp.assign rfl rfl ?_)
                refine aops_nil ?_
                refine ⟨i + 1, ?_, ?_, (wk_env (sube_cons rfl (sube_cons rfl (sube_cons rfl (sube_cons rfl (sube_cons rfl (sube_nil _)))))))⟩
                · dsimp only; omega
                · dsimp only; omega
            all_goals
              refine aw_seq ?_
              refine aw_block ?_
              refine aw_seq ?_
              refine aw_region ?_
              refine aops_cons rfl rfl (AOp.move rfl rfl ?_)
              refine aops_cons rfl rfl (AOp.move rfl rfl ?_)
              refine aops_cons rfl rfl (AOp.move rfl rfl ?_)
              refine aops_cons rfl rfl (AOp.move rfl rfl ?_)
              refine aops_cons rfl rfl (AOp.callP Try.call22 rfl rfl rfl (by exact holds _ _ _ _ (by assumption) (by first | omega | (simp <;> omega) | (simp at * <;> omega))) ?_)
              refine aops_cons rfl rfl (AOp.move rfl rfl ?_)
              refine aops_cons rfl rfl (AOp.move rfl rfl ?_)
              refine aops_cons rfl rfl (AOp.move rfl rfl ?_)
              refine aops_cons rfl rfl (AOp.move rfl rfl ?_)
              refine aops_cons rfl rfl (AOp.callP Try.call22 rfl rfl rfl (by exact holds _ _ _ _ (by assumption) (by first | omega | (simp <;> omega) | (simp at * <;> omega))) ?_)
              refine aops_cons rfl rfl (AOp.assign rfl rfl ?_)
              refine aops_cons rfl rfl (AOp.assign rfl rfl ?_)
              refine aops_nil ?_
              refine aw_seq ?_
              refine aw_region ?_
              refine aops_cons rfl rfl (AOp.move rfl rfl ?_)
              first
              | refine aops_cons rfl rfl (AOp.fieldI Try.underlying58 rfl Try.sizeOf3 (by decide) rfl rfl rfl ?_)
              | refine aops_cons rfl rfl (AOp.fieldB Try.underlying58 rfl Try.sizeOf3 (by decide) rfl rfl rfl ?_)
              | refine aops_cons rfl rfl (AOp.fieldR Try.underlying58 rfl Try.sizeOf3 (by decide) rfl rfl rfl ?_)
              first
              | refine aops_cons rfl rfl (AOp.load1 Try.isAgg3 rfl rfl (reads_im _ _) rfl ?_)
              | refine aops_cons rfl rfl (AOp.load1 Try.isAgg3 rfl rfl (reads_box _ (.head _)) rfl ?_)
              | refine aops_cons rfl rfl (AOp.load1 Try.isAgg3 rfl rfl (reads_box _ (.tail _ (.head _))) rfl ?_)
              | refine aops_cons rfl rfl (AOp.load1 Try.isAgg3 rfl rfl (reads_row _ (.head _) (idx_nat (by first | omega | (simp <;> omega) | (simp at * <;> omega))) (by first | omega | (simp <;> omega) | (simp at * <;> omega))) rfl ?_)
              | refine aops_cons rfl rfl (AOp.load1 Try.isAgg3 rfl rfl (reads_row _ (.head _) (idx_map (by first | omega | (simp <;> omega) | (simp at * <;> omega))) (by first | omega | (simp <;> omega) | (simp at * <;> omega))) rfl ?_)
              | refine aops_cons rfl rfl (AOp.load1 Try.isAgg3 rfl rfl (reads_row _ (.head _) (by assumption) (by first | omega | (simp <;> omega) | (simp at * <;> omega))) rfl ?_)
              | refine aops_cons rfl rfl (AOp.load1 Try.isAgg3 rfl rfl (reads_row _ (.tail _ (.head _)) (idx_nat (by first | omega | (simp <;> omega) | (simp at * <;> omega))) (by first | omega | (simp <;> omega) | (simp at * <;> omega))) rfl ?_)
              | refine aops_cons rfl rfl (AOp.load1 Try.isAgg3 rfl rfl (reads_row _ (.tail _ (.head _)) (idx_map (by first | omega | (simp <;> omega) | (simp at * <;> omega))) (by first | omega | (simp <;> omega) | (simp at * <;> omega))) rfl ?_)
              | refine aops_cons rfl rfl (AOp.load1 Try.isAgg3 rfl rfl (reads_row _ (.tail _ (.head _)) (by assumption) (by first | omega | (simp <;> omega) | (simp at * <;> omega))) rfl ?_)
              refine aops_cons rfl rfl (AOp.eql rfl rfl rfl ?_)
              refine aops_cons rfl rfl (AOp.move rfl rfl ?_)
              refine aops_guard 4 true 72 _ rfl rfl rfl rfl rfl (fun g7 => ?_) (fun g7 => ?_)
              focus
                have g7_ := g7
                try simp only [List.length_map, List.length_cons, List.length_nil, nrm] at g7
                all_goals try (exfalso; first | (simp at g7_; done) | omega)
                all_goals
                  refine AOp.move rfl rfl ?_
                  refine aops_guard 4 true 72 _ rfl rfl rfl rfl rfl (fun _ => ?_) (fun hh => by exfalso; first | (rw [g7_] at hh; exact absurd hh (by decide)) | (revert hh; simp [g7_]))
                  first
                  | refine AOp.fieldI Try.underlying58 rfl Try.sizeOf3 (by decide) rfl rfl rfl ?_
                  | refine AOp.fieldB Try.underlying58 rfl Try.sizeOf3 (by decide) rfl rfl rfl ?_
                  | refine AOp.fieldR Try.underlying58 rfl Try.sizeOf3 (by decide) rfl rfl rfl ?_
                  refine aops_guard 4 true 72 _ rfl rfl rfl rfl rfl (fun _ => ?_) (fun hh => by exfalso; first | (rw [g7_] at hh; exact absurd hh (by decide)) | (revert hh; simp [g7_]))
                  first
                  | refine AOp.load1 Try.isAgg3 rfl rfl (reads_im _ _) rfl ?_
                  | refine AOp.load1 Try.isAgg3 rfl rfl (reads_box _ (.head _)) rfl ?_
                  | refine AOp.load1 Try.isAgg3 rfl rfl (reads_box _ (.tail _ (.head _))) rfl ?_
                  | refine AOp.load1 Try.isAgg3 rfl rfl (reads_row _ (.head _) (idx_nat (by first | omega | (simp <;> omega) | (simp at * <;> omega))) (by first | omega | (simp <;> omega) | (simp at * <;> omega))) rfl ?_
                  | refine AOp.load1 Try.isAgg3 rfl rfl (reads_row _ (.head _) (idx_map (by first | omega | (simp <;> omega) | (simp at * <;> omega))) (by first | omega | (simp <;> omega) | (simp at * <;> omega))) rfl ?_
                  | refine AOp.load1 Try.isAgg3 rfl rfl (reads_row _ (.head _) (by assumption) (by first | omega | (simp <;> omega) | (simp at * <;> omega))) rfl ?_
                  | refine AOp.load1 Try.isAgg3 rfl rfl (reads_row _ (.tail _ (.head _)) (idx_nat (by first | omega | (simp <;> omega) | (simp at * <;> omega))) (by first | omega | (simp <;> omega) | (simp at * <;> omega))) rfl ?_
                  | refine AOp.load1 Try.isAgg3 rfl rfl (reads_row _ (.tail _ (.head _)) (idx_map (by first | omega | (simp <;> omega) | (simp at * <;> omega))) (by first | omega | (simp <;> omega) | (simp at * <;> omega))) rfl ?_
                  | refine AOp.load1 Try.isAgg3 rfl rfl (reads_row _ (.tail _ (.head _)) (by assumption) (by first | omega | (simp <;> omega) | (simp at * <;> omega))) rfl ?_
                  refine aops_guard 4 true 72 _ rfl rfl rfl rfl rfl (fun _ => ?_) (fun hh => by exfalso; first | (rw [g7_] at hh; exact absurd hh (by decide)) | (revert hh; simp [g7_]))
                  refine AOp.eql rfl rfl rfl ?_
              rotate_right
              focus
                have g7_ := g7
                try simp only [List.length_map, List.length_cons, List.length_nil, nrm] at g7
                all_goals try (exfalso; first | (simp at g7_; done) | omega)
                all_goals
                  refine aops_guard 4 true 72 _ rfl rfl rfl rfl rfl (fun hh => by exfalso; first | (rw [g7_] at hh; exact absurd hh (by decide)) | (revert hh; simp [g7_])) (fun _ => ?_)
                  refine aops_guard 4 true 72 _ rfl rfl rfl rfl rfl (fun hh => by exfalso; first | (rw [g7_] at hh; exact absurd hh (by decide)) | (revert hh; simp [g7_])) (fun _ => ?_)
                  refine aops_guard 4 true 72 _ rfl rfl rfl rfl rfl (fun hh => by exfalso; first | (rw [g7_] at hh; exact absurd hh (by decide)) | (revert hh; simp [g7_])) (fun _ => ?_)
              all_goals
                first
                | refine aops_cons rfl rfl (AOp.pick_t rfl rfl (by first | assumption | rfl) rfl ?_)
                | refine aops_cons rfl rfl (AOp.pick_f rfl rfl (by first | assumption | rfl) rfl ?_)
                refine aops_cons rfl rfl (AOp.assign rfl rfl ?_)
                refine aops_nil ?_
                refine aw_seq ?_
                have hAB := grows (x := x) (y := (⟨1 + (c.toNat : Int) % 3, 1 + (f.toNat : Int) % 3, 1 + (m.toNat : Int) % 2, (u.toNat : Int)⟩ : L)) (t := (t.toNat : Int)) hs hm0 (by dsimp only; omega) ((i : Int) + 1) ((k : Int) + 1)
                dsimp only at hAB
                obtain ⟨hA, hB⟩ := hAB
                refine aw_region ?_
                refine aops_cons rfl rfl (AOp.move rfl rfl ?_)
                refine aops_cons rfl rfl (AOp.not rfl rfl ?_)
                refine aops_cons rfl rfl (AOp.move rfl rfl ?_)
                refine aops_guard 2 true 80 _ rfl rfl rfl rfl rfl (fun g8 => ?_) (fun g8 => ?_)
                focus
                  have g8_ := g8
                  try simp only [List.length_map, List.length_cons, List.length_nil, nrm] at g8
                  all_goals try (exfalso; first | (simp at g8_; done) | omega)
                  all_goals
                    refine AOp.move rfl rfl ?_
                    refine aops_guard 2 true 80 _ rfl rfl rfl rfl rfl (fun _ => ?_) (fun hh => by exfalso; first | (rw [g8_] at hh; exact absurd hh (by decide)) | (revert hh; simp [g8_]))
                    refine AOp.move rfl rfl ?_
                    refine aops_guard 2 true 80 _ rfl rfl rfl rfl rfl (fun _ => ?_) (fun hh => by exfalso; first | (rw [g8_] at hh; exact absurd hh (by decide)) | (revert hh; simp [g8_]))
                    refine AOp.neq rfl rfl rfl ?_
                rotate_right
                focus
                  have g8_ := g8
                  try simp only [List.length_map, List.length_cons, List.length_nil, nrm] at g8
                  all_goals try (exfalso; first | (simp at g8_; done) | omega)
                  all_goals
                    refine aops_guard 2 true 80 _ rfl rfl rfl rfl rfl (fun hh => by exfalso; first | (rw [g8_] at hh; exact absurd hh (by decide)) | (revert hh; simp [g8_])) (fun _ => ?_)
                    refine aops_guard 2 true 80 _ rfl rfl rfl rfl rfl (fun hh => by exfalso; first | (rw [g8_] at hh; exact absurd hh (by decide)) | (revert hh; simp [g8_])) (fun _ => ?_)
                all_goals
                  first
                  | refine aops_cons rfl rfl (AOp.pick_t rfl rfl (by first | assumption | rfl) rfl ?_)
                  | refine aops_cons rfl rfl (AOp.pick_f rfl rfl (by first | assumption | rfl) rfl ?_)
                  refine aops_cons rfl rfl (AOp.move rfl rfl ?_)
                  refine aops_guard 7 false 85 _ rfl rfl rfl rfl rfl (fun g9 => ?_) (fun g9 => ?_)
                  focus
                    have g9_ := g9
                    try simp only [List.length_map, List.length_cons, List.length_nil, nrm] at g9
                    all_goals try (exfalso; first | (simp at g9_; done) | omega)
                    all_goals
                      refine AOp.move rfl rfl ?_
                      refine aops_guard 7 false 85 _ rfl rfl rfl rfl rfl (fun _ => ?_) (fun hh => by exfalso; first | (rw [g9_] at hh; exact absurd hh (by decide)) | (revert hh; simp [g9_]))
                      refine AOp.move rfl rfl ?_
                  rotate_right
                  focus
                    have g9_ := g9
                    try simp only [List.length_map, List.length_cons, List.length_nil, nrm] at g9
                    all_goals try (exfalso; first | (simp at g9_; done) | omega)
                    all_goals
                      refine aops_guard 7 false 85 _ rfl rfl rfl rfl rfl (fun hh => by exfalso; first | (rw [g9_] at hh; exact absurd hh (by decide)) | (revert hh; simp [g9_])) (fun _ => ?_)
                  all_goals
                    first
                    | (refine aops_guardU 9 true 87 rfl rfl rfl rfl rfl ?_; refine aops_guardU 9 true 87 rfl rfl rfl rfl rfl ?_; refine aops_guardU 9 true 87 rfl rfl rfl rfl rfl ?_; refine aops_guardU 9 true 87 rfl rfl rfl rfl rfl ?_)
                    | skip
                      refine aops_guard 9 true 87 _ rfl rfl rfl rfl rfl (fun g10 => ?_) (fun g10 => ?_)
                      focus
                        have g10_ := g10
                        try simp only [List.length_map, List.length_cons, List.length_nil, nrm] at g10
                        all_goals try (exfalso; first | (simp at g10_; done) | omega)
                        all_goals
                          refine AOp.move rfl rfl ?_
                          refine aops_guard 9 true 87 _ rfl rfl rfl rfl rfl (fun _ => ?_) (fun hh => by exfalso; first | (rw [g10_] at hh; exact absurd hh (by decide)) | (revert hh; simp [g10_]))
                          refine AOp.move rfl rfl ?_
                          refine aops_guard 9 true 87 _ rfl rfl rfl rfl rfl (fun _ => ?_) (fun hh => by exfalso; first | (rw [g10_] at hh; exact absurd hh (by decide)) | (revert hh; simp [g10_]))
                          refine AOp.lss rfl rfl rfl ?_
                          refine aops_guard 9 true 87 _ rfl rfl rfl rfl rfl (fun _ => ?_) (fun hh => by exfalso; first | (rw [g10_] at hh; exact absurd hh (by decide)) | (revert hh; simp [g10_]))
                          refine AOp.move rfl rfl ?_
                      rotate_right
                      focus
                        have g10_ := g10
                        try simp only [List.length_map, List.length_cons, List.length_nil, nrm] at g10
                        all_goals try (exfalso; first | (simp at g10_; done) | omega)
                        all_goals
                          refine aops_guard 9 true 87 _ rfl rfl rfl rfl rfl (fun hh => by exfalso; first | (rw [g10_] at hh; exact absurd hh (by decide)) | (revert hh; simp [g10_])) (fun _ => ?_)
                          refine aops_guard 9 true 87 _ rfl rfl rfl rfl rfl (fun hh => by exfalso; first | (rw [g10_] at hh; exact absurd hh (by decide)) | (revert hh; simp [g10_])) (fun _ => ?_)
                          refine aops_guard 9 true 87 _ rfl rfl rfl rfl rfl (fun hh => by exfalso; first | (rw [g10_] at hh; exact absurd hh (by decide)) | (revert hh; simp [g10_])) (fun _ => ?_)
                    all_goals
                      first
                      | (refine aops_guardU 13 false 91 rfl rfl rfl rfl rfl ?_; refine aops_guardU 13 false 91 rfl rfl rfl rfl rfl ?_; refine aops_guardU 13 false 91 rfl rfl rfl rfl rfl ?_; refine aops_guardU 13 false 91 rfl rfl rfl rfl rfl ?_; refine aops_guardU 13 false 91 rfl rfl rfl rfl rfl ?_)
                      | skip
                        refine aops_guard 13 false 91 _ rfl rfl rfl rfl rfl (fun g11 => ?_) (fun g11 => ?_)
                        focus
                          have g11_ := g11
                          try simp only [List.length_map, List.length_cons, List.length_nil, nrm] at g11
                          all_goals try (exfalso; first | (simp at g11_; done) | omega)
                          all_goals
                            refine AOp.move rfl rfl ?_
                            refine aops_guard 13 false 91 _ rfl rfl rfl rfl rfl (fun _ => ?_) (fun hh => by exfalso; first | (rw [g11_] at hh; exact absurd hh (by decide)) | (revert hh; simp [g11_]))
                            first
                            | refine AOp.fieldI Try.underlying58 rfl Try.sizeOf3 (by decide) rfl rfl rfl ?_
                            | refine AOp.fieldB Try.underlying58 rfl Try.sizeOf3 (by decide) rfl rfl rfl ?_
                            | refine AOp.fieldR Try.underlying58 rfl Try.sizeOf3 (by decide) rfl rfl rfl ?_
                            refine aops_guard 13 false 91 _ rfl rfl rfl rfl rfl (fun _ => ?_) (fun hh => by exfalso; first | (rw [g11_] at hh; exact absurd hh (by decide)) | (revert hh; simp [g11_]))
                            first
                            | refine AOp.load1 Try.isAgg3 rfl rfl (reads_im _ _) rfl ?_
                            | refine AOp.load1 Try.isAgg3 rfl rfl (reads_box _ (.head _)) rfl ?_
                            | refine AOp.load1 Try.isAgg3 rfl rfl (reads_box _ (.tail _ (.head _))) rfl ?_
                            | refine AOp.load1 Try.isAgg3 rfl rfl (reads_row _ (.head _) (idx_nat (by first | omega | (simp <;> omega) | (simp at * <;> omega))) (by first | omega | (simp <;> omega) | (simp at * <;> omega))) rfl ?_
                            | refine AOp.load1 Try.isAgg3 rfl rfl (reads_row _ (.head _) (idx_map (by first | omega | (simp <;> omega) | (simp at * <;> omega))) (by first | omega | (simp <;> omega) | (simp at * <;> omega))) rfl ?_
                            | refine AOp.load1 Try.isAgg3 rfl rfl (reads_row _ (.head _) (by assumption) (by first | omega | (simp <;> omega) | (simp at * <;> omega))) rfl ?_
                            | refine AOp.load1 Try.isAgg3 rfl rfl (reads_row _ (.tail _ (.head _)) (idx_nat (by first | omega | (simp <;> omega) | (simp at * <;> omega))) (by first | omega | (simp <;> omega) | (simp at * <;> omega))) rfl ?_
                            | refine AOp.load1 Try.isAgg3 rfl rfl (reads_row _ (.tail _ (.head _)) (idx_map (by first | omega | (simp <;> omega) | (simp at * <;> omega))) (by first | omega | (simp <;> omega) | (simp at * <;> omega))) rfl ?_
                            | refine AOp.load1 Try.isAgg3 rfl rfl (reads_row _ (.tail _ (.head _)) (by assumption) (by first | omega | (simp <;> omega) | (simp at * <;> omega))) rfl ?_
                            refine aops_guard 13 false 91 _ rfl rfl rfl rfl rfl (fun _ => ?_) (fun hh => by exfalso; first | (rw [g11_] at hh; exact absurd hh (by decide)) | (revert hh; simp [g11_]))
                            refine AOp.lss rfl rfl rfl ?_
                            refine aops_guard 13 false 91 _ rfl rfl rfl rfl rfl (fun _ => ?_) (fun hh => by exfalso; first | (rw [g11_] at hh; exact absurd hh (by decide)) | (revert hh; simp [g11_]))
                            refine AOp.move rfl rfl ?_
                        rotate_right
                        focus
                          have g11_ := g11
                          try simp only [List.length_map, List.length_cons, List.length_nil, nrm] at g11
                          all_goals try (exfalso; first | (simp at g11_; done) | omega)
                          all_goals
                            refine aops_guard 13 false 91 _ rfl rfl rfl rfl rfl (fun hh => by exfalso; first | (rw [g11_] at hh; exact absurd hh (by decide)) | (revert hh; simp [g11_])) (fun _ => ?_)
                            refine aops_guard 13 false 91 _ rfl rfl rfl rfl rfl (fun hh => by exfalso; first | (rw [g11_] at hh; exact absurd hh (by decide)) | (revert hh; simp [g11_])) (fun _ => ?_)
                            refine aops_guard 13 false 91 _ rfl rfl rfl rfl rfl (fun hh => by exfalso; first | (rw [g11_] at hh; exact absurd hh (by decide)) | (revert hh; simp [g11_])) (fun _ => ?_)
                            refine aops_guard 13 false 91 _ rfl rfl rfl rfl rfl (fun hh => by exfalso; first | (rw [g11_] at hh; exact absurd hh (by decide)) | (revert hh; simp [g11_])) (fun _ => ?_)
                      all_goals
                        first
                        | (refine aops_guardU 18 true 96 rfl rfl rfl rfl rfl ?_; refine aops_guardU 18 true 96 rfl rfl rfl rfl rfl ?_; refine aops_guardU 18 true 96 rfl rfl rfl rfl rfl ?_; refine aops_guardU 18 true 96 rfl rfl rfl rfl rfl ?_)
                        | skip
                          refine aops_guard 18 true 96 _ rfl rfl rfl rfl rfl (fun g12 => ?_) (fun g12 => ?_)
                          focus
                            have g12_ := g12
                            try simp only [List.length_map, List.length_cons, List.length_nil, nrm] at g12
                            all_goals try (exfalso; first | (simp at g12_; done) | omega)
                            all_goals
                              refine AOp.move rfl rfl ?_
                              refine aops_guard 18 true 96 _ rfl rfl rfl rfl rfl (fun _ => ?_) (fun hh => by exfalso; first | (rw [g12_] at hh; exact absurd hh (by decide)) | (revert hh; simp [g12_]))
                              first
                              | refine AOp.fieldI Try.underlying58 rfl Try.sizeOf3 (by decide) rfl rfl rfl ?_
                              | refine AOp.fieldB Try.underlying58 rfl Try.sizeOf3 (by decide) rfl rfl rfl ?_
                              | refine AOp.fieldR Try.underlying58 rfl Try.sizeOf3 (by decide) rfl rfl rfl ?_
                              refine aops_guard 18 true 96 _ rfl rfl rfl rfl rfl (fun _ => ?_) (fun hh => by exfalso; first | (rw [g12_] at hh; exact absurd hh (by decide)) | (revert hh; simp [g12_]))
                              first
                              | refine AOp.load1 Try.isAgg3 rfl rfl (reads_im _ _) rfl ?_
                              | refine AOp.load1 Try.isAgg3 rfl rfl (reads_box _ (.head _)) rfl ?_
                              | refine AOp.load1 Try.isAgg3 rfl rfl (reads_box _ (.tail _ (.head _))) rfl ?_
                              | refine AOp.load1 Try.isAgg3 rfl rfl (reads_row _ (.head _) (idx_nat (by first | omega | (simp <;> omega) | (simp at * <;> omega))) (by first | omega | (simp <;> omega) | (simp at * <;> omega))) rfl ?_
                              | refine AOp.load1 Try.isAgg3 rfl rfl (reads_row _ (.head _) (idx_map (by first | omega | (simp <;> omega) | (simp at * <;> omega))) (by first | omega | (simp <;> omega) | (simp at * <;> omega))) rfl ?_
                              | refine AOp.load1 Try.isAgg3 rfl rfl (reads_row _ (.head _) (by assumption) (by first | omega | (simp <;> omega) | (simp at * <;> omega))) rfl ?_
                              | refine AOp.load1 Try.isAgg3 rfl rfl (reads_row _ (.tail _ (.head _)) (idx_nat (by first | omega | (simp <;> omega) | (simp at * <;> omega))) (by first | omega | (simp <;> omega) | (simp at * <;> omega))) rfl ?_
                              | refine AOp.load1 Try.isAgg3 rfl rfl (reads_row _ (.tail _ (.head _)) (idx_map (by first | omega | (simp <;> omega) | (simp at * <;> omega))) (by first | omega | (simp <;> omega) | (simp at * <;> omega))) rfl ?_
                              | refine AOp.load1 Try.isAgg3 rfl rfl (reads_row _ (.tail _ (.head _)) (by assumption) (by first | omega | (simp <;> omega) | (simp at * <;> omega))) rfl ?_
                              refine aops_guard 18 true 96 _ rfl rfl rfl rfl rfl (fun _ => ?_) (fun hh => by exfalso; first | (rw [g12_] at hh; exact absurd hh (by decide)) | (revert hh; simp [g12_]))
                              refine AOp.lss rfl rfl rfl ?_
                          rotate_right
                          focus
                            have g12_ := g12
                            try simp only [List.length_map, List.length_cons, List.length_nil, nrm] at g12
                            all_goals try (exfalso; first | (simp at g12_; done) | omega)
                            all_goals
                              refine aops_guard 18 true 96 _ rfl rfl rfl rfl rfl (fun hh => by exfalso; first | (rw [g12_] at hh; exact absurd hh (by decide)) | (revert hh; simp [g12_])) (fun _ => ?_)
                              refine aops_guard 18 true 96 _ rfl rfl rfl rfl rfl (fun hh => by exfalso; first | (rw [g12_] at hh; exact absurd hh (by decide)) | (revert hh; simp [g12_])) (fun _ => ?_)
                              refine aops_guard 18 true 96 _ rfl rfl rfl rfl rfl (fun hh => by exfalso; first | (rw [g12_] at hh; exact absurd hh (by decide)) | (revert hh; simp [g12_])) (fun _ => ?_)
                        all_goals
                          first
                          | (refine aops_guardU 13 false 91 rfl rfl rfl rfl rfl ?_)
                          | skip
                            refine aops_guard 13 false 91 _ rfl rfl rfl rfl rfl (fun g13 => ?_) (fun g13 => ?_)
                            focus
                              have g13_ := g13
                              try simp only [List.length_map, List.length_cons, List.length_nil, nrm] at g13
                              all_goals try (exfalso; first | (simp at g13_; done) | omega)
                              all_goals
                                first
                                | refine AOp.pick_t rfl rfl (by first | assumption | rfl) rfl ?_
                                | refine AOp.pick_f rfl rfl (by first | assumption | rfl) rfl ?_
                            rotate_right
                            focus
                              have g13_ := g13
                              try simp only [List.length_map, List.length_cons, List.length_nil, nrm] at g13
                              all_goals try (exfalso; first | (simp at g13_; done) | omega)
                          all_goals
                            first
                            | (refine aops_guardU 9 true 87 rfl rfl rfl rfl rfl ?_)
                            | skip
                              refine aops_guard 9 true 87 _ rfl rfl rfl rfl rfl (fun g14 => ?_) (fun g14 => ?_)
                              focus
                                have g14_ := g14
                                try simp only [List.length_map, List.length_cons, List.length_nil, nrm] at g14
                                all_goals try (exfalso; first | (simp at g14_; done) | omega)
                                all_goals
                                  first
                                  | refine AOp.pick_t rfl rfl (by first | assumption | rfl) rfl ?_
                                  | refine AOp.pick_f rfl rfl (by first | assumption | rfl) rfl ?_
                              rotate_right
                              focus
                                have g14_ := g14
                                try simp only [List.length_map, List.length_cons, List.length_nil, nrm] at g14
                                all_goals try (exfalso; first | (simp at g14_; done) | omega)
                            all_goals
                              refine aops_guard 7 false 85 _ rfl rfl rfl rfl rfl (fun g15 => ?_) (fun g15 => ?_)
                              focus
                                have g15_ := g15
                                try simp only [List.length_map, List.length_cons, List.length_nil, nrm] at g15
                                all_goals try (exfalso; first | (simp at g15_; done) | omega)
                                all_goals
                                  first
                                  | refine AOp.pick_t rfl rfl (by first | assumption | rfl) rfl ?_
                                  | refine AOp.pick_f rfl rfl (by first | assumption | rfl) rfl ?_
                              rotate_right
                              focus
                                have g15_ := g15
                                try simp only [List.length_map, List.length_cons, List.length_nil, nrm] at g15
                                all_goals try (exfalso; first | (simp at g15_; done) | omega)
                              all_goals
                                first
                                | refine aops_cons rfl rfl (AOp.pick_t rfl rfl (by first | assumption | rfl) rfl ?_)
                                | refine aops_cons rfl rfl (AOp.pick_f rfl rfl (by first | assumption | rfl) rfl ?_)
                                refine aops_nil ?_
                                refine aw_cond _ rfl (fun h16 => ?_) (fun h16 => ?_)
                                focus
                                  have h16_ := h16
                                  try simp only [List.length_map, List.length_cons, List.length_nil, nrm] at h16
                                  all_goals try (exfalso; first | (simp at h16_; done) | omega)
                                  all_goals
                                    refine aw_seq ?_
                                    refine aw_region ?_
                                    refine aops_cons rfl rfl (AOp.assign rfl rfl ?_)
                                    refine aops_nil ?_
                                    refine aw_ret ?_
                                    refine ⟨_, (res1 Try.results8 rfl), ?_⟩
                                    first | rfl | (simp; omega)
                                rotate_right
                                focus
                                  have h16_ := h16
                                  try simp only [List.length_map, List.length_cons, List.length_nil, nrm] at h16
                                  all_goals try (exfalso; first | (simp at h16_; done) | omega)
                                  all_goals
                                    refine aw_skip ?_
                                    skip
                                all_goals
                                  refine aw_region ?_
                                  refine aops_cons rfl rfl (AOp.move rfl rfl ?_)
                                  first
                                  | refine aops_cons rfl rfl (AOp.addE rfl rfl rfl (by first | omega | (simp <;> omega) | (simp at * <;> omega)) (by first | omega | (simp <;> omega) | (simp at * <;> omega)) ?_)
                                  | refine aops_cons rfl rfl (AOp.add rfl rfl rfl rfl ?_)
                                  refine aops_cons rfl rfl (AOp.assign rfl rfl ?_)
                                  refine aops_nil ?_
                                  refine ⟨k + 1, ?_, ?_, (wk_env (sube_cons rfl (sube_cons rfl (sube_cons rfl (sube_cons rfl (sube_cons rfl (sube_cons rfl (sube_nil _))))))))⟩
                                  · dsimp only; omega
                                  · dsimp only; omega

end Go.Proofs.Ytdlkmimgdghgcaa
