/- Own text: a desk that is made of numbers. -/
import Derived.Test.YtdacnebhlgibhaaDh
import Derived.Test.YtdacnebhlgibhaaAwR
set_option linter.unusedVariables false
set_option linter.unusedSimpArgs false
set_option linter.all false
set_option maxRecDepth 100000
set_option maxHeartbeats 2000000
namespace Go.Proofs.Ytdacnebhlgibhaa
open Go Go.Aw

theorem numV_le (l : List UInt8) (n : Nat) (m : Int) (h : 1 ≤ m) : 0 ≤ numV l n m ∧ numV l n m ≤ m - 1 := by have := numV_lt l n m h; omega
theorem askA_eq (r : Dk × Bool × List Int × Int) : askA r = .tp [dk r.1, .sc (.bool r.2.1), ints r.2.2.1, .sc (.int .i64 r.2.2.2)] := rfl
theorem GD.rd {k : Int} {d : Dk} {now : Int} (h : GD k d now) : RD d := ⟨h.s, fun y hy => by have := h.ok y hy; omega, fun y hy => by have := h.okw y hy; unfold okWt at this; omega⟩
theorem gd_runOf {k : Int} {d : Dk} {a b : Int} (h : GD k d a) (hab : a ≤ b) (h0 : 0 ≤ b) : GD k (runOf d b).1 b := gd_run h0 _ _ _ (gd_prn h hab)

theorem over (l : List UInt8) (n : Nat) (b : Nat) (hn : n ≤ l.length) (hl : l.length ≤ 1000000) : ACalls Try.prog 49 [ptr b] [picksB b l n] (fun r A' => r = .sc (.bool (decide ((l.length : Int) ≤ (n : Int)))) ∧ A' = [picksB b l n]) (fun _ _ => False) := by
  unfold picksB ptr
  refine acallsN Try.func49 rfl Try.ntmps49 rfl ?_
  refine aw_seq ?_
  refine aw_region ?_
  refine aops_cons rfl rfl (AOp.assign rfl rfl ?_)
  refine aops_nil ?_
  refine aw_seq ?_
  refine aw_draw 9 [0, 0, 0, 0, 0, 0, 0, 0, 0] (by kernel_rfl) (by kernel_rfl) ?_
  refine psq_cons _ rfl (core0 (AOp.move rfl rfl ⟨rfl, rfl⟩)) ?_
  first
  | refine psq_cons _ rfl (core0 (AOp.nilCheck rfl rfl nil_im ⟨rfl, rfl⟩)) ?_
  | refine psq_cons _ rfl (core0 (AOp.nilCheck rfl rfl nil_sc ⟨rfl, rfl⟩)) ?_
  first
  | refine psq_cons _ rfl (core0 (AOp.fieldI Try.underlying95 rfl Try.sizeOf3 (by decide) rfl rfl rfl ⟨rfl, rfl⟩)) ?_
  | refine psq_cons _ rfl (core0 (AOp.fieldB Try.underlying95 rfl Try.sizeOf3 (by decide) rfl rfl rfl ⟨rfl, rfl⟩)) ?_
  | refine psq_cons _ rfl (core0 (AOp.fieldR Try.underlying95 rfl Try.sizeOf3 (by decide) rfl rfl rfl ⟨rfl, rfl⟩)) ?_
  first
  | refine psq_cons _ rfl (core0 (AOp.load1 Try.isAgg3 rfl rfl (reads_im _ _) rfl ⟨rfl, rfl⟩)) ?_
  | refine psq_cons _ rfl (core0 (AOp.load1 Try.isAgg3 rfl rfl (reads_box _ (.head _)) rfl ⟨rfl, rfl⟩)) ?_
  | refine psq_cons _ rfl (core0 (AOp.load1 Try.isAgg3 rfl rfl (reads_box _ (.tail _ (.head _))) rfl ⟨rfl, rfl⟩)) ?_
  | refine psq_cons _ rfl (core0 (AOp.load1 Try.isAgg3 rfl rfl (reads_row _ (.head _) (idx_nat (by first | omega | (simp <;> omega) | (simp at * <;> omega))) (by first | omega | (simp <;> omega) | (simp at * <;> omega))) rfl ⟨rfl, rfl⟩)) ?_
  | refine psq_cons _ rfl (core0 (AOp.load1 Try.isAgg3 rfl rfl (reads_row _ (.head _) (idx_map (by first | omega | (simp <;> omega) | (simp at * <;> omega))) (by first | omega | (simp <;> omega) | (simp at * <;> omega))) rfl ⟨rfl, rfl⟩)) ?_
  | refine psq_cons _ rfl (core0 (AOp.load1 Try.isAgg3 rfl rfl (reads_row _ (.head _) (by assumption) (by first | omega | (simp <;> omega) | (simp at * <;> omega))) rfl ⟨rfl, rfl⟩)) ?_
  | refine psq_cons _ rfl (core0 (AOp.load1 Try.isAgg3 rfl rfl (reads_row _ (.tail _ (.head _)) (idx_nat (by first | omega | (simp <;> omega) | (simp at * <;> omega))) (by first | omega | (simp <;> omega) | (simp at * <;> omega))) rfl ⟨rfl, rfl⟩)) ?_
  | refine psq_cons _ rfl (core0 (AOp.load1 Try.isAgg3 rfl rfl (reads_row _ (.tail _ (.head _)) (idx_map (by first | omega | (simp <;> omega) | (simp at * <;> omega))) (by first | omega | (simp <;> omega) | (simp at * <;> omega))) rfl ⟨rfl, rfl⟩)) ?_
  | refine psq_cons _ rfl (core0 (AOp.load1 Try.isAgg3 rfl rfl (reads_row _ (.tail _ (.head _)) (by assumption) (by first | omega | (simp <;> omega) | (simp at * <;> omega))) rfl ⟨rfl, rfl⟩)) ?_
  refine psq_cons _ rfl (core0 (AOp.move rfl rfl ⟨rfl, rfl⟩)) ?_
  first
  | refine psq_cons _ rfl (core0 (AOp.nilCheck rfl rfl nil_im ⟨rfl, rfl⟩)) ?_
  | refine psq_cons _ rfl (core0 (AOp.nilCheck rfl rfl nil_sc ⟨rfl, rfl⟩)) ?_
  first
  | refine psq_cons _ rfl (core0 (AOp.fieldI Try.underlying95 rfl Try.sizeOf22 (by decide) rfl rfl rfl ⟨rfl, rfl⟩)) ?_
  | refine psq_cons _ rfl (core0 (AOp.fieldB Try.underlying95 rfl Try.sizeOf22 (by decide) rfl rfl rfl ⟨rfl, rfl⟩)) ?_
  | refine psq_cons _ rfl (core0 (AOp.fieldR Try.underlying95 rfl Try.sizeOf22 (by decide) rfl rfl rfl ⟨rfl, rfl⟩)) ?_
  first
  | refine psq_cons _ rfl (core0 (AOp.load1 Try.isAgg22 rfl rfl (reads_im _ _) rfl ⟨rfl, rfl⟩)) ?_
  | refine psq_cons _ rfl (core0 (AOp.load1 Try.isAgg22 rfl rfl (reads_box _ (.head _)) rfl ⟨rfl, rfl⟩)) ?_
  | refine psq_cons _ rfl (core0 (AOp.load1 Try.isAgg22 rfl rfl (reads_box _ (.tail _ (.head _))) rfl ⟨rfl, rfl⟩)) ?_
  | refine psq_cons _ rfl (core0 (AOp.load1 Try.isAgg22 rfl rfl (reads_row _ (.head _) (idx_nat (by first | omega | (simp <;> omega) | (simp at * <;> omega))) (by first | omega | (simp <;> omega) | (simp at * <;> omega))) rfl ⟨rfl, rfl⟩)) ?_
  | refine psq_cons _ rfl (core0 (AOp.load1 Try.isAgg22 rfl rfl (reads_row _ (.head _) (idx_map (by first | omega | (simp <;> omega) | (simp at * <;> omega))) (by first | omega | (simp <;> omega) | (simp at * <;> omega))) rfl ⟨rfl, rfl⟩)) ?_
  | refine psq_cons _ rfl (core0 (AOp.load1 Try.isAgg22 rfl rfl (reads_row _ (.head _) (by assumption) (by first | omega | (simp <;> omega) | (simp at * <;> omega))) rfl ⟨rfl, rfl⟩)) ?_
  | refine psq_cons _ rfl (core0 (AOp.load1 Try.isAgg22 rfl rfl (reads_row _ (.tail _ (.head _)) (idx_nat (by first | omega | (simp <;> omega) | (simp at * <;> omega))) (by first | omega | (simp <;> omega) | (simp at * <;> omega))) rfl ⟨rfl, rfl⟩)) ?_
  | refine psq_cons _ rfl (core0 (AOp.load1 Try.isAgg22 rfl rfl (reads_row _ (.tail _ (.head _)) (idx_map (by first | omega | (simp <;> omega) | (simp at * <;> omega))) (by first | omega | (simp <;> omega) | (simp at * <;> omega))) rfl ⟨rfl, rfl⟩)) ?_
  | refine psq_cons _ rfl (core0 (AOp.load1 Try.isAgg22 rfl rfl (reads_row _ (.tail _ (.head _)) (by assumption) (by first | omega | (simp <;> omega) | (simp at * <;> omega))) rfl ⟨rfl, rfl⟩)) ?_
  first
  | refine psq_cons _ rfl (core0 (AOp.lenS (by first | exact List.length_map _ | rfl) Try.underlying22 rfl rfl ⟨rfl, rfl⟩)) ?_
  | refine psq_cons _ rfl (core0 (AOp.lenN Try.underlying22 rfl rfl ⟨rfl, rfl⟩)) ?_
  | refine psq_cons _ rfl (core0 (AOp.lenR (by first | exact List.length_map _ | rfl) Try.underlying22 (.head _) rfl rfl ⟨rfl, rfl⟩)) ?_
  | refine psq_cons _ rfl (core0 (AOp.lenR (by first | exact List.length_map _ | rfl) Try.underlying22 (.tail _ (.head _)) rfl rfl ⟨rfl, rfl⟩)) ?_
  refine psq_nil ?_
  refine aops_cons rfl rfl (AOp.geq rfl rfl rfl ?_)
  refine aops_cons rfl rfl (AOp.assign rfl rfl ?_)
  refine aops_nil ?_
  refine aw_ret ?_
  refine ⟨_, (res1 Try.results49 rfl), ?_⟩
  exact ⟨rfl, rfl⟩

theorem desk (l : List UInt8) (b : Nat) (hl : l.length ≤ 1000000) : ACalls Try.prog 15 [ptr b, .sc (.int .i64 25)] [picksB b l 0] (fun r A' => ∃ d now n', r = .tp [dk d, .sc (.int .i64 now)] ∧ GD 3 d now ∧ 0 ≤ now ∧ now ≤ 1000 ∧ n' ≤ l.length ∧ A' = [picksB b l n']) (fun _ _ => False) := by
  unfold ptr
  refine acallsN Try.func15 rfl Try.ntmps15 rfl ?_
  refine aw_seq ?_
  refine aw_region ?_
  refine aops_cons rfl rfl (AOp.alloc Try.zeroValue30 (by kernel_rfl) rfl rfl ?_); intro b1
  refine aops_cons rfl rfl (AOp.assign rfl rfl ?_)
  refine aops_nil ?_
  refine aw_seq ?_
  refine aw_region ?_
  refine aops_cons rfl rfl (AOp.build' (places := [(0, 1), (1, 1)]) Try.zeroValue30 (by kernel_rfl) (by kernel_rfl) Try.underlying30 (by kernel_rfl) rfl rfl rfl rfl ?_)
  refine aops_cons rfl rfl (AOp.alloc Try.zeroValue30 (by kernel_rfl) rfl rfl ?_); intro b2
  first
  | refine aops_cons rfl rfl (AOp.storeB' Try.sizeOf30 rfl rfl rfl rfl rfl (pull_here _ _) rfl rfl ?_)
  | refine aops_cons rfl rfl (AOp.storeB' Try.sizeOf30 rfl rfl rfl rfl rfl (pull_there (pull_here _ _)) rfl rfl ?_)
  | refine aops_cons rfl rfl (AOp.storeB' Try.sizeOf30 rfl rfl rfl rfl rfl (pull_there (pull_there (pull_here _ _))) rfl rfl ?_)
  | refine aops_cons rfl rfl (AOp.storeR' Try.sizeOf30 rfl rfl rfl rfl rfl (pull_here _ _) (by first | exact idx_nat (by first | omega | (simp <;> omega) | (simp at * <;> omega)) | exact idx_map (by first | omega | (simp <;> omega) | (simp at * <;> omega)) | assumption) rfl rfl rfl ?_)
  | refine aops_cons rfl rfl (AOp.storeR' Try.sizeOf30 rfl rfl rfl rfl rfl (pull_there (pull_here _ _)) (by first | exact idx_nat (by first | omega | (simp <;> omega) | (simp at * <;> omega)) | exact idx_map (by first | omega | (simp <;> omega) | (simp at * <;> omega)) | assumption) rfl rfl rfl ?_)
  | refine aops_cons rfl rfl (AOp.storeR' Try.sizeOf30 rfl rfl rfl rfl rfl (pull_there (pull_there (pull_here _ _))) (by first | exact idx_nat (by first | omega | (simp <;> omega) | (simp at * <;> omega)) | exact idx_map (by first | omega | (simp <;> omega) | (simp at * <;> omega)) | assumption) rfl rfl rfl ?_)
  refine aops_nil ?_
  refine aw_seq ?_
  refine aw_region ?_
  refine aops_cons rfl rfl (AOp.assign rfl rfl ?_)
  refine aops_nil ?_
  refine aw_seq ?_
  refine aw_seq ?_
  refine aw_region ?_
  refine aops_cons rfl rfl (AOp.assign rfl rfl ?_)
  refine aops_nil ?_
  refine aw_block ?_
  refine aw_loop (β := Nat × Nat × Dk × Int) (S := (fun (z0 : Nat × Nat × Dk × Int) => match z0 with | (i, n', d, now) => [(0, ptr b), (1, .sc (.int .i64 25)), (4, .sc (.pointer (some ⟨b1, 0, none⟩))), (6, .sc (.pointer (some ⟨b2, 0, none⟩))), (7, .sc (.int .i64 now)), (8, .sc (.int .i64 (i : Int)))])) (B := (fun (z0 : Nat × Nat × Dk × Int) => match z0 with | (i, n', d, now) => [.box b2 30 d.e, picksB b l n', .box b1 30 [.sc (.slice none 0 0), .sc (.slice none 0 0)]])) (pre := (fun (z0 : Nat × Nat × Dk × Int) => match z0 with | (i, n', d, now) => i ≤ 25 ∧ n' ≤ l.length ∧ 0 ≤ now ∧ now ≤ 40 * (i : Int) ∧ GD 3 d now)) (μ := (fun (z0 : Nat × Nat × Dk × Int) => match z0 with | (i, n', d, now) => 25 - i)) (0, 0, ⟨[], []⟩, 0) (((wk_nil 25 4).trans (wk_frz (pull_here _ _) (.box _ _ (.cons (fz_row _ _) (.cons (fz_row _ _) .nil)) (.keep _ (.keep _ .nil))) (subz_cons (s := 0) rfl (fz_id _ _ _) (subz_cons (s := 1) rfl (fz_id _ _ _) (subz_cons (s := 4) rfl (fz_id _ _ _) (subz_cons (s := 6) rfl (fz_id _ _ _) (subz_cons (s := 7) rfl (fz_id _ _ _) (subz_cons (s := 8) rfl (fz_id _ _ _) (subz_nil _ _ _))))))))).trans ((wk_perm (List.Perm.cons _ (List.Perm.swap _ _ _))).trans (wk_env (sube_cons rfl (sube_cons rfl (sube_cons rfl (sube_cons rfl (sube_cons rfl (sube_cons rfl (sube_nil _)))))))))) ?_ ?_
  · exact ⟨by omega, Nat.zero_le _, Int.le_refl _, by omega, gd_nil 3 0⟩
  · rintro ⟨i, n', d, now⟩ ⟨hi, k1, k0, kn, hg⟩
    change AW _ _ _ ([(0, ptr b), (1, .sc (.int .i64 25)), (4, .sc (.pointer (some ⟨b1, 0, none⟩))), (6, .sc (.pointer (some ⟨b2, 0, none⟩))), (7, .sc (.int .i64 now)), (8, .sc (.int .i64 (i : Int)))] : Env) ([.box b2 30 d.e, picksB b l n', .box b1 30 [.sc (.slice none 0 0), .sc (.slice none 0 0)]] : List Blk) _
    have k2 := numN_le l n' 3 k1
    have k3 := numN_le l _ 3 k2
    have k4 := numN_le l _ 6 k3
    have k5 := numN_le l _ 40 k4
    have k6 := numN_le l _ 2 k4
    have a1 := numV_le l n' 3 (by decide)
    have a2 := numV_le l (numN l n' 3) 3 (by decide)
    have a3 := numV_le l (numN l (numN l n' 3) 3) 6 (by decide)
    have a4 := numV_le l (numN l (numN l (numN l n' 3) 3) 6) 40 (by decide)
    have a5 := numV_le l (numN l (numN l (numN l n' 3) 3) 6) 2 (by decide)
    have hgl := hg.lenl (by decide)
    have hgw := hg.lenw
    refine aw_seq ?_
    refine aw_seq ?_
    refine aw_region ?_
    refine aops_cons rfl rfl (AOp.move rfl rfl ?_)
    refine aops_cons rfl rfl (AOp.move rfl rfl ?_)
    refine aops_cons rfl rfl (AOp.lss rfl rfl rfl ?_)
    refine aops_cons rfl rfl (AOp.move rfl rfl ?_)
    refine aops_guard 3 true 15 _ rfl rfl rfl rfl rfl (fun g1 => ?_) (fun g1 => ?_)
    focus
      have g1_ := g1
      try simp only [List.length_map, List.length_cons, List.length_nil, nrm] at g1
      all_goals try (exfalso; first | contradiction | (simp at g1_; done) | omega)
      all_goals
        refine AOp.move rfl rfl ?_
        refine aops_guard 3 true 15 _ rfl rfl rfl rfl rfl (fun _ => ?_) (fun hh => by exfalso; first | (rw [g1_] at hh; exact absurd hh (by decide)) | (revert hh; simp [g1_]))
        refine AOp.callN (Af := _) Try.call49 rfl rfl rfl (show List.Perm _ ([_] ++ _) from (pull_there (pull_here _ _))) (by exact over l n' b k1 hl) (fun r' A'' hr => ?_)
        obtain ⟨rfl, rfl⟩ := hr
        refine aops_guard 3 true 15 _ rfl rfl rfl rfl rfl (fun _ => ?_) (fun hh => by exfalso; first | (rw [g1_] at hh; exact absurd hh (by decide)) | (revert hh; simp [g1_]))
        refine AOp.not rfl rfl ?_
    rotate_right
    focus
      have g1_ := g1
      try simp only [List.length_map, List.length_cons, List.length_nil, nrm] at g1
      all_goals try (exfalso; first | contradiction | (simp at g1_; done) | omega)
      all_goals
        refine aops_guard 3 true 15 _ rfl rfl rfl rfl rfl (fun hh => by exfalso; first | (rw [g1_] at hh; exact absurd hh (by decide)) | (revert hh; simp [g1_])) (fun _ => ?_)
        refine aops_guard 3 true 15 _ rfl rfl rfl rfl rfl (fun hh => by exfalso; first | (rw [g1_] at hh; exact absurd hh (by decide)) | (revert hh; simp [g1_])) (fun _ => ?_)
    all_goals
      first
      | refine aops_cons rfl rfl (AOp.pick_t rfl rfl (by first | assumption | rfl) rfl ?_)
      | refine aops_cons rfl rfl (AOp.pick_f rfl rfl (by first | assumption | rfl) rfl ?_)
      refine aops_nil ?_
      refine aw_cond _ rfl (fun h2 => ?_) (fun h2 => ?_)
      focus
        have h2_ := h2
        try simp only [List.length_map, List.length_cons, List.length_nil, nrm] at h2
        all_goals try (exfalso; first | contradiction | (simp at h2_; done) | omega)
        all_goals
          refine aw_skip ?_
          skip
      rotate_right
      focus
        have h2_ := h2
        try simp only [List.length_map, List.length_cons, List.length_nil, nrm] at h2
        all_goals try (exfalso; first | contradiction | (simp at h2_; done) | omega)
        all_goals
          refine aw_exit ?_
          refine aw_seq ?_
          refine aw_region ?_
          first
          | refine aops_cons rfl rfl (AOp.loadN Try.isAgg30 Try.sizeOf30 rfl rfl (reads_im _ _) rfl rfl ?_)
          | refine aops_cons rfl rfl (AOp.loadN Try.isAgg30 Try.sizeOf30 rfl rfl (reads_box _ (.head _)) rfl rfl ?_)
          | refine aops_cons rfl rfl (AOp.loadN Try.isAgg30 Try.sizeOf30 rfl rfl (reads_box _ (.tail _ (.head _))) rfl rfl ?_)
          | refine aops_cons rfl rfl (AOp.loadN Try.isAgg30 Try.sizeOf30 rfl rfl (reads_box _ (.tail _ (.tail _ (.head _)))) rfl rfl ?_)
          | refine aops_cons rfl rfl (AOp.loadN Try.isAgg30 Try.sizeOf30 rfl rfl (reads_row _ (.head _) (idx_nat (by first | omega | (simp <;> omega) | (simp at * <;> omega))) (by first | omega | (simp <;> omega) | (simp at * <;> omega))) rfl rfl ?_)
          | refine aops_cons rfl rfl (AOp.loadN Try.isAgg30 Try.sizeOf30 rfl rfl (reads_row _ (.head _) (idx_map (by first | omega | (simp <;> omega) | (simp at * <;> omega))) (by first | omega | (simp <;> omega) | (simp at * <;> omega))) rfl rfl ?_)
          | refine aops_cons rfl rfl (AOp.loadN Try.isAgg30 Try.sizeOf30 rfl rfl (reads_row _ (.head _) (by assumption) (by first | omega | (simp <;> omega) | (simp at * <;> omega))) rfl rfl ?_)
          | refine aops_cons rfl rfl (AOp.loadN Try.isAgg30 Try.sizeOf30 rfl rfl (reads_row _ (.tail _ (.head _)) (idx_nat (by first | omega | (simp <;> omega) | (simp at * <;> omega))) (by first | omega | (simp <;> omega) | (simp at * <;> omega))) rfl rfl ?_)
          | refine aops_cons rfl rfl (AOp.loadN Try.isAgg30 Try.sizeOf30 rfl rfl (reads_row _ (.tail _ (.head _)) (idx_map (by first | omega | (simp <;> omega) | (simp at * <;> omega))) (by first | omega | (simp <;> omega) | (simp at * <;> omega))) rfl rfl ?_)
          | refine aops_cons rfl rfl (AOp.loadN Try.isAgg30 Try.sizeOf30 rfl rfl (reads_row _ (.tail _ (.head _)) (by assumption) (by first | omega | (simp <;> omega) | (simp at * <;> omega))) rfl rfl ?_)
          | refine aops_cons rfl rfl (AOp.loadN Try.isAgg30 Try.sizeOf30 rfl rfl (reads_row _ (.tail _ (.tail _ (.head _))) (idx_nat (by first | omega | (simp <;> omega) | (simp at * <;> omega))) (by first | omega | (simp <;> omega) | (simp at * <;> omega))) rfl rfl ?_)
          | refine aops_cons rfl rfl (AOp.loadN Try.isAgg30 Try.sizeOf30 rfl rfl (reads_row _ (.tail _ (.tail _ (.head _))) (idx_map (by first | omega | (simp <;> omega) | (simp at * <;> omega))) (by first | omega | (simp <;> omega) | (simp at * <;> omega))) rfl rfl ?_)
          | refine aops_cons rfl rfl (AOp.loadN Try.isAgg30 Try.sizeOf30 rfl rfl (reads_row _ (.tail _ (.tail _ (.head _))) (by assumption) (by first | omega | (simp <;> omega) | (simp at * <;> omega))) rfl rfl ?_)
          refine aops_cons rfl rfl (AOp.move rfl rfl ?_)
          first
          | refine aops_cons rfl rfl (AOp.storeB' Try.sizeOf30 rfl rfl rfl rfl rfl (pull_here _ _) rfl rfl ?_)
          | refine aops_cons rfl rfl (AOp.storeB' Try.sizeOf30 rfl rfl rfl rfl rfl (pull_there (pull_here _ _)) rfl rfl ?_)
          | refine aops_cons rfl rfl (AOp.storeB' Try.sizeOf30 rfl rfl rfl rfl rfl (pull_there (pull_there (pull_here _ _))) rfl rfl ?_)
          | refine aops_cons rfl rfl (AOp.storeR' Try.sizeOf30 rfl rfl rfl rfl rfl (pull_here _ _) (by first | exact idx_nat (by first | omega | (simp <;> omega) | (simp at * <;> omega)) | exact idx_map (by first | omega | (simp <;> omega) | (simp at * <;> omega)) | assumption) rfl rfl rfl ?_)
          | refine aops_cons rfl rfl (AOp.storeR' Try.sizeOf30 rfl rfl rfl rfl rfl (pull_there (pull_here _ _)) (by first | exact idx_nat (by first | omega | (simp <;> omega) | (simp at * <;> omega)) | exact idx_map (by first | omega | (simp <;> omega) | (simp at * <;> omega)) | assumption) rfl rfl rfl ?_)
          | refine aops_cons rfl rfl (AOp.storeR' Try.sizeOf30 rfl rfl rfl rfl rfl (pull_there (pull_there (pull_here _ _))) (by first | exact idx_nat (by first | omega | (simp <;> omega) | (simp at * <;> omega)) | exact idx_map (by first | omega | (simp <;> omega) | (simp at * <;> omega)) | assumption) rfl rfl rfl ?_)
          refine aops_cons rfl rfl (AOp.assign rfl rfl ?_)
          refine aops_nil ?_
          first
          | refine aw_weak (wk_imm (pull_here _ _) (subf_new (s := 4) rfl (subf_cons (s := 5) rfl (subf_nil _ _ _)))) ?_
          | refine aw_weak (wk_imm (pull_there (pull_here _ _)) (subf_new (s := 4) rfl (subf_cons (s := 5) rfl (subf_nil _ _ _)))) ?_
          | refine aw_weak (wk_imm (pull_there (pull_there (pull_here _ _))) (subf_new (s := 4) rfl (subf_cons (s := 5) rfl (subf_nil _ _ _)))) ?_
          refine aw_weak (wk_drop (A' := [picksB b l n']) (by (focus ((repeat (first | exact List.Sublist.slnil | apply List.Sublist.cons_cons | apply List.Sublist.cons)); done)))) ?_
          refine aw_ret ?_
          refine ⟨_, (resV2 Try.results15 (RV.cellN _ _ _ _ _ _ Try.isAgg30 Try.sizeOf30 rfl (reads_im _ _) rfl rfl) (RV.tmp _ _ rfl)), ?_⟩
          exact ⟨d, now, n', rfl, hg, k0, by omega, k1, rfl⟩
      all_goals
        refine aw_seq ?_
        refine aw_block ?_
        refine aw_seq ?_
        refine aw_region ?_
        refine aops_cons rfl rfl (AOp.move rfl rfl ?_)
        refine aops_cons rfl rfl (AOp.callN (Af := _) Try.call47 rfl rfl rfl (show List.Perm _ ([_] ++ _) from (pull_here _ _)) (by exact num l n' 3 b k1 hl (by decide)) (fun r' A'' hr => ?_))
        obtain ⟨rfl, rfl⟩ := hr
        first
        | refine aops_cons rfl rfl (AOp.addE rfl rfl rfl (by first | omega | (simp <;> omega) | (simp at * <;> omega)) (by first | omega | (simp <;> omega) | (simp at * <;> omega)) ?_)
        | refine aops_cons rfl rfl (AOp.add rfl rfl rfl rfl ?_)
        refine aops_cons rfl rfl (AOp.move rfl rfl ?_)
        refine aops_cons rfl rfl (AOp.callN (Af := _) Try.call47 rfl rfl rfl (show List.Perm _ ([_] ++ _) from (pull_here _ _)) (by exact num l (numN l n' 3) 3 b k2 hl (by decide)) (fun r' A'' hr => ?_))
        obtain ⟨rfl, rfl⟩ := hr
        first
        | refine aops_cons rfl rfl (AOp.addE rfl rfl rfl (by first | omega | (simp <;> omega) | (simp at * <;> omega)) (by first | omega | (simp <;> omega) | (simp at * <;> omega)) ?_)
        | refine aops_cons rfl rfl (AOp.add rfl rfl rfl rfl ?_)
        refine aops_cons rfl rfl (AOp.assign rfl rfl ?_)
        refine aops_cons rfl rfl (AOp.assign rfl rfl ?_)
        refine aops_nil ?_
        refine aw_seq ?_
        refine aw_region ?_
        refine aops_cons rfl rfl (AOp.move rfl rfl ?_)
        refine aops_cons rfl rfl (AOp.callN (Af := _) Try.call47 rfl rfl rfl (show List.Perm _ ([_] ++ _) from (pull_here _ _)) (by exact num l (numN l (numN l n' 3) 3) 6 b k3 hl (by decide)) (fun r' A'' hr => ?_))
        obtain ⟨rfl, rfl⟩ := hr
        refine aops_nil ?_
        refine aw_block ?_
        refine aw_seq ?_
        refine aw_region ?_
        refine aops_cons rfl rfl (AOp.eql rfl rfl rfl ?_)
        refine aops_cons rfl rfl (AOp.assign rfl rfl ?_)
        refine aops_nil ?_
        refine aw_cond _ rfl (fun h3 => ?_) (fun h3 => ?_)
        focus
          have h3_ := h3
          try simp only [List.length_map, List.length_cons, List.length_nil, nrm] at h3
          all_goals try (exfalso; first | contradiction | (simp at h3_; done) | omega)
          all_goals
            refine aw_region ?_
            first
            | refine aops_cons rfl rfl (AOp.loadN Try.isAgg30 Try.sizeOf30 rfl rfl (reads_im _ _) rfl rfl ?_)
            | refine aops_cons rfl rfl (AOp.loadN Try.isAgg30 Try.sizeOf30 rfl rfl (reads_box _ (.head _)) rfl rfl ?_)
            | refine aops_cons rfl rfl (AOp.loadN Try.isAgg30 Try.sizeOf30 rfl rfl (reads_box _ (.tail _ (.head _))) rfl rfl ?_)
            | refine aops_cons rfl rfl (AOp.loadN Try.isAgg30 Try.sizeOf30 rfl rfl (reads_box _ (.tail _ (.tail _ (.head _)))) rfl rfl ?_)
            | refine aops_cons rfl rfl (AOp.loadN Try.isAgg30 Try.sizeOf30 rfl rfl (reads_row _ (.head _) (idx_nat (by first | omega | (simp <;> omega) | (simp at * <;> omega))) (by first | omega | (simp <;> omega) | (simp at * <;> omega))) rfl rfl ?_)
            | refine aops_cons rfl rfl (AOp.loadN Try.isAgg30 Try.sizeOf30 rfl rfl (reads_row _ (.head _) (idx_map (by first | omega | (simp <;> omega) | (simp at * <;> omega))) (by first | omega | (simp <;> omega) | (simp at * <;> omega))) rfl rfl ?_)
            | refine aops_cons rfl rfl (AOp.loadN Try.isAgg30 Try.sizeOf30 rfl rfl (reads_row _ (.head _) (by assumption) (by first | omega | (simp <;> omega) | (simp at * <;> omega))) rfl rfl ?_)
            | refine aops_cons rfl rfl (AOp.loadN Try.isAgg30 Try.sizeOf30 rfl rfl (reads_row _ (.tail _ (.head _)) (idx_nat (by first | omega | (simp <;> omega) | (simp at * <;> omega))) (by first | omega | (simp <;> omega) | (simp at * <;> omega))) rfl rfl ?_)
            | refine aops_cons rfl rfl (AOp.loadN Try.isAgg30 Try.sizeOf30 rfl rfl (reads_row _ (.tail _ (.head _)) (idx_map (by first | omega | (simp <;> omega) | (simp at * <;> omega))) (by first | omega | (simp <;> omega) | (simp at * <;> omega))) rfl rfl ?_)
            | refine aops_cons rfl rfl (AOp.loadN Try.isAgg30 Try.sizeOf30 rfl rfl (reads_row _ (.tail _ (.head _)) (by assumption) (by first | omega | (simp <;> omega) | (simp at * <;> omega))) rfl rfl ?_)
            | refine aops_cons rfl rfl (AOp.loadN Try.isAgg30 Try.sizeOf30 rfl rfl (reads_row _ (.tail _ (.tail _ (.head _))) (idx_nat (by first | omega | (simp <;> omega) | (simp at * <;> omega))) (by first | omega | (simp <;> omega) | (simp at * <;> omega))) rfl rfl ?_)
            | refine aops_cons rfl rfl (AOp.loadN Try.isAgg30 Try.sizeOf30 rfl rfl (reads_row _ (.tail _ (.tail _ (.head _))) (idx_map (by first | omega | (simp <;> omega) | (simp at * <;> omega))) (by first | omega | (simp <;> omega) | (simp at * <;> omega))) rfl rfl ?_)
            | refine aops_cons rfl rfl (AOp.loadN Try.isAgg30 Try.sizeOf30 rfl rfl (reads_row _ (.tail _ (.tail _ (.head _))) (by assumption) (by first | omega | (simp <;> omega) | (simp at * <;> omega))) rfl rfl ?_)
            refine aops_cons rfl rfl (AOp.move rfl rfl ?_)
            refine aops_cons rfl rfl (AOp.move rfl rfl ?_)
            refine aops_cons rfl rfl (AOp.callP Try.call17 rfl rfl rfl (by exact rGive d (1 + numV l n' 3) (1 + numV l (numN l n' 3) 3) (by first | omega | (simp <;> omega) | (simp at * <;> omega)) (by first | omega | (simp <;> omega) | (simp at * <;> omega))) ?_)
            first
            | refine aops_cons rfl rfl (AOp.storeB' Try.sizeOf30 rfl rfl rfl rfl rfl (pull_here _ _) rfl rfl ?_)
            | refine aops_cons rfl rfl (AOp.storeB' Try.sizeOf30 rfl rfl rfl rfl rfl (pull_there (pull_here _ _)) rfl rfl ?_)
            | refine aops_cons rfl rfl (AOp.storeB' Try.sizeOf30 rfl rfl rfl rfl rfl (pull_there (pull_there (pull_here _ _))) rfl rfl ?_)
            | refine aops_cons rfl rfl (AOp.storeR' Try.sizeOf30 rfl rfl rfl rfl rfl (pull_here _ _) (by first | exact idx_nat (by first | omega | (simp <;> omega) | (simp at * <;> omega)) | exact idx_map (by first | omega | (simp <;> omega) | (simp at * <;> omega)) | assumption) rfl rfl rfl ?_)
            | refine aops_cons rfl rfl (AOp.storeR' Try.sizeOf30 rfl rfl rfl rfl rfl (pull_there (pull_here _ _)) (by first | exact idx_nat (by first | omega | (simp <;> omega) | (simp at * <;> omega)) | exact idx_map (by first | omega | (simp <;> omega) | (simp at * <;> omega)) | assumption) rfl rfl rfl ?_)
            | refine aops_cons rfl rfl (AOp.storeR' Try.sizeOf30 rfl rfl rfl rfl rfl (pull_there (pull_there (pull_here _ _))) (by first | exact idx_nat (by first | omega | (simp <;> omega) | (simp at * <;> omega)) | exact idx_map (by first | omega | (simp <;> omega) | (simp at * <;> omega)) | assumption) rfl rfl rfl ?_)
            refine aops_nil ?_
            skip
        rotate_right
        focus
          have h3_ := h3
          try simp only [List.length_map, List.length_cons, List.length_nil, nrm] at h3
          all_goals try (exfalso; first | contradiction | (simp at h3_; done) | omega)
          all_goals
            refine aw_seq ?_
            refine aw_region ?_
            refine aops_cons rfl rfl (AOp.eql rfl rfl rfl ?_)
            refine aops_cons rfl rfl (AOp.assign rfl rfl ?_)
            refine aops_nil ?_
            refine aw_cond _ rfl (fun h4 => ?_) (fun h4 => ?_)
            focus
              have h4_ := h4
              try simp only [List.length_map, List.length_cons, List.length_nil, nrm] at h4
              all_goals try (exfalso; first | contradiction | (simp at h4_; done) | omega)
              all_goals
                refine aw_seq ?_
                refine aw_region ?_
                refine aops_cons rfl rfl (AOp.move rfl rfl ?_)
                refine aops_cons rfl rfl (AOp.move rfl rfl ?_)
                refine aops_cons rfl rfl (AOp.callN (Af := _) Try.call47 rfl rfl rfl (show List.Perm _ ([_] ++ _) from (pull_here _ _)) (by exact num l (numN l (numN l (numN l n' 3) 3) 6) 40 b k4 hl (by decide)) (fun r' A'' hr => ?_))
                obtain ⟨rfl, rfl⟩ := hr
                first
                | refine aops_cons rfl rfl (AOp.addE rfl rfl rfl (by first | omega | (simp <;> omega) | (simp at * <;> omega)) (by first | omega | (simp <;> omega) | (simp at * <;> omega)) ?_)
                | refine aops_cons rfl rfl (AOp.add rfl rfl rfl rfl ?_)
                refine aops_cons rfl rfl (AOp.assign rfl rfl ?_)
                refine aops_nil ?_
                refine aw_region ?_
                first
                | refine aops_cons rfl rfl (AOp.loadN Try.isAgg30 Try.sizeOf30 rfl rfl (reads_im _ _) rfl rfl ?_)
                | refine aops_cons rfl rfl (AOp.loadN Try.isAgg30 Try.sizeOf30 rfl rfl (reads_box _ (.head _)) rfl rfl ?_)
                | refine aops_cons rfl rfl (AOp.loadN Try.isAgg30 Try.sizeOf30 rfl rfl (reads_box _ (.tail _ (.head _))) rfl rfl ?_)
                | refine aops_cons rfl rfl (AOp.loadN Try.isAgg30 Try.sizeOf30 rfl rfl (reads_box _ (.tail _ (.tail _ (.head _)))) rfl rfl ?_)
                | refine aops_cons rfl rfl (AOp.loadN Try.isAgg30 Try.sizeOf30 rfl rfl (reads_row _ (.head _) (idx_nat (by first | omega | (simp <;> omega) | (simp at * <;> omega))) (by first | omega | (simp <;> omega) | (simp at * <;> omega))) rfl rfl ?_)
                | refine aops_cons rfl rfl (AOp.loadN Try.isAgg30 Try.sizeOf30 rfl rfl (reads_row _ (.head _) (idx_map (by first | omega | (simp <;> omega) | (simp at * <;> omega))) (by first | omega | (simp <;> omega) | (simp at * <;> omega))) rfl rfl ?_)
                | refine aops_cons rfl rfl (AOp.loadN Try.isAgg30 Try.sizeOf30 rfl rfl (reads_row _ (.head _) (by assumption) (by first | omega | (simp <;> omega) | (simp at * <;> omega))) rfl rfl ?_)
                | refine aops_cons rfl rfl (AOp.loadN Try.isAgg30 Try.sizeOf30 rfl rfl (reads_row _ (.tail _ (.head _)) (idx_nat (by first | omega | (simp <;> omega) | (simp at * <;> omega))) (by first | omega | (simp <;> omega) | (simp at * <;> omega))) rfl rfl ?_)
                | refine aops_cons rfl rfl (AOp.loadN Try.isAgg30 Try.sizeOf30 rfl rfl (reads_row _ (.tail _ (.head _)) (idx_map (by first | omega | (simp <;> omega) | (simp at * <;> omega))) (by first | omega | (simp <;> omega) | (simp at * <;> omega))) rfl rfl ?_)
                | refine aops_cons rfl rfl (AOp.loadN Try.isAgg30 Try.sizeOf30 rfl rfl (reads_row _ (.tail _ (.head _)) (by assumption) (by first | omega | (simp <;> omega) | (simp at * <;> omega))) rfl rfl ?_)
                | refine aops_cons rfl rfl (AOp.loadN Try.isAgg30 Try.sizeOf30 rfl rfl (reads_row _ (.tail _ (.tail _ (.head _))) (idx_nat (by first | omega | (simp <;> omega) | (simp at * <;> omega))) (by first | omega | (simp <;> omega) | (simp at * <;> omega))) rfl rfl ?_)
                | refine aops_cons rfl rfl (AOp.loadN Try.isAgg30 Try.sizeOf30 rfl rfl (reads_row _ (.tail _ (.tail _ (.head _))) (idx_map (by first | omega | (simp <;> omega) | (simp at * <;> omega))) (by first | omega | (simp <;> omega) | (simp at * <;> omega))) rfl rfl ?_)
                | refine aops_cons rfl rfl (AOp.loadN Try.isAgg30 Try.sizeOf30 rfl rfl (reads_row _ (.tail _ (.tail _ (.head _))) (by assumption) (by first | omega | (simp <;> omega) | (simp at * <;> omega))) rfl rfl ?_)
                refine aops_cons rfl rfl (AOp.move rfl rfl ?_)
                refine aops_cons rfl rfl (AOp.callP Try.call19 rfl rfl rfl (by exact rRun d (now + numV l (numN l (numN l (numN l n' 3) 3) 6) 40) hg.rd (by first | omega | (simp <;> omega) | (simp at * <;> omega)) (by first | omega | (simp <;> omega) | (simp at * <;> omega)) (by first | omega | (simp <;> omega) | (simp at * <;> omega)) (by first | omega | (simp <;> omega) | (simp at * <;> omega))) ?_)
                refine aops_cons rfl rfl (AOp.move rfl rfl ?_)
                refine aops_cons rfl rfl (AOp.extract rfl rfl rfl ?_)
                refine aops_cons rfl rfl (AOp.extract rfl rfl rfl ?_)
                refine aops_cons rfl rfl (AOp.extract rfl rfl rfl ?_)
                first
                | refine aops_cons rfl rfl (AOp.storeB' Try.sizeOf30 rfl rfl rfl rfl rfl (pull_here _ _) rfl rfl ?_)
                | refine aops_cons rfl rfl (AOp.storeB' Try.sizeOf30 rfl rfl rfl rfl rfl (pull_there (pull_here _ _)) rfl rfl ?_)
                | refine aops_cons rfl rfl (AOp.storeB' Try.sizeOf30 rfl rfl rfl rfl rfl (pull_there (pull_there (pull_here _ _))) rfl rfl ?_)
                | refine aops_cons rfl rfl (AOp.storeR' Try.sizeOf30 rfl rfl rfl rfl rfl (pull_here _ _) (by first | exact idx_nat (by first | omega | (simp <;> omega) | (simp at * <;> omega)) | exact idx_map (by first | omega | (simp <;> omega) | (simp at * <;> omega)) | assumption) rfl rfl rfl ?_)
                | refine aops_cons rfl rfl (AOp.storeR' Try.sizeOf30 rfl rfl rfl rfl rfl (pull_there (pull_here _ _)) (by first | exact idx_nat (by first | omega | (simp <;> omega) | (simp at * <;> omega)) | exact idx_map (by first | omega | (simp <;> omega) | (simp at * <;> omega)) | assumption) rfl rfl rfl ?_)
                | refine aops_cons rfl rfl (AOp.storeR' Try.sizeOf30 rfl rfl rfl rfl rfl (pull_there (pull_there (pull_here _ _))) (by first | exact idx_nat (by first | omega | (simp <;> omega) | (simp at * <;> omega)) | exact idx_map (by first | omega | (simp <;> omega) | (simp at * <;> omega)) | assumption) rfl rfl rfl ?_)
                refine aops_nil ?_
                skip
            rotate_right
            focus
              have h4_ := h4
              try simp only [List.length_map, List.length_cons, List.length_nil, nrm] at h4
              all_goals try (exfalso; first | contradiction | (simp at h4_; done) | omega)
              all_goals
                refine aw_drawF (fun A0 => Blk.box b2 30 d.e ∈ A0) 1 (by first | exact .head _ | exact .tail _ (.head _) | exact .tail _ (.tail _ (.head _))) 17 [4, 1, 1, 1, 1, 1, 1, 3, 1, 1, 1, 1, 1, 1, 1, 1, 3] (by kernel_rfl) (by kernel_rfl) ?_
                refine psf_cons _ rfl (corf4 (by first | exact .head _ | exact .tail _ (.head _) | exact .tail _ (.tail _ (.head _))) (fun _ hA0 => AOp.loadN Try.isAgg30 Try.sizeOf30 rfl rfl (reads_box _ hA0) rfl rfl ⟨rfl, rfl⟩)) (fun h => absurd h (by decide)) ?_
                refine psf_cons _ rfl (corf1 (fun _ => AOp.move rfl rfl ⟨rfl, rfl⟩)) (fun h => absurd h (by decide)) ?_
                refine psf_cons _ rfl (corf1 (fun _ => AOp.move rfl rfl ⟨rfl, rfl⟩)) (fun h => absurd h (by decide)) ?_
                refine psf_cons _ rfl (corf1 (fun _ => AOp.move rfl rfl ⟨rfl, rfl⟩)) (fun h => absurd h (by decide)) ?_
                first
                | refine psf_cons _ rfl (corf1 (fun _ => AOp.addE rfl rfl rfl (by first | omega | (simp <;> omega) | (simp at * <;> omega)) (by first | omega | (simp <;> omega) | (simp at * <;> omega)) ⟨rfl, rfl⟩)) (fun h => absurd h (by decide)) ?_
                | refine psf_cons _ rfl (corf1 (fun _ => AOp.add rfl rfl rfl rfl ⟨rfl, rfl⟩)) (fun h => absurd h (by decide)) ?_
                refine psf_cons _ rfl (corf1 (fun _ => AOp.move rfl rfl ⟨rfl, rfl⟩)) (fun h => absurd h (by decide)) ?_
                refine psf_cons _ rfl (corf1 (fun _ => AOp.move rfl rfl ⟨rfl, rfl⟩)) (fun h => absurd h (by decide)) ?_
                refine psf_cons _ rfl (corf3 (AOp.callD (Af := _) Try.call47 rfl rfl rfl (show List.Perm _ ([_] ++ _) from (pull_here _ _)) (by exact num l (numN l (numN l (numN l n' 3) 3) 6) 2 b k4 hl (by decide)))) (fun _ _ => (by first | exact .head _ | exact .tail _ (.head _) | exact .tail _ (.tail _ (.head _)))) ?_
                first
                | refine psf_cons _ rfl (corf1 (fun _ => AOp.addE rfl rfl rfl (by first | omega | (simp <;> omega) | (simp at * <;> omega)) (by first | omega | (simp <;> omega) | (simp at * <;> omega)) ⟨rfl, rfl⟩)) (fun h => absurd h (by decide)) ?_
                | refine psf_cons _ rfl (corf1 (fun _ => AOp.add rfl rfl rfl rfl ⟨rfl, rfl⟩)) (fun h => absurd h (by decide)) ?_
                refine psf_cons _ rfl (corf1 (fun _ => AOp.build' (places := [(0, 1), (1, 1), (2, 1), (3, 1)]) Try.zeroValue25 (by kernel_rfl) (by kernel_rfl) Try.underlying25 (by kernel_rfl) rfl rfl rfl rfl ⟨rfl, rfl⟩)) (fun h => absurd h (by decide)) ?_
                refine psf_cons _ rfl (corf1 (fun _ => AOp.callP Try.call22 rfl rfl rfl (by exact rAsk d now (⟨(1 + numV l n' 3), 1 + (i : Int), (1 + numV l (numN l n' 3) 3), 1 + numV l (numN l (numN l (numN l n' 3) 3) 6) 2⟩ : Wt) hg.s hg.rd.2.1 k0 (by first | omega | (simp <;> omega) | (simp at * <;> omega)) (by first | omega | (simp <;> omega) | (simp at * <;> omega)) (by first | omega | (simp <;> omega) | (simp at * <;> omega))) ⟨rfl, rfl⟩)) (fun h => absurd h (by decide)) ?_
                refine psf_cons _ rfl (corf1 (fun _ => AOp.move rfl rfl ⟨rfl, rfl⟩)) (fun h => absurd h (by decide)) ?_
                refine psf_cons _ rfl (corf1 (fun _ => AOp.extract rfl rfl rfl ⟨rfl, rfl⟩)) (fun h => absurd h (by decide)) ?_
                refine psf_cons _ rfl (corf1 (fun _ => AOp.extract rfl rfl rfl ⟨rfl, rfl⟩)) (fun h => absurd h (by decide)) ?_
                refine psf_cons _ rfl (corf1 (fun _ => AOp.extract rfl rfl rfl ⟨rfl, rfl⟩)) (fun h => absurd h (by decide)) ?_
                refine psf_cons _ rfl (corf1 (fun _ => AOp.extract rfl rfl rfl ⟨rfl, rfl⟩)) (fun h => absurd h (by decide)) ?_
                first
                | refine psf_cons _ rfl (corf3 (AOp.storeB' Try.sizeOf30 rfl rfl rfl rfl rfl (pull_here _ _) rfl rfl ⟨rfl, rfl⟩)) (fun _ hz => absurd hz (by decide)) ?_
                | refine psf_cons _ rfl (corf3 (AOp.storeB' Try.sizeOf30 rfl rfl rfl rfl rfl (pull_there (pull_here _ _)) rfl rfl ⟨rfl, rfl⟩)) (fun _ hz => absurd hz (by decide)) ?_
                | refine psf_cons _ rfl (corf3 (AOp.storeB' Try.sizeOf30 rfl rfl rfl rfl rfl (pull_there (pull_there (pull_here _ _))) rfl rfl ⟨rfl, rfl⟩)) (fun _ hz => absurd hz (by decide)) ?_
                | refine psf_cons _ rfl (corf3 (AOp.storeR' Try.sizeOf30 rfl rfl rfl rfl rfl (pull_here _ _) (by first | exact idx_nat (by first | omega | (simp <;> omega) | (simp at * <;> omega)) | exact idx_map (by first | omega | (simp <;> omega) | (simp at * <;> omega)) | assumption) rfl rfl rfl ⟨rfl, rfl⟩)) (fun _ hz => absurd hz (by decide)) ?_
                | refine psf_cons _ rfl (corf3 (AOp.storeR' Try.sizeOf30 rfl rfl rfl rfl rfl (pull_there (pull_here _ _)) (by first | exact idx_nat (by first | omega | (simp <;> omega) | (simp at * <;> omega)) | exact idx_map (by first | omega | (simp <;> omega) | (simp at * <;> omega)) | assumption) rfl rfl rfl ⟨rfl, rfl⟩)) (fun _ hz => absurd hz (by decide)) ?_
                | refine psf_cons _ rfl (corf3 (AOp.storeR' Try.sizeOf30 rfl rfl rfl rfl rfl (pull_there (pull_there (pull_here _ _))) (by first | exact idx_nat (by first | omega | (simp <;> omega) | (simp at * <;> omega)) | exact idx_map (by first | omega | (simp <;> omega) | (simp at * <;> omega)) | assumption) rfl rfl rfl ⟨rfl, rfl⟩)) (fun _ hz => absurd hz (by decide)) ?_
                refine psf_nil ?_
                refine aops_nil ?_
                skip
            all_goals
              skip
        all_goals
          refine aw_region ?_
          refine aops_cons rfl rfl (AOp.move rfl rfl ?_)
          first
          | refine aops_cons rfl rfl (AOp.addE rfl rfl rfl (by first | omega | (simp <;> omega) | (simp at * <;> omega)) (by first | omega | (simp <;> omega) | (simp at * <;> omega)) ?_)
          | refine aops_cons rfl rfl (AOp.add rfl rfl rfl rfl ?_)
          refine aops_cons rfl rfl (AOp.assign rfl rfl ?_)
          refine aops_nil ?_
          first
          | (refine ⟨(i + 1, (numN l (numN l (numN l n' 3) 3) 6), ⟨drp d.l (1 + numV l n' 3) (1 + numV l (numN l n' 3) 3), d.w⟩, now), ⟨by omega, by assumption, by omega, by omega, gd_give hg⟩, by dsimp only; omega, (wk_env (sube_cons rfl (sube_cons rfl (sube_cons rfl (sube_cons rfl (sube_cons rfl (sube_cons rfl (sube_nil _))))))))⟩)
          | (refine ⟨(i + 1, (numN l (numN l (numN l (numN l n' 3) 3) 6) 40), (runOf d (now + numV l (numN l (numN l (numN l n' 3) 3) 6) 40)).1, (now + numV l (numN l (numN l (numN l n' 3) 3) 6) 40)), ⟨by omega, by assumption, by omega, by omega, gd_runOf hg (by omega) (by omega)⟩, by dsimp only; omega, (wk_env (sube_cons rfl (sube_cons rfl (sube_cons rfl (sube_cons rfl (sube_cons rfl (sube_cons rfl (sube_nil _))))))))⟩)
          | (refine ⟨(i + 1, (numN l (numN l (numN l (numN l n' 3) 3) 6) 2), (askD d now (⟨(1 + numV l n' 3), 1 + (i : Int), (1 + numV l (numN l n' 3) 3), 1 + numV l (numN l (numN l (numN l n' 3) 3) 6) 2⟩ : Wt)).1, now), ⟨by omega, by assumption, by omega, by omega, gd_ask hg (Int.le_refl _) k0 (by unfold okWt; dsimp only; omega)⟩, by dsimp only; omega, (wk_env (sube_cons rfl (sube_cons rfl (sube_cons rfl (sube_cons rfl (sube_cons rfl (sube_cons rfl (sube_nil _))))))))⟩)

end Go.Proofs.Ytdacnebhlgibhaa
