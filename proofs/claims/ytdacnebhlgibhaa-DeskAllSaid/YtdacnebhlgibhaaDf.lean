/- Own text: asking at a desk, by the document. -/
import Derived.Test.YtdacnebhlgibhaaDe
set_option linter.unusedVariables false
set_option linter.unusedSimpArgs false
set_option linter.all false
set_option maxRecDepth 100000
set_option maxHeartbeats 2000000
namespace Go.Proofs.Ytdacnebhlgibhaa
open Go Go.Aw
theorem rFree (d : Dk) (now : Int) (w : Wt) (hs : srt d.l) (hc : ∀ y ∈ d.l, 1 ≤ y.c ∧ y.c ≤ 3) (hll : d.l.length ≤ 1000) (hlw : d.w.length ≤ 1000) : Pur Try.prog 61 [dk d, .sc (.int .i64 now), .ag w.e] (.sc (.bool (free d now w))) := by
  unfold dk
  refine acallsN Try.func61 rfl Try.ntmps61 rfl ?_
  refine aw_seq ?_
  refine aw_region ?_
  refine aops_cons rfl rfl (AOp.boxI rfl rfl rfl ?_)
  refine aops_cons rfl rfl (AOp.boxI rfl rfl rfl ?_)
  refine aops_cons rfl rfl (AOp.assign rfl rfl ?_)
  refine aops_nil ?_
  refine aw_seq ?_
  refine aw_region ?_
  refine aops_cons rfl rfl (AOp.fieldI Try.underlying30 rfl Try.sizeOf27 (by decide) rfl rfl rfl ?_)
  refine aops_cons rfl rfl (AOp.load1 Try.isAgg27 rfl rfl (reads_im _ _) rfl ?_)
  refine aops_cons rfl rfl (AOp.move rfl rfl ?_)
  refine aops_cons rfl rfl (AOp.fieldI Try.underlying25 rfl Try.sizeOf3 (by decide) rfl rfl rfl ?_)
  refine aops_cons rfl rfl (AOp.load1 Try.isAgg3 rfl rfl (reads_im _ _) rfl ?_)
  refine aops_cons rfl rfl (AOp.fieldI Try.underlying25 rfl Try.sizeOf3 (by decide) rfl rfl rfl ?_)
  refine aops_cons rfl rfl (AOp.load1 Try.isAgg3 rfl rfl (reads_im _ _) rfl ?_)
  refine aops_cons rfl rfl (AOp.fieldI Try.underlying25 rfl Try.sizeOf3 (by decide) rfl rfl rfl ?_)
  refine aops_cons rfl rfl (AOp.load1 Try.isAgg3 rfl rfl (reads_im _ _) rfl ?_)
  refine aops_cons rfl rfl (AOp.callP Try.call63 rfl rfl rfl (by exact rClash d.l _ _ _ _ hs hc (by first | omega | (simp <;> omega) | (simp at * <;> omega))) ?_)
  refine aops_cons rfl rfl (AOp.lenS (by first | exact List.length_map _ | rfl) Try.underlying42 rfl rfl ?_)
  refine aops_cons rfl rfl (AOp.eql rfl rfl rfl ?_)
  refine aops_cons rfl rfl (AOp.move rfl rfl ?_)
  refine aops_guard 12 true 19 _ rfl rfl rfl rfl rfl (fun g1 => ?_) (fun g1 => ?_)
  focus
    have g1_ := g1
    try simp only [List.length_map, List.length_cons, List.length_nil, nrm] at g1
    all_goals try (exfalso; first | (simp at g1_; done) | omega)
    all_goals
      refine AOp.fieldI Try.underlying30 rfl Try.sizeOf28 (by decide) rfl rfl rfl ?_
      refine aops_guard 12 true 19 _ rfl rfl rfl rfl rfl (fun _ => ?_) (fun hh => by exfalso; first | (rw [g1_] at hh; exact absurd hh (by decide)) | (revert hh; simp [g1_]))
      refine AOp.load1 Try.isAgg28 rfl rfl (reads_im _ _) rfl ?_
      refine aops_guard 12 true 19 _ rfl rfl rfl rfl rfl (fun _ => ?_) (fun hh => by exfalso; first | (rw [g1_] at hh; exact absurd hh (by decide)) | (revert hh; simp [g1_]))
      refine AOp.fieldI Try.underlying25 rfl Try.sizeOf3 (by decide) rfl rfl rfl ?_
      refine aops_guard 12 true 19 _ rfl rfl rfl rfl rfl (fun _ => ?_) (fun hh => by exfalso; first | (rw [g1_] at hh; exact absurd hh (by decide)) | (revert hh; simp [g1_]))
      refine AOp.load1 Try.isAgg3 rfl rfl (reads_im _ _) rfl ?_
      refine aops_guard 12 true 19 _ rfl rfl rfl rfl rfl (fun _ => ?_) (fun hh => by exfalso; first | (rw [g1_] at hh; exact absurd hh (by decide)) | (revert hh; simp [g1_]))
      refine AOp.fieldI Try.underlying25 rfl Try.sizeOf3 (by decide) rfl rfl rfl ?_
      refine aops_guard 12 true 19 _ rfl rfl rfl rfl rfl (fun _ => ?_) (fun hh => by exfalso; first | (rw [g1_] at hh; exact absurd hh (by decide)) | (revert hh; simp [g1_]))
      refine AOp.load1 Try.isAgg3 rfl rfl (reads_im _ _) rfl ?_
      refine aops_guard 12 true 19 _ rfl rfl rfl rfl rfl (fun _ => ?_) (fun hh => by exfalso; first | (rw [g1_] at hh; exact absurd hh (by decide)) | (revert hh; simp [g1_]))
      refine AOp.callP Try.call25 rfl rfl rfl (by exact rAheadL d.w _ _ (by first | omega | (simp <;> omega) | (simp at * <;> omega))) ?_
      refine aops_guard 12 true 19 _ rfl rfl rfl rfl rfl (fun _ => ?_) (fun hh => by exfalso; first | (rw [g1_] at hh; exact absurd hh (by decide)) | (revert hh; simp [g1_]))
      refine AOp.not rfl rfl ?_
  rotate_right
  focus
    have g1_ := g1
    try simp only [List.length_map, List.length_cons, List.length_nil, nrm] at g1
    all_goals try (exfalso; first | (simp at g1_; done) | omega)
    all_goals
      refine aops_guard 12 true 19 _ rfl rfl rfl rfl rfl (fun hh => by exfalso; first | (rw [g1_] at hh; exact absurd hh (by decide)) | (revert hh; simp [g1_])) (fun _ => ?_)
      refine aops_guard 12 true 19 _ rfl rfl rfl rfl rfl (fun hh => by exfalso; first | (rw [g1_] at hh; exact absurd hh (by decide)) | (revert hh; simp [g1_])) (fun _ => ?_)
      refine aops_guard 12 true 19 _ rfl rfl rfl rfl rfl (fun hh => by exfalso; first | (rw [g1_] at hh; exact absurd hh (by decide)) | (revert hh; simp [g1_])) (fun _ => ?_)
      refine aops_guard 12 true 19 _ rfl rfl rfl rfl rfl (fun hh => by exfalso; first | (rw [g1_] at hh; exact absurd hh (by decide)) | (revert hh; simp [g1_])) (fun _ => ?_)
      refine aops_guard 12 true 19 _ rfl rfl rfl rfl rfl (fun hh => by exfalso; first | (rw [g1_] at hh; exact absurd hh (by decide)) | (revert hh; simp [g1_])) (fun _ => ?_)
      refine aops_guard 12 true 19 _ rfl rfl rfl rfl rfl (fun hh => by exfalso; first | (rw [g1_] at hh; exact absurd hh (by decide)) | (revert hh; simp [g1_])) (fun _ => ?_)
      refine aops_guard 12 true 19 _ rfl rfl rfl rfl rfl (fun hh => by exfalso; first | (rw [g1_] at hh; exact absurd hh (by decide)) | (revert hh; simp [g1_])) (fun _ => ?_)
  all_goals
    first
    | refine aops_cons rfl rfl (AOp.pick_t rfl rfl (by first | assumption | rfl) rfl ?_)
    | refine aops_cons rfl rfl (AOp.pick_f rfl rfl (by first | assumption | rfl) rfl ?_)
    refine aops_cons rfl rfl (AOp.assign rfl rfl ?_)
    refine aops_nil ?_
    refine aw_weak (wk_drop (List.nil_sublist _)) ?_
    refine aw_ret ?_
    refine ⟨_, (res1 Try.results61 rfl), ?_⟩
    refine ⟨?_, rfl⟩
    first | (rw [free_t (by omega)]; done) | (rw [free_f (by omega)]; done) | (rw [free_t (by omega)]; rfl) | (rw [free_f (by omega)]; rfl)

theorem rLends (d : Dk) (now : Int) (w : Wt) (hs : srt d.l) (hn0 : 0 ≤ now) (hn1 : now ≤ 1000000) (hll : d.l.length ≤ 1000) (hlw : d.w.length ≤ 1000) : Pur Try.prog 62 [dk d, .sc (.int .i64 now), .ag w.e] (dk (lets d now w)) := by
  unfold dk
  refine acallsN Try.func62 rfl Try.ntmps62 rfl ?_
  refine aw_seq ?_
  refine aw_region ?_
  refine aops_cons rfl rfl (AOp.boxI rfl rfl rfl ?_)
  refine aops_cons rfl rfl (AOp.boxI rfl rfl rfl ?_)
  refine aops_cons rfl rfl (AOp.alloc Try.zeroValue30 (by kernel_rfl) rfl rfl ?_); intro b1
  refine aops_nil ?_
  refine aw_seq ?_
  refine aw_draw 16 [0, 0, 0, 0, 0, 0, 0, 0, 0, 0, 0, 0, 0, 0, 0, 0] (by kernel_rfl) (by kernel_rfl) ?_
  refine psq_cons _ rfl (core0 (AOp.fieldI Try.underlying30 rfl Try.sizeOf27 (by decide) rfl rfl rfl ⟨rfl, rfl⟩)) ?_
  refine psq_cons _ rfl (core0 (AOp.load1 Try.isAgg27 rfl rfl (reads_im _ _) rfl ⟨rfl, rfl⟩)) ?_
  refine psq_cons _ rfl (core0 (AOp.fieldI Try.underlying25 rfl Try.sizeOf3 (by decide) rfl rfl rfl ⟨rfl, rfl⟩)) ?_
  refine psq_cons _ rfl (core0 (AOp.load1 Try.isAgg3 rfl rfl (reads_im _ _) rfl ⟨rfl, rfl⟩)) ?_
  refine psq_cons _ rfl (core0 (AOp.fieldI Try.underlying25 rfl Try.sizeOf3 (by decide) rfl rfl rfl ⟨rfl, rfl⟩)) ?_
  refine psq_cons _ rfl (core0 (AOp.load1 Try.isAgg3 rfl rfl (reads_im _ _) rfl ⟨rfl, rfl⟩)) ?_
  refine psq_cons _ rfl (core0 (AOp.fieldI Try.underlying25 rfl Try.sizeOf3 (by decide) rfl rfl rfl ⟨rfl, rfl⟩)) ?_
  refine psq_cons _ rfl (core0 (AOp.load1 Try.isAgg3 rfl rfl (reads_im _ _) rfl ⟨rfl, rfl⟩)) ?_
  refine psq_cons _ rfl (core0 (AOp.move rfl rfl ⟨rfl, rfl⟩)) ?_
  refine psq_cons _ rfl (core0 (AOp.callP Try.call110 rfl rfl rfl (by exact rAdd now 60 hn0 hn1 (by decide) (by decide)) ⟨rfl, rfl⟩)) ?_
  refine psq_cons _ rfl (core0 (AOp.build' (places := [(0, 1), (1, 1), (2, 1), (3, 1)]) Try.zeroValue111 (by kernel_rfl) (by kernel_rfl) Try.underlying111 (by kernel_rfl) rfl rfl rfl rfl ⟨rfl, rfl⟩)) ?_
  refine psq_cons _ rfl (core0 (AOp.callP Try.call109 rfl rfl rfl (by exact rGrant d.l ⟨w.c, w.f, w.m, now + 60⟩ hs (by first | omega | (simp <;> omega) | (simp at * <;> omega))) ⟨rfl, rfl⟩)) ?_
  refine psq_cons _ rfl (core0 (AOp.fieldI Try.underlying30 rfl Try.sizeOf28 (by decide) rfl rfl rfl ⟨rfl, rfl⟩)) ?_
  refine psq_cons _ rfl (core0 (AOp.load1 Try.isAgg28 rfl rfl (reads_im _ _) rfl ⟨rfl, rfl⟩)) ?_
  refine psq_cons _ rfl (core0 (AOp.fieldI Try.underlying25 rfl Try.sizeOf3 (by decide) rfl rfl rfl ⟨rfl, rfl⟩)) ?_
  refine psq_cons _ rfl (core0 (AOp.load1 Try.isAgg3 rfl rfl (reads_im _ _) rfl ⟨rfl, rfl⟩)) ?_
  refine psq_nil ?_
  refine aops_cons rfl rfl (AOp.callP Try.call111 rfl rfl rfl (by exact rDropWP d.w _ (by first | omega | (simp <;> omega) | (simp at * <;> omega))) ?_)
  refine aops_cons rfl rfl (AOp.build' (places := [(0, 1), (1, 1)]) Try.zeroValue30 (by kernel_rfl) (by kernel_rfl) Try.underlying30 (by kernel_rfl) rfl rfl rfl rfl ?_)
  refine aops_cons rfl rfl (AOp.storeB' Try.sizeOf30 rfl rfl rfl rfl rfl (pull_here _ _) rfl rfl ?_)
  refine aops_nil ?_
  refine aw_weak (wk_imm (pull_here _ _) (subf_new (s := 6) rfl (subf_nil _ _ _))) ?_
  refine aw_weak (wk_drop (List.nil_sublist _)) ?_
  refine aw_ret ?_
  refine ⟨_, (resV1 Try.results62 (RV.cellN _ _ _ _ _ _ Try.isAgg30 Try.sizeOf30 rfl (reads_im _ _) rfl rfl)), ?_⟩
  exact ⟨rfl, rfl⟩

theorem rGive (d : Dk) (c f : Int) (hll : d.l.length ≤ 1000) (hlw : d.w.length ≤ 1000) : Pur Try.prog 17 [dk d, .sc (.int .i64 c), .sc (.int .i64 f)] (dk ⟨drp d.l c f, d.w⟩) := by
  unfold dk
  refine acallsN Try.func17 rfl Try.ntmps17 rfl ?_
  refine aw_seq ?_
  refine aw_region ?_
  refine aops_cons rfl rfl (AOp.box rfl rfl rfl ?_); intro b1
  refine aops_cons rfl rfl (AOp.alloc Try.zeroValue30 (by kernel_rfl) rfl rfl ?_); intro b2
  refine aops_nil ?_
  refine aw_seq ?_
  refine aw_region ?_
  refine aops_cons rfl rfl (AOp.fieldB Try.underlying30 rfl Try.sizeOf27 (by decide) rfl rfl rfl ?_)
  refine aops_cons rfl rfl (AOp.load1 Try.isAgg27 rfl rfl (reads_box _ (.tail _ (.head _))) rfl ?_)
  refine aops_cons rfl rfl (AOp.move rfl rfl ?_)
  refine aops_cons rfl rfl (AOp.move rfl rfl ?_)
  refine aops_cons rfl rfl (AOp.callP Try.call52 rfl rfl rfl (by exact rDrop d.l c f (by first | omega | (simp <;> omega) | (simp at * <;> omega))) ?_)
  refine aops_cons rfl rfl (AOp.fieldB Try.underlying30 rfl Try.sizeOf27 (by decide) rfl rfl rfl ?_)
  refine aops_cons rfl rfl (AOp.storeB' Try.sizeOf27 rfl rfl rfl rfl rfl (pull_there (pull_here _ _)) rfl rfl ?_)
  refine aops_nil ?_
  refine aw_seq ?_
  refine aw_region ?_
  refine aops_cons rfl rfl (AOp.loadN Try.isAgg30 Try.sizeOf30 rfl rfl (reads_box _ (.head _)) rfl rfl ?_)
  refine aops_cons rfl rfl (AOp.storeB' Try.sizeOf30 rfl rfl rfl rfl rfl (pull_there (pull_here _ _)) rfl rfl ?_)
  refine aops_nil ?_
  refine aw_weak (wk_imm (pull_here _ _) (subf_new (s := 6) rfl (subf_nil _ _ _))) ?_
  refine aw_weak (wk_drop (List.nil_sublist _)) ?_
  refine aw_ret ?_
  refine ⟨_, (resV1 Try.results17 (RV.cellN _ _ _ _ _ _ Try.isAgg30 Try.sizeOf30 rfl (reads_im _ _) rfl rfl)), ?_⟩
  exact ⟨rfl, rfl⟩

theorem rAsk (d : Dk) (now : Int) (w : Wt) (hs : srt d.l) (hc : ∀ y ∈ d.l, 1 ≤ y.c ∧ y.c ≤ 3) (hn0 : 0 ≤ now) (hn1 : now ≤ 1000000) (hll : d.l.length ≤ 1000) (hlw : d.w.length ≤ 1000) : Pur Try.prog 22 [dk d, .sc (.int .i64 now), .ag w.e] (askA (askD d now w)) := by
  unfold dk
  have hs' : srt (prn d.l now) := srt_filter hs
  have hpl := prn_len d.l now
  have hpw := putW_len d.w w
  have hc' : ∀ y ∈ prn d.l now, 1 ≤ y.c ∧ y.c ≤ 3 := fun y hy => hc y (List.mem_filter.1 hy).1
  refine acallsN Try.func22 rfl Try.ntmps22 rfl ?_
  refine aw_seq ?_
  refine aw_region ?_
  refine aops_cons rfl rfl (AOp.box rfl rfl rfl ?_); intro b1
  refine aops_cons rfl rfl (AOp.boxI rfl rfl rfl ?_)
  refine aops_cons rfl rfl (AOp.alloc Try.zeroValue30 (by kernel_rfl) rfl rfl ?_); intro b2
  refine aops_cons rfl rfl (AOp.assign rfl rfl ?_)
  refine aops_cons rfl rfl (AOp.assign rfl rfl ?_)
  refine aops_cons rfl rfl (AOp.assign rfl rfl ?_)
  refine aops_nil ?_
  refine aw_seq ?_
  refine aw_region ?_
  refine aops_cons rfl rfl (AOp.fieldB Try.underlying30 rfl Try.sizeOf27 (by decide) rfl rfl rfl ?_)
  refine aops_cons rfl rfl (AOp.load1 Try.isAgg27 rfl rfl (reads_box _ (.tail _ (.head _))) rfl ?_)
  refine aops_cons rfl rfl (AOp.move rfl rfl ?_)
  refine aops_cons rfl rfl (AOp.callP Try.call60 rfl rfl rfl (by exact rPrune d.l now (by first | omega | (simp <;> omega) | (simp at * <;> omega))) ?_)
  refine aops_cons rfl rfl (AOp.fieldB Try.underlying30 rfl Try.sizeOf27 (by decide) rfl rfl rfl ?_)
  refine aops_cons rfl rfl (AOp.storeB' Try.sizeOf27 rfl rfl rfl rfl rfl (pull_there (pull_here _ _)) rfl rfl ?_)
  refine aops_nil ?_
  refine aw_seq ?_
  refine aw_seq ?_
  refine aw_region ?_
  refine aops_cons rfl rfl (AOp.loadN Try.isAgg30 Try.sizeOf30 rfl rfl (reads_box _ (.head _)) rfl rfl ?_)
  refine aops_cons rfl rfl (AOp.move rfl rfl ?_)
  refine aops_cons rfl rfl (AOp.loadN Try.isAgg25 Try.sizeOf25 rfl rfl (reads_im _ _) rfl rfl ?_)
  refine aops_cons rfl rfl (AOp.callP Try.call61 rfl rfl rfl (by exact rFree (⟨prn d.l now, d.w⟩ : Dk) now w hs' hc' (Nat.le_trans hpl hll) hlw) ?_)
  refine aops_nil ?_
  refine aw_cond _ rfl (fun h1 => ?_) (fun h1 => ?_)
  focus
    have h1_ := h1
    try simp only [List.length_map, List.length_cons, List.length_nil, nrm] at h1
    all_goals try (exfalso; first | (simp at h1_; done) | omega)
    all_goals
      refine aw_seq ?_
      refine aw_region ?_
      refine aops_cons rfl rfl (AOp.loadN Try.isAgg30 Try.sizeOf30 rfl rfl (reads_box _ (.head _)) rfl rfl ?_)
      refine aops_cons rfl rfl (AOp.move rfl rfl ?_)
      refine aops_cons rfl rfl (AOp.loadN Try.isAgg25 Try.sizeOf25 rfl rfl (reads_im _ _) rfl rfl ?_)
      refine aops_cons rfl rfl (AOp.callP Try.call62 rfl rfl rfl (by exact rLends (⟨prn d.l now, d.w⟩ : Dk) now w hs' hn0 hn1 (Nat.le_trans hpl hll) hlw) ?_)
      refine aops_cons rfl rfl (AOp.storeB' Try.sizeOf30 rfl rfl rfl rfl rfl (pull_there (pull_here _ _)) rfl rfl ?_)
      refine aops_cons rfl rfl (AOp.assign rfl rfl ?_)
      refine aops_cons rfl rfl (AOp.assign rfl rfl ?_)
      refine aops_cons rfl rfl (AOp.assign rfl rfl ?_)
      refine aops_nil ?_
      refine aw_weak ((wk_nil 25 4).trans (wk_frz (pull_here _ _) (.keep _ (.keep _ .nil)) (subz_cons (s := 6) rfl (fz_id _ _ _) (subz_cons (s := 7) rfl (fz_id _ _ _) (subz_cons (s := 8) rfl (fz_row _ _) (subz_cons (s := 9) rfl (fz_id _ _ _) (subz_nil _ _ _))))))) ?_
      refine aw_weak (wk_imm (pull_here _ _) (subf_new (s := 6) rfl (subf_cons (s := 7) rfl (subf_cons (s := 8) rfl (subf_cons (s := 9) rfl (subf_nil _ _ _)))))) ?_
      refine aw_weak (wk_drop (List.nil_sublist _)) ?_
      refine aw_ret ?_
      refine ⟨_, (resV4 Try.results22 (RV.cellN _ _ _ _ _ _ Try.isAgg30 Try.sizeOf30 rfl (reads_im _ _) rfl rfl) (RV.tmp _ _ rfl) (RV.tmp _ _ rfl) (RV.tmp _ _ rfl)), ?_⟩
      first | exact ⟨by rw [ask_yes (by assumption)]; rfl, rfl⟩ | exact ⟨by rw [ask_full (by assumption) (by assumption)]; rfl, rfl⟩ | exact ⟨by rw [ask_more (by assumption) (by assumption)]; rfl, rfl⟩
  rotate_right
  focus
    have h1_ := h1
    try simp only [List.length_map, List.length_cons, List.length_nil, nrm] at h1
    all_goals try (exfalso; first | (simp at h1_; done) | omega)
    all_goals
      refine aw_skip ?_
      skip
  all_goals
    refine aw_seq ?_
    refine aw_region ?_
    refine aops_cons rfl rfl (AOp.fieldB Try.underlying30 rfl Try.sizeOf28 (by decide) rfl rfl rfl ?_)
    refine aops_cons rfl rfl (AOp.load1 Try.isAgg28 rfl rfl (reads_box _ (.head _)) rfl ?_)
    refine aops_cons rfl rfl (AOp.loadN Try.isAgg25 Try.sizeOf25 rfl rfl (reads_im _ _) rfl rfl ?_)
    refine aops_cons rfl rfl (AOp.callP Try.call65 rfl rfl rfl (by exact rPut d.w w (by first | omega | (simp <;> omega) | (simp at * <;> omega))) ?_)
    refine aops_cons rfl rfl (AOp.move rfl rfl ?_)
    refine aops_cons rfl rfl (AOp.extract rfl rfl rfl ?_)
    refine aops_cons rfl rfl (AOp.extract rfl rfl rfl ?_)
    refine aops_cons rfl rfl (AOp.assign rfl rfl ?_)
    refine aops_cons rfl rfl (AOp.assign rfl rfl ?_)
    refine aops_nil ?_
    refine aw_seq ?_
    refine aw_seq ?_
    refine aw_region ?_
    refine aops_cons rfl rfl (AOp.move rfl rfl ?_)
    refine aops_cons rfl rfl (AOp.not rfl rfl ?_)
    refine aops_nil ?_
    refine aw_cond _ rfl (fun h2 => ?_) (fun h2 => ?_)
    focus
      have h2_ := h2
      try simp only [List.length_map, List.length_cons, List.length_nil, nrm] at h2
      all_goals try (exfalso; first | (simp at h2_; done) | omega)
      all_goals
        refine aw_seq ?_
        refine aw_region ?_
        refine aops_cons rfl rfl (AOp.loadN Try.isAgg30 Try.sizeOf30 rfl rfl (reads_box _ (.head _)) rfl rfl ?_)
        refine aops_cons rfl rfl (AOp.storeB' Try.sizeOf30 rfl rfl rfl rfl rfl (pull_there (pull_here _ _)) rfl rfl ?_)
        refine aops_cons rfl rfl (AOp.assign rfl rfl ?_)
        refine aops_cons rfl rfl (AOp.assign rfl rfl ?_)
        refine aops_cons rfl rfl (AOp.assign rfl rfl ?_)
        refine aops_nil ?_
        refine aw_weak ((wk_nil 25 4).trans (wk_frz (pull_here _ _) (.keep _ (.keep _ .nil)) (subz_cons (s := 6) rfl (fz_id _ _ _) (subz_cons (s := 7) rfl (fz_id _ _ _) (subz_cons (s := 8) rfl (fz_row _ _) (subz_cons (s := 9) rfl (fz_id _ _ _) (subz_nil _ _ _))))))) ?_
        refine aw_weak (wk_imm (pull_here _ _) (subf_new (s := 6) rfl (subf_cons (s := 7) rfl (subf_cons (s := 8) rfl (subf_cons (s := 9) rfl (subf_nil _ _ _)))))) ?_
        refine aw_weak (wk_drop (List.nil_sublist _)) ?_
        refine aw_ret ?_
        refine ⟨_, (resV4 Try.results22 (RV.cellN _ _ _ _ _ _ Try.isAgg30 Try.sizeOf30 rfl (reads_im _ _) rfl rfl) (RV.tmp _ _ rfl) (RV.tmp _ _ rfl) (RV.tmp _ _ rfl)), ?_⟩
        first | exact ⟨by rw [ask_yes (by assumption)]; rfl, rfl⟩ | exact ⟨by rw [ask_full (by assumption) (by assumption)]; rfl, rfl⟩ | exact ⟨by rw [ask_more (by assumption) (by assumption)]; rfl, rfl⟩
    rotate_right
    focus
      have h2_ := h2
      try simp only [List.length_map, List.length_cons, List.length_nil, nrm] at h2
      all_goals try (exfalso; first | (simp at h2_; done) | omega)
      all_goals
        refine aw_skip ?_
        skip
    all_goals
      refine aw_seq ?_
      refine aw_region ?_
      refine aops_cons rfl rfl (AOp.move rfl rfl ?_)
      refine aops_cons rfl rfl (AOp.fieldB Try.underlying30 rfl Try.sizeOf28 (by decide) rfl rfl rfl ?_)
      refine aops_cons rfl rfl (AOp.storeB' Try.sizeOf28 rfl rfl rfl rfl rfl (pull_here _ _) rfl rfl ?_)
      refine aops_nil ?_
      refine aw_seq ?_
      refine aw_draw 11 [0, 0, 0, 0, 0, 0, 0, 0, 0, 0, 0] (by kernel_rfl) (by kernel_rfl) ?_
      refine psq_cons _ rfl (core0 (AOp.loadN Try.isAgg30 Try.sizeOf30 rfl rfl (reads_box _ (.head _)) rfl rfl ⟨rfl, rfl⟩)) ?_
      refine psq_cons _ rfl (core0 (AOp.fieldB Try.underlying30 rfl Try.sizeOf27 (by decide) rfl rfl rfl ⟨rfl, rfl⟩)) ?_
      refine psq_cons _ rfl (core0 (AOp.load1 Try.isAgg27 rfl rfl (reads_box _ (.head _)) rfl ⟨rfl, rfl⟩)) ?_
      refine psq_cons _ rfl (core0 (AOp.move rfl rfl ⟨rfl, rfl⟩)) ?_
      refine psq_cons _ rfl (core0 (AOp.fieldI Try.underlying25 rfl Try.sizeOf3 (by decide) rfl rfl rfl ⟨rfl, rfl⟩)) ?_
      refine psq_cons _ rfl (core0 (AOp.load1 Try.isAgg3 rfl rfl (reads_im _ _) rfl ⟨rfl, rfl⟩)) ?_
      refine psq_cons _ rfl (core0 (AOp.fieldI Try.underlying25 rfl Try.sizeOf3 (by decide) rfl rfl rfl ⟨rfl, rfl⟩)) ?_
      refine psq_cons _ rfl (core0 (AOp.load1 Try.isAgg3 rfl rfl (reads_im _ _) rfl ⟨rfl, rfl⟩)) ?_
      refine psq_cons _ rfl (core0 (AOp.fieldI Try.underlying25 rfl Try.sizeOf3 (by decide) rfl rfl rfl ⟨rfl, rfl⟩)) ?_
      refine psq_cons _ rfl (core0 (AOp.load1 Try.isAgg3 rfl rfl (reads_im _ _) rfl ⟨rfl, rfl⟩)) ?_
      refine psq_cons _ rfl (core0 (AOp.callP Try.call63 rfl rfl rfl (by exact rClash (prn d.l now) _ _ _ _ hs' hc' (by first | omega | (simp <;> omega) | (simp at * <;> omega))) ⟨rfl, rfl⟩)) ?_
      refine psq_nil ?_
      refine aops_cons rfl rfl (AOp.storeB' Try.sizeOf30 rfl rfl rfl rfl rfl (pull_there (pull_here _ _)) rfl rfl ?_)
      refine aops_cons rfl rfl (AOp.assign rfl rfl ?_)
      refine aops_cons rfl rfl (AOp.assign rfl rfl ?_)
      refine aops_cons rfl rfl (AOp.assign rfl rfl ?_)
      refine aops_nil ?_
      refine aw_weak (wk_imm (pull_here _ _) (subf_new (s := 6) rfl (subf_cons (s := 7) rfl (subf_cons (s := 8) rfl (subf_cons (s := 9) rfl (subf_nil _ _ _)))))) ?_
      refine aw_weak (wk_drop (List.nil_sublist _)) ?_
      refine aw_ret ?_
      refine ⟨_, (resV4 Try.results22 (RV.cellN _ _ _ _ _ _ Try.isAgg30 Try.sizeOf30 rfl (reads_im _ _) rfl rfl) (RV.tmp _ _ rfl) (RV.tmp _ _ rfl) (RV.tmp _ _ rfl)), ?_⟩
      first | exact ⟨by rw [ask_yes (by assumption)]; rfl, rfl⟩ | exact ⟨by rw [ask_full (by assumption) (by assumption)]; rfl, rfl⟩ | exact ⟨by rw [ask_more (by assumption) (by assumption)]; rfl, rfl⟩

theorem sameWaits (a b : List Wt) (ha : a.length ≤ 1000000) (hb : b.length ≤ 1000000) : Pur Try.prog 20 [ws a, ws b] (.sc (.bool (decide (a = b)))) := by
  refine acallsN Try.func20 rfl Try.ntmps20 rfl ?_
  refine aw_seq ?_
  refine aw_region ?_
  refine aops_cons rfl rfl (AOp.assign rfl rfl ?_)
  refine aops_nil ?_
  refine aw_seq ?_
  refine aw_seq ?_
  refine aw_region ?_
  refine aops_cons rfl rfl (AOp.move rfl rfl ?_)
  refine aops_cons rfl rfl (AOp.lenS (by first | exact List.length_map _ | rfl) Try.underlying28 rfl rfl ?_)
  refine aops_cons rfl rfl (AOp.move rfl rfl ?_)
  refine aops_cons rfl rfl (AOp.lenS (by first | exact List.length_map _ | rfl) Try.underlying28 rfl rfl ?_)
  refine aops_cons rfl rfl (AOp.neq rfl rfl rfl ?_)
  refine aops_nil ?_
  refine aw_cond _ rfl (fun h1 => ?_) (fun h1 => ?_)
  focus
    have h1_ := h1
    try simp only [List.length_map, List.length_cons, List.length_nil, nrm] at h1
    all_goals try (exfalso; first | (simp at h1_; done) | omega)
    all_goals
      refine aw_seq ?_
      refine aw_region ?_
      refine aops_cons rfl rfl (AOp.assign rfl rfl ?_)
      refine aops_nil ?_
      refine aw_weak (wk_drop (List.nil_sublist _)) ?_
      refine aw_ret ?_
      refine ⟨_, (res1 Try.results20 rfl), ?_⟩
      refine ⟨?_, rfl⟩
      rw [decide_eq_false (fun e => by subst e; omega)]; rfl
  rotate_right
  focus
    have h1_ := h1
    try simp only [List.length_map, List.length_cons, List.length_nil, nrm] at h1
    all_goals try (exfalso; first | (simp at h1_; done) | omega)
    all_goals
      refine aw_skip ?_
      skip
  all_goals
    refine aw_seq ?_
    refine aw_seq ?_
    refine aw_region ?_
    refine aops_cons rfl rfl (AOp.assign rfl rfl ?_)
    refine aops_nil ?_
    refine aw_block ?_
    refine aw_loop (β := Nat) (S := (fun (z0 : Nat) => match z0 with | i => [(0, ws a), (1, ws b), (5, .sc (.int .i64 (i : Int)))])) (B := (fun (z0 : Nat) => match z0 with | i => [])) (pre := (fun (z0 : Nat) => match z0 with | i => i ≤ a.length ∧ ∀ k (h1 : k < a.length) (h2 : k < b.length), k < i → a[k] = b[k])) (μ := (fun (z0 : Nat) => match z0 with | i => a.length - i)) 0 (wk_env (sube_cons rfl (sube_cons rfl (sube_cons rfl (sube_nil _))))) ?_ ?_
    · exact ⟨Nat.zero_le _, fun k h1 h2 h => by omega⟩
    · rintro i ⟨hi, hk⟩
      change AW _ _ _ ([(0, ws a), (1, ws b), (5, .sc (.int .i64 (i : Int)))] : Env) ([] : List Blk) _
      refine aw_seq ?_
      refine aw_seq ?_
      refine aw_region ?_
      refine aops_cons rfl rfl (AOp.move rfl rfl ?_)
      refine aops_cons rfl rfl (AOp.move rfl rfl ?_)
      refine aops_cons rfl rfl (AOp.lenS (by first | exact List.length_map _ | rfl) Try.underlying28 rfl rfl ?_)
      refine aops_cons rfl rfl (AOp.lss rfl rfl rfl ?_)
      refine aops_nil ?_
      refine aw_cond _ rfl (fun h2 => ?_) (fun h2 => ?_)
      focus
        have h2_ := h2
        try simp only [List.length_map, List.length_cons, List.length_nil, nrm] at h2
        all_goals try (exfalso; first | (simp at h2_; done) | omega)
        all_goals
          refine aw_skip ?_
          skip
      rotate_right
      focus
        have h2_ := h2
        try simp only [List.length_map, List.length_cons, List.length_nil, nrm] at h2
        all_goals try (exfalso; first | (simp at h2_; done) | omega)
        all_goals
          refine aw_exit ?_
          refine aw_seq ?_
          refine aw_region ?_
          refine aops_cons rfl rfl (AOp.assign rfl rfl ?_)
          refine aops_nil ?_
          refine aw_weak (wk_drop (List.nil_sublist _)) ?_
          refine aw_ret ?_
          refine ⟨_, (res1 Try.results20 rfl), ?_⟩
          refine ⟨?_, rfl⟩
          rw [decide_eq_true (List.ext_getElem (by omega) (fun k h1 h2 => hk k h1 h2 (by omega)))]; rfl
      all_goals
        refine aw_seq ?_
        refine aw_block ?_
        refine aw_seq ?_
        refine aw_draw 8 [0, 0, 0, 0, 0, 0, 0, 0] (by kernel_rfl) (by kernel_rfl) ?_
        refine psq_cons _ rfl (core0 (AOp.move rfl rfl ⟨rfl, rfl⟩)) ?_
        refine psq_cons _ rfl (core0 (AOp.move rfl rfl ⟨rfl, rfl⟩)) ?_
        refine psq_cons _ rfl (core0 (AOp.indexLN Try.underlying28 Try.sizeOf25 rfl rfl rfl (by first | omega | (simp <;> omega) | (simp at * <;> omega)) (fun _ => rfl) ⟨rfl, rfl⟩)) ?_
        refine psq_cons _ rfl (core0 (AOp.loadN Try.isAgg25 Try.sizeOf25 rfl rfl (reads_im _ _) rfl rfl ⟨rfl, rfl⟩)) ?_
        refine psq_cons _ rfl (core0 (AOp.move rfl rfl ⟨rfl, rfl⟩)) ?_
        refine psq_cons _ rfl (core0 (AOp.move rfl rfl ⟨rfl, rfl⟩)) ?_
        refine psq_cons _ rfl (core0 (AOp.indexLN Try.underlying28 Try.sizeOf25 rfl rfl rfl (by first | omega | (simp <;> omega) | (simp at * <;> omega)) (fun _ => rfl) ⟨rfl, rfl⟩)) ?_
        refine psq_cons _ rfl (core0 (AOp.loadN Try.isAgg25 Try.sizeOf25 rfl rfl (reads_im _ _) rfl rfl ⟨rfl, rfl⟩)) ?_
        refine psq_nil ?_
        refine aops_cons rfl rfl (AOp.neW rfl rfl rfl rfl rfl ?_)
        refine aops_nil ?_
        refine aw_cond _ rfl (fun h3 => ?_) (fun h3 => ?_)
        focus
          have h3_ := h3
          try simp only [List.length_map, List.length_cons, List.length_nil, nrm] at h3
          all_goals try (exfalso; first | (simp at h3_; done) | omega)
          all_goals
            refine aw_seq ?_
            refine aw_region ?_
            refine aops_cons rfl rfl (AOp.assign rfl rfl ?_)
            refine aops_nil ?_
            refine aw_weak (wk_drop (List.nil_sublist _)) ?_
            refine aw_ret ?_
            refine ⟨_, (res1 Try.results20 rfl), ?_⟩
            refine ⟨?_, rfl⟩
            rw [decide_eq_false (fun e => by subst e; exact absurd rfl (by assumption))]; rfl
        rotate_right
        focus
          have h3_ := h3
          try simp only [List.length_map, List.length_cons, List.length_nil, nrm] at h3
          all_goals try (exfalso; first | (simp at h3_; done) | omega)
          all_goals
            refine aw_skip ?_
            skip
        all_goals
          refine aw_region ?_
          refine aops_cons rfl rfl (AOp.move rfl rfl ?_)
          refine aops_cons rfl rfl (AOp.addE rfl rfl rfl (by first | omega | (simp <;> omega) | (simp at * <;> omega)) (by first | omega | (simp <;> omega) | (simp at * <;> omega)) ?_)
          refine aops_cons rfl rfl (AOp.assign rfl rfl ?_)
          refine aops_nil ?_
          refine ⟨i + 1, ⟨by omega, fun k h1 h2 h => ?_⟩, by dsimp only; omega, (wk_env (sube_cons rfl (sube_cons rfl (sube_cons rfl (sube_nil _)))))⟩
          rcases Nat.lt_or_ge k i with h0 | h0
          · exact hk k h1 h2 h0
          · have e : k = i := by omega
            subst e; assumption

theorem sameWaitsT {a b : List Wt} (h : a = b) (ha : a.length ≤ 1000000) : Pur Try.prog 20 [ws a, ws b] (.sc (.bool true)) := by
  have k := sameWaits a b ha (by rw [← h]; exact ha)
  rwa [decide_eq_true h] at k

theorem sameDesk (d : Dk) (hll : d.l.length ≤ 1000) (hlw : d.w.length ≤ 1000) : Pur Try.prog 24 [dk d, dk d] (.sc (.bool true)) := by
  unfold dk
  refine acallsN Try.func24 rfl Try.ntmps24 rfl ?_
  refine aw_seq ?_
  refine aw_region ?_
  refine aops_cons rfl rfl (AOp.boxI rfl rfl rfl ?_)
  refine aops_cons rfl rfl (AOp.boxI rfl rfl rfl ?_)
  refine aops_cons rfl rfl (AOp.assign rfl rfl ?_)
  refine aops_nil ?_
  refine aw_seq ?_
  refine aw_region ?_
  refine aops_cons rfl rfl (AOp.fieldI Try.underlying30 rfl Try.sizeOf27 (by decide) rfl rfl rfl ?_)
  refine aops_cons rfl rfl (AOp.load1 Try.isAgg27 rfl rfl (reads_im _ _) rfl ?_)
  refine aops_cons rfl rfl (AOp.fieldI Try.underlying30 rfl Try.sizeOf27 (by decide) rfl rfl rfl ?_)
  refine aops_cons rfl rfl (AOp.load1 Try.isAgg27 rfl rfl (reads_im _ _) rfl ?_)
  refine aops_cons rfl rfl (AOp.callP Try.call66 rfl rfl rfl (by exact sameLeasesT rfl (by first | omega | (simp <;> omega) | (simp at * <;> omega))) ?_)
  refine aops_cons rfl rfl (AOp.move rfl rfl ?_)
  refine aops_guard 5 true 10 _ rfl rfl rfl rfl rfl (fun g1 => ?_) (fun g1 => ?_)
  focus
    have g1_ := g1
    try simp only [List.length_map, List.length_cons, List.length_nil, nrm] at g1
    all_goals try (exfalso; first | (simp at g1_; done) | omega)
    all_goals
      refine AOp.fieldI Try.underlying30 rfl Try.sizeOf28 (by decide) rfl rfl rfl ?_
      refine aops_guard 5 true 10 _ rfl rfl rfl rfl rfl (fun _ => ?_) (fun hh => by exfalso; first | (rw [g1_] at hh; exact absurd hh (by decide)) | (revert hh; simp [g1_]))
      refine AOp.load1 Try.isAgg28 rfl rfl (reads_im _ _) rfl ?_
      refine aops_guard 5 true 10 _ rfl rfl rfl rfl rfl (fun _ => ?_) (fun hh => by exfalso; first | (rw [g1_] at hh; exact absurd hh (by decide)) | (revert hh; simp [g1_]))
      refine AOp.fieldI Try.underlying30 rfl Try.sizeOf28 (by decide) rfl rfl rfl ?_
      refine aops_guard 5 true 10 _ rfl rfl rfl rfl rfl (fun _ => ?_) (fun hh => by exfalso; first | (rw [g1_] at hh; exact absurd hh (by decide)) | (revert hh; simp [g1_]))
      refine AOp.load1 Try.isAgg28 rfl rfl (reads_im _ _) rfl ?_
      refine aops_guard 5 true 10 _ rfl rfl rfl rfl rfl (fun _ => ?_) (fun hh => by exfalso; first | (rw [g1_] at hh; exact absurd hh (by decide)) | (revert hh; simp [g1_]))
      refine AOp.callP Try.call20 rfl rfl rfl (by exact sameWaitsT rfl (by first | omega | (simp <;> omega) | (simp at * <;> omega))) ?_
  rotate_right
  focus
    have g1_ := g1
    try simp only [List.length_map, List.length_cons, List.length_nil, nrm] at g1
    all_goals try (exfalso; first | (simp at g1_; done) | omega)
  all_goals
    refine aops_cons rfl rfl (AOp.pick_t rfl rfl (by first | assumption | rfl) rfl ?_)
    refine aops_cons rfl rfl (AOp.assign rfl rfl ?_)
    refine aops_nil ?_
    refine aw_weak (wk_drop (List.nil_sublist _)) ?_
    refine aw_ret ?_
    refine ⟨_, (res1 Try.results24 rfl), ?_⟩
    first | exact ⟨rfl, rfl⟩ | exact ⟨by simp, rfl⟩

end Go.Proofs.Ytdacnebhlgibhaa
