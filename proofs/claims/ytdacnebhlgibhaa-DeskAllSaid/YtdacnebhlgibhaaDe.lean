/- Own text: asking at a desk. -/
import Derived.Test.YtdacnebhlgibhaaDd
set_option linter.unusedVariables false
set_option linter.unusedSimpArgs false
set_option linter.all false
set_option maxRecDepth 100000
set_option maxHeartbeats 2000000
namespace Go.Proofs.Ytdacnebhlgibhaa
open Go Go.Aw

def dk (d : Dk) : AV := .ag d.e
/-- What asking is told. -/
def askA (r : Dk × Bool × List Int × Int) : AV := .tp [dk r.1, .sc (.bool r.2.1), ints r.2.2.1, .sc (.int .i64 r.2.2.2)]
theorem ask_yes {d : Dk} {now : Int} {w : Wt} (h : free ⟨prn d.l now, d.w⟩ now w = true) : askD d now w = (lets ⟨prn d.l now, d.w⟩ now w, true, [], 0) := by unfold askD; rw [if_pos h]
theorem ask_full {d : Dk} {now : Int} {w : Wt} (h : free ⟨prn d.l now, d.w⟩ now w = false) (h2 : (putW d.w w).2 = false) : askD d now w = (⟨prn d.l now, d.w⟩, false, [], 3) := by unfold askD; rw [if_neg (by simp [h]), if_neg (by simp [h2])]
theorem ask_more {d : Dk} {now : Int} {w : Wt} (h : free ⟨prn d.l now, d.w⟩ now w = false) (h2 : (putW d.w w).2 = true) : askD d now w = (⟨prn d.l now, (putW d.w w).1⟩, false, cls (prn d.l now) now w.c w.f w.m, 0) := by unfold askD; rw [if_neg (by simp [h]), if_pos h2]
theorem prn_len (l : List L) (a : Int) : (prn l a).length ≤ l.length := List.length_filter_le _ _

theorem pruned (d : Dk) (now : Int) (hll : d.l.length ≤ 1000) (hlw : d.w.length ≤ 1000) : Pur Try.prog 53 [dk d, .sc (.int .i64 now)] (dk ⟨prn d.l now, d.w⟩) := by
  unfold dk
  refine acallsN Try.func53 rfl Try.ntmps53 rfl ?_
  refine aw_seq ?_
  refine aw_region ?_
  refine aops_cons rfl rfl (AOp.boxI rfl rfl rfl ?_)
  refine aops_cons rfl rfl (AOp.alloc Try.zeroValue30 (by kernel_rfl) rfl rfl ?_); intro b1
  refine aops_nil ?_
  refine aw_seq ?_
  refine aw_draw 6 [0, 0, 0, 0, 0, 0] (by kernel_rfl) (by kernel_rfl) ?_
  refine psq_cons _ rfl (core0 (AOp.fieldI Try.underlying30 rfl Try.sizeOf27 (by decide) rfl rfl rfl ⟨rfl, rfl⟩)) ?_
  refine psq_cons _ rfl (core0 (AOp.load1 Try.isAgg27 rfl rfl (reads_im _ _) rfl ⟨rfl, rfl⟩)) ?_
  refine psq_cons _ rfl (core0 (AOp.move rfl rfl ⟨rfl, rfl⟩)) ?_
  refine psq_cons _ rfl (core0 (AOp.callP Try.call102 rfl rfl rfl (by exact prune d.l now (by first | omega | (simp <;> omega) | (simp at * <;> omega))) ⟨rfl, rfl⟩)) ?_
  refine psq_cons _ rfl (core0 (AOp.fieldI Try.underlying30 rfl Try.sizeOf28 (by decide) rfl rfl rfl ⟨rfl, rfl⟩)) ?_
  refine psq_cons _ rfl (core0 (AOp.load1 Try.isAgg28 rfl rfl (reads_im _ _) rfl ⟨rfl, rfl⟩)) ?_
  refine psq_nil ?_
  refine aops_cons rfl rfl (AOp.callP Try.call51 rfl rfl rfl (by exact cloneWP d.w (by first | omega | (simp <;> omega) | (simp at * <;> omega))) ?_)
  refine aops_cons rfl rfl (AOp.build' (places := [(0, 1), (1, 1)]) Try.zeroValue30 (by kernel_rfl) (by kernel_rfl) Try.underlying30 (by kernel_rfl) rfl rfl rfl rfl ?_)
  refine aops_cons rfl rfl (AOp.storeB' Try.sizeOf30 rfl rfl rfl rfl rfl (pull_here _ _) rfl rfl ?_)
  refine aops_nil ?_
  refine aw_weak (wk_imm (pull_here _ _) (subf_new (s := 4) rfl (subf_nil _ _ _))) ?_
  refine aw_weak (wk_drop (List.nil_sublist _)) ?_
  refine aw_ret ?_
  refine ⟨_, (resV1 Try.results53 (RV.cellN _ _ _ _ _ _ Try.isAgg30 Try.sizeOf30 rfl (reads_im _ _) rfl rfl)), ?_⟩
  exact ⟨rfl, rfl⟩

theorem clashD (d : Dk) (now : Int) (w : Wt) (hs : srt d.l) (hll : d.l.length ≤ 1000) (hlw : d.w.length ≤ 2000) : Pur Try.prog 58 [dk d, .sc (.int .i64 now), .ag w.e] (ints (cls d.l now w.c w.f w.m)) := by
  unfold dk
  refine acallsN Try.func58 rfl Try.ntmps58 rfl ?_
  refine aw_seq ?_
  refine aw_region ?_
  refine aops_cons rfl rfl (AOp.boxI rfl rfl rfl ?_)
  refine aops_cons rfl rfl (AOp.boxI rfl rfl rfl ?_)
  refine aops_cons rfl rfl (AOp.assign rfl rfl ?_)
  refine aops_nil ?_
  refine aw_seq ?_
  refine aw_region ?_
  refine aops_cons rfl rfl (AOp.fieldI Try.underlying30 rfl Try.sizeOf27 (by decide) rfl rfl rfl ?_)
  refine aops_cons rfl rfl (AOp.load1 Try.isAgg27 rfl rfl (reads_im _ _) rfl ?_)
  refine aops_cons rfl rfl (AOp.move rfl rfl ?_)
  refine aops_cons rfl rfl (AOp.fieldI Try.underlying25 rfl Try.sizeOf3 (by decide) rfl rfl rfl ?_)
  refine aops_cons rfl rfl (AOp.load1 Try.isAgg3 rfl rfl (reads_im _ _) rfl ?_)
  refine aops_cons rfl rfl (AOp.fieldI Try.underlying25 rfl Try.sizeOf3 (by decide) rfl rfl rfl ?_)
  refine aops_cons rfl rfl (AOp.load1 Try.isAgg3 rfl rfl (reads_im _ _) rfl ?_)
  refine aops_cons rfl rfl (AOp.fieldI Try.underlying25 rfl Try.sizeOf3 (by decide) rfl rfl rfl ?_)
  refine aops_cons rfl rfl (AOp.load1 Try.isAgg3 rfl rfl (reads_im _ _) rfl ?_)
  refine aops_cons rfl rfl (AOp.callP Try.call107 rfl rfl rfl (by exact clash d.l _ _ _ _ hs (by first | omega | (simp <;> omega) | (simp at * <;> omega))) ?_)
  refine aops_cons rfl rfl (AOp.assign rfl rfl ?_)
  refine aops_nil ?_
  refine aw_weak (wk_drop (List.nil_sublist _)) ?_
  refine aw_ret ?_
  refine ⟨_, (res1 Try.results58 rfl), ?_⟩
  exact ⟨rfl, rfl⟩

theorem mayD (d : Dk) (now : Int) (w : Wt) (hs : srt d.l) (hll : d.l.length ≤ 1000) (hlw : d.w.length ≤ 1000) : Pur Try.prog 56 [dk d, .sc (.int .i64 now), .ag w.e] (.sc (.bool (free d now w))) := by
  unfold dk
  refine acallsN Try.func56 rfl Try.ntmps56 rfl ?_
  refine aw_seq ?_
  refine aw_region ?_
  refine aops_cons rfl rfl (AOp.boxI rfl rfl rfl ?_)
  refine aops_cons rfl rfl (AOp.boxI rfl rfl rfl ?_)
  refine aops_cons rfl rfl (AOp.assign rfl rfl ?_)
  refine aops_nil ?_
  refine aw_seq ?_
  refine aw_region ?_
  refine aops_cons rfl rfl (AOp.loadN Try.isAgg30 Try.sizeOf30 rfl rfl (reads_im _ _) rfl rfl ?_)
  refine aops_cons rfl rfl (AOp.move rfl rfl ?_)
  refine aops_cons rfl rfl (AOp.loadN Try.isAgg25 Try.sizeOf25 rfl rfl (reads_im _ _) rfl rfl ?_)
  refine aops_cons rfl rfl (AOp.callP Try.call58 rfl rfl rfl (by exact clashD d now w hs hll (by first | omega | (simp <;> omega) | (simp at * <;> omega))) ?_)
  refine aops_cons rfl rfl (AOp.lenS (by first | exact List.length_map _ | rfl) Try.underlying42 rfl rfl ?_)
  refine aops_cons rfl rfl (AOp.eql rfl rfl rfl ?_)
  refine aops_cons rfl rfl (AOp.move rfl rfl ?_)
  refine aops_guard 6 true 13 _ rfl rfl rfl rfl rfl (fun g1 => ?_) (fun g1 => ?_)
  focus
    have g1_ := g1
    try simp only [List.length_map, List.length_cons, List.length_nil, nrm] at g1
    all_goals try (exfalso; first | (simp at g1_; done) | omega)
    all_goals
      refine AOp.fieldI Try.underlying30 rfl Try.sizeOf28 (by decide) rfl rfl rfl ?_
      refine aops_guard 6 true 13 _ rfl rfl rfl rfl rfl (fun _ => ?_) (fun hh => by exfalso; first | (rw [g1_] at hh; exact absurd hh (by decide)) | (revert hh; simp [g1_]))
      refine AOp.load1 Try.isAgg28 rfl rfl (reads_im _ _) rfl ?_
      refine aops_guard 6 true 13 _ rfl rfl rfl rfl rfl (fun _ => ?_) (fun hh => by exfalso; first | (rw [g1_] at hh; exact absurd hh (by decide)) | (revert hh; simp [g1_]))
      refine AOp.fieldI Try.underlying25 rfl Try.sizeOf3 (by decide) rfl rfl rfl ?_
      refine aops_guard 6 true 13 _ rfl rfl rfl rfl rfl (fun _ => ?_) (fun hh => by exfalso; first | (rw [g1_] at hh; exact absurd hh (by decide)) | (revert hh; simp [g1_]))
      refine AOp.load1 Try.isAgg3 rfl rfl (reads_im _ _) rfl ?_
      refine aops_guard 6 true 13 _ rfl rfl rfl rfl rfl (fun _ => ?_) (fun hh => by exfalso; first | (rw [g1_] at hh; exact absurd hh (by decide)) | (revert hh; simp [g1_]))
      refine AOp.fieldI Try.underlying25 rfl Try.sizeOf3 (by decide) rfl rfl rfl ?_
      refine aops_guard 6 true 13 _ rfl rfl rfl rfl rfl (fun _ => ?_) (fun hh => by exfalso; first | (rw [g1_] at hh; exact absurd hh (by decide)) | (revert hh; simp [g1_]))
      refine AOp.load1 Try.isAgg3 rfl rfl (reads_im _ _) rfl ?_
      refine aops_guard 6 true 13 _ rfl rfl rfl rfl rfl (fun _ => ?_) (fun hh => by exfalso; first | (rw [g1_] at hh; exact absurd hh (by decide)) | (revert hh; simp [g1_]))
      refine AOp.callP Try.call103 rfl rfl rfl (by exact aheadL d.w _ _ (by first | omega | (simp <;> omega) | (simp at * <;> omega))) ?_
      refine aops_guard 6 true 13 _ rfl rfl rfl rfl rfl (fun _ => ?_) (fun hh => by exfalso; first | (rw [g1_] at hh; exact absurd hh (by decide)) | (revert hh; simp [g1_]))
      refine AOp.not rfl rfl ?_
  rotate_right
  focus
    have g1_ := g1
    try simp only [List.length_map, List.length_cons, List.length_nil, nrm] at g1
    all_goals try (exfalso; first | (simp at g1_; done) | omega)
    all_goals
      refine aops_guard 6 true 13 _ rfl rfl rfl rfl rfl (fun hh => by exfalso; first | (rw [g1_] at hh; exact absurd hh (by decide)) | (revert hh; simp [g1_])) (fun _ => ?_)
      refine aops_guard 6 true 13 _ rfl rfl rfl rfl rfl (fun hh => by exfalso; first | (rw [g1_] at hh; exact absurd hh (by decide)) | (revert hh; simp [g1_])) (fun _ => ?_)
      refine aops_guard 6 true 13 _ rfl rfl rfl rfl rfl (fun hh => by exfalso; first | (rw [g1_] at hh; exact absurd hh (by decide)) | (revert hh; simp [g1_])) (fun _ => ?_)
      refine aops_guard 6 true 13 _ rfl rfl rfl rfl rfl (fun hh => by exfalso; first | (rw [g1_] at hh; exact absurd hh (by decide)) | (revert hh; simp [g1_])) (fun _ => ?_)
      refine aops_guard 6 true 13 _ rfl rfl rfl rfl rfl (fun hh => by exfalso; first | (rw [g1_] at hh; exact absurd hh (by decide)) | (revert hh; simp [g1_])) (fun _ => ?_)
      refine aops_guard 6 true 13 _ rfl rfl rfl rfl rfl (fun hh => by exfalso; first | (rw [g1_] at hh; exact absurd hh (by decide)) | (revert hh; simp [g1_])) (fun _ => ?_)
      refine aops_guard 6 true 13 _ rfl rfl rfl rfl rfl (fun hh => by exfalso; first | (rw [g1_] at hh; exact absurd hh (by decide)) | (revert hh; simp [g1_])) (fun _ => ?_)
  all_goals
    first
    | refine aops_cons rfl rfl (AOp.pick_t rfl rfl (by first | assumption | rfl) rfl ?_)
    | refine aops_cons rfl rfl (AOp.pick_f rfl rfl (by first | assumption | rfl) rfl ?_)
    refine aops_cons rfl rfl (AOp.assign rfl rfl ?_)
    refine aops_nil ?_
    refine aw_weak (wk_drop (List.nil_sublist _)) ?_
    refine aw_ret ?_
    refine ⟨_, (res1 Try.results56 rfl), ?_⟩
    refine ⟨?_, rfl⟩
    first | (rw [free_t (by omega)]; done) | (rw [free_f (by omega)]; done) | (rw [free_t (by omega)]; rfl) | (rw [free_f (by omega)]; rfl)

theorem letsD (d : Dk) (now : Int) (w : Wt) (hs : srt d.l) (hn0 : 0 ≤ now) (hn1 : now ≤ 1000000) (hll : d.l.length ≤ 1000) (hlw : d.w.length ≤ 1000) : Pur Try.prog 57 [dk d, .sc (.int .i64 now), .ag w.e] (dk (lets d now w)) := by
  unfold dk
  refine acallsN Try.func57 rfl Try.ntmps57 rfl ?_
  refine aw_seq ?_
  refine aw_region ?_
  refine aops_cons rfl rfl (AOp.boxI rfl rfl rfl ?_)
  refine aops_cons rfl rfl (AOp.boxI rfl rfl rfl ?_)
  refine aops_cons rfl rfl (AOp.alloc Try.zeroValue30 (by kernel_rfl) rfl rfl ?_); intro b1
  refine aops_nil ?_
  refine aw_seq ?_
  refine aw_drawM (fun _ => True) trivial [1, 1, 1, 1, 1, 1, 1, 1, 1, 5, 5] (by kernel_rfl) (by kernel_rfl) ?_
  refine q_go1 _ rfl (fun _ _ => AOp.fieldI Try.underlying25 rfl Try.sizeOf3 (by decide) rfl rfl rfl ⟨rfl, rfl⟩) ?_
  refine q_go1 _ rfl (fun _ _ => AOp.load1 Try.isAgg3 rfl rfl (reads_im _ _) rfl ⟨rfl, rfl⟩) ?_
  refine q_go1 _ rfl (fun _ _ => AOp.fieldI Try.underlying25 rfl Try.sizeOf3 (by decide) rfl rfl rfl ⟨rfl, rfl⟩) ?_
  refine q_go1 _ rfl (fun _ _ => AOp.load1 Try.isAgg3 rfl rfl (reads_im _ _) rfl ⟨rfl, rfl⟩) ?_
  refine q_go1 _ rfl (fun _ _ => AOp.fieldI Try.underlying25 rfl Try.sizeOf3 (by decide) rfl rfl rfl ⟨rfl, rfl⟩) ?_
  refine q_go1 _ rfl (fun _ _ => AOp.load1 Try.isAgg3 rfl rfl (reads_im _ _) rfl ⟨rfl, rfl⟩) ?_
  refine q_go1 _ rfl (fun _ _ => AOp.move rfl rfl ⟨rfl, rfl⟩) ?_
  refine q_go1 _ rfl (fun _ _ => AOp.callP Try.call104 rfl rfl rfl (by exact add now 60 hn0 hn1 (by decide) (by decide)) ⟨rfl, rfl⟩) ?_
  refine q_go1 _ rfl (fun _ _ => AOp.build' (places := [(0, 1), (1, 1), (2, 1), (3, 1)]) Try.zeroValue111 (by kernel_rfl) (by kernel_rfl) Try.underlying111 (by kernel_rfl) rfl rfl rfl rfl ⟨rfl, rfl⟩) ?_
  refine q_over ?_
  refine q_over ?_
  refine q_nil ?_
  refine c_over (by decide) ?_
  refine c_over (by decide) ?_
  refine c_over (by decide) ?_
  refine c_over (by decide) ?_
  refine c_over (by decide) ?_
  refine c_over (by decide) ?_
  refine c_over (by decide) ?_
  refine c_over (by decide) ?_
  refine c_over (by decide) ?_
  refine c_go rfl (AOp.alloc Try.zeroValue111 (by kernel_rfl) rfl rfl ?_); intro b2; refine ⟨trivial, ?_⟩
  refine c_go rfl (AOp.storeB' Try.sizeOf111 rfl rfl rfl rfl rfl (pull_here _ _) rfl rfl ⟨trivial, ?_⟩)
  refine c_nil ?_
  refine aw_seq ?_
  refine aw_draw 8 [0, 0, 0, 0, 0, 0, 0, 0] (by kernel_rfl) (by kernel_rfl) ?_
  refine psq_cons _ rfl (core0 (AOp.fieldI Try.underlying30 rfl Try.sizeOf27 (by decide) rfl rfl rfl ⟨rfl, rfl⟩)) ?_
  refine psq_cons _ rfl (core0 (AOp.load1 Try.isAgg27 rfl rfl (reads_im _ _) rfl ⟨rfl, rfl⟩)) ?_
  refine psq_cons _ rfl (core0 (AOp.loadN Try.isAgg111 Try.sizeOf111 rfl rfl (reads_box _ (.head _)) rfl rfl ⟨rfl, rfl⟩)) ?_
  refine psq_cons _ rfl (core0 (AOp.callP Try.call105 rfl rfl rfl (by exact gran d.l ⟨w.c, w.f, w.m, now + 60⟩ hs (by first | omega | (simp <;> omega) | (simp at * <;> omega))) ⟨rfl, rfl⟩)) ?_
  refine psq_cons _ rfl (core0 (AOp.fieldI Try.underlying30 rfl Try.sizeOf28 (by decide) rfl rfl rfl ⟨rfl, rfl⟩)) ?_
  refine psq_cons _ rfl (core0 (AOp.load1 Try.isAgg28 rfl rfl (reads_im _ _) rfl ⟨rfl, rfl⟩)) ?_
  refine psq_cons _ rfl (core0 (AOp.fieldI Try.underlying25 rfl Try.sizeOf3 (by decide) rfl rfl rfl ⟨rfl, rfl⟩)) ?_
  refine psq_cons _ rfl (core0 (AOp.load1 Try.isAgg3 rfl rfl (reads_im _ _) rfl ⟨rfl, rfl⟩)) ?_
  refine psq_nil ?_
  refine aops_cons rfl rfl (AOp.callP Try.call106 rfl rfl rfl (by exact dropLP d.w _ (by first | omega | (simp <;> omega) | (simp at * <;> omega))) ?_)
  refine aops_cons rfl rfl (AOp.build' (places := [(0, 1), (1, 1)]) Try.zeroValue30 (by kernel_rfl) (by kernel_rfl) Try.underlying30 (by kernel_rfl) rfl rfl rfl rfl ?_)
  refine aops_cons rfl rfl (AOp.storeB' Try.sizeOf30 rfl rfl rfl rfl rfl (pull_there (pull_here _ _)) rfl rfl ?_)
  refine aops_nil ?_
  refine aw_weak (wk_imm (pull_here _ _) (subf_new (s := 6) rfl (subf_nil _ _ _))) ?_
  refine aw_weak (wk_drop (List.nil_sublist _)) ?_
  refine aw_ret ?_
  refine ⟨_, (resV1 Try.results57 (RV.cellN _ _ _ _ _ _ Try.isAgg30 Try.sizeOf30 rfl (reads_im _ _) rfl rfl)), ?_⟩
  exact ⟨rfl, rfl⟩

theorem giveD (d : Dk) (c f : Int) (hll : d.l.length ≤ 1000) (hlw : d.w.length ≤ 1000) : Pur Try.prog 16 [dk d, .sc (.int .i64 c), .sc (.int .i64 f)] (dk ⟨drp d.l c f, d.w⟩) := by
  unfold dk
  refine acallsN Try.func16 rfl Try.ntmps16 rfl ?_
  refine aw_seq ?_
  refine aw_region ?_
  refine aops_cons rfl rfl (AOp.boxI rfl rfl rfl ?_)
  refine aops_cons rfl rfl (AOp.alloc Try.zeroValue30 (by kernel_rfl) rfl rfl ?_); intro b1
  refine aops_nil ?_
  refine aw_seq ?_
  refine aw_draw 7 [0, 0, 0, 0, 0, 0, 0] (by kernel_rfl) (by kernel_rfl) ?_
  refine psq_cons _ rfl (core0 (AOp.fieldI Try.underlying30 rfl Try.sizeOf27 (by decide) rfl rfl rfl ⟨rfl, rfl⟩)) ?_
  refine psq_cons _ rfl (core0 (AOp.load1 Try.isAgg27 rfl rfl (reads_im _ _) rfl ⟨rfl, rfl⟩)) ?_
  refine psq_cons _ rfl (core0 (AOp.move rfl rfl ⟨rfl, rfl⟩)) ?_
  refine psq_cons _ rfl (core0 (AOp.move rfl rfl ⟨rfl, rfl⟩)) ?_
  refine psq_cons _ rfl (core0 (AOp.callP Try.call50 rfl rfl rfl (by exact drop d.l c f (by first | omega | (simp <;> omega) | (simp at * <;> omega))) ⟨rfl, rfl⟩)) ?_
  refine psq_cons _ rfl (core0 (AOp.fieldI Try.underlying30 rfl Try.sizeOf28 (by decide) rfl rfl rfl ⟨rfl, rfl⟩)) ?_
  refine psq_cons _ rfl (core0 (AOp.load1 Try.isAgg28 rfl rfl (reads_im _ _) rfl ⟨rfl, rfl⟩)) ?_
  refine psq_nil ?_
  refine aops_cons rfl rfl (AOp.callP Try.call51 rfl rfl rfl (by exact cloneWP d.w (by first | omega | (simp <;> omega) | (simp at * <;> omega))) ?_)
  refine aops_cons rfl rfl (AOp.build' (places := [(0, 1), (1, 1)]) Try.zeroValue30 (by kernel_rfl) (by kernel_rfl) Try.underlying30 (by kernel_rfl) rfl rfl rfl rfl ?_)
  refine aops_cons rfl rfl (AOp.storeB' Try.sizeOf30 rfl rfl rfl rfl rfl (pull_here _ _) rfl rfl ?_)
  refine aops_nil ?_
  refine aw_weak (wk_imm (pull_here _ _) (subf_new (s := 6) rfl (subf_nil _ _ _))) ?_
  refine aw_weak (wk_drop (List.nil_sublist _)) ?_
  refine aw_ret ?_
  refine ⟨_, (resV1 Try.results16 (RV.cellN _ _ _ _ _ _ Try.isAgg30 Try.sizeOf30 rfl (reads_im _ _) rfl rfl)), ?_⟩
  exact ⟨rfl, rfl⟩

theorem ask (d : Dk) (now : Int) (w : Wt) (hs : srt d.l) (hu : uniq d.w) (hn0 : 0 ≤ now) (hn1 : now ≤ 1000000) (hll : d.l.length ≤ 1000) (hlw : d.w.length ≤ 1000) : Pur Try.prog 21 [dk d, .sc (.int .i64 now), .ag w.e] (askA (askD d now w)) := by
  unfold dk
  have hs' : srt (prn d.l now) := srt_filter hs
  have hpl := prn_len d.l now
  have hpw := putW_len d.w w
  refine acallsN Try.func21 rfl Try.ntmps21 rfl ?_
  refine aw_seq ?_
  refine aw_region ?_
  refine aops_cons rfl rfl (AOp.boxI rfl rfl rfl ?_)
  refine aops_cons rfl rfl (AOp.boxI rfl rfl rfl ?_)
  refine aops_cons rfl rfl (AOp.alloc Try.zeroValue30 (by kernel_rfl) rfl rfl ?_); intro b1
  refine aops_cons rfl rfl (AOp.assign rfl rfl ?_)
  refine aops_cons rfl rfl (AOp.assign rfl rfl ?_)
  refine aops_cons rfl rfl (AOp.assign rfl rfl ?_)
  refine aops_nil ?_
  refine aw_seq ?_
  refine aw_region ?_
  refine aops_cons rfl rfl (AOp.loadN Try.isAgg30 Try.sizeOf30 rfl rfl (reads_im _ _) rfl rfl ?_)
  refine aops_cons rfl rfl (AOp.move rfl rfl ?_)
  refine aops_cons rfl rfl (AOp.callP Try.call53 rfl rfl rfl (by exact pruned d now hll hlw) ?_)
  refine aops_cons rfl rfl (AOp.storeB' Try.sizeOf30 rfl rfl rfl rfl rfl (pull_here _ _) rfl rfl ?_)
  refine aops_nil ?_
  refine aw_seq ?_
  refine aw_seq ?_
  refine aw_region ?_
  refine aops_cons rfl rfl (AOp.loadN Try.isAgg30 Try.sizeOf30 rfl rfl (reads_box _ (.head _)) rfl rfl ?_)
  refine aops_cons rfl rfl (AOp.move rfl rfl ?_)
  refine aops_cons rfl rfl (AOp.loadN Try.isAgg25 Try.sizeOf25 rfl rfl (reads_im _ _) rfl rfl ?_)
  refine aops_cons rfl rfl (AOp.callP Try.call56 rfl rfl rfl (by exact mayD (⟨prn d.l now, d.w⟩ : Dk) now w hs' (Nat.le_trans hpl hll) hlw) ?_)
  refine aops_nil ?_
  refine aw_cond _ rfl (fun h1 => ?_) (fun h1 => ?_)
  focus
    have h1_ := h1
    try simp only [List.length_map, List.length_cons, List.length_nil, nrm] at h1
    all_goals try (exfalso; first | (simp at h1_; done) | omega)
    all_goals
      refine aw_seq ?_
      refine aw_region ?_
      refine aops_cons rfl rfl (AOp.loadN Try.isAgg30 Try.sizeOf30 rfl rfl (reads_box _ (.head _)) rfl rfl ?_)
      refine aops_cons rfl rfl (AOp.move rfl rfl ?_)
      refine aops_cons rfl rfl (AOp.loadN Try.isAgg25 Try.sizeOf25 rfl rfl (reads_im _ _) rfl rfl ?_)
      refine aops_cons rfl rfl (AOp.callP Try.call57 rfl rfl rfl (by exact letsD (⟨prn d.l now, d.w⟩ : Dk) now w hs' hn0 hn1 (Nat.le_trans hpl hll) hlw) ?_)
      refine aops_cons rfl rfl (AOp.storeB' Try.sizeOf30 rfl rfl rfl rfl rfl (pull_here _ _) rfl rfl ?_)
      refine aops_cons rfl rfl (AOp.assign rfl rfl ?_)
      refine aops_cons rfl rfl (AOp.assign rfl rfl ?_)
      refine aops_cons rfl rfl (AOp.assign rfl rfl ?_)
      refine aops_nil ?_
      refine aw_weak ((wk_nil 25 4).trans (wk_frz (pull_here _ _) (.keep _ .nil) (subz_cons (s := 6) rfl (fz_id _ _ _) (subz_cons (s := 7) rfl (fz_id _ _ _) (subz_cons (s := 8) rfl (fz_row _ _) (subz_cons (s := 9) rfl (fz_id _ _ _) (subz_nil _ _ _))))))) ?_
      refine aw_weak (wk_imm (pull_here _ _) (subf_new (s := 6) rfl (subf_cons (s := 7) rfl (subf_cons (s := 8) rfl (subf_cons (s := 9) rfl (subf_nil _ _ _)))))) ?_
      refine aw_weak (wk_drop (List.nil_sublist _)) ?_
      refine aw_ret ?_
      refine ⟨_, (resV4 Try.results21 (RV.cellN _ _ _ _ _ _ Try.isAgg30 Try.sizeOf30 rfl (reads_im _ _) rfl rfl) (RV.tmp _ _ rfl) (RV.tmp _ _ rfl) (RV.tmp _ _ rfl)), ?_⟩
      first | exact ⟨by rw [ask_yes (by assumption)]; rfl, rfl⟩ | exact ⟨by rw [ask_full (by assumption) (by assumption)]; rfl, rfl⟩ | exact ⟨by rw [ask_more (by assumption) (by assumption)]; rfl, rfl⟩
  rotate_right
  focus
    have h1_ := h1
    try simp only [List.length_map, List.length_cons, List.length_nil, nrm] at h1
    all_goals try (exfalso; first | (simp at h1_; done) | omega)
    all_goals
      refine aw_skip ?_
      skip
  all_goals
    refine aw_seq ?_
    refine aw_region ?_
    refine aops_cons rfl rfl (AOp.fieldB Try.underlying30 rfl Try.sizeOf28 (by decide) rfl rfl rfl ?_)
    refine aops_cons rfl rfl (AOp.load1 Try.isAgg28 rfl rfl (reads_box _ (.head _)) rfl ?_)
    refine aops_cons rfl rfl (AOp.loadN Try.isAgg25 Try.sizeOf25 rfl rfl (reads_im _ _) rfl rfl ?_)
    refine aops_cons rfl rfl (AOp.callP Try.call64 rfl rfl rfl (by exact putL d.w w hu (by first | omega | (simp <;> omega) | (simp at * <;> omega))) ?_)
    refine aops_cons rfl rfl (AOp.move rfl rfl ?_)
    refine aops_cons rfl rfl (AOp.extract rfl rfl rfl ?_)
    refine aops_cons rfl rfl (AOp.extract rfl rfl rfl ?_)
    refine aops_cons rfl rfl (AOp.assign rfl rfl ?_)
    refine aops_cons rfl rfl (AOp.assign rfl rfl ?_)
    refine aops_nil ?_
    refine aw_seq ?_
    refine aw_seq ?_
    refine aw_region ?_
    refine aops_cons rfl rfl (AOp.move rfl rfl ?_)
    refine aops_cons rfl rfl (AOp.not rfl rfl ?_)
    refine aops_nil ?_
    refine aw_cond _ rfl (fun h2 => ?_) (fun h2 => ?_)
    focus
      have h2_ := h2
      try simp only [List.length_map, List.length_cons, List.length_nil, nrm] at h2
      all_goals try (exfalso; first | (simp at h2_; done) | omega)
      all_goals
        refine aw_seq ?_
        refine aw_region ?_
        refine aops_cons rfl rfl (AOp.loadN Try.isAgg30 Try.sizeOf30 rfl rfl (reads_box _ (.head _)) rfl rfl ?_)
        refine aops_cons rfl rfl (AOp.storeB' Try.sizeOf30 rfl rfl rfl rfl rfl (pull_here _ _) rfl rfl ?_)
        refine aops_cons rfl rfl (AOp.assign rfl rfl ?_)
        refine aops_cons rfl rfl (AOp.assign rfl rfl ?_)
        refine aops_cons rfl rfl (AOp.assign rfl rfl ?_)
        refine aops_nil ?_
        refine aw_weak ((wk_nil 25 4).trans (wk_frz (pull_here _ _) (.keep _ .nil) (subz_cons (s := 6) rfl (fz_id _ _ _) (subz_cons (s := 7) rfl (fz_id _ _ _) (subz_cons (s := 8) rfl (fz_row _ _) (subz_cons (s := 9) rfl (fz_id _ _ _) (subz_nil _ _ _))))))) ?_
        refine aw_weak (wk_imm (pull_here _ _) (subf_new (s := 6) rfl (subf_cons (s := 7) rfl (subf_cons (s := 8) rfl (subf_cons (s := 9) rfl (subf_nil _ _ _)))))) ?_
        refine aw_weak (wk_drop (List.nil_sublist _)) ?_
        refine aw_ret ?_
        refine ⟨_, (resV4 Try.results21 (RV.cellN _ _ _ _ _ _ Try.isAgg30 Try.sizeOf30 rfl (reads_im _ _) rfl rfl) (RV.tmp _ _ rfl) (RV.tmp _ _ rfl) (RV.tmp _ _ rfl)), ?_⟩
        first | exact ⟨by rw [ask_yes (by assumption)]; rfl, rfl⟩ | exact ⟨by rw [ask_full (by assumption) (by assumption)]; rfl, rfl⟩ | exact ⟨by rw [ask_more (by assumption) (by assumption)]; rfl, rfl⟩
    rotate_right
    focus
      have h2_ := h2
      try simp only [List.length_map, List.length_cons, List.length_nil, nrm] at h2
      all_goals try (exfalso; first | (simp at h2_; done) | omega)
      all_goals
        refine aw_skip ?_
        skip
    all_goals
      refine aw_seq ?_
      refine aw_region ?_
      refine aops_cons rfl rfl (AOp.move rfl rfl ?_)
      refine aops_cons rfl rfl (AOp.fieldB Try.underlying30 rfl Try.sizeOf28 (by decide) rfl rfl rfl ?_)
      refine aops_cons rfl rfl (AOp.storeB' Try.sizeOf28 rfl rfl rfl rfl rfl (pull_here _ _) rfl rfl ?_)
      refine aops_nil ?_
      refine aw_seq ?_
      refine aw_draw 5 [0, 0, 0, 0, 0] (by kernel_rfl) (by kernel_rfl) ?_
      refine psq_cons _ rfl (core0 (AOp.loadN Try.isAgg30 Try.sizeOf30 rfl rfl (reads_box _ (.head _)) rfl rfl ⟨rfl, rfl⟩)) ?_
      refine psq_cons _ rfl (core0 (AOp.loadN Try.isAgg30 Try.sizeOf30 rfl rfl (reads_box _ (.head _)) rfl rfl ⟨rfl, rfl⟩)) ?_
      refine psq_cons _ rfl (core0 (AOp.move rfl rfl ⟨rfl, rfl⟩)) ?_
      refine psq_cons _ rfl (core0 (AOp.loadN Try.isAgg25 Try.sizeOf25 rfl rfl (reads_im _ _) rfl rfl ⟨rfl, rfl⟩)) ?_
      refine psq_cons _ rfl (core0 (AOp.callP Try.call58 rfl rfl rfl (by exact clashD ⟨prn d.l now, (putW d.w w).1⟩ now w hs' (Nat.le_trans hpl hll) (by dsimp only; omega)) ⟨rfl, rfl⟩)) ?_
      refine psq_nil ?_
      refine aops_cons rfl rfl (AOp.storeB' Try.sizeOf30 rfl rfl rfl rfl rfl (pull_here _ _) rfl rfl ?_)
      refine aops_cons rfl rfl (AOp.assign rfl rfl ?_)
      refine aops_cons rfl rfl (AOp.assign rfl rfl ?_)
      refine aops_cons rfl rfl (AOp.assign rfl rfl ?_)
      refine aops_nil ?_
      refine aw_weak (wk_imm (pull_here _ _) (subf_new (s := 6) rfl (subf_cons (s := 7) rfl (subf_cons (s := 8) rfl (subf_cons (s := 9) rfl (subf_nil _ _ _)))))) ?_
      refine aw_weak (wk_drop (List.nil_sublist _)) ?_
      refine aw_ret ?_
      refine ⟨_, (resV4 Try.results21 (RV.cellN _ _ _ _ _ _ Try.isAgg30 Try.sizeOf30 rfl (reads_im _ _) rfl rfl) (RV.tmp _ _ rfl) (RV.tmp _ _ rfl) (RV.tmp _ _ rfl)), ?_⟩
      first | exact ⟨by rw [ask_yes (by assumption)]; rfl, rfl⟩ | exact ⟨by rw [ask_full (by assumption) (by assumption)]; rfl, rfl⟩ | exact ⟨by rw [ask_more (by assumption) (by assumption)]; rfl, rfl⟩

end Go.Proofs.Ytdacnebhlgibhaa
