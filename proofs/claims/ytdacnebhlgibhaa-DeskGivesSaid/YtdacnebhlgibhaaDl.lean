/- Own text: who waits is let have what he waits for, once all is given back. -/
import Derived.Test.YtdacnebhlgibhaaDu
set_option linter.unusedVariables false
set_option linter.unusedSimpArgs false
set_option linter.all false
set_option maxRecDepth 100000
set_option maxHeartbeats 2000000
namespace Go.Proofs.Ytdacnebhlgibhaa
open Go Go.Aw

theorem fl_yes {l : List Wt} {q : Int} {j : Nat} (hj : j < l.length) (h : l[j].f = q) : ((l.take j).filter (fun y => decide (y.f = q))).map Wt.e ++ [Wt.e l[j]] = ((l.take (j + 1)).filter (fun y => decide (y.f = q))).map Wt.e := by
  rw [List.take_add_one, List.getElem?_eq_getElem hj, List.filter_append, List.map_append]
  simp [h]
theorem fl_no {l : List Wt} {q : Int} {j : Nat} (hj : j < l.length) (h : ¬ l[j].f = q) : ((l.take j).filter (fun y => decide (y.f = q))).map Wt.e = ((l.take (j + 1)).filter (fun y => decide (y.f = q))).map Wt.e := by
  rw [List.take_add_one, List.getElem?_eq_getElem hj, List.filter_append, List.map_append]
  simp [h]
theorem mem_drp {l : List L} {c f : Int} {y : L} (h : y ∈ drp l c f) : y ∈ l ∧ ¬ (y.c = c ∧ y.f = f) := by
  unfold drp at h
  rw [List.mem_filter] at h
  have h2 := h.2
  simp only [Bool.not_eq_true', decide_eq_false_iff_not] at h2
  exact ⟨h.1, h2⟩
/-- What has been let and what waits make up those that waited at first. -/
def Kept (a : List Wt) (b first : List Wt) : Prop := (∀ g : Int, a.filter (fun y => decide (y.f = g)) ++ b.filter (fun y => decide (y.f = g)) = first.filter (fun y => decide (y.f = g))) ∧ a.length + b.length = first.length
theorem kept_nil (first : List Wt) : Kept [] first first := ⟨fun _ => rfl, by simp⟩
theorem kept_run {sv first : List Wt} {e : Dk} {now : Int} (hu : uniq e.w) (h : Kept sv e.w first) : Kept (sv ++ (runOf e now).2) (runOf e now).1.w first := by
  have h2 := run_keep now e.w.length ⟨prn e.l now, e.w⟩ [] hu
  refine ⟨fun g => ?_, ?_⟩
  · rw [List.filter_append, List.append_assoc]
    have := h2.1 g
    rw [show runD now e.w.length ⟨prn e.l now, e.w⟩ [] = runOf e now from rfl] at this
    rw [this, ← h.1 g]; rfl
  · have := h2.2
    rw [show runD now e.w.length ⟨prn e.l now, e.w⟩ [] = runOf e now from rfl] at this
    have h3 := h.2
    rw [List.length_append]
    simp only [List.length_nil] at this
    omega
theorem run_empties {e : Dk} {now : Int} (h : e.l = []) : (runOf e now).1.w.length ≤ e.w.length - 1 := run_less (d := ⟨prn e.l now, e.w⟩) (by rw [h]; rfl) (Nat.le_refl _)
theorem kept_end {sv r first : List Wt} (h : Kept sv r first) (hr : r.length = 0) (g : Int) : sv.filter (fun y => decide (y.f = g)) = first.filter (fun y => decide (y.f = g)) := by
  have := h.1 g
  rw [List.length_eq_zero_iff.1 hr] at this
  simpa using this
theorem runA_eq (r : Dk × List Wt) (now : Int) : runA r now = .tp [dk r.1, ws r.2, prs (callsOf r.1 now)] := rfl

theorem deskGivesWalk (p : List UInt8) : ACalls Try.prog 7 [bytes p] [] (fun r A' => r = .sc (.bool true)) (fun _ _ => False) := by
  unfold bytes
  refine acallsN Try.func7 rfl Try.ntmps7 rfl ?_
  refine aw_seq ?_
  refine aw_region ?_
  refine aops_cons rfl rfl (AOp.assign rfl rfl ?_)
  refine aops_nil ?_
  refine aw_seq ?_
  refine aw_seq ?_
  refine aw_region ?_
  refine aops_cons rfl rfl (AOp.callP Try.call13 rfl rfl rfl begun ?_)
  refine aops_cons rfl rfl (AOp.not rfl rfl ?_)
  refine aops_nil ?_
  refine aw_cond _ rfl (fun h1 => ?_) (fun h1 => ?_)
  focus
    have h1_ := h1
    try simp only [List.length_map, List.length_cons, List.length_nil, nrm] at h1
    all_goals try (exfalso; first | contradiction | (simp at h1_; done) | omega)
    all_goals
      refine aw_seq ?_
      refine aw_region ?_
      refine aops_cons rfl rfl (AOp.assign rfl rfl ?_)
      refine aops_nil ?_
      refine aw_ret ?_
      refine ⟨_, (res1 Try.results7 rfl), ?_⟩
      rfl
  rotate_right
  focus
    have h1_ := h1
    try simp only [List.length_map, List.length_cons, List.length_nil, nrm] at h1
    all_goals try (exfalso; first | contradiction | (simp at h1_; done) | omega)
    all_goals
      refine aw_skip ?_
      skip
  all_goals
    refine aw_seq ?_
    refine aw_seq ?_
    refine aw_region ?_
    refine aops_cons rfl rfl (AOp.move rfl rfl ?_)
    first
    | refine aops_cons rfl rfl (AOp.lenS (by first | exact List.length_map _ | rfl) Try.underlying22 rfl rfl ?_)
    | refine aops_cons rfl rfl (AOp.lenN Try.underlying22 rfl rfl ?_)
    | refine aops_cons rfl rfl (AOp.lenR (by first | exact List.length_map _ | rfl) Try.underlying22 (.head _) rfl rfl ?_)
    | refine aops_cons rfl rfl (AOp.lenR (by first | exact List.length_map _ | rfl) Try.underlying22 (.tail _ (.head _)) rfl rfl ?_)
    | refine aops_cons rfl rfl (AOp.lenR (by first | exact List.length_map _ | rfl) Try.underlying22 (.tail _ (.tail _ (.head _))) rfl rfl ?_)
    refine aops_cons rfl rfl (AOp.gtr rfl rfl rfl ?_)
    refine aops_nil ?_
    refine aw_cond _ rfl (fun h2 => ?_) (fun h2 => ?_)
    focus
      have h2_ := h2
      try simp only [List.length_map, List.length_cons, List.length_nil, nrm] at h2
      all_goals try (exfalso; first | contradiction | (simp at h2_; done) | omega)
      all_goals
        refine aw_seq ?_
        refine aw_region ?_
        refine aops_cons rfl rfl (AOp.assign rfl rfl ?_)
        refine aops_nil ?_
        refine aw_ret ?_
        refine ⟨_, (res1 Try.results7 rfl), ?_⟩
        rfl
    rotate_right
    focus
      have h2_ := h2
      try simp only [List.length_map, List.length_cons, List.length_nil, nrm] at h2
      all_goals try (exfalso; first | contradiction | (simp at h2_; done) | omega)
      all_goals
        refine aw_skip ?_
        skip
    all_goals
      refine aw_seq ?_
      refine aw_region ?_
      refine aops_cons rfl rfl (AOp.move rfl rfl ?_)
      refine aops_cons rfl rfl (AOp.callN (Af := []) Try.call14 rfl rfl rfl (List.Perm.refl _) (by exact made p) (fun r' A'' hr => ?_))
      obtain ⟨b, rfl, rfl⟩ := hr
      refine aops_cons rfl rfl (AOp.callN (Af := []) Try.call15 rfl rfl rfl (List.Perm.refl _) (by exact desk p b (by first | omega | (simp <;> omega) | (simp at * <;> omega))) (fun r' A'' hr => ?_))
      obtain ⟨d, now, n', rfl, hg, k0, kn, k1, rfl⟩ := hr
      refine aops_cons rfl rfl (AOp.move rfl rfl ?_)
      refine aops_cons rfl rfl (AOp.extract rfl rfl rfl ?_)
      refine aops_cons rfl rfl (AOp.extract rfl rfl rfl ?_)
      refine aops_cons rfl rfl (AOp.alloc Try.zeroValue30 (by kernel_rfl) rfl rfl ?_); intro b1
      first
      | refine aops_cons rfl rfl (AOp.storeB' Try.sizeOf30 rfl rfl rfl rfl rfl (pull_here _ _) rfl rfl ?_)
      | refine aops_cons rfl rfl (AOp.storeB' Try.sizeOf30 rfl rfl rfl rfl rfl (pull_there (pull_here _ _)) rfl rfl ?_)
      | refine aops_cons rfl rfl (AOp.storeB' Try.sizeOf30 rfl rfl rfl rfl rfl (pull_there (pull_there (pull_here _ _))) rfl rfl ?_)
      | refine aops_cons rfl rfl (AOp.storeR' Try.sizeOf30 rfl rfl rfl rfl rfl (pull_here _ _) (by first | exact idx_nat (by first | omega | (simp <;> omega) | (simp at * <;> omega)) | exact idx_map (by first | omega | (simp <;> omega) | (simp at * <;> omega)) | assumption) rfl rfl rfl ?_)
      | refine aops_cons rfl rfl (AOp.storeR' Try.sizeOf30 rfl rfl rfl rfl rfl (pull_there (pull_here _ _)) (by first | exact idx_nat (by first | omega | (simp <;> omega) | (simp at * <;> omega)) | exact idx_map (by first | omega | (simp <;> omega) | (simp at * <;> omega)) | assumption) rfl rfl rfl ?_)
      | refine aops_cons rfl rfl (AOp.storeR' Try.sizeOf30 rfl rfl rfl rfl rfl (pull_there (pull_there (pull_here _ _))) (by first | exact idx_nat (by first | omega | (simp <;> omega) | (simp at * <;> omega)) | exact idx_map (by first | omega | (simp <;> omega) | (simp at * <;> omega)) | assumption) rfl rfl rfl ?_)
      refine aops_cons rfl rfl (AOp.assign rfl rfl ?_)
      refine aops_nil ?_
      refine aw_seq ?_
      refine aw_region ?_
      first
      | refine aops_cons rfl rfl (AOp.fieldI Try.underlying30 rfl Try.sizeOf28 (by decide) rfl rfl rfl ?_)
      | refine aops_cons rfl rfl (AOp.fieldB Try.underlying30 rfl Try.sizeOf28 (by decide) rfl rfl rfl ?_)
      | refine aops_cons rfl rfl (AOp.fieldR Try.underlying30 rfl Try.sizeOf28 (by decide) rfl rfl rfl ?_)
      first
      | refine aops_cons rfl rfl (AOp.load1 Try.isAgg28 rfl rfl (reads_im _ _) rfl ?_)
      | refine aops_cons rfl rfl (AOp.load1 Try.isAgg28 rfl rfl (reads_box _ (.head _)) rfl ?_)
      | refine aops_cons rfl rfl (AOp.load1 Try.isAgg28 rfl rfl (reads_box _ (.tail _ (.head _))) rfl ?_)
      | refine aops_cons rfl rfl (AOp.load1 Try.isAgg28 rfl rfl (reads_box _ (.tail _ (.tail _ (.head _)))) rfl ?_)
      | refine aops_cons rfl rfl (AOp.load1 Try.isAgg28 rfl rfl (reads_row _ (.head _) (idx_nat (by first | omega | (simp <;> omega) | (simp at * <;> omega))) (by first | omega | (simp <;> omega) | (simp at * <;> omega))) rfl ?_)
      | refine aops_cons rfl rfl (AOp.load1 Try.isAgg28 rfl rfl (reads_row _ (.head _) (idx_map (by first | omega | (simp <;> omega) | (simp at * <;> omega))) (by first | omega | (simp <;> omega) | (simp at * <;> omega))) rfl ?_)
      | refine aops_cons rfl rfl (AOp.load1 Try.isAgg28 rfl rfl (reads_row _ (.head _) (by assumption) (by first | omega | (simp <;> omega) | (simp at * <;> omega))) rfl ?_)
      | refine aops_cons rfl rfl (AOp.load1 Try.isAgg28 rfl rfl (reads_row _ (.tail _ (.head _)) (idx_nat (by first | omega | (simp <;> omega) | (simp at * <;> omega))) (by first | omega | (simp <;> omega) | (simp at * <;> omega))) rfl ?_)
      | refine aops_cons rfl rfl (AOp.load1 Try.isAgg28 rfl rfl (reads_row _ (.tail _ (.head _)) (idx_map (by first | omega | (simp <;> omega) | (simp at * <;> omega))) (by first | omega | (simp <;> omega) | (simp at * <;> omega))) rfl ?_)
      | refine aops_cons rfl rfl (AOp.load1 Try.isAgg28 rfl rfl (reads_row _ (.tail _ (.head _)) (by assumption) (by first | omega | (simp <;> omega) | (simp at * <;> omega))) rfl ?_)
      | refine aops_cons rfl rfl (AOp.load1 Try.isAgg28 rfl rfl (reads_row _ (.tail _ (.tail _ (.head _))) (idx_nat (by first | omega | (simp <;> omega) | (simp at * <;> omega))) (by first | omega | (simp <;> omega) | (simp at * <;> omega))) rfl ?_)
      | refine aops_cons rfl rfl (AOp.load1 Try.isAgg28 rfl rfl (reads_row _ (.tail _ (.tail _ (.head _))) (idx_map (by first | omega | (simp <;> omega) | (simp at * <;> omega))) (by first | omega | (simp <;> omega) | (simp at * <;> omega))) rfl ?_)
      | refine aops_cons rfl rfl (AOp.load1 Try.isAgg28 rfl rfl (reads_row _ (.tail _ (.tail _ (.head _))) (by assumption) (by first | omega | (simp <;> omega) | (simp at * <;> omega))) rfl ?_)
      refine aops_cons rfl rfl (AOp.assign rfl rfl ?_)
      refine aops_nil ?_
      refine aw_seq ?_
      refine aw_region ?_
      refine aops_cons rfl rfl (AOp.assign rfl rfl ?_)
      refine aops_nil ?_
      refine aw_seq ?_
      refine aw_seq ?_
      refine aw_region ?_
      refine aops_cons rfl rfl (AOp.assign rfl rfl ?_)
      refine aops_nil ?_
      refine aw_block ?_
      refine aw_loop (β := Nat × Dk × List Wt × Value) (S := (fun (z0 : Nat × Dk × List Wt × Value) => match z0 with | (i, d1, sv, wl) => [(3, .sc (.pointer (some ⟨b1, 0, none⟩))), (4, .sc (.int .i64 now)), (5, ws d.w), (6, .sc wl), (7, .sc (.int .i64 (i : Int)))])) (B := (fun (z0 : Nat × Dk × List Wt × Value) => match z0 with | (i, d1, sv, wl) => [.box b1 30 d1.e, .row wl 25 4 (sv.map Wt.e)])) (pre := (fun (z0 : Nat × Dk × List Wt × Value) => match z0 with | (i, d1, sv, wl) => i ≤ 12 ∧ GD 3 d1 now ∧ d1.w.length ≤ 3 - i ∧ Kept sv d1.w d.w)) (μ := (fun (z0 : Nat × Dk × List Wt × Value) => match z0 with | (i, d1, sv, wl) => 12 - i)) (0, d, [], .slice none 0 0) ((wk_nil 25 4).trans ((wk_perm (List.Perm.swap _ _ _)).trans ((wk_drop (A' := [.box b1 30 d.e, .row (.slice none 0 0) 25 4 []]) ?_).trans (wk_env (sube_cons rfl (sube_cons rfl (sube_cons rfl (sube_cons rfl (sube_cons rfl (sube_nil _)))))))))) ?_ ?_; (focus ((repeat (first | exact List.Sublist.slnil | apply List.Sublist.cons_cons | apply List.Sublist.cons)); done))
      · exact ⟨by omega, hg, hg.lenw, kept_nil _⟩
      · rintro ⟨i, d1, sv, wl⟩ ⟨hi, hg1, hw1, hk1⟩
        change AW _ _ _ ([(3, .sc (.pointer (some ⟨b1, 0, none⟩))), (4, .sc (.int .i64 now)), (5, ws d.w), (6, .sc wl), (7, .sc (.int .i64 (i : Int)))] : Env) ([.box b1 30 d1.e, .row wl 25 4 (sv.map Wt.e)] : List Blk) _
        have hgw := hg.lenw
        have hsvl := hk1.2
        refine aw_seq ?_
        refine aw_seq ?_
        refine aw_region ?_
        refine aops_cons rfl rfl (AOp.move rfl rfl ?_)
        refine aops_cons rfl rfl (AOp.lss rfl rfl rfl ?_)
        refine aops_nil ?_
        refine aw_cond _ rfl (fun h3 => ?_) (fun h3 => ?_)
        focus
          have h3_ := h3
          try simp only [List.length_map, List.length_cons, List.length_nil, nrm] at h3
          all_goals try (exfalso; first | contradiction | (simp at h3_; done) | omega)
          all_goals
            refine aw_skip ?_
            skip
        rotate_right
        focus
          have h3_ := h3
          try simp only [List.length_map, List.length_cons, List.length_nil, nrm] at h3
          all_goals try (exfalso; first | contradiction | (simp at h3_; done) | omega)
          all_goals
            refine aw_exit ?_
            refine aw_seq ?_
            refine aw_seq ?_
            have hi12 : i = 12 := by omega
            have hz : d1.w.length = 0 := by omega
            have hsv : sv.length = d.w.length := by have := hk1.2; omega
            refine aw_region ?_
            first
            | refine aops_cons rfl rfl (AOp.fieldI Try.underlying30 rfl Try.sizeOf28 (by decide) rfl rfl rfl ?_)
            | refine aops_cons rfl rfl (AOp.fieldB Try.underlying30 rfl Try.sizeOf28 (by decide) rfl rfl rfl ?_)
            | refine aops_cons rfl rfl (AOp.fieldR Try.underlying30 rfl Try.sizeOf28 (by decide) rfl rfl rfl ?_)
            first
            | refine aops_cons rfl rfl (AOp.load1 Try.isAgg28 rfl rfl (reads_im _ _) rfl ?_)
            | refine aops_cons rfl rfl (AOp.load1 Try.isAgg28 rfl rfl (reads_box _ (.head _)) rfl ?_)
            | refine aops_cons rfl rfl (AOp.load1 Try.isAgg28 rfl rfl (reads_box _ (.tail _ (.head _))) rfl ?_)
            | refine aops_cons rfl rfl (AOp.load1 Try.isAgg28 rfl rfl (reads_box _ (.tail _ (.tail _ (.head _)))) rfl ?_)
            | refine aops_cons rfl rfl (AOp.load1 Try.isAgg28 rfl rfl (reads_row _ (.head _) (idx_nat (by first | omega | (simp <;> omega) | (simp at * <;> omega))) (by first | omega | (simp <;> omega) | (simp at * <;> omega))) rfl ?_)
            | refine aops_cons rfl rfl (AOp.load1 Try.isAgg28 rfl rfl (reads_row _ (.head _) (idx_map (by first | omega | (simp <;> omega) | (simp at * <;> omega))) (by first | omega | (simp <;> omega) | (simp at * <;> omega))) rfl ?_)
            | refine aops_cons rfl rfl (AOp.load1 Try.isAgg28 rfl rfl (reads_row _ (.head _) (by assumption) (by first | omega | (simp <;> omega) | (simp at * <;> omega))) rfl ?_)
            | refine aops_cons rfl rfl (AOp.load1 Try.isAgg28 rfl rfl (reads_row _ (.tail _ (.head _)) (idx_nat (by first | omega | (simp <;> omega) | (simp at * <;> omega))) (by first | omega | (simp <;> omega) | (simp at * <;> omega))) rfl ?_)
            | refine aops_cons rfl rfl (AOp.load1 Try.isAgg28 rfl rfl (reads_row _ (.tail _ (.head _)) (idx_map (by first | omega | (simp <;> omega) | (simp at * <;> omega))) (by first | omega | (simp <;> omega) | (simp at * <;> omega))) rfl ?_)
            | refine aops_cons rfl rfl (AOp.load1 Try.isAgg28 rfl rfl (reads_row _ (.tail _ (.head _)) (by assumption) (by first | omega | (simp <;> omega) | (simp at * <;> omega))) rfl ?_)
            | refine aops_cons rfl rfl (AOp.load1 Try.isAgg28 rfl rfl (reads_row _ (.tail _ (.tail _ (.head _))) (idx_nat (by first | omega | (simp <;> omega) | (simp at * <;> omega))) (by first | omega | (simp <;> omega) | (simp at * <;> omega))) rfl ?_)
            | refine aops_cons rfl rfl (AOp.load1 Try.isAgg28 rfl rfl (reads_row _ (.tail _ (.tail _ (.head _))) (idx_map (by first | omega | (simp <;> omega) | (simp at * <;> omega))) (by first | omega | (simp <;> omega) | (simp at * <;> omega))) rfl ?_)
            | refine aops_cons rfl rfl (AOp.load1 Try.isAgg28 rfl rfl (reads_row _ (.tail _ (.tail _ (.head _))) (by assumption) (by first | omega | (simp <;> omega) | (simp at * <;> omega))) rfl ?_)
            first
            | refine aops_cons rfl rfl (AOp.lenS (by first | exact List.length_map _ | rfl) Try.underlying28 rfl rfl ?_)
            | refine aops_cons rfl rfl (AOp.lenN Try.underlying28 rfl rfl ?_)
            | refine aops_cons rfl rfl (AOp.lenR (by first | exact List.length_map _ | rfl) Try.underlying28 (.head _) rfl rfl ?_)
            | refine aops_cons rfl rfl (AOp.lenR (by first | exact List.length_map _ | rfl) Try.underlying28 (.tail _ (.head _)) rfl rfl ?_)
            | refine aops_cons rfl rfl (AOp.lenR (by first | exact List.length_map _ | rfl) Try.underlying28 (.tail _ (.tail _ (.head _))) rfl rfl ?_)
            refine aops_cons rfl rfl (AOp.neq rfl rfl rfl ?_)
            refine aops_cons rfl rfl (AOp.move rfl rfl ?_)
            refine aops_guard 4 false 61 _ rfl rfl rfl rfl rfl (fun g4 => ?_) (fun g4 => ?_)
            focus
              have g4_ := g4
              try simp only [List.length_map, List.length_cons, List.length_nil, nrm] at g4
              all_goals try (exfalso; first | contradiction | (simp at g4_; done) | omega)
              all_goals
                refine AOp.move rfl rfl ?_
                refine aops_guard 4 false 61 _ rfl rfl rfl rfl rfl (fun _ => ?_) (fun hh => by exfalso; first | (rw [g4_] at hh; exact absurd hh (by decide)) | (revert hh; simp [g4_]))
                first
                | refine AOp.lenS (by first | exact List.length_map _ | rfl) Try.underlying28 rfl rfl ?_
                | refine AOp.lenN Try.underlying28 rfl rfl ?_
                | refine AOp.lenR (by first | exact List.length_map _ | rfl) Try.underlying28 (.head _) rfl rfl ?_
                | refine AOp.lenR (by first | exact List.length_map _ | rfl) Try.underlying28 (.tail _ (.head _)) rfl rfl ?_
                | refine AOp.lenR (by first | exact List.length_map _ | rfl) Try.underlying28 (.tail _ (.tail _ (.head _))) rfl rfl ?_
                refine aops_guard 4 false 61 _ rfl rfl rfl rfl rfl (fun _ => ?_) (fun hh => by exfalso; first | (rw [g4_] at hh; exact absurd hh (by decide)) | (revert hh; simp [g4_]))
                refine AOp.move rfl rfl ?_
                refine aops_guard 4 false 61 _ rfl rfl rfl rfl rfl (fun _ => ?_) (fun hh => by exfalso; first | (rw [g4_] at hh; exact absurd hh (by decide)) | (revert hh; simp [g4_]))
                first
                | refine AOp.lenS (by first | exact List.length_map _ | rfl) Try.underlying28 rfl rfl ?_
                | refine AOp.lenN Try.underlying28 rfl rfl ?_
                | refine AOp.lenR (by first | exact List.length_map _ | rfl) Try.underlying28 (.head _) rfl rfl ?_
                | refine AOp.lenR (by first | exact List.length_map _ | rfl) Try.underlying28 (.tail _ (.head _)) rfl rfl ?_
                | refine AOp.lenR (by first | exact List.length_map _ | rfl) Try.underlying28 (.tail _ (.tail _ (.head _))) rfl rfl ?_
                refine aops_guard 4 false 61 _ rfl rfl rfl rfl rfl (fun _ => ?_) (fun hh => by exfalso; first | (rw [g4_] at hh; exact absurd hh (by decide)) | (revert hh; simp [g4_]))
                refine AOp.neq rfl rfl rfl ?_
            rotate_right
            focus
              have g4_ := g4
              try simp only [List.length_map, List.length_cons, List.length_nil, nrm] at g4
              all_goals try (exfalso; first | contradiction | (simp at g4_; done) | omega)
              all_goals
                refine aops_guard 4 false 61 _ rfl rfl rfl rfl rfl (fun hh => by exfalso; first | (rw [g4_] at hh; exact absurd hh (by decide)) | (revert hh; simp [g4_])) (fun _ => ?_)
                refine aops_guard 4 false 61 _ rfl rfl rfl rfl rfl (fun hh => by exfalso; first | (rw [g4_] at hh; exact absurd hh (by decide)) | (revert hh; simp [g4_])) (fun _ => ?_)
                refine aops_guard 4 false 61 _ rfl rfl rfl rfl rfl (fun hh => by exfalso; first | (rw [g4_] at hh; exact absurd hh (by decide)) | (revert hh; simp [g4_])) (fun _ => ?_)
                refine aops_guard 4 false 61 _ rfl rfl rfl rfl rfl (fun hh => by exfalso; first | (rw [g4_] at hh; exact absurd hh (by decide)) | (revert hh; simp [g4_])) (fun _ => ?_)
            all_goals
              first
              | refine aops_cons rfl rfl (AOp.pick_t rfl rfl (by first | assumption | rfl) rfl ?_)
              | refine aops_cons rfl rfl (AOp.pick_f rfl rfl (by first | assumption | rfl) rfl ?_)
              refine aops_nil ?_
              refine aw_cond _ rfl (fun h5 => ?_) (fun h5 => ?_)
              focus
                have h5_ := h5
                try simp only [List.length_map, List.length_cons, List.length_nil, nrm] at h5
                all_goals try (exfalso; first | contradiction | (simp at h5_; done) | omega)
                all_goals
                  refine aw_seq ?_
                  refine aw_region ?_
                  refine aops_cons rfl rfl (AOp.assign rfl rfl ?_)
                  refine aops_nil ?_
                  refine aw_ret ?_
                  refine ⟨_, (res1 Try.results7 rfl), ?_⟩
                  rfl
              rotate_right
              focus
                have h5_ := h5
                try simp only [List.length_map, List.length_cons, List.length_nil, nrm] at h5
                all_goals try (exfalso; first | contradiction | (simp at h5_; done) | omega)
                all_goals
                  refine aw_skip ?_
                  skip
              all_goals
                refine aw_seq ?_
                refine aw_seq ?_
                refine aw_region ?_
                refine aops_cons rfl rfl (AOp.assign rfl rfl ?_)
                refine aops_nil ?_
                refine aw_block ?_
                refine aw_loop (β := Nat) (S := (fun (z0 : Nat) => match z0 with | q => [(5, ws d.w), (6, .sc wl), (13, .sc (.int .i64 ((q : Int) + 1)))])) (B := (fun (z0 : Nat) => match z0 with | q => [.row wl 25 4 (sv.map Wt.e)])) (pre := (fun (z0 : Nat) => match z0 with | q => q ≤ 3)) (μ := (fun (z0 : Nat) => match z0 with | q => 3 - q)) 0 ((wk_drop (A' := [.row wl 25 4 (sv.map Wt.e)]) (by (focus ((repeat (first | exact List.Sublist.slnil | apply List.Sublist.cons_cons | apply List.Sublist.cons)); done)))).trans (wk_env (sube_cons rfl (sube_cons rfl (sube_cons rfl (sube_nil _)))))) ?_ ?_
                · exact Nat.zero_le _
                · rintro q hqq
                  change AW _ _ _ ([(5, ws d.w), (6, .sc wl), (13, .sc (.int .i64 ((q : Int) + 1)))] : Env) ([.row wl 25 4 (sv.map Wt.e)] : List Blk) _
                  replace hqq : q ≤ 3 := hqq
                  refine aw_seq ?_
                  refine aw_seq ?_
                  refine aw_region ?_
                  refine aops_cons rfl rfl (AOp.move rfl rfl ?_)
                  refine aops_cons rfl rfl (AOp.leq rfl rfl rfl ?_)
                  refine aops_nil ?_
                  refine aw_cond _ rfl (fun h6 => ?_) (fun h6 => ?_)
                  focus
                    have h6_ := h6
                    try simp only [List.length_map, List.length_cons, List.length_nil, nrm] at h6
                    all_goals try (exfalso; first | contradiction | (simp at h6_; done) | omega)
                    all_goals
                      refine aw_skip ?_
                      skip
                  rotate_right
                  focus
                    have h6_ := h6
                    try simp only [List.length_map, List.length_cons, List.length_nil, nrm] at h6
                    all_goals try (exfalso; first | contradiction | (simp at h6_; done) | omega)
                    all_goals
                      refine aw_exit ?_
                      refine aw_seq ?_
                      refine aw_region ?_
                      refine aops_cons rfl rfl (AOp.assign rfl rfl ?_)
                      refine aops_nil ?_
                      refine aw_ret ?_
                      refine ⟨_, (res1 Try.results7 rfl), ?_⟩
                      rfl
                  all_goals
                    refine aw_seq ?_
                    refine aw_block ?_
                    refine aw_seq ?_
                    refine aw_region ?_
                    refine aops_cons rfl rfl (AOp.assign rfl rfl ?_)
                    refine aops_cons rfl rfl (AOp.assign rfl rfl ?_)
                    refine aops_nil ?_
                    refine aw_seq ?_
                    refine aw_seq ?_
                    refine aw_region ?_
                    refine aops_cons rfl rfl (AOp.assign rfl rfl ?_)
                    refine aops_nil ?_
                    refine aw_block ?_
                    refine aw_loop (β := Nat × Value × Value) (S := (fun (z0 : Nat × Value × Value) => match z0 with | (j, wa, wb) => [(5, ws d.w), (6, .sc wl), (13, .sc (.int .i64 ((q : Int) + 1))), (14, .sc wa), (15, .sc wb), (16, .sc (.int .i64 (j : Int)))])) (B := (fun (z0 : Nat × Value × Value) => match z0 with | (j, wa, wb) => [.row wb 25 4 (((sv.take j).filter (fun y => decide (y.f = (q : Int) + 1))).map Wt.e), .row wa 25 4 (((d.w.take j).filter (fun y => decide (y.f = (q : Int) + 1))).map Wt.e), .row wl 25 4 (sv.map Wt.e)])) (pre := (fun (z0 : Nat × Value × Value) => match z0 with | (j, wa, wb) => j ≤ d.w.length)) (μ := (fun (z0 : Nat × Value × Value) => match z0 with | (j, wa, wb) => d.w.length - j)) (0, .slice none 0 0, .slice none 0 0) ((wk_nil 25 4).trans ((wk_nil 25 4).trans (wk_env (sube_cons rfl (sube_cons rfl (sube_cons rfl (sube_cons rfl (sube_cons rfl (sube_cons rfl (sube_nil _)))))))))) ?_ ?_
                    · exact Nat.zero_le _
                    · rintro ⟨j, wa, wb⟩ hj
                      change AW _ _ _ ([(5, ws d.w), (6, .sc wl), (13, .sc (.int .i64 ((q : Int) + 1))), (14, .sc wa), (15, .sc wb), (16, .sc (.int .i64 (j : Int)))] : Env) ([.row wb 25 4 (((sv.take j).filter (fun y => decide (y.f = (q : Int) + 1))).map Wt.e), .row wa 25 4 (((d.w.take j).filter (fun y => decide (y.f = (q : Int) + 1))).map Wt.e), .row wl 25 4 (sv.map Wt.e)] : List Blk) _
                      replace hj : j ≤ d.w.length := hj
                      have fa : ((d.w.take j).filter (fun y => decide (y.f = (q : Int) + 1))).length ≤ 10 := by have := List.length_filter_le (fun y : Wt => decide (y.f = (q : Int) + 1)) (d.w.take j); rw [List.length_take] at this; omega
                      have fb : ((sv.take j).filter (fun y => decide (y.f = (q : Int) + 1))).length ≤ 10 := by have := List.length_filter_le (fun y : Wt => decide (y.f = (q : Int) + 1)) (sv.take j); rw [List.length_take] at this; omega
                      refine aw_seq ?_
                      refine aw_seq ?_
                      refine aw_region ?_
                      refine aops_cons rfl rfl (AOp.move rfl rfl ?_)
                      refine aops_cons rfl rfl (AOp.move rfl rfl ?_)
                      first
                      | refine aops_cons rfl rfl (AOp.lenS (by first | exact List.length_map _ | rfl) Try.underlying28 rfl rfl ?_)
                      | refine aops_cons rfl rfl (AOp.lenN Try.underlying28 rfl rfl ?_)
                      | refine aops_cons rfl rfl (AOp.lenR (by first | exact List.length_map _ | rfl) Try.underlying28 (.head _) rfl rfl ?_)
                      | refine aops_cons rfl rfl (AOp.lenR (by first | exact List.length_map _ | rfl) Try.underlying28 (.tail _ (.head _)) rfl rfl ?_)
                      | refine aops_cons rfl rfl (AOp.lenR (by first | exact List.length_map _ | rfl) Try.underlying28 (.tail _ (.tail _ (.head _))) rfl rfl ?_)
                      refine aops_cons rfl rfl (AOp.lss rfl rfl rfl ?_)
                      refine aops_nil ?_
                      refine aw_cond _ rfl (fun h7 => ?_) (fun h7 => ?_)
                      focus
                        have h7_ := h7
                        try simp only [List.length_map, List.length_cons, List.length_nil, nrm] at h7
                        all_goals try (exfalso; first | contradiction | (simp at h7_; done) | omega)
                        all_goals
                          refine aw_skip ?_
                          skip
                      rotate_right
                      focus
                        have h7_ := h7
                        try simp only [List.length_map, List.length_cons, List.length_nil, nrm] at h7
                        all_goals try (exfalso; first | contradiction | (simp at h7_; done) | omega)
                        all_goals
                          refine aw_exit ?_
                          refine aw_seq ?_
                          have hj5 : j = d.w.length := by omega
                          refine aw_weak ((wk_frz (pull_here _ _) (.keep _ (.keep _ .nil)) (subz_cons (s := 5) rfl (fz_id _ _ _) (subz_cons (s := 6) rfl (fz_id _ _ _) (subz_cons (s := 13) rfl (fz_id _ _ _) (subz_cons (s := 14) rfl (fz_id _ _ _) (subz_cons (s := 15) rfl (fz_row _ _) (subz_nil _ _ _))))))).trans (wk_frz (pull_here _ _) (.keep _ .nil) (subz_cons (s := 5) rfl (fz_id _ _ _) (subz_cons (s := 6) rfl (fz_id _ _ _) (subz_cons (s := 13) rfl (fz_id _ _ _) (subz_cons (s := 14) rfl (fz_row _ _) (subz_cons (s := 15) rfl (fz_id _ _ _) (subz_nil _ _ _)))))))) ?_
                          have hq : ((d.w.take j).filter (fun y => decide (y.f = (q : Int) + 1))) = ((sv.take j).filter (fun y => decide (y.f = (q : Int) + 1))) := by rw [hj5, List.take_of_length_le (Nat.le_refl d.w.length), List.take_of_length_le (by omega)]; exact (kept_end hk1 hz _).symm
                          refine aw_region ?_
                          refine aops_cons rfl rfl (AOp.move rfl rfl ?_)
                          refine aops_cons rfl rfl (AOp.move rfl rfl ?_)
                          refine aops_cons rfl rfl (AOp.callP Try.call20 rfl rfl rfl (by exact sameWaitsT hq (by first | omega | (simp <;> omega) | (simp at * <;> omega))) ?_)
                          refine aops_cons rfl rfl (AOp.not rfl rfl ?_)
                          refine aops_nil ?_
                          refine aw_cond _ rfl (fun h8 => ?_) (fun h8 => ?_)
                          focus
                            have h8_ := h8
                            try simp only [List.length_map, List.length_cons, List.length_nil, nrm] at h8
                            all_goals try (exfalso; first | contradiction | (simp at h8_; done) | omega)
                            all_goals
                              refine aw_seq ?_
                              refine aw_region ?_
                              refine aops_cons rfl rfl (AOp.assign rfl rfl ?_)
                              refine aops_nil ?_
                              refine aw_ret ?_
                              refine ⟨_, (res1 Try.results7 rfl), ?_⟩
                              rfl
                          rotate_right
                          focus
                            have h8_ := h8
                            try simp only [List.length_map, List.length_cons, List.length_nil, nrm] at h8
                            all_goals try (exfalso; first | contradiction | (simp at h8_; done) | omega)
                            all_goals
                              refine aw_skip ?_
                              skip
                          all_goals
                            refine aw_region ?_
                            refine aops_cons rfl rfl (AOp.move rfl rfl ?_)
                            first
                            | refine aops_cons rfl rfl (AOp.addE rfl rfl rfl (by first | omega | (simp <;> omega) | (simp at * <;> omega)) (by first | omega | (simp <;> omega) | (simp at * <;> omega)) ?_)
                            | refine aops_cons rfl rfl (AOp.add rfl rfl rfl rfl ?_)
                            refine aops_cons rfl rfl (AOp.assign rfl rfl ?_)
                            refine aops_nil ?_
                            refine ⟨q + 1, ?_, ?_, (wk_env (sube_cons rfl (sube_cons rfl (sube_cons rfl (sube_nil _)))))⟩
                            · dsimp only; omega
                            · dsimp only; omega
                      all_goals
                        refine aw_seq ?_
                        refine aw_block ?_
                        refine aw_seq ?_
                        refine aw_seq ?_
                        refine aw_region ?_
                        refine aops_cons rfl rfl (AOp.move rfl rfl ?_)
                        refine aops_cons rfl rfl (AOp.move rfl rfl ?_)
                        first
                        | refine aops_cons rfl rfl (AOp.indexLN Try.underlying28 Try.sizeOf25 rfl rfl rfl (by first | omega | (simp <;> omega) | (simp at * <;> omega)) (fun _ => rfl) ?_)
                        | refine aops_cons rfl rfl (AOp.indexLI Try.underlying28 Try.sizeOf25 rfl rfl rfl (by first | omega | (simp <;> omega) | (simp at * <;> omega)) (by first | omega | (simp <;> omega) | (simp at * <;> omega)) (fun _ => rfl) ?_)
                        | refine aops_cons rfl rfl (AOp.indexS Try.underlying28 Try.sizeOf25 (by assumption) rfl rfl rfl (by first | omega | (simp <;> omega) | (simp at * <;> omega)) (by assumption) ?_)
                        | refine aops_cons rfl rfl (AOp.indexS Try.underlying28 Try.sizeOf25 (by assumption) rfl rfl rfl (by first | omega | (simp <;> omega) | (simp at * <;> omega)) (List.getElem?_eq_getElem (by first | omega | (simp <;> omega) | (simp at * <;> omega))) ?_)
                        | refine aops_cons rfl rfl (AOp.indexS Try.underlying28 Try.sizeOf25 (by exact all_len rfl) rfl rfl rfl (by first | omega | (simp <;> omega) | (simp at * <;> omega)) rfl ?_)
                        | refine aops_cons rfl rfl (AOp.indexR Try.underlying28 Try.sizeOf25 (.head _) rfl rfl rfl (by first | omega | (simp <;> omega) | (simp at * <;> omega)) (by first | omega | (simp <;> omega) | (simp at * <;> omega)) ?_)
                        | refine aops_cons rfl rfl (AOp.indexR Try.underlying28 Try.sizeOf25 (.tail _ (.head _)) rfl rfl rfl (by first | omega | (simp <;> omega) | (simp at * <;> omega)) (by first | omega | (simp <;> omega) | (simp at * <;> omega)) ?_)
                        | refine aops_cons rfl rfl (AOp.indexR Try.underlying28 Try.sizeOf25 (.tail _ (.tail _ (.head _))) rfl rfl rfl (by first | omega | (simp <;> omega) | (simp at * <;> omega)) (by first | omega | (simp <;> omega) | (simp at * <;> omega)) ?_)
                        first
                        | refine aops_cons rfl rfl (AOp.fieldI Try.underlying25 rfl Try.sizeOf3 (by decide) rfl rfl rfl ?_)
                        | refine aops_cons rfl rfl (AOp.fieldB Try.underlying25 rfl Try.sizeOf3 (by decide) rfl rfl rfl ?_)
                        | refine aops_cons rfl rfl (AOp.fieldR Try.underlying25 rfl Try.sizeOf3 (by decide) rfl rfl rfl ?_)
                        first
                        | refine aops_cons rfl rfl (AOp.load1 Try.isAgg3 rfl rfl (reads_im _ _) rfl ?_)
                        | refine aops_cons rfl rfl (AOp.load1 Try.isAgg3 rfl rfl (reads_box _ (.head _)) rfl ?_)
                        | refine aops_cons rfl rfl (AOp.load1 Try.isAgg3 rfl rfl (reads_box _ (.tail _ (.head _))) rfl ?_)
                        | refine aops_cons rfl rfl (AOp.load1 Try.isAgg3 rfl rfl (reads_box _ (.tail _ (.tail _ (.head _)))) rfl ?_)
                        | refine aops_cons rfl rfl (AOp.load1 Try.isAgg3 rfl rfl (reads_row _ (.head _) (idx_nat (by first | omega | (simp <;> omega) | (simp at * <;> omega))) (by first | omega | (simp <;> omega) | (simp at * <;> omega))) rfl ?_)
                        | refine aops_cons rfl rfl (AOp.load1 Try.isAgg3 rfl rfl (reads_row _ (.head _) (idx_map (by first | omega | (simp <;> omega) | (simp at * <;> omega))) (by first | omega | (simp <;> omega) | (simp at * <;> omega))) rfl ?_)
                        | refine aops_cons rfl rfl (AOp.load1 Try.isAgg3 rfl rfl (reads_row _ (.head _) (by assumption) (by first | omega | (simp <;> omega) | (simp at * <;> omega))) rfl ?_)
                        | refine aops_cons rfl rfl (AOp.load1 Try.isAgg3 rfl rfl (reads_row _ (.tail _ (.head _)) (idx_nat (by first | omega | (simp <;> omega) | (simp at * <;> omega))) (by first | omega | (simp <;> omega) | (simp at * <;> omega))) rfl ?_)
                        | refine aops_cons rfl rfl (AOp.load1 Try.isAgg3 rfl rfl (reads_row _ (.tail _ (.head _)) (idx_map (by first | omega | (simp <;> omega) | (simp at * <;> omega))) (by first | omega | (simp <;> omega) | (simp at * <;> omega))) rfl ?_)
                        | refine aops_cons rfl rfl (AOp.load1 Try.isAgg3 rfl rfl (reads_row _ (.tail _ (.head _)) (by assumption) (by first | omega | (simp <;> omega) | (simp at * <;> omega))) rfl ?_)
                        | refine aops_cons rfl rfl (AOp.load1 Try.isAgg3 rfl rfl (reads_row _ (.tail _ (.tail _ (.head _))) (idx_nat (by first | omega | (simp <;> omega) | (simp at * <;> omega))) (by first | omega | (simp <;> omega) | (simp at * <;> omega))) rfl ?_)
                        | refine aops_cons rfl rfl (AOp.load1 Try.isAgg3 rfl rfl (reads_row _ (.tail _ (.tail _ (.head _))) (idx_map (by first | omega | (simp <;> omega) | (simp at * <;> omega))) (by first | omega | (simp <;> omega) | (simp at * <;> omega))) rfl ?_)
                        | refine aops_cons rfl rfl (AOp.load1 Try.isAgg3 rfl rfl (reads_row _ (.tail _ (.tail _ (.head _))) (by assumption) (by first | omega | (simp <;> omega) | (simp at * <;> omega))) rfl ?_)
                        refine aops_cons rfl rfl (AOp.move rfl rfl ?_)
                        refine aops_cons rfl rfl (AOp.eql rfl rfl rfl ?_)
                        refine aops_nil ?_
                        refine aw_cond _ rfl (fun h9 => ?_) (fun h9 => ?_)
                        focus
                          have h9_ := h9
                          try simp only [List.length_map, List.length_cons, List.length_nil, nrm] at h9
                          all_goals try (exfalso; first | contradiction | (simp at h9_; done) | omega)
                          all_goals
                            refine aw_region ?_
                            refine aops_cons rfl rfl (AOp.move rfl rfl ?_)
                            refine aops_cons rfl rfl (AOp.move rfl rfl ?_)
                            refine aops_cons rfl rfl (AOp.move rfl rfl ?_)
                            first
                            | refine aops_cons rfl rfl (AOp.indexLN Try.underlying28 Try.sizeOf25 rfl rfl rfl (by first | omega | (simp <;> omega) | (simp at * <;> omega)) (fun _ => rfl) ?_)
                            | refine aops_cons rfl rfl (AOp.indexLI Try.underlying28 Try.sizeOf25 rfl rfl rfl (by first | omega | (simp <;> omega) | (simp at * <;> omega)) (by first | omega | (simp <;> omega) | (simp at * <;> omega)) (fun _ => rfl) ?_)
                            | refine aops_cons rfl rfl (AOp.indexS Try.underlying28 Try.sizeOf25 (by assumption) rfl rfl rfl (by first | omega | (simp <;> omega) | (simp at * <;> omega)) (by assumption) ?_)
                            | refine aops_cons rfl rfl (AOp.indexS Try.underlying28 Try.sizeOf25 (by assumption) rfl rfl rfl (by first | omega | (simp <;> omega) | (simp at * <;> omega)) (List.getElem?_eq_getElem (by first | omega | (simp <;> omega) | (simp at * <;> omega))) ?_)
                            | refine aops_cons rfl rfl (AOp.indexS Try.underlying28 Try.sizeOf25 (by exact all_len rfl) rfl rfl rfl (by first | omega | (simp <;> omega) | (simp at * <;> omega)) rfl ?_)
                            | refine aops_cons rfl rfl (AOp.indexR Try.underlying28 Try.sizeOf25 (.head _) rfl rfl rfl (by first | omega | (simp <;> omega) | (simp at * <;> omega)) (by first | omega | (simp <;> omega) | (simp at * <;> omega)) ?_)
                            | refine aops_cons rfl rfl (AOp.indexR Try.underlying28 Try.sizeOf25 (.tail _ (.head _)) rfl rfl rfl (by first | omega | (simp <;> omega) | (simp at * <;> omega)) (by first | omega | (simp <;> omega) | (simp at * <;> omega)) ?_)
                            | refine aops_cons rfl rfl (AOp.indexR Try.underlying28 Try.sizeOf25 (.tail _ (.tail _ (.head _))) rfl rfl rfl (by first | omega | (simp <;> omega) | (simp at * <;> omega)) (by first | omega | (simp <;> omega) | (simp at * <;> omega)) ?_)
                            first
                            | refine aops_cons rfl rfl (AOp.loadN Try.isAgg25 Try.sizeOf25 rfl rfl (reads_im _ _) rfl rfl ?_)
                            | refine aops_cons rfl rfl (AOp.loadN Try.isAgg25 Try.sizeOf25 rfl rfl (reads_box _ (.head _)) rfl rfl ?_)
                            | refine aops_cons rfl rfl (AOp.loadN Try.isAgg25 Try.sizeOf25 rfl rfl (reads_box _ (.tail _ (.head _))) rfl rfl ?_)
                            | refine aops_cons rfl rfl (AOp.loadN Try.isAgg25 Try.sizeOf25 rfl rfl (reads_box _ (.tail _ (.tail _ (.head _)))) rfl rfl ?_)
                            | refine aops_cons rfl rfl (AOp.loadN Try.isAgg25 Try.sizeOf25 rfl rfl (reads_row _ (.head _) (idx_nat (by first | omega | (simp <;> omega) | (simp at * <;> omega))) (by first | omega | (simp <;> omega) | (simp at * <;> omega))) rfl rfl ?_)
                            | refine aops_cons rfl rfl (AOp.loadN Try.isAgg25 Try.sizeOf25 rfl rfl (reads_row _ (.head _) (idx_map (by first | omega | (simp <;> omega) | (simp at * <;> omega))) (by first | omega | (simp <;> omega) | (simp at * <;> omega))) rfl rfl ?_)
                            | refine aops_cons rfl rfl (AOp.loadN Try.isAgg25 Try.sizeOf25 rfl rfl (reads_row _ (.head _) (by assumption) (by first | omega | (simp <;> omega) | (simp at * <;> omega))) rfl rfl ?_)
                            | refine aops_cons rfl rfl (AOp.loadN Try.isAgg25 Try.sizeOf25 rfl rfl (reads_row _ (.tail _ (.head _)) (idx_nat (by first | omega | (simp <;> omega) | (simp at * <;> omega))) (by first | omega | (simp <;> omega) | (simp at * <;> omega))) rfl rfl ?_)
                            | refine aops_cons rfl rfl (AOp.loadN Try.isAgg25 Try.sizeOf25 rfl rfl (reads_row _ (.tail _ (.head _)) (idx_map (by first | omega | (simp <;> omega) | (simp at * <;> omega))) (by first | omega | (simp <;> omega) | (simp at * <;> omega))) rfl rfl ?_)
                            | refine aops_cons rfl rfl (AOp.loadN Try.isAgg25 Try.sizeOf25 rfl rfl (reads_row _ (.tail _ (.head _)) (by assumption) (by first | omega | (simp <;> omega) | (simp at * <;> omega))) rfl rfl ?_)
                            | refine aops_cons rfl rfl (AOp.loadN Try.isAgg25 Try.sizeOf25 rfl rfl (reads_row _ (.tail _ (.tail _ (.head _))) (idx_nat (by first | omega | (simp <;> omega) | (simp at * <;> omega))) (by first | omega | (simp <;> omega) | (simp at * <;> omega))) rfl rfl ?_)
                            | refine aops_cons rfl rfl (AOp.loadN Try.isAgg25 Try.sizeOf25 rfl rfl (reads_row _ (.tail _ (.tail _ (.head _))) (idx_map (by first | omega | (simp <;> omega) | (simp at * <;> omega))) (by first | omega | (simp <;> omega) | (simp at * <;> omega))) rfl rfl ?_)
                            | refine aops_cons rfl rfl (AOp.loadN Try.isAgg25 Try.sizeOf25 rfl rfl (reads_row _ (.tail _ (.tail _ (.head _))) (by assumption) (by first | omega | (simp <;> omega) | (simp at * <;> omega))) rfl rfl ?_)
                            refine aops_cons rfl rfl (AOp.buildS' Try.underlying28 Try.sizeOf25 Try.zeroValue25 rfl rfl rfl rfl rfl rfl rfl rfl rfl rfl rfl ?_)
                            first
                            | (refine aops_cons rfl rfl (AOp.append' (bytes := 32) Try.zeroValue25 Try.sizeOf25 Try.underlying28 (by kernel_rfl) rfl rfl rfl (pull_here _ _) rfl (src_sl Try.underlying28 (by exact len_map (fun _ => rfl))) (by first | omega | (simp <;> omega) | (simp at * <;> omega)) (by decide) ?_); intro b2)
                            | (refine aops_cons rfl rfl (AOp.append' (bytes := 32) Try.zeroValue25 Try.sizeOf25 Try.underlying28 (by kernel_rfl) rfl rfl rfl (pull_here _ _) rfl (src_sl Try.underlying28 (by assumption)) (by first | omega | (simp <;> omega) | (simp at * <;> omega)) (by decide) ?_); intro b2)
                            | (refine aops_cons rfl rfl (AOp.append' (bytes := 32) Try.zeroValue25 Try.sizeOf25 Try.underlying28 (by kernel_rfl) rfl rfl rfl (pull_here _ _) rfl (src_sl Try.underlying28 (all_len rfl)) (by first | omega | (simp <;> omega) | (simp at * <;> omega)) (by decide) ?_); intro b2)
                            | (refine aops_cons rfl rfl (AOp.append' (bytes := 32) Try.zeroValue25 Try.sizeOf25 Try.underlying28 (by kernel_rfl) rfl rfl rfl (pull_here _ _) rfl (src_row Try.underlying28 (.head _)) (by first | omega | (simp <;> omega) | (simp at * <;> omega)) (by decide) ?_); intro b2)
                            | (refine aops_cons rfl rfl (AOp.append' (bytes := 32) Try.zeroValue25 Try.sizeOf25 Try.underlying28 (by kernel_rfl) rfl rfl rfl (pull_here _ _) rfl (src_row Try.underlying28 (.tail _ (.head _))) (by first | omega | (simp <;> omega) | (simp at * <;> omega)) (by decide) ?_); intro b2)
                            | (refine aops_cons rfl rfl (AOp.append' (bytes := 32) Try.zeroValue25 Try.sizeOf25 Try.underlying28 (by kernel_rfl) rfl rfl rfl (pull_here _ _) rfl (src_row Try.underlying28 (.tail _ (.tail _ (.head _)))) (by first | omega | (simp <;> omega) | (simp at * <;> omega)) (by decide) ?_); intro b2)
                            | (refine aops_cons rfl rfl (AOp.append' (bytes := 32) Try.zeroValue25 Try.sizeOf25 Try.underlying28 (by kernel_rfl) rfl rfl rfl (pull_here _ _) rfl (src_os Try.underlying28 (.head _) (by first | omega | (simp <;> omega) | (simp at * <;> omega))) (by first | omega | (simp <;> omega) | (simp at * <;> omega)) (by decide) ?_); intro b2)
                            | (refine aops_cons rfl rfl (AOp.append' (bytes := 32) Try.zeroValue25 Try.sizeOf25 Try.underlying28 (by kernel_rfl) rfl rfl rfl (pull_here _ _) rfl (src_os Try.underlying28 (.tail _ (.head _)) (by first | omega | (simp <;> omega) | (simp at * <;> omega))) (by first | omega | (simp <;> omega) | (simp at * <;> omega)) (by decide) ?_); intro b2)
                            | (refine aops_cons rfl rfl (AOp.append' (bytes := 32) Try.zeroValue25 Try.sizeOf25 Try.underlying28 (by kernel_rfl) rfl rfl rfl (pull_here _ _) rfl (src_os Try.underlying28 (.tail _ (.tail _ (.head _))) (by first | omega | (simp <;> omega) | (simp at * <;> omega))) (by first | omega | (simp <;> omega) | (simp at * <;> omega)) (by decide) ?_); intro b2)
                            | (refine aops_cons rfl rfl (AOp.append' (bytes := 32) Try.zeroValue25 Try.sizeOf25 Try.underlying28 (by kernel_rfl) rfl rfl rfl (pull_there (pull_here _ _)) rfl (src_sl Try.underlying28 (by exact len_map (fun _ => rfl))) (by first | omega | (simp <;> omega) | (simp at * <;> omega)) (by decide) ?_); intro b2)
                            | (refine aops_cons rfl rfl (AOp.append' (bytes := 32) Try.zeroValue25 Try.sizeOf25 Try.underlying28 (by kernel_rfl) rfl rfl rfl (pull_there (pull_here _ _)) rfl (src_sl Try.underlying28 (by assumption)) (by first | omega | (simp <;> omega) | (simp at * <;> omega)) (by decide) ?_); intro b2)
                            | (refine aops_cons rfl rfl (AOp.append' (bytes := 32) Try.zeroValue25 Try.sizeOf25 Try.underlying28 (by kernel_rfl) rfl rfl rfl (pull_there (pull_here _ _)) rfl (src_sl Try.underlying28 (all_len rfl)) (by first | omega | (simp <;> omega) | (simp at * <;> omega)) (by decide) ?_); intro b2)
                            | (refine aops_cons rfl rfl (AOp.append' (bytes := 32) Try.zeroValue25 Try.sizeOf25 Try.underlying28 (by kernel_rfl) rfl rfl rfl (pull_there (pull_here _ _)) rfl (src_row Try.underlying28 (.head _)) (by first | omega | (simp <;> omega) | (simp at * <;> omega)) (by decide) ?_); intro b2)
                            | (refine aops_cons rfl rfl (AOp.append' (bytes := 32) Try.zeroValue25 Try.sizeOf25 Try.underlying28 (by kernel_rfl) rfl rfl rfl (pull_there (pull_here _ _)) rfl (src_row Try.underlying28 (.tail _ (.head _))) (by first | omega | (simp <;> omega) | (simp at * <;> omega)) (by decide) ?_); intro b2)
                            | (refine aops_cons rfl rfl (AOp.append' (bytes := 32) Try.zeroValue25 Try.sizeOf25 Try.underlying28 (by kernel_rfl) rfl rfl rfl (pull_there (pull_here _ _)) rfl (src_row Try.underlying28 (.tail _ (.tail _ (.head _)))) (by first | omega | (simp <;> omega) | (simp at * <;> omega)) (by decide) ?_); intro b2)
                            | (refine aops_cons rfl rfl (AOp.append' (bytes := 32) Try.zeroValue25 Try.sizeOf25 Try.underlying28 (by kernel_rfl) rfl rfl rfl (pull_there (pull_here _ _)) rfl (src_os Try.underlying28 (.head _) (by first | omega | (simp <;> omega) | (simp at * <;> omega))) (by first | omega | (simp <;> omega) | (simp at * <;> omega)) (by decide) ?_); intro b2)
                            | (refine aops_cons rfl rfl (AOp.append' (bytes := 32) Try.zeroValue25 Try.sizeOf25 Try.underlying28 (by kernel_rfl) rfl rfl rfl (pull_there (pull_here _ _)) rfl (src_os Try.underlying28 (.tail _ (.head _)) (by first | omega | (simp <;> omega) | (simp at * <;> omega))) (by first | omega | (simp <;> omega) | (simp at * <;> omega)) (by decide) ?_); intro b2)
                            | (refine aops_cons rfl rfl (AOp.append' (bytes := 32) Try.zeroValue25 Try.sizeOf25 Try.underlying28 (by kernel_rfl) rfl rfl rfl (pull_there (pull_here _ _)) rfl (src_os Try.underlying28 (.tail _ (.tail _ (.head _))) (by first | omega | (simp <;> omega) | (simp at * <;> omega))) (by first | omega | (simp <;> omega) | (simp at * <;> omega)) (by decide) ?_); intro b2)
                            | (refine aops_cons rfl rfl (AOp.append' (bytes := 32) Try.zeroValue25 Try.sizeOf25 Try.underlying28 (by kernel_rfl) rfl rfl rfl (pull_there (pull_there (pull_here _ _))) rfl (src_sl Try.underlying28 (by exact len_map (fun _ => rfl))) (by first | omega | (simp <;> omega) | (simp at * <;> omega)) (by decide) ?_); intro b2)
                            | (refine aops_cons rfl rfl (AOp.append' (bytes := 32) Try.zeroValue25 Try.sizeOf25 Try.underlying28 (by kernel_rfl) rfl rfl rfl (pull_there (pull_there (pull_here _ _))) rfl (src_sl Try.underlying28 (by assumption)) (by first | omega | (simp <;> omega) | (simp at * <;> omega)) (by decide) ?_); intro b2)
                            | (refine aops_cons rfl rfl (AOp.append' (bytes := 32) Try.zeroValue25 Try.sizeOf25 Try.underlying28 (by kernel_rfl) rfl rfl rfl (pull_there (pull_there (pull_here _ _))) rfl (src_sl Try.underlying28 (all_len rfl)) (by first | omega | (simp <;> omega) | (simp at * <;> omega)) (by decide) ?_); intro b2)
                            | (refine aops_cons rfl rfl (AOp.append' (bytes := 32) Try.zeroValue25 Try.sizeOf25 Try.underlying28 (by kernel_rfl) rfl rfl rfl (pull_there (pull_there (pull_here _ _))) rfl (src_row Try.underlying28 (.head _)) (by first | omega | (simp <;> omega) | (simp at * <;> omega)) (by decide) ?_); intro b2)
                            | (refine aops_cons rfl rfl (AOp.append' (bytes := 32) Try.zeroValue25 Try.sizeOf25 Try.underlying28 (by kernel_rfl) rfl rfl rfl (pull_there (pull_there (pull_here _ _))) rfl (src_row Try.underlying28 (.tail _ (.head _))) (by first | omega | (simp <;> omega) | (simp at * <;> omega)) (by decide) ?_); intro b2)
                            | (refine aops_cons rfl rfl (AOp.append' (bytes := 32) Try.zeroValue25 Try.sizeOf25 Try.underlying28 (by kernel_rfl) rfl rfl rfl (pull_there (pull_there (pull_here _ _))) rfl (src_row Try.underlying28 (.tail _ (.tail _ (.head _)))) (by first | omega | (simp <;> omega) | (simp at * <;> omega)) (by decide) ?_); intro b2)
                            | (refine aops_cons rfl rfl (AOp.append' (bytes := 32) Try.zeroValue25 Try.sizeOf25 Try.underlying28 (by kernel_rfl) rfl rfl rfl (pull_there (pull_there (pull_here _ _))) rfl (src_os Try.underlying28 (.head _) (by first | omega | (simp <;> omega) | (simp at * <;> omega))) (by first | omega | (simp <;> omega) | (simp at * <;> omega)) (by decide) ?_); intro b2)
                            | (refine aops_cons rfl rfl (AOp.append' (bytes := 32) Try.zeroValue25 Try.sizeOf25 Try.underlying28 (by kernel_rfl) rfl rfl rfl (pull_there (pull_there (pull_here _ _))) rfl (src_os Try.underlying28 (.tail _ (.head _)) (by first | omega | (simp <;> omega) | (simp at * <;> omega))) (by first | omega | (simp <;> omega) | (simp at * <;> omega)) (by decide) ?_); intro b2)
                            | (refine aops_cons rfl rfl (AOp.append' (bytes := 32) Try.zeroValue25 Try.sizeOf25 Try.underlying28 (by kernel_rfl) rfl rfl rfl (pull_there (pull_there (pull_here _ _))) rfl (src_os Try.underlying28 (.tail _ (.tail _ (.head _))) (by first | omega | (simp <;> omega) | (simp at * <;> omega))) (by first | omega | (simp <;> omega) | (simp at * <;> omega)) (by decide) ?_); intro b2)
                            refine aops_cons rfl rfl (AOp.assign rfl rfl ?_)
                            refine aops_nil ?_
                            skip
                        rotate_right
                        focus
                          have h9_ := h9
                          try simp only [List.length_map, List.length_cons, List.length_nil, nrm] at h9
                          all_goals try (exfalso; first | contradiction | (simp at h9_; done) | omega)
                          all_goals
                            refine aw_skip ?_
                            skip
                        all_goals
                          refine aw_seq ?_
                          refine aw_region ?_
                          refine aops_cons rfl rfl (AOp.move rfl rfl ?_)
                          refine aops_cons rfl rfl (AOp.move rfl rfl ?_)
                          first
                          | refine aops_cons rfl rfl (AOp.indexLN Try.underlying28 Try.sizeOf25 rfl rfl rfl (by first | omega | (simp <;> omega) | (simp at * <;> omega)) (fun _ => rfl) ?_)
                          | refine aops_cons rfl rfl (AOp.indexLI Try.underlying28 Try.sizeOf25 rfl rfl rfl (by first | omega | (simp <;> omega) | (simp at * <;> omega)) (by first | omega | (simp <;> omega) | (simp at * <;> omega)) (fun _ => rfl) ?_)
                          | refine aops_cons rfl rfl (AOp.indexS Try.underlying28 Try.sizeOf25 (by assumption) rfl rfl rfl (by first | omega | (simp <;> omega) | (simp at * <;> omega)) (by assumption) ?_)
                          | refine aops_cons rfl rfl (AOp.indexS Try.underlying28 Try.sizeOf25 (by assumption) rfl rfl rfl (by first | omega | (simp <;> omega) | (simp at * <;> omega)) (List.getElem?_eq_getElem (by first | omega | (simp <;> omega) | (simp at * <;> omega))) ?_)
                          | refine aops_cons rfl rfl (AOp.indexS Try.underlying28 Try.sizeOf25 (by exact all_len rfl) rfl rfl rfl (by first | omega | (simp <;> omega) | (simp at * <;> omega)) rfl ?_)
                          | refine aops_cons rfl rfl (AOp.indexR Try.underlying28 Try.sizeOf25 (.head _) rfl rfl rfl (by first | omega | (simp <;> omega) | (simp at * <;> omega)) (by first | omega | (simp <;> omega) | (simp at * <;> omega)) ?_)
                          | refine aops_cons rfl rfl (AOp.indexR Try.underlying28 Try.sizeOf25 (.tail _ (.head _)) rfl rfl rfl (by first | omega | (simp <;> omega) | (simp at * <;> omega)) (by first | omega | (simp <;> omega) | (simp at * <;> omega)) ?_)
                          | refine aops_cons rfl rfl (AOp.indexR Try.underlying28 Try.sizeOf25 (.tail _ (.tail _ (.head _))) rfl rfl rfl (by first | omega | (simp <;> omega) | (simp at * <;> omega)) (by first | omega | (simp <;> omega) | (simp at * <;> omega)) ?_)
                          first
                          | refine aops_cons rfl rfl (AOp.fieldI Try.underlying25 rfl Try.sizeOf3 (by decide) rfl rfl rfl ?_)
                          | refine aops_cons rfl rfl (AOp.fieldB Try.underlying25 rfl Try.sizeOf3 (by decide) rfl rfl rfl ?_)
                          | refine aops_cons rfl rfl (AOp.fieldR Try.underlying25 rfl Try.sizeOf3 (by decide) rfl rfl rfl ?_)
                          first
                          | refine aops_cons rfl rfl (AOp.load1 Try.isAgg3 rfl rfl (reads_im _ _) rfl ?_)
                          | refine aops_cons rfl rfl (AOp.load1 Try.isAgg3 rfl rfl (reads_box _ (.head _)) rfl ?_)
                          | refine aops_cons rfl rfl (AOp.load1 Try.isAgg3 rfl rfl (reads_box _ (.tail _ (.head _))) rfl ?_)
                          | refine aops_cons rfl rfl (AOp.load1 Try.isAgg3 rfl rfl (reads_box _ (.tail _ (.tail _ (.head _)))) rfl ?_)
                          | refine aops_cons rfl rfl (AOp.load1 Try.isAgg3 rfl rfl (reads_row _ (.head _) (idx_nat (by first | omega | (simp <;> omega) | (simp at * <;> omega))) (by first | omega | (simp <;> omega) | (simp at * <;> omega))) rfl ?_)
                          | refine aops_cons rfl rfl (AOp.load1 Try.isAgg3 rfl rfl (reads_row _ (.head _) (idx_map (by first | omega | (simp <;> omega) | (simp at * <;> omega))) (by first | omega | (simp <;> omega) | (simp at * <;> omega))) rfl ?_)
                          | refine aops_cons rfl rfl (AOp.load1 Try.isAgg3 rfl rfl (reads_row _ (.head _) (by assumption) (by first | omega | (simp <;> omega) | (simp at * <;> omega))) rfl ?_)
                          | refine aops_cons rfl rfl (AOp.load1 Try.isAgg3 rfl rfl (reads_row _ (.tail _ (.head _)) (idx_nat (by first | omega | (simp <;> omega) | (simp at * <;> omega))) (by first | omega | (simp <;> omega) | (simp at * <;> omega))) rfl ?_)
                          | refine aops_cons rfl rfl (AOp.load1 Try.isAgg3 rfl rfl (reads_row _ (.tail _ (.head _)) (idx_map (by first | omega | (simp <;> omega) | (simp at * <;> omega))) (by first | omega | (simp <;> omega) | (simp at * <;> omega))) rfl ?_)
                          | refine aops_cons rfl rfl (AOp.load1 Try.isAgg3 rfl rfl (reads_row _ (.tail _ (.head _)) (by assumption) (by first | omega | (simp <;> omega) | (simp at * <;> omega))) rfl ?_)
                          | refine aops_cons rfl rfl (AOp.load1 Try.isAgg3 rfl rfl (reads_row _ (.tail _ (.tail _ (.head _))) (idx_nat (by first | omega | (simp <;> omega) | (simp at * <;> omega))) (by first | omega | (simp <;> omega) | (simp at * <;> omega))) rfl ?_)
                          | refine aops_cons rfl rfl (AOp.load1 Try.isAgg3 rfl rfl (reads_row _ (.tail _ (.tail _ (.head _))) (idx_map (by first | omega | (simp <;> omega) | (simp at * <;> omega))) (by first | omega | (simp <;> omega) | (simp at * <;> omega))) rfl ?_)
                          | refine aops_cons rfl rfl (AOp.load1 Try.isAgg3 rfl rfl (reads_row _ (.tail _ (.tail _ (.head _))) (by assumption) (by first | omega | (simp <;> omega) | (simp at * <;> omega))) rfl ?_)
                          refine aops_cons rfl rfl (AOp.move rfl rfl ?_)
                          refine aops_cons rfl rfl (AOp.eql rfl rfl rfl ?_)
                          refine aops_nil ?_
                          refine aw_cond _ rfl (fun h10 => ?_) (fun h10 => ?_)
                          focus
                            have h10_ := h10
                            try simp only [List.length_map, List.length_cons, List.length_nil, nrm] at h10
                            all_goals try (exfalso; first | contradiction | (simp at h10_; done) | omega)
                            all_goals
                              refine aw_region ?_
                              refine aops_cons rfl rfl (AOp.move rfl rfl ?_)
                              refine aops_cons rfl rfl (AOp.move rfl rfl ?_)
                              refine aops_cons rfl rfl (AOp.move rfl rfl ?_)
                              first
                              | refine aops_cons rfl rfl (AOp.indexLN Try.underlying28 Try.sizeOf25 rfl rfl rfl (by first | omega | (simp <;> omega) | (simp at * <;> omega)) (fun _ => rfl) ?_)
                              | refine aops_cons rfl rfl (AOp.indexLI Try.underlying28 Try.sizeOf25 rfl rfl rfl (by first | omega | (simp <;> omega) | (simp at * <;> omega)) (by first | omega | (simp <;> omega) | (simp at * <;> omega)) (fun _ => rfl) ?_)
                              | refine aops_cons rfl rfl (AOp.indexS Try.underlying28 Try.sizeOf25 (by assumption) rfl rfl rfl (by first | omega | (simp <;> omega) | (simp at * <;> omega)) (by assumption) ?_)
                              | refine aops_cons rfl rfl (AOp.indexS Try.underlying28 Try.sizeOf25 (by assumption) rfl rfl rfl (by first | omega | (simp <;> omega) | (simp at * <;> omega)) (List.getElem?_eq_getElem (by first | omega | (simp <;> omega) | (simp at * <;> omega))) ?_)
                              | refine aops_cons rfl rfl (AOp.indexS Try.underlying28 Try.sizeOf25 (by exact all_len rfl) rfl rfl rfl (by first | omega | (simp <;> omega) | (simp at * <;> omega)) rfl ?_)
                              | refine aops_cons rfl rfl (AOp.indexR Try.underlying28 Try.sizeOf25 (.head _) rfl rfl rfl (by first | omega | (simp <;> omega) | (simp at * <;> omega)) (by first | omega | (simp <;> omega) | (simp at * <;> omega)) ?_)
                              | refine aops_cons rfl rfl (AOp.indexR Try.underlying28 Try.sizeOf25 (.tail _ (.head _)) rfl rfl rfl (by first | omega | (simp <;> omega) | (simp at * <;> omega)) (by first | omega | (simp <;> omega) | (simp at * <;> omega)) ?_)
                              | refine aops_cons rfl rfl (AOp.indexR Try.underlying28 Try.sizeOf25 (.tail _ (.tail _ (.head _))) rfl rfl rfl (by first | omega | (simp <;> omega) | (simp at * <;> omega)) (by first | omega | (simp <;> omega) | (simp at * <;> omega)) ?_)
                              first
                              | refine aops_cons rfl rfl (AOp.loadN Try.isAgg25 Try.sizeOf25 rfl rfl (reads_im _ _) rfl rfl ?_)
                              | refine aops_cons rfl rfl (AOp.loadN Try.isAgg25 Try.sizeOf25 rfl rfl (reads_box _ (.head _)) rfl rfl ?_)
                              | refine aops_cons rfl rfl (AOp.loadN Try.isAgg25 Try.sizeOf25 rfl rfl (reads_box _ (.tail _ (.head _))) rfl rfl ?_)
                              | refine aops_cons rfl rfl (AOp.loadN Try.isAgg25 Try.sizeOf25 rfl rfl (reads_box _ (.tail _ (.tail _ (.head _)))) rfl rfl ?_)
                              | refine aops_cons rfl rfl (AOp.loadN Try.isAgg25 Try.sizeOf25 rfl rfl (reads_row _ (.head _) (idx_nat (by first | omega | (simp <;> omega) | (simp at * <;> omega))) (by first | omega | (simp <;> omega) | (simp at * <;> omega))) rfl rfl ?_)
                              | refine aops_cons rfl rfl (AOp.loadN Try.isAgg25 Try.sizeOf25 rfl rfl (reads_row _ (.head _) (idx_map (by first | omega | (simp <;> omega) | (simp at * <;> omega))) (by first | omega | (simp <;> omega) | (simp at * <;> omega))) rfl rfl ?_)
                              | refine aops_cons rfl rfl (AOp.loadN Try.isAgg25 Try.sizeOf25 rfl rfl (reads_row _ (.head _) (by assumption) (by first | omega | (simp <;> omega) | (simp at * <;> omega))) rfl rfl ?_)
                              | refine aops_cons rfl rfl (AOp.loadN Try.isAgg25 Try.sizeOf25 rfl rfl (reads_row _ (.tail _ (.head _)) (idx_nat (by first | omega | (simp <;> omega) | (simp at * <;> omega))) (by first | omega | (simp <;> omega) | (simp at * <;> omega))) rfl rfl ?_)
                              | refine aops_cons rfl rfl (AOp.loadN Try.isAgg25 Try.sizeOf25 rfl rfl (reads_row _ (.tail _ (.head _)) (idx_map (by first | omega | (simp <;> omega) | (simp at * <;> omega))) (by first | omega | (simp <;> omega) | (simp at * <;> omega))) rfl rfl ?_)
                              | refine aops_cons rfl rfl (AOp.loadN Try.isAgg25 Try.sizeOf25 rfl rfl (reads_row _ (.tail _ (.head _)) (by assumption) (by first | omega | (simp <;> omega) | (simp at * <;> omega))) rfl rfl ?_)
                              | refine aops_cons rfl rfl (AOp.loadN Try.isAgg25 Try.sizeOf25 rfl rfl (reads_row _ (.tail _ (.tail _ (.head _))) (idx_nat (by first | omega | (simp <;> omega) | (simp at * <;> omega))) (by first | omega | (simp <;> omega) | (simp at * <;> omega))) rfl rfl ?_)
                              | refine aops_cons rfl rfl (AOp.loadN Try.isAgg25 Try.sizeOf25 rfl rfl (reads_row _ (.tail _ (.tail _ (.head _))) (idx_map (by first | omega | (simp <;> omega) | (simp at * <;> omega))) (by first | omega | (simp <;> omega) | (simp at * <;> omega))) rfl rfl ?_)
                              | refine aops_cons rfl rfl (AOp.loadN Try.isAgg25 Try.sizeOf25 rfl rfl (reads_row _ (.tail _ (.tail _ (.head _))) (by assumption) (by first | omega | (simp <;> omega) | (simp at * <;> omega))) rfl rfl ?_)
                              refine aops_cons rfl rfl (AOp.buildS' Try.underlying28 Try.sizeOf25 Try.zeroValue25 rfl rfl rfl rfl rfl rfl rfl rfl rfl rfl rfl ?_)
                              first
                              | (refine aops_cons rfl rfl (AOp.append' (bytes := 32) Try.zeroValue25 Try.sizeOf25 Try.underlying28 (by kernel_rfl) rfl rfl rfl (pull_here _ _) rfl (src_sl Try.underlying28 (by exact len_map (fun _ => rfl))) (by first | omega | (simp <;> omega) | (simp at * <;> omega)) (by decide) ?_); intro b3)
                              | (refine aops_cons rfl rfl (AOp.append' (bytes := 32) Try.zeroValue25 Try.sizeOf25 Try.underlying28 (by kernel_rfl) rfl rfl rfl (pull_here _ _) rfl (src_sl Try.underlying28 (by assumption)) (by first | omega | (simp <;> omega) | (simp at * <;> omega)) (by decide) ?_); intro b3)
                              | (refine aops_cons rfl rfl (AOp.append' (bytes := 32) Try.zeroValue25 Try.sizeOf25 Try.underlying28 (by kernel_rfl) rfl rfl rfl (pull_here _ _) rfl (src_sl Try.underlying28 (all_len rfl)) (by first | omega | (simp <;> omega) | (simp at * <;> omega)) (by decide) ?_); intro b3)
                              | (refine aops_cons rfl rfl (AOp.append' (bytes := 32) Try.zeroValue25 Try.sizeOf25 Try.underlying28 (by kernel_rfl) rfl rfl rfl (pull_here _ _) rfl (src_row Try.underlying28 (.head _)) (by first | omega | (simp <;> omega) | (simp at * <;> omega)) (by decide) ?_); intro b3)
                              | (refine aops_cons rfl rfl (AOp.append' (bytes := 32) Try.zeroValue25 Try.sizeOf25 Try.underlying28 (by kernel_rfl) rfl rfl rfl (pull_here _ _) rfl (src_row Try.underlying28 (.tail _ (.head _))) (by first | omega | (simp <;> omega) | (simp at * <;> omega)) (by decide) ?_); intro b3)
                              | (refine aops_cons rfl rfl (AOp.append' (bytes := 32) Try.zeroValue25 Try.sizeOf25 Try.underlying28 (by kernel_rfl) rfl rfl rfl (pull_here _ _) rfl (src_row Try.underlying28 (.tail _ (.tail _ (.head _)))) (by first | omega | (simp <;> omega) | (simp at * <;> omega)) (by decide) ?_); intro b3)
                              | (refine aops_cons rfl rfl (AOp.append' (bytes := 32) Try.zeroValue25 Try.sizeOf25 Try.underlying28 (by kernel_rfl) rfl rfl rfl (pull_here _ _) rfl (src_os Try.underlying28 (.head _) (by first | omega | (simp <;> omega) | (simp at * <;> omega))) (by first | omega | (simp <;> omega) | (simp at * <;> omega)) (by decide) ?_); intro b3)
                              | (refine aops_cons rfl rfl (AOp.append' (bytes := 32) Try.zeroValue25 Try.sizeOf25 Try.underlying28 (by kernel_rfl) rfl rfl rfl (pull_here _ _) rfl (src_os Try.underlying28 (.tail _ (.head _)) (by first | omega | (simp <;> omega) | (simp at * <;> omega))) (by first | omega | (simp <;> omega) | (simp at * <;> omega)) (by decide) ?_); intro b3)
                              | (refine aops_cons rfl rfl (AOp.append' (bytes := 32) Try.zeroValue25 Try.sizeOf25 Try.underlying28 (by kernel_rfl) rfl rfl rfl (pull_here _ _) rfl (src_os Try.underlying28 (.tail _ (.tail _ (.head _))) (by first | omega | (simp <;> omega) | (simp at * <;> omega))) (by first | omega | (simp <;> omega) | (simp at * <;> omega)) (by decide) ?_); intro b3)
                              | (refine aops_cons rfl rfl (AOp.append' (bytes := 32) Try.zeroValue25 Try.sizeOf25 Try.underlying28 (by kernel_rfl) rfl rfl rfl (pull_there (pull_here _ _)) rfl (src_sl Try.underlying28 (by exact len_map (fun _ => rfl))) (by first | omega | (simp <;> omega) | (simp at * <;> omega)) (by decide) ?_); intro b3)
                              | (refine aops_cons rfl rfl (AOp.append' (bytes := 32) Try.zeroValue25 Try.sizeOf25 Try.underlying28 (by kernel_rfl) rfl rfl rfl (pull_there (pull_here _ _)) rfl (src_sl Try.underlying28 (by assumption)) (by first | omega | (simp <;> omega) | (simp at * <;> omega)) (by decide) ?_); intro b3)
                              | (refine aops_cons rfl rfl (AOp.append' (bytes := 32) Try.zeroValue25 Try.sizeOf25 Try.underlying28 (by kernel_rfl) rfl rfl rfl (pull_there (pull_here _ _)) rfl (src_sl Try.underlying28 (all_len rfl)) (by first | omega | (simp <;> omega) | (simp at * <;> omega)) (by decide) ?_); intro b3)
                              | (refine aops_cons rfl rfl (AOp.append' (bytes := 32) Try.zeroValue25 Try.sizeOf25 Try.underlying28 (by kernel_rfl) rfl rfl rfl (pull_there (pull_here _ _)) rfl (src_row Try.underlying28 (.head _)) (by first | omega | (simp <;> omega) | (simp at * <;> omega)) (by decide) ?_); intro b3)
                              | (refine aops_cons rfl rfl (AOp.append' (bytes := 32) Try.zeroValue25 Try.sizeOf25 Try.underlying28 (by kernel_rfl) rfl rfl rfl (pull_there (pull_here _ _)) rfl (src_row Try.underlying28 (.tail _ (.head _))) (by first | omega | (simp <;> omega) | (simp at * <;> omega)) (by decide) ?_); intro b3)
                              | (refine aops_cons rfl rfl (AOp.append' (bytes := 32) Try.zeroValue25 Try.sizeOf25 Try.underlying28 (by kernel_rfl) rfl rfl rfl (pull_there (pull_here _ _)) rfl (src_row Try.underlying28 (.tail _ (.tail _ (.head _)))) (by first | omega | (simp <;> omega) | (simp at * <;> omega)) (by decide) ?_); intro b3)
                              | (refine aops_cons rfl rfl (AOp.append' (bytes := 32) Try.zeroValue25 Try.sizeOf25 Try.underlying28 (by kernel_rfl) rfl rfl rfl (pull_there (pull_here _ _)) rfl (src_os Try.underlying28 (.head _) (by first | omega | (simp <;> omega) | (simp at * <;> omega))) (by first | omega | (simp <;> omega) | (simp at * <;> omega)) (by decide) ?_); intro b3)
                              | (refine aops_cons rfl rfl (AOp.append' (bytes := 32) Try.zeroValue25 Try.sizeOf25 Try.underlying28 (by kernel_rfl) rfl rfl rfl (pull_there (pull_here _ _)) rfl (src_os Try.underlying28 (.tail _ (.head _)) (by first | omega | (simp <;> omega) | (simp at * <;> omega))) (by first | omega | (simp <;> omega) | (simp at * <;> omega)) (by decide) ?_); intro b3)
                              | (refine aops_cons rfl rfl (AOp.append' (bytes := 32) Try.zeroValue25 Try.sizeOf25 Try.underlying28 (by kernel_rfl) rfl rfl rfl (pull_there (pull_here _ _)) rfl (src_os Try.underlying28 (.tail _ (.tail _ (.head _))) (by first | omega | (simp <;> omega) | (simp at * <;> omega))) (by first | omega | (simp <;> omega) | (simp at * <;> omega)) (by decide) ?_); intro b3)
                              | (refine aops_cons rfl rfl (AOp.append' (bytes := 32) Try.zeroValue25 Try.sizeOf25 Try.underlying28 (by kernel_rfl) rfl rfl rfl (pull_there (pull_there (pull_here _ _))) rfl (src_sl Try.underlying28 (by exact len_map (fun _ => rfl))) (by first | omega | (simp <;> omega) | (simp at * <;> omega)) (by decide) ?_); intro b3)
                              | (refine aops_cons rfl rfl (AOp.append' (bytes := 32) Try.zeroValue25 Try.sizeOf25 Try.underlying28 (by kernel_rfl) rfl rfl rfl (pull_there (pull_there (pull_here _ _))) rfl (src_sl Try.underlying28 (by assumption)) (by first | omega | (simp <;> omega) | (simp at * <;> omega)) (by decide) ?_); intro b3)
                              | (refine aops_cons rfl rfl (AOp.append' (bytes := 32) Try.zeroValue25 Try.sizeOf25 Try.underlying28 (by kernel_rfl) rfl rfl rfl (pull_there (pull_there (pull_here _ _))) rfl (src_sl Try.underlying28 (all_len rfl)) (by first | omega | (simp <;> omega) | (simp at * <;> omega)) (by decide) ?_); intro b3)
                              | (refine aops_cons rfl rfl (AOp.append' (bytes := 32) Try.zeroValue25 Try.sizeOf25 Try.underlying28 (by kernel_rfl) rfl rfl rfl (pull_there (pull_there (pull_here _ _))) rfl (src_row Try.underlying28 (.head _)) (by first | omega | (simp <;> omega) | (simp at * <;> omega)) (by decide) ?_); intro b3)
                              | (refine aops_cons rfl rfl (AOp.append' (bytes := 32) Try.zeroValue25 Try.sizeOf25 Try.underlying28 (by kernel_rfl) rfl rfl rfl (pull_there (pull_there (pull_here _ _))) rfl (src_row Try.underlying28 (.tail _ (.head _))) (by first | omega | (simp <;> omega) | (simp at * <;> omega)) (by decide) ?_); intro b3)
                              | (refine aops_cons rfl rfl (AOp.append' (bytes := 32) Try.zeroValue25 Try.sizeOf25 Try.underlying28 (by kernel_rfl) rfl rfl rfl (pull_there (pull_there (pull_here _ _))) rfl (src_row Try.underlying28 (.tail _ (.tail _ (.head _)))) (by first | omega | (simp <;> omega) | (simp at * <;> omega)) (by decide) ?_); intro b3)
                              | (refine aops_cons rfl rfl (AOp.append' (bytes := 32) Try.zeroValue25 Try.sizeOf25 Try.underlying28 (by kernel_rfl) rfl rfl rfl (pull_there (pull_there (pull_here _ _))) rfl (src_os Try.underlying28 (.head _) (by first | omega | (simp <;> omega) | (simp at * <;> omega))) (by first | omega | (simp <;> omega) | (simp at * <;> omega)) (by decide) ?_); intro b3)
                              | (refine aops_cons rfl rfl (AOp.append' (bytes := 32) Try.zeroValue25 Try.sizeOf25 Try.underlying28 (by kernel_rfl) rfl rfl rfl (pull_there (pull_there (pull_here _ _))) rfl (src_os Try.underlying28 (.tail _ (.head _)) (by first | omega | (simp <;> omega) | (simp at * <;> omega))) (by first | omega | (simp <;> omega) | (simp at * <;> omega)) (by decide) ?_); intro b3)
                              | (refine aops_cons rfl rfl (AOp.append' (bytes := 32) Try.zeroValue25 Try.sizeOf25 Try.underlying28 (by kernel_rfl) rfl rfl rfl (pull_there (pull_there (pull_here _ _))) rfl (src_os Try.underlying28 (.tail _ (.tail _ (.head _))) (by first | omega | (simp <;> omega) | (simp at * <;> omega))) (by first | omega | (simp <;> omega) | (simp at * <;> omega)) (by decide) ?_); intro b3)
                              refine aops_cons rfl rfl (AOp.assign rfl rfl ?_)
                              refine aops_nil ?_
                              skip
                          rotate_right
                          focus
                            have h10_ := h10
                            try simp only [List.length_map, List.length_cons, List.length_nil, nrm] at h10
                            all_goals try (exfalso; first | contradiction | (simp at h10_; done) | omega)
                            all_goals
                              refine aw_skip ?_
                              skip
                          all_goals
                            refine aw_region ?_
                            refine aops_cons rfl rfl (AOp.move rfl rfl ?_)
                            first
                            | refine aops_cons rfl rfl (AOp.addE rfl rfl rfl (by first | omega | (simp <;> omega) | (simp at * <;> omega)) (by first | omega | (simp <;> omega) | (simp at * <;> omega)) ?_)
                            | refine aops_cons rfl rfl (AOp.add rfl rfl rfl rfl ?_)
                            refine aops_cons rfl rfl (AOp.assign rfl rfl ?_)
                            refine aops_nil ?_
                            first
                            | (refine ⟨(j + 1, _, _), ?_, ?_, ((wk_roweq (fl_yes (by omega) (by assumption))).trans ((wk_perm (List.Perm.swap _ _ _)).trans ((wk_roweq (fl_yes (by omega) (by assumption))).trans ((wk_perm (List.Perm.swap _ _ _)).trans (wk_env (sube_cons rfl (sube_cons rfl (sube_cons rfl (sube_cons rfl (sube_cons rfl (sube_cons rfl (sube_nil _))))))))))))⟩; (dsimp only; omega); (dsimp only; omega))
                            | (refine ⟨(j + 1, _, _), ?_, ?_, ((wk_roweq (fl_yes (by omega) (by assumption))).trans ((wk_perm (List.Perm.swap _ _ _)).trans ((wk_roweq (fl_no (by omega) (by assumption))).trans (wk_env (sube_cons rfl (sube_cons rfl (sube_cons rfl (sube_cons rfl (sube_cons rfl (sube_cons rfl (sube_nil _)))))))))))⟩; (dsimp only; omega); (dsimp only; omega))
                            | (refine ⟨(j + 1, _, _), ?_, ?_, ((wk_roweq (fl_yes (by omega) (by assumption))).trans ((wk_perm (List.Perm.swap _ _ _)).trans ((wk_roweq (fl_no (by omega) (by assumption))).trans ((wk_perm (List.Perm.swap _ _ _)).trans (wk_env (sube_cons rfl (sube_cons rfl (sube_cons rfl (sube_cons rfl (sube_cons rfl (sube_cons rfl (sube_nil _))))))))))))⟩; (dsimp only; omega); (dsimp only; omega))
                            | (refine ⟨(j + 1, _, _), ?_, ?_, ((wk_roweq (fl_no (by omega) (by assumption))).trans ((wk_perm (List.Perm.swap _ _ _)).trans ((wk_roweq (fl_no (by omega) (by assumption))).trans ((wk_perm (List.Perm.swap _ _ _)).trans (wk_env (sube_cons rfl (sube_cons rfl (sube_cons rfl (sube_cons rfl (sube_cons rfl (sube_cons rfl (sube_nil _))))))))))))⟩; (dsimp only; omega); (dsimp only; omega))
        all_goals
          refine aw_seq ?_
          refine aw_block ?_
          refine aw_seq ?_
          refine aw_seq ?_
          refine aw_region ?_
          refine aops_cons rfl rfl (AOp.assign rfl rfl ?_)
          refine aops_nil ?_
          refine aw_block ?_
          refine aw_loop (β := Nat × Dk) (S := (fun (z0 : Nat × Dk) => match z0 with | (c, e) => [(3, .sc (.pointer (some ⟨b1, 0, none⟩))), (4, .sc (.int .i64 now)), (5, ws d.w), (6, .sc wl), (7, .sc (.int .i64 (i : Int))), (8, .sc (.int .i64 ((c : Int) + 1)))])) (B := (fun (z0 : Nat × Dk) => match z0 with | (c, e) => [.box b1 30 e.e, .row wl 25 4 (sv.map Wt.e)])) (pre := (fun (z0 : Nat × Dk) => match z0 with | (c, e) => c ≤ 3 ∧ GD 3 e now ∧ e.w = d1.w ∧ ∀ y ∈ e.l, (c : Int) + 1 ≤ y.c)) (μ := (fun (z0 : Nat × Dk) => match z0 with | (c, e) => 3 - c)) (0, d1) (wk_env (sube_cons rfl (sube_cons rfl (sube_cons rfl (sube_cons rfl (sube_cons rfl (sube_cons rfl (sube_nil _)))))))) ?_ ?_
          · exact ⟨by omega, hg1, rfl, fun y hy => by have := hg1.ok y hy; omega⟩
          · rintro ⟨c, e⟩ ⟨hc, hg2, hw2, hm2⟩
            change AW _ _ _ ([(3, .sc (.pointer (some ⟨b1, 0, none⟩))), (4, .sc (.int .i64 now)), (5, ws d.w), (6, .sc wl), (7, .sc (.int .i64 (i : Int))), (8, .sc (.int .i64 ((c : Int) + 1)))] : Env) ([.box b1 30 e.e, .row wl 25 4 (sv.map Wt.e)] : List Blk) _
            refine aw_seq ?_
            refine aw_seq ?_
            refine aw_region ?_
            refine aops_cons rfl rfl (AOp.move rfl rfl ?_)
            refine aops_cons rfl rfl (AOp.leq rfl rfl rfl ?_)
            refine aops_nil ?_
            refine aw_cond _ rfl (fun h11 => ?_) (fun h11 => ?_)
            focus
              have h11_ := h11
              try simp only [List.length_map, List.length_cons, List.length_nil, nrm] at h11
              all_goals try (exfalso; first | contradiction | (simp at h11_; done) | omega)
              all_goals
                refine aw_skip ?_
                skip
            rotate_right
            focus
              have h11_ := h11
              try simp only [List.length_map, List.length_cons, List.length_nil, nrm] at h11
              all_goals try (exfalso; first | contradiction | (simp at h11_; done) | omega)
              all_goals
                refine aw_exit ?_
                refine aw_seq ?_
                have hc3 : c = 3 := by omega
                have hnil : e.l = [] := List.eq_nil_iff_forall_not_mem.2 (fun y hy => by have h8 := hg2.ok y hy; have h9 := hm2 y hy; omega)
                have hel := hg2.lenl (by decide)
                have hew := hg2.lenw
                have hkr := (kept_run (now := now) (sv := sv) (first := d.w) hg2.u (by rw [hw2]; exact hk1)).2
                rw [List.length_append] at hkr
                refine aw_region ?_
                first
                | refine aops_cons rfl rfl (AOp.loadN Try.isAgg30 Try.sizeOf30 rfl rfl (reads_im _ _) rfl rfl ?_)
                | refine aops_cons rfl rfl (AOp.loadN Try.isAgg30 Try.sizeOf30 rfl rfl (reads_box _ (.head _)) rfl rfl ?_)
                | refine aops_cons rfl rfl (AOp.loadN Try.isAgg30 Try.sizeOf30 rfl rfl (reads_box _ (.tail _ (.head _))) rfl rfl ?_)
                | refine aops_cons rfl rfl (AOp.loadN Try.isAgg30 Try.sizeOf30 rfl rfl (reads_box _ (.tail _ (.tail _ (.head _)))) rfl rfl ?_)
                | refine aops_cons rfl rfl (AOp.loadN Try.isAgg30 Try.sizeOf30 rfl rfl (reads_row _ (.head _) (idx_nat (by first | omega | (simp <;> omega) | (simp at * <;> omega))) (by first | omega | (simp <;> omega) | (simp at * <;> omega))) rfl rfl ?_)
                | refine aops_cons rfl rfl (AOp.loadN Try.isAgg30 Try.sizeOf30 rfl rfl (reads_row _ (.head _) (idx_map (by first | omega | (simp <;> omega) | (simp at * <;> omega))) (by first | omega | (simp <;> omega) | (simp at * <;> omega))) rfl rfl ?_)
                | refine aops_cons rfl rfl (AOp.loadN Try.isAgg30 Try.sizeOf30 rfl rfl (reads_row _ (.head _) (by assumption) (by first | omega | (simp <;> omega) | (simp at * <;> omega))) rfl rfl ?_)
                | refine aops_cons rfl rfl (AOp.loadN Try.isAgg30 Try.sizeOf30 rfl rfl (reads_row _ (.tail _ (.head _)) (idx_nat (by first | omega | (simp <;> omega) | (simp at * <;> omega))) (by first | omega | (simp <;> omega) | (simp at * <;> omega))) rfl rfl ?_)
                | refine aops_cons rfl rfl (AOp.loadN Try.isAgg30 Try.sizeOf30 rfl rfl (reads_row _ (.tail _ (.head _)) (idx_map (by first | omega | (simp <;> omega) | (simp at * <;> omega))) (by first | omega | (simp <;> omega) | (simp at * <;> omega))) rfl rfl ?_)
                | refine aops_cons rfl rfl (AOp.loadN Try.isAgg30 Try.sizeOf30 rfl rfl (reads_row _ (.tail _ (.head _)) (by assumption) (by first | omega | (simp <;> omega) | (simp at * <;> omega))) rfl rfl ?_)
                | refine aops_cons rfl rfl (AOp.loadN Try.isAgg30 Try.sizeOf30 rfl rfl (reads_row _ (.tail _ (.tail _ (.head _))) (idx_nat (by first | omega | (simp <;> omega) | (simp at * <;> omega))) (by first | omega | (simp <;> omega) | (simp at * <;> omega))) rfl rfl ?_)
                | refine aops_cons rfl rfl (AOp.loadN Try.isAgg30 Try.sizeOf30 rfl rfl (reads_row _ (.tail _ (.tail _ (.head _))) (idx_map (by first | omega | (simp <;> omega) | (simp at * <;> omega))) (by first | omega | (simp <;> omega) | (simp at * <;> omega))) rfl rfl ?_)
                | refine aops_cons rfl rfl (AOp.loadN Try.isAgg30 Try.sizeOf30 rfl rfl (reads_row _ (.tail _ (.tail _ (.head _))) (by assumption) (by first | omega | (simp <;> omega) | (simp at * <;> omega))) rfl rfl ?_)
                refine aops_cons rfl rfl (AOp.move rfl rfl ?_)
                refine aops_cons rfl rfl (AOp.callP Try.call18 rfl rfl rfl (by exact runL e now hg2.s (by first | omega | (simp <;> omega) | (simp at * <;> omega)) (by first | omega | (simp <;> omega) | (simp at * <;> omega)) (by first | omega | (simp <;> omega) | (simp at * <;> omega)) (by first | omega | (simp <;> omega) | (simp at * <;> omega))) ?_)
                refine aops_cons rfl rfl (AOp.move rfl rfl ?_)
                refine aops_cons rfl rfl (AOp.extract rfl rfl rfl ?_)
                refine aops_cons rfl rfl (AOp.extract rfl rfl rfl ?_)
                refine aops_cons rfl rfl (AOp.extract rfl rfl rfl ?_)
                refine aops_cons rfl rfl (AOp.alloc Try.zeroValue30 (by kernel_rfl) rfl rfl ?_); intro b4
                first
                | refine aops_cons rfl rfl (AOp.storeB' Try.sizeOf30 rfl rfl rfl rfl rfl (pull_here _ _) rfl rfl ?_)
                | refine aops_cons rfl rfl (AOp.storeB' Try.sizeOf30 rfl rfl rfl rfl rfl (pull_there (pull_here _ _)) rfl rfl ?_)
                | refine aops_cons rfl rfl (AOp.storeB' Try.sizeOf30 rfl rfl rfl rfl rfl (pull_there (pull_there (pull_here _ _))) rfl rfl ?_)
                | refine aops_cons rfl rfl (AOp.storeR' Try.sizeOf30 rfl rfl rfl rfl rfl (pull_here _ _) (by first | exact idx_nat (by first | omega | (simp <;> omega) | (simp at * <;> omega)) | exact idx_map (by first | omega | (simp <;> omega) | (simp at * <;> omega)) | assumption) rfl rfl rfl ?_)
                | refine aops_cons rfl rfl (AOp.storeR' Try.sizeOf30 rfl rfl rfl rfl rfl (pull_there (pull_here _ _)) (by first | exact idx_nat (by first | omega | (simp <;> omega) | (simp at * <;> omega)) | exact idx_map (by first | omega | (simp <;> omega) | (simp at * <;> omega)) | assumption) rfl rfl rfl ?_)
                | refine aops_cons rfl rfl (AOp.storeR' Try.sizeOf30 rfl rfl rfl rfl rfl (pull_there (pull_there (pull_here _ _))) (by first | exact idx_nat (by first | omega | (simp <;> omega) | (simp at * <;> omega)) | exact idx_map (by first | omega | (simp <;> omega) | (simp at * <;> omega)) | assumption) rfl rfl rfl ?_)
                refine aops_cons rfl rfl (AOp.assign rfl rfl ?_)
                refine aops_cons rfl rfl (AOp.assign rfl rfl ?_)
                refine aops_nil ?_
                refine aw_drawM (fun A0 => Blk.box b4 30 (Dk.e (runOf e now).1) ∈ A0) (by first | exact .head _ | exact .tail _ (.head _) | exact .tail _ (.tail _ (.head _))) [1, 1, 1, 5, 5, 5] (by kernel_rfl) (by kernel_rfl) ?_
                refine q_go1 _ rfl (fun _ hA0 => AOp.loadN Try.isAgg30 Try.sizeOf30 rfl rfl (reads_box _ hA0) rfl rfl ⟨rfl, rfl⟩) ?_
                refine q_go1 _ rfl (fun _ _ => AOp.move rfl rfl ⟨rfl, rfl⟩) ?_
                refine q_go1 _ rfl (fun _ _ => AOp.move rfl rfl ⟨rfl, rfl⟩) ?_
                refine q_over ?_
                refine q_over ?_
                refine q_over ?_
                refine q_nil ?_
                refine c_over (by decide) ?_
                refine c_over (by decide) ?_
                refine c_over (by decide) ?_
                first
                | (refine c_go rfl (AOp.append' (bytes := 32) Try.zeroValue25 Try.sizeOf25 Try.underlying28 (by kernel_rfl) rfl rfl rfl (pull_here _ _) rfl (src_sl Try.underlying28 (by exact len_map (fun _ => rfl))) (by first | omega | (simp <;> omega) | (simp at * <;> omega)) (by decide) ?_); intro b5; refine ⟨(by first | exact .head _ | exact .tail _ (.head _) | exact .tail _ (.tail _ (.head _))), ?_⟩)
                | (refine c_go rfl (AOp.append' (bytes := 32) Try.zeroValue25 Try.sizeOf25 Try.underlying28 (by kernel_rfl) rfl rfl rfl (pull_here _ _) rfl (src_sl Try.underlying28 (by assumption)) (by first | omega | (simp <;> omega) | (simp at * <;> omega)) (by decide) ?_); intro b5; refine ⟨(by first | exact .head _ | exact .tail _ (.head _) | exact .tail _ (.tail _ (.head _))), ?_⟩)
                | (refine c_go rfl (AOp.append' (bytes := 32) Try.zeroValue25 Try.sizeOf25 Try.underlying28 (by kernel_rfl) rfl rfl rfl (pull_here _ _) rfl (src_sl Try.underlying28 (all_len rfl)) (by first | omega | (simp <;> omega) | (simp at * <;> omega)) (by decide) ?_); intro b5; refine ⟨(by first | exact .head _ | exact .tail _ (.head _) | exact .tail _ (.tail _ (.head _))), ?_⟩)
                | (refine c_go rfl (AOp.append' (bytes := 32) Try.zeroValue25 Try.sizeOf25 Try.underlying28 (by kernel_rfl) rfl rfl rfl (pull_here _ _) rfl (src_row Try.underlying28 (.head _)) (by first | omega | (simp <;> omega) | (simp at * <;> omega)) (by decide) ?_); intro b5; refine ⟨(by first | exact .head _ | exact .tail _ (.head _) | exact .tail _ (.tail _ (.head _))), ?_⟩)
                | (refine c_go rfl (AOp.append' (bytes := 32) Try.zeroValue25 Try.sizeOf25 Try.underlying28 (by kernel_rfl) rfl rfl rfl (pull_here _ _) rfl (src_row Try.underlying28 (.tail _ (.head _))) (by first | omega | (simp <;> omega) | (simp at * <;> omega)) (by decide) ?_); intro b5; refine ⟨(by first | exact .head _ | exact .tail _ (.head _) | exact .tail _ (.tail _ (.head _))), ?_⟩)
                | (refine c_go rfl (AOp.append' (bytes := 32) Try.zeroValue25 Try.sizeOf25 Try.underlying28 (by kernel_rfl) rfl rfl rfl (pull_here _ _) rfl (src_row Try.underlying28 (.tail _ (.tail _ (.head _)))) (by first | omega | (simp <;> omega) | (simp at * <;> omega)) (by decide) ?_); intro b5; refine ⟨(by first | exact .head _ | exact .tail _ (.head _) | exact .tail _ (.tail _ (.head _))), ?_⟩)
                | (refine c_go rfl (AOp.append' (bytes := 32) Try.zeroValue25 Try.sizeOf25 Try.underlying28 (by kernel_rfl) rfl rfl rfl (pull_here _ _) rfl (src_os Try.underlying28 (.head _) (by first | omega | (simp <;> omega) | (simp at * <;> omega))) (by first | omega | (simp <;> omega) | (simp at * <;> omega)) (by decide) ?_); intro b5; refine ⟨(by first | exact .head _ | exact .tail _ (.head _) | exact .tail _ (.tail _ (.head _))), ?_⟩)
                | (refine c_go rfl (AOp.append' (bytes := 32) Try.zeroValue25 Try.sizeOf25 Try.underlying28 (by kernel_rfl) rfl rfl rfl (pull_here _ _) rfl (src_os Try.underlying28 (.tail _ (.head _)) (by first | omega | (simp <;> omega) | (simp at * <;> omega))) (by first | omega | (simp <;> omega) | (simp at * <;> omega)) (by decide) ?_); intro b5; refine ⟨(by first | exact .head _ | exact .tail _ (.head _) | exact .tail _ (.tail _ (.head _))), ?_⟩)
                | (refine c_go rfl (AOp.append' (bytes := 32) Try.zeroValue25 Try.sizeOf25 Try.underlying28 (by kernel_rfl) rfl rfl rfl (pull_here _ _) rfl (src_os Try.underlying28 (.tail _ (.tail _ (.head _))) (by first | omega | (simp <;> omega) | (simp at * <;> omega))) (by first | omega | (simp <;> omega) | (simp at * <;> omega)) (by decide) ?_); intro b5; refine ⟨(by first | exact .head _ | exact .tail _ (.head _) | exact .tail _ (.tail _ (.head _))), ?_⟩)
                | (refine c_go rfl (AOp.append' (bytes := 32) Try.zeroValue25 Try.sizeOf25 Try.underlying28 (by kernel_rfl) rfl rfl rfl (pull_there (pull_here _ _)) rfl (src_sl Try.underlying28 (by exact len_map (fun _ => rfl))) (by first | omega | (simp <;> omega) | (simp at * <;> omega)) (by decide) ?_); intro b5; refine ⟨(by first | exact .head _ | exact .tail _ (.head _) | exact .tail _ (.tail _ (.head _))), ?_⟩)
                | (refine c_go rfl (AOp.append' (bytes := 32) Try.zeroValue25 Try.sizeOf25 Try.underlying28 (by kernel_rfl) rfl rfl rfl (pull_there (pull_here _ _)) rfl (src_sl Try.underlying28 (by assumption)) (by first | omega | (simp <;> omega) | (simp at * <;> omega)) (by decide) ?_); intro b5; refine ⟨(by first | exact .head _ | exact .tail _ (.head _) | exact .tail _ (.tail _ (.head _))), ?_⟩)
                | (refine c_go rfl (AOp.append' (bytes := 32) Try.zeroValue25 Try.sizeOf25 Try.underlying28 (by kernel_rfl) rfl rfl rfl (pull_there (pull_here _ _)) rfl (src_sl Try.underlying28 (all_len rfl)) (by first | omega | (simp <;> omega) | (simp at * <;> omega)) (by decide) ?_); intro b5; refine ⟨(by first | exact .head _ | exact .tail _ (.head _) | exact .tail _ (.tail _ (.head _))), ?_⟩)
                | (refine c_go rfl (AOp.append' (bytes := 32) Try.zeroValue25 Try.sizeOf25 Try.underlying28 (by kernel_rfl) rfl rfl rfl (pull_there (pull_here _ _)) rfl (src_row Try.underlying28 (.head _)) (by first | omega | (simp <;> omega) | (simp at * <;> omega)) (by decide) ?_); intro b5; refine ⟨(by first | exact .head _ | exact .tail _ (.head _) | exact .tail _ (.tail _ (.head _))), ?_⟩)
                | (refine c_go rfl (AOp.append' (bytes := 32) Try.zeroValue25 Try.sizeOf25 Try.underlying28 (by kernel_rfl) rfl rfl rfl (pull_there (pull_here _ _)) rfl (src_row Try.underlying28 (.tail _ (.head _))) (by first | omega | (simp <;> omega) | (simp at * <;> omega)) (by decide) ?_); intro b5; refine ⟨(by first | exact .head _ | exact .tail _ (.head _) | exact .tail _ (.tail _ (.head _))), ?_⟩)
                | (refine c_go rfl (AOp.append' (bytes := 32) Try.zeroValue25 Try.sizeOf25 Try.underlying28 (by kernel_rfl) rfl rfl rfl (pull_there (pull_here _ _)) rfl (src_row Try.underlying28 (.tail _ (.tail _ (.head _)))) (by first | omega | (simp <;> omega) | (simp at * <;> omega)) (by decide) ?_); intro b5; refine ⟨(by first | exact .head _ | exact .tail _ (.head _) | exact .tail _ (.tail _ (.head _))), ?_⟩)
                | (refine c_go rfl (AOp.append' (bytes := 32) Try.zeroValue25 Try.sizeOf25 Try.underlying28 (by kernel_rfl) rfl rfl rfl (pull_there (pull_here _ _)) rfl (src_os Try.underlying28 (.head _) (by first | omega | (simp <;> omega) | (simp at * <;> omega))) (by first | omega | (simp <;> omega) | (simp at * <;> omega)) (by decide) ?_); intro b5; refine ⟨(by first | exact .head _ | exact .tail _ (.head _) | exact .tail _ (.tail _ (.head _))), ?_⟩)
                | (refine c_go rfl (AOp.append' (bytes := 32) Try.zeroValue25 Try.sizeOf25 Try.underlying28 (by kernel_rfl) rfl rfl rfl (pull_there (pull_here _ _)) rfl (src_os Try.underlying28 (.tail _ (.head _)) (by first | omega | (simp <;> omega) | (simp at * <;> omega))) (by first | omega | (simp <;> omega) | (simp at * <;> omega)) (by decide) ?_); intro b5; refine ⟨(by first | exact .head _ | exact .tail _ (.head _) | exact .tail _ (.tail _ (.head _))), ?_⟩)
                | (refine c_go rfl (AOp.append' (bytes := 32) Try.zeroValue25 Try.sizeOf25 Try.underlying28 (by kernel_rfl) rfl rfl rfl (pull_there (pull_here _ _)) rfl (src_os Try.underlying28 (.tail _ (.tail _ (.head _))) (by first | omega | (simp <;> omega) | (simp at * <;> omega))) (by first | omega | (simp <;> omega) | (simp at * <;> omega)) (by decide) ?_); intro b5; refine ⟨(by first | exact .head _ | exact .tail _ (.head _) | exact .tail _ (.tail _ (.head _))), ?_⟩)
                | (refine c_go rfl (AOp.append' (bytes := 32) Try.zeroValue25 Try.sizeOf25 Try.underlying28 (by kernel_rfl) rfl rfl rfl (pull_there (pull_there (pull_here _ _))) rfl (src_sl Try.underlying28 (by exact len_map (fun _ => rfl))) (by first | omega | (simp <;> omega) | (simp at * <;> omega)) (by decide) ?_); intro b5; refine ⟨(by first | exact .head _ | exact .tail _ (.head _) | exact .tail _ (.tail _ (.head _))), ?_⟩)
                | (refine c_go rfl (AOp.append' (bytes := 32) Try.zeroValue25 Try.sizeOf25 Try.underlying28 (by kernel_rfl) rfl rfl rfl (pull_there (pull_there (pull_here _ _))) rfl (src_sl Try.underlying28 (by assumption)) (by first | omega | (simp <;> omega) | (simp at * <;> omega)) (by decide) ?_); intro b5; refine ⟨(by first | exact .head _ | exact .tail _ (.head _) | exact .tail _ (.tail _ (.head _))), ?_⟩)
                | (refine c_go rfl (AOp.append' (bytes := 32) Try.zeroValue25 Try.sizeOf25 Try.underlying28 (by kernel_rfl) rfl rfl rfl (pull_there (pull_there (pull_here _ _))) rfl (src_sl Try.underlying28 (all_len rfl)) (by first | omega | (simp <;> omega) | (simp at * <;> omega)) (by decide) ?_); intro b5; refine ⟨(by first | exact .head _ | exact .tail _ (.head _) | exact .tail _ (.tail _ (.head _))), ?_⟩)
                | (refine c_go rfl (AOp.append' (bytes := 32) Try.zeroValue25 Try.sizeOf25 Try.underlying28 (by kernel_rfl) rfl rfl rfl (pull_there (pull_there (pull_here _ _))) rfl (src_row Try.underlying28 (.head _)) (by first | omega | (simp <;> omega) | (simp at * <;> omega)) (by decide) ?_); intro b5; refine ⟨(by first | exact .head _ | exact .tail _ (.head _) | exact .tail _ (.tail _ (.head _))), ?_⟩)
                | (refine c_go rfl (AOp.append' (bytes := 32) Try.zeroValue25 Try.sizeOf25 Try.underlying28 (by kernel_rfl) rfl rfl rfl (pull_there (pull_there (pull_here _ _))) rfl (src_row Try.underlying28 (.tail _ (.head _))) (by first | omega | (simp <;> omega) | (simp at * <;> omega)) (by decide) ?_); intro b5; refine ⟨(by first | exact .head _ | exact .tail _ (.head _) | exact .tail _ (.tail _ (.head _))), ?_⟩)
                | (refine c_go rfl (AOp.append' (bytes := 32) Try.zeroValue25 Try.sizeOf25 Try.underlying28 (by kernel_rfl) rfl rfl rfl (pull_there (pull_there (pull_here _ _))) rfl (src_row Try.underlying28 (.tail _ (.tail _ (.head _)))) (by first | omega | (simp <;> omega) | (simp at * <;> omega)) (by decide) ?_); intro b5; refine ⟨(by first | exact .head _ | exact .tail _ (.head _) | exact .tail _ (.tail _ (.head _))), ?_⟩)
                | (refine c_go rfl (AOp.append' (bytes := 32) Try.zeroValue25 Try.sizeOf25 Try.underlying28 (by kernel_rfl) rfl rfl rfl (pull_there (pull_there (pull_here _ _))) rfl (src_os Try.underlying28 (.head _) (by first | omega | (simp <;> omega) | (simp at * <;> omega))) (by first | omega | (simp <;> omega) | (simp at * <;> omega)) (by decide) ?_); intro b5; refine ⟨(by first | exact .head _ | exact .tail _ (.head _) | exact .tail _ (.tail _ (.head _))), ?_⟩)
                | (refine c_go rfl (AOp.append' (bytes := 32) Try.zeroValue25 Try.sizeOf25 Try.underlying28 (by kernel_rfl) rfl rfl rfl (pull_there (pull_there (pull_here _ _))) rfl (src_os Try.underlying28 (.tail _ (.head _)) (by first | omega | (simp <;> omega) | (simp at * <;> omega))) (by first | omega | (simp <;> omega) | (simp at * <;> omega)) (by decide) ?_); intro b5; refine ⟨(by first | exact .head _ | exact .tail _ (.head _) | exact .tail _ (.tail _ (.head _))), ?_⟩)
                | (refine c_go rfl (AOp.append' (bytes := 32) Try.zeroValue25 Try.sizeOf25 Try.underlying28 (by kernel_rfl) rfl rfl rfl (pull_there (pull_there (pull_here _ _))) rfl (src_os Try.underlying28 (.tail _ (.tail _ (.head _))) (by first | omega | (simp <;> omega) | (simp at * <;> omega))) (by first | omega | (simp <;> omega) | (simp at * <;> omega)) (by decide) ?_); intro b5; refine ⟨(by first | exact .head _ | exact .tail _ (.head _) | exact .tail _ (.tail _ (.head _))), ?_⟩)
                first
                | refine c_go rfl (AOp.storeB' Try.sizeOf30 rfl rfl rfl rfl rfl (pull_here _ _) rfl rfl ⟨(by first | exact .head _ | exact .tail _ (.head _) | exact .tail _ (.tail _ (.head _))), ?_⟩)
                | refine c_go rfl (AOp.storeB' Try.sizeOf30 rfl rfl rfl rfl rfl (pull_there (pull_here _ _)) rfl rfl ⟨(by first | exact .head _ | exact .tail _ (.head _) | exact .tail _ (.tail _ (.head _))), ?_⟩)
                | refine c_go rfl (AOp.storeB' Try.sizeOf30 rfl rfl rfl rfl rfl (pull_there (pull_there (pull_here _ _))) rfl rfl ⟨(by first | exact .head _ | exact .tail _ (.head _) | exact .tail _ (.tail _ (.head _))), ?_⟩)
                | refine c_go rfl (AOp.storeR' Try.sizeOf30 rfl rfl rfl rfl rfl (pull_here _ _) (by first | exact idx_nat (by first | omega | (simp <;> omega) | (simp at * <;> omega)) | exact idx_map (by first | omega | (simp <;> omega) | (simp at * <;> omega)) | assumption) rfl rfl rfl ⟨(by first | exact .head _ | exact .tail _ (.head _) | exact .tail _ (.tail _ (.head _))), ?_⟩)
                | refine c_go rfl (AOp.storeR' Try.sizeOf30 rfl rfl rfl rfl rfl (pull_there (pull_here _ _)) (by first | exact idx_nat (by first | omega | (simp <;> omega) | (simp at * <;> omega)) | exact idx_map (by first | omega | (simp <;> omega) | (simp at * <;> omega)) | assumption) rfl rfl rfl ⟨(by first | exact .head _ | exact .tail _ (.head _) | exact .tail _ (.tail _ (.head _))), ?_⟩)
                | refine c_go rfl (AOp.storeR' Try.sizeOf30 rfl rfl rfl rfl rfl (pull_there (pull_there (pull_here _ _))) (by first | exact idx_nat (by first | omega | (simp <;> omega) | (simp at * <;> omega)) | exact idx_map (by first | omega | (simp <;> omega) | (simp at * <;> omega)) | assumption) rfl rfl rfl ⟨(by first | exact .head _ | exact .tail _ (.head _) | exact .tail _ (.tail _ (.head _))), ?_⟩)
                refine c_go rfl (AOp.assign rfl rfl ⟨(by first | exact .head _ | exact .tail _ (.head _) | exact .tail _ (.tail _ (.head _))), ?_⟩)
                refine c_nil ?_
                refine aw_region ?_
                refine aops_cons rfl rfl (AOp.move rfl rfl ?_)
                first
                | refine aops_cons rfl rfl (AOp.addE rfl rfl rfl (by first | omega | (simp <;> omega) | (simp at * <;> omega)) (by first | omega | (simp <;> omega) | (simp at * <;> omega)) ?_)
                | refine aops_cons rfl rfl (AOp.add rfl rfl rfl rfl ?_)
                refine aops_cons rfl rfl (AOp.assign rfl rfl ?_)
                refine aops_nil ?_
                have hrl := run_empties (now := now) hnil
                refine ⟨(i + 1, (runOf e now).1, sv ++ (runOf e now).2, _), ⟨by omega, gd_runOf hg2 (Int.le_refl _) k0, by rw [hw2] at hrl; omega, kept_run hg2.u (by rw [hw2]; exact hk1)⟩, by dsimp only; omega, ((wk_drop (A' := [.box b1 30 (Dk.e (runOf e now).1), .row _ 25 4 (sv.map Wt.e ++ (runOf e now).2.map Wt.e)]) ?_).trans ((wk_perm (List.Perm.swap _ _ _)).trans ((wk_roweq (by rw [List.map_append])).trans ((wk_perm (List.Perm.swap _ _ _)).trans (wk_env (sube_cons rfl (sube_cons rfl (sube_cons rfl (sube_cons rfl (sube_cons rfl (sube_nil _)))))))))))⟩
                (focus ((repeat (first | exact List.Sublist.slnil | apply List.Sublist.cons_cons | apply List.Sublist.cons)); done))
            all_goals
              refine aw_seq ?_
              refine aw_block ?_
              refine aw_seq ?_
              refine aw_region ?_
              refine aops_cons rfl rfl (AOp.assign rfl rfl ?_)
              refine aops_nil ?_
              refine aw_block ?_
              refine aw_loop (β := Nat × Dk) (S := (fun (z0 : Nat × Dk) => match z0 with | (f, e2) => [(3, .sc (.pointer (some ⟨b1, 0, none⟩))), (4, .sc (.int .i64 now)), (5, ws d.w), (6, .sc wl), (7, .sc (.int .i64 (i : Int))), (8, .sc (.int .i64 ((c : Int) + 1))), (9, .sc (.int .i64 ((f : Int) + 1)))])) (B := (fun (z0 : Nat × Dk) => match z0 with | (f, e2) => [.box b1 30 e2.e, .row wl 25 4 (sv.map Wt.e)])) (pre := (fun (z0 : Nat × Dk) => match z0 with | (f, e2) => f ≤ 3 ∧ GD 3 e2 now ∧ e2.w = d1.w ∧ ∀ y ∈ e2.l, (c : Int) + 1 ≤ y.c ∧ (y.c = (c : Int) + 1 → (f : Int) + 1 ≤ y.f))) (μ := (fun (z0 : Nat × Dk) => match z0 with | (f, e2) => 3 - f)) (0, e) (wk_env (sube_cons rfl (sube_cons rfl (sube_cons rfl (sube_cons rfl (sube_cons rfl (sube_cons rfl (sube_cons rfl (sube_nil _))))))))) ?_ ?_
              · exact ⟨by omega, hg2, hw2, fun y hy => by have h8 := hg2.ok y hy; have h9 := hm2 y hy; omega⟩
              · rintro ⟨f, e2⟩ ⟨hf, hg3, hw3, hm3⟩
                change AW _ _ _ ([(3, .sc (.pointer (some ⟨b1, 0, none⟩))), (4, .sc (.int .i64 now)), (5, ws d.w), (6, .sc wl), (7, .sc (.int .i64 (i : Int))), (8, .sc (.int .i64 ((c : Int) + 1))), (9, .sc (.int .i64 ((f : Int) + 1)))] : Env) ([.box b1 30 e2.e, .row wl 25 4 (sv.map Wt.e)] : List Blk) _
                have hel := hg3.lenl (by decide)
                have hew := hg3.lenw
                refine aw_seq ?_
                refine aw_seq ?_
                refine aw_region ?_
                refine aops_cons rfl rfl (AOp.move rfl rfl ?_)
                refine aops_cons rfl rfl (AOp.leq rfl rfl rfl ?_)
                refine aops_nil ?_
                refine aw_cond _ rfl (fun h12 => ?_) (fun h12 => ?_)
                focus
                  have h12_ := h12
                  try simp only [List.length_map, List.length_cons, List.length_nil, nrm] at h12
                  all_goals try (exfalso; first | contradiction | (simp at h12_; done) | omega)
                  all_goals
                    refine aw_skip ?_
                    skip
                rotate_right
                focus
                  have h12_ := h12
                  try simp only [List.length_map, List.length_cons, List.length_nil, nrm] at h12
                  all_goals try (exfalso; first | contradiction | (simp at h12_; done) | omega)
                  all_goals
                    refine aw_exit ?_
                    refine aw_region ?_
                    refine aops_cons rfl rfl (AOp.move rfl rfl ?_)
                    first
                    | refine aops_cons rfl rfl (AOp.addE rfl rfl rfl (by first | omega | (simp <;> omega) | (simp at * <;> omega)) (by first | omega | (simp <;> omega) | (simp at * <;> omega)) ?_)
                    | refine aops_cons rfl rfl (AOp.add rfl rfl rfl rfl ?_)
                    refine aops_cons rfl rfl (AOp.assign rfl rfl ?_)
                    refine aops_nil ?_
                    have hf3 : f = 3 := by omega
                    refine ⟨(c + 1, e2), ⟨by omega, hg3, hw3, fun y hy => by have h8 := hg3.ok y hy; have h9 := hm3 y hy; omega⟩, by dsimp only; omega, (wk_env (sube_cons rfl (sube_cons rfl (sube_cons rfl (sube_cons rfl (sube_cons rfl (sube_cons rfl (sube_nil _))))))))⟩
                all_goals
                  refine aw_seq ?_
                  refine aw_block ?_
                  refine aw_region ?_
                  first
                  | refine aops_cons rfl rfl (AOp.loadN Try.isAgg30 Try.sizeOf30 rfl rfl (reads_im _ _) rfl rfl ?_)
                  | refine aops_cons rfl rfl (AOp.loadN Try.isAgg30 Try.sizeOf30 rfl rfl (reads_box _ (.head _)) rfl rfl ?_)
                  | refine aops_cons rfl rfl (AOp.loadN Try.isAgg30 Try.sizeOf30 rfl rfl (reads_box _ (.tail _ (.head _))) rfl rfl ?_)
                  | refine aops_cons rfl rfl (AOp.loadN Try.isAgg30 Try.sizeOf30 rfl rfl (reads_box _ (.tail _ (.tail _ (.head _)))) rfl rfl ?_)
                  | refine aops_cons rfl rfl (AOp.loadN Try.isAgg30 Try.sizeOf30 rfl rfl (reads_row _ (.head _) (idx_nat (by first | omega | (simp <;> omega) | (simp at * <;> omega))) (by first | omega | (simp <;> omega) | (simp at * <;> omega))) rfl rfl ?_)
                  | refine aops_cons rfl rfl (AOp.loadN Try.isAgg30 Try.sizeOf30 rfl rfl (reads_row _ (.head _) (idx_map (by first | omega | (simp <;> omega) | (simp at * <;> omega))) (by first | omega | (simp <;> omega) | (simp at * <;> omega))) rfl rfl ?_)
                  | refine aops_cons rfl rfl (AOp.loadN Try.isAgg30 Try.sizeOf30 rfl rfl (reads_row _ (.head _) (by assumption) (by first | omega | (simp <;> omega) | (simp at * <;> omega))) rfl rfl ?_)
                  | refine aops_cons rfl rfl (AOp.loadN Try.isAgg30 Try.sizeOf30 rfl rfl (reads_row _ (.tail _ (.head _)) (idx_nat (by first | omega | (simp <;> omega) | (simp at * <;> omega))) (by first | omega | (simp <;> omega) | (simp at * <;> omega))) rfl rfl ?_)
                  | refine aops_cons rfl rfl (AOp.loadN Try.isAgg30 Try.sizeOf30 rfl rfl (reads_row _ (.tail _ (.head _)) (idx_map (by first | omega | (simp <;> omega) | (simp at * <;> omega))) (by first | omega | (simp <;> omega) | (simp at * <;> omega))) rfl rfl ?_)
                  | refine aops_cons rfl rfl (AOp.loadN Try.isAgg30 Try.sizeOf30 rfl rfl (reads_row _ (.tail _ (.head _)) (by assumption) (by first | omega | (simp <;> omega) | (simp at * <;> omega))) rfl rfl ?_)
                  | refine aops_cons rfl rfl (AOp.loadN Try.isAgg30 Try.sizeOf30 rfl rfl (reads_row _ (.tail _ (.tail _ (.head _))) (idx_nat (by first | omega | (simp <;> omega) | (simp at * <;> omega))) (by first | omega | (simp <;> omega) | (simp at * <;> omega))) rfl rfl ?_)
                  | refine aops_cons rfl rfl (AOp.loadN Try.isAgg30 Try.sizeOf30 rfl rfl (reads_row _ (.tail _ (.tail _ (.head _))) (idx_map (by first | omega | (simp <;> omega) | (simp at * <;> omega))) (by first | omega | (simp <;> omega) | (simp at * <;> omega))) rfl rfl ?_)
                  | refine aops_cons rfl rfl (AOp.loadN Try.isAgg30 Try.sizeOf30 rfl rfl (reads_row _ (.tail _ (.tail _ (.head _))) (by assumption) (by first | omega | (simp <;> omega) | (simp at * <;> omega))) rfl rfl ?_)
                  refine aops_cons rfl rfl (AOp.move rfl rfl ?_)
                  refine aops_cons rfl rfl (AOp.move rfl rfl ?_)
                  refine aops_cons rfl rfl (AOp.callP Try.call16 rfl rfl rfl (by exact giveD e2 ((c : Int) + 1) ((f : Int) + 1) (by first | omega | (simp <;> omega) | (simp at * <;> omega)) (by first | omega | (simp <;> omega) | (simp at * <;> omega))) ?_)
                  first
                  | refine aops_cons rfl rfl (AOp.storeB' Try.sizeOf30 rfl rfl rfl rfl rfl (pull_here _ _) rfl rfl ?_)
                  | refine aops_cons rfl rfl (AOp.storeB' Try.sizeOf30 rfl rfl rfl rfl rfl (pull_there (pull_here _ _)) rfl rfl ?_)
                  | refine aops_cons rfl rfl (AOp.storeB' Try.sizeOf30 rfl rfl rfl rfl rfl (pull_there (pull_there (pull_here _ _))) rfl rfl ?_)
                  | refine aops_cons rfl rfl (AOp.storeR' Try.sizeOf30 rfl rfl rfl rfl rfl (pull_here _ _) (by first | exact idx_nat (by first | omega | (simp <;> omega) | (simp at * <;> omega)) | exact idx_map (by first | omega | (simp <;> omega) | (simp at * <;> omega)) | assumption) rfl rfl rfl ?_)
                  | refine aops_cons rfl rfl (AOp.storeR' Try.sizeOf30 rfl rfl rfl rfl rfl (pull_there (pull_here _ _)) (by first | exact idx_nat (by first | omega | (simp <;> omega) | (simp at * <;> omega)) | exact idx_map (by first | omega | (simp <;> omega) | (simp at * <;> omega)) | assumption) rfl rfl rfl ?_)
                  | refine aops_cons rfl rfl (AOp.storeR' Try.sizeOf30 rfl rfl rfl rfl rfl (pull_there (pull_there (pull_here _ _))) (by first | exact idx_nat (by first | omega | (simp <;> omega) | (simp at * <;> omega)) | exact idx_map (by first | omega | (simp <;> omega) | (simp at * <;> omega)) | assumption) rfl rfl rfl ?_)
                  refine aops_nil ?_
                  refine aw_region ?_
                  refine aops_cons rfl rfl (AOp.move rfl rfl ?_)
                  first
                  | refine aops_cons rfl rfl (AOp.addE rfl rfl rfl (by first | omega | (simp <;> omega) | (simp at * <;> omega)) (by first | omega | (simp <;> omega) | (simp at * <;> omega)) ?_)
                  | refine aops_cons rfl rfl (AOp.add rfl rfl rfl rfl ?_)
                  refine aops_cons rfl rfl (AOp.assign rfl rfl ?_)
                  refine aops_nil ?_
                  refine ⟨(f + 1, ⟨drp e2.l ((c : Int) + 1) ((f : Int) + 1), e2.w⟩), ⟨by omega, gd_give hg3, hw3, fun y hy => ?_⟩, by dsimp only; omega, (wk_env (sube_cons rfl (sube_cons rfl (sube_cons rfl (sube_cons rfl (sube_cons rfl (sube_cons rfl (sube_cons rfl (sube_nil _)))))))))⟩
                  have h7 := mem_drp hy
                  have h8 := hm3 y h7.1
                  omega

end Go.Proofs.Ytdacnebhlgibhaa
