/- Own text: the search for a lease. -/
import Derived.Test.YtdacnebhlgibhaaLa
set_option linter.unusedVariables false
set_option linter.unusedSimpArgs false
set_option linter.all false
set_option maxRecDepth 100000
set_option maxHeartbeats 2000000
namespace Go.Proofs.Ytdacnebhlgibhaa
open Go Go.Aw

theorem ordI_lt {a b : L} : ordI a b < 0 ↔ a.f < b.f ∨ a.f = b.f ∧ a.c < b.c := by
  unfold ordI orI orI orI cmpI
  (repeat' split) <;> simp at * <;> omega
theorem ordI_eq {a b : L} : ordI a b = 0 ↔ a.f = b.f ∧ a.c = b.c := by
  unfold ordI orI orI orI cmpI
  (repeat' split) <;> simp at * <;> omega
theorem ordI_gt {a b : L} : 0 < ordI a b ↔ b.f < a.f ∨ a.f = b.f ∧ b.c < a.c := by
  unfold ordI orI orI orI cmpI
  (repeat' split) <;> simp at * <;> omega
/-- In order, none twice. -/
def srt (l : List L) : Prop := l.Pairwise fun a b => ordI a b < 0
def pos (l : List L) (t : L) : Nat := l.countP fun a => decide (ordI a t < 0)
def has (l : List L) (t : L) : Bool := l.any fun a => decide (ordI a t = 0)
theorem srt_get {l : List L} (h : srt l) {i j : Nat} (hi : i < l.length) (hj : j < l.length) (hij : i < j) : ordI l[i] l[j] < 0 := List.pairwise_iff_getElem.1 h i j hi hj hij
theorem ord_below {l : List L} {t : L} (h : srt l) {i j : Nat} (hi : i < l.length) (hj : j < l.length) (hij : i ≤ j) (k : ordI l[j] t < 0) : ordI l[i] t < 0 := by
  rcases Nat.eq_or_lt_of_le hij with e | e
  · subst e; exact k
  · have := srt_get h hi hj e
    rw [ordI_lt] at *; omega
theorem pos_of {l : List L} {t : L} {i : Nat} (h : i ≤ l.length) (h1 : ∀ k (hk : k < l.length), k < i → ordI l[k] t < 0) (h2 : ∀ k (hk : k < l.length), i ≤ k → ¬ ordI l[k] t < 0) : pos l t = i := by
  have : l.countP (fun a => decide (ordI a t < 0)) = (l.take i).countP (fun a => decide (ordI a t < 0)) + (l.drop i).countP (fun a => decide (ordI a t < 0)) := by rw [← List.countP_append, List.take_append_drop]
  unfold pos
  rw [this, List.countP_eq_length.2, List.countP_eq_zero.2]
  · simp; omega
  · intro a ha
    obtain ⟨k, hk, rfl⟩ := List.getElem_of_mem ha
    simp only [List.length_drop] at hk
    have := h2 (i + k) (by omega) (by omega)
    simpa using this
  · intro a ha
    obtain ⟨k, hk, rfl⟩ := List.getElem_of_mem ha
    simp only [List.length_take] at hk
    have := h1 k (by omega) (by omega)
    simpa using this
theorem has_of {l : List L} {t : L} (h : srt l) {i : Nat} (hi : i < l.length) (h1 : ∀ k (hk : k < l.length), k < i → ordI l[k] t < 0) (h2 : ¬ ordI l[i] t < 0) : has l t = decide (ordI l[i] t = 0) := by
  unfold has
  rw [Bool.eq_iff_iff]
  simp only [List.any_eq_true, decide_eq_true_eq]
  constructor
  · rintro ⟨a, ha, h3⟩
    obtain ⟨k, hk, rfl⟩ := List.getElem_of_mem ha
    rcases Nat.lt_trichotomy k i with e | e | e
    · have := h1 k hk e; omega
    · subst e; exact h3
    · have := srt_get h hi hk e
      rw [ordI_lt] at this h2; rw [ordI_eq] at h3; omega
  · intro h3; exact ⟨_, List.getElem_mem hi, h3⟩
theorem has_none {l : List L} {t : L} (h1 : ∀ k (hk : k < l.length), ordI l[k] t < 0) : has l t = false := by
  unfold has
  rw [List.any_eq_false]
  intro a ha
  obtain ⟨k, hk, rfl⟩ := List.getElem_of_mem ha
  have := h1 k hk
  simp; omega

theorem pos_lt {l : List L} {t : L} (hs : srt l) (h : has l t = true) : pos l t < l.length := by
  unfold has at h
  obtain ⟨a, ha, h1⟩ := List.any_eq_true.1 h
  obtain ⟨k, hk, rfl⟩ := List.getElem_of_mem ha
  unfold pos
  have h2 : (l.countP fun a => decide (ordI a t < 0)) ≠ l.length := fun e => by
    rw [List.countP_eq_length] at e
    have := e _ ha
    simp at this h1; omega
  have := List.countP_le_length (p := fun a => decide (ordI a t < 0)) (l := l)
  omega
def hld (l : List L) (now c f : Int) : Int := match l.find? (fun a => decide (a.f = f ∧ a.c = c)) with
  | some a => if a.u ≤ now then 0 else a.m
  | none => 0

theorem pos_spec {l : List L} {t : L} (hs : srt l) : ∀ k (hk : k < l.length), k < pos l t ↔ ordI l[k] t < 0 := by
  induction l with
  | nil => intro k hk; simp at hk
  | cons a l ih =>
    have hs' := List.pairwise_cons.1 hs
    intro k hk
    by_cases h : ordI a t < 0
    · have e : pos (a :: l) t = pos l t + 1 := by unfold pos; rw [List.countP_cons]; simp [h]
      rw [e]
      cases k with
      | zero => simpa using h
      | succ k => simp only [List.getElem_cons_succ, Nat.add_lt_add_iff_right]; exact ih hs'.2 k (by simpa using hk)
    · have e : pos (a :: l) t = 0 := by
        unfold pos
        rw [List.countP_eq_zero]
        intro x hx
        rcases List.mem_cons.1 hx with rfl | hx
        · simpa using h
        · have := hs'.1 x hx
          rw [ordI_lt] at *; simp; rw [← Int.not_lt, ordI_lt]; omega
      rw [e]
      cases k with
      | zero => simp; omega
      | succ k =>
        have hk' : k < l.length := by simpa using hk
        have := hs'.1 l[k] (List.getElem_mem _)
        simp only [List.getElem_cons_succ, Nat.not_lt_zero, false_iff]
        rw [ordI_lt] at *; omega
theorem pos_get {l : List L} {t : L} (hs : srt l) (h : has l t = true) : ordI (l[pos l t]'(pos_lt hs h)) t = 0 := by
  have h' := h
  unfold has at h'
  obtain ⟨a, ha, h1⟩ := List.any_eq_true.1 h'
  obtain ⟨k, hk, rfl⟩ := List.getElem_of_mem ha
  have h2 : ¬ k < pos l t := by have := pos_spec (t := t) hs k hk; simp at h1; omega
  have h3 : ¬ ordI (l[pos l t]'(pos_lt hs h)) t < 0 := by have := pos_spec (t := t) hs (pos l t) (pos_lt hs h); omega
  rcases Nat.eq_or_lt_of_le (Nat.not_lt.1 h2) with e | e
  · simp only [e]; simpa using h1
  · have := srt_get hs (pos_lt hs h) hk e
    rw [ordI_lt] at *; simp [ordI_eq] at h1; rw [ordI_eq]; omega
theorem hld_none {l : List L} {now c f : Int} (h : has l ⟨c, f, 0, 0⟩ = false) : hld l now c f = 0 := by
  unfold hld
  rw [List.find?_eq_none.2]
  intro a ha
  unfold has at h
  rw [List.any_eq_false] at h
  have := h a ha
  simp only [decide_eq_true_eq, ordI_eq] at this ⊢
  exact this
theorem find_pos {l : List L} {c f : Int} (hs : srt l) (h : has l ⟨c, f, 0, 0⟩ = true) : l.find? (fun a => decide (a.f = f ∧ a.c = c)) = some (l[pos l ⟨c, f, 0, 0⟩]'(pos_lt hs h)) := by
  rw [List.find?_eq_some_iff_getElem]
  refine ⟨by have := pos_get hs h; rw [ordI_eq] at this; simpa using this, _, pos_lt hs h, rfl, fun j hj => ?_⟩
  have := (pos_spec hs j (by have := pos_lt hs h; omega)).1 hj
  rw [ordI_lt] at this
  simp at this ⊢; omega

theorem search (l : List L) (t : L) (hs : srt l) (hl : l.length ≤ 1000000) : Pur Try.prog 126 [ls l, .ag t.e, .fn (.func 127) []] (.tp [.sc (.int .i64 (pos l t : Nat)), .sc (.bool (has l t))]) := by
  refine acallsN Try.func126 rfl Try.ntmps126 rfl ?_
  refine aw_seq ?_
  refine aw_region ?_
  refine aops_cons rfl rfl (AOp.boxI rfl rfl rfl ?_)
  refine aops_cons rfl rfl (AOp.assign rfl rfl ?_)
  refine aops_cons rfl rfl (AOp.assign rfl rfl ?_)
  refine aops_nil ?_
  refine aw_seq ?_
  refine aw_region ?_
  refine aops_cons rfl rfl (AOp.move rfl rfl ?_)
  refine aops_cons rfl rfl (AOp.lenS (by first | exact List.length_map _ | rfl) Try.underlying27 rfl rfl ?_)
  refine aops_cons rfl rfl (AOp.assign rfl rfl ?_)
  refine aops_nil ?_
  refine aw_seq ?_
  refine aw_region ?_
  refine aops_cons rfl rfl (AOp.move rfl rfl ?_)
  refine aops_cons rfl rfl (AOp.assign rfl rfl ?_)
  refine aops_cons rfl rfl (AOp.assign rfl rfl ?_)
  refine aops_nil ?_
  refine aw_seq ?_
  refine aw_block ?_
  refine aw_loop (β := Nat × Nat) (S := (fun (z0 : Nat × Nat) => match z0 with | (i, j) => [(0, ls l), (2, .fn (.func 127) []), (4, .im t.e), (8, .sc (.int .i64 (l.length : Nat))), (9, .sc (.int .i64 (i : Int))), (10, .sc (.int .i64 (j : Int)))])) (B := (fun (z0 : Nat × Nat) => match z0 with | (i, j) => [])) (pre := (fun (z0 : Nat × Nat) => match z0 with | (i, j) => i ≤ j ∧ j ≤ l.length ∧ (∀ k (hk : k < l.length), k < i → ordI l[k] t < 0) ∧ (∀ k (hk : k < l.length), j ≤ k → ¬ ordI l[k] t < 0))) (μ := (fun (z0 : Nat × Nat) => match z0 with | (i, j) => j - i)) (0, l.length) (wk_env (sube_cons rfl (sube_cons rfl (sube_cons rfl (sube_cons rfl (sube_cons rfl (sube_cons rfl (sube_nil _)))))))) ?_ ?_
  · exact ⟨by omega, by omega, fun k _ h => by omega, fun k h1 h => by omega⟩
  · rintro ⟨i, j⟩ ⟨hij, hj, hlo, hhi⟩
    change AW _ _ _ ([(0, ls l), (2, .fn (.func 127) []), (4, .im t.e), (8, .sc (.int .i64 (l.length : Nat))), (9, .sc (.int .i64 (i : Int))), (10, .sc (.int .i64 (j : Int)))] : Env) ([] : List Blk) _
    refine aw_seq ?_
    refine aw_seq ?_
    refine aw_region ?_
    refine aops_cons rfl rfl (AOp.move rfl rfl ?_)
    refine aops_cons rfl rfl (AOp.move rfl rfl ?_)
    refine aops_cons rfl rfl (AOp.lss rfl rfl rfl ?_)
    refine aops_nil ?_
    refine aw_cond _ rfl (fun h1 => ?_) (fun h1 => ?_)
    focus
      have h1_ := h1
      try simp only [List.length_map, List.length_cons, List.length_nil, nrm] at h1
      all_goals try (exfalso; first | (simp at h1_; done) | omega)
      all_goals
        refine aw_skip ?_
        skip
    rotate_right
    focus
      have h1_ := h1
      try simp only [List.length_map, List.length_cons, List.length_nil, nrm] at h1
      all_goals try (exfalso; first | (simp at h1_; done) | omega)
      all_goals
        refine aw_exit ?_
        refine aw_seq ?_
        refine aw_draw 15 [0, 0, 0, 0, 0, 0, 0, 0, 0, 0, 0, 0, 0, 0, 0] (by kernel_rfl) (by kernel_rfl) ?_
        refine psq_cons _ rfl (core0 (AOp.move rfl rfl ⟨rfl, rfl⟩)) ?_
        refine psq_cons _ rfl (core0 (AOp.move rfl rfl ⟨rfl, rfl⟩)) ?_
        refine psq_cons _ rfl (core0 (AOp.move rfl rfl ⟨rfl, rfl⟩)) ?_
        refine psq_cons _ rfl (core0 (AOp.lss rfl rfl rfl ⟨rfl, rfl⟩)) ?_
        refine psq_cons _ rfl (core0 (AOp.move rfl rfl ⟨rfl, rfl⟩)) ?_
        refine psq_guard 4 true 39 _ rfl rfl rfl rfl (fun g2 => ?_) (fun g2 => ?_)
        focus
          have g2_ := g2
          try simp only [List.length_map, List.length_cons, List.length_nil, nrm] at g2
          all_goals try (exfalso; first | (simp at g2_; done) | omega)
          all_goals
            refine psg _ (core0 (AOp.move rfl rfl ⟨rfl, rfl⟩)) ?_
            refine psq_guard 4 true 39 _ rfl rfl rfl rfl (fun _ => ?_) (fun hh => by exfalso; first | (rw [g2_] at hh; exact absurd hh (by decide)) | (revert hh; simp [g2_]))
            refine psg _ (core0 (AOp.move rfl rfl ⟨rfl, rfl⟩)) ?_
            refine psq_guard 4 true 39 _ rfl rfl rfl rfl (fun _ => ?_) (fun hh => by exfalso; first | (rw [g2_] at hh; exact absurd hh (by decide)) | (revert hh; simp [g2_]))
            refine psg _ (core0 (AOp.move rfl rfl ⟨rfl, rfl⟩)) ?_
            refine psq_guard 4 true 39 _ rfl rfl rfl rfl (fun _ => ?_) (fun hh => by exfalso; first | (rw [g2_] at hh; exact absurd hh (by decide)) | (revert hh; simp [g2_]))
            refine psg _ (core0 (AOp.indexLN Try.underlying27 Try.sizeOf111 rfl rfl rfl (by first | omega | (simp <;> omega) | (simp at * <;> omega)) (fun _ => rfl) ⟨rfl, rfl⟩)) ?_
            refine psq_guard 4 true 39 _ rfl rfl rfl rfl (fun _ => ?_) (fun hh => by exfalso; first | (rw [g2_] at hh; exact absurd hh (by decide)) | (revert hh; simp [g2_]))
            refine psg _ (core0 (AOp.loadN Try.isAgg111 Try.sizeOf111 rfl rfl (reads_im _ _) rfl rfl ⟨rfl, rfl⟩)) ?_
            refine psq_guard 4 true 39 _ rfl rfl rfl rfl (fun _ => ?_) (fun hh => by exfalso; first | (rw [g2_] at hh; exact absurd hh (by decide)) | (revert hh; simp [g2_]))
            refine psg _ (core0 (AOp.loadN Try.isAgg111 Try.sizeOf111 rfl rfl (reads_im _ _) rfl rfl ⟨rfl, rfl⟩)) ?_
            refine psq_guard 4 true 39 _ rfl rfl rfl rfl (fun _ => ?_) (fun hh => by exfalso; first | (rw [g2_] at hh; exact absurd hh (by decide)) | (revert hh; simp [g2_]))
            refine psg _ (core0 (AOp.callP Try.call127 rfl rfl rfl (by exact order _ _) ⟨rfl, rfl⟩)) ?_
            refine psq_guard 4 true 39 _ rfl rfl rfl rfl (fun _ => ?_) (fun hh => by exfalso; first | (rw [g2_] at hh; exact absurd hh (by decide)) | (revert hh; simp [g2_]))
            refine psg _ (core0 (AOp.eql rfl rfl rfl ⟨rfl, rfl⟩)) ?_
        rotate_right
        focus
          have g2_ := g2
          try simp only [List.length_map, List.length_cons, List.length_nil, nrm] at g2
          all_goals try (exfalso; first | (simp at g2_; done) | omega)
          all_goals
            refine psq_guard 4 true 39 _ rfl rfl rfl rfl (fun hh => by exfalso; first | (rw [g2_] at hh; exact absurd hh (by decide)) | (revert hh; simp [g2_])) (fun _ => ?_)
            refine psq_guard 4 true 39 _ rfl rfl rfl rfl (fun hh => by exfalso; first | (rw [g2_] at hh; exact absurd hh (by decide)) | (revert hh; simp [g2_])) (fun _ => ?_)
            refine psq_guard 4 true 39 _ rfl rfl rfl rfl (fun hh => by exfalso; first | (rw [g2_] at hh; exact absurd hh (by decide)) | (revert hh; simp [g2_])) (fun _ => ?_)
            refine psq_guard 4 true 39 _ rfl rfl rfl rfl (fun hh => by exfalso; first | (rw [g2_] at hh; exact absurd hh (by decide)) | (revert hh; simp [g2_])) (fun _ => ?_)
            refine psq_guard 4 true 39 _ rfl rfl rfl rfl (fun hh => by exfalso; first | (rw [g2_] at hh; exact absurd hh (by decide)) | (revert hh; simp [g2_])) (fun _ => ?_)
            refine psq_guard 4 true 39 _ rfl rfl rfl rfl (fun hh => by exfalso; first | (rw [g2_] at hh; exact absurd hh (by decide)) | (revert hh; simp [g2_])) (fun _ => ?_)
            refine psq_guard 4 true 39 _ rfl rfl rfl rfl (fun hh => by exfalso; first | (rw [g2_] at hh; exact absurd hh (by decide)) | (revert hh; simp [g2_])) (fun _ => ?_)
        all_goals
          first
          | refine psq_cons _ rfl (core0 (AOp.pick_t rfl rfl (by first | assumption | rfl) rfl ⟨rfl, rfl⟩)) ?_
          | refine psq_cons _ rfl (core0 (AOp.pick_f rfl rfl (by first | assumption | rfl) rfl ⟨rfl, rfl⟩)) ?_
          refine psq_cons _ rfl (core0 (AOp.assign rfl rfl ⟨rfl, rfl⟩)) ?_
          refine psq_nil ?_
          refine aops_cons rfl rfl (AOp.assign rfl rfl ?_)
          refine aops_nil ?_
          refine aw_weak (wk_drop (List.nil_sublist _)) ?_
          refine aw_ret ?_
          refine ⟨_, (res2 Try.results126 rfl rfl), ?_⟩
          have hij' : j = i := by omega
          subst hij'
          refine ⟨?_, rfl⟩
          rw [pos_of (by omega) hlo hhi]
          first
          | rw [has_none (fun k hk => hlo k hk (by omega))]; rfl
          | rw [has_of hs (by omega) hlo (hhi _ (by omega) (Nat.le_refl _))]
    all_goals
      refine aw_block ?_
      refine aw_seq ?_
      refine aw_region ?_
      refine aops_cons rfl rfl (AOp.move rfl rfl ?_)
      refine aops_cons rfl rfl (AOp.move rfl rfl ?_)
      refine aops_cons rfl rfl (AOp.addE rfl rfl rfl (by first | omega | (simp <;> omega) | (simp at * <;> omega)) (by first | omega | (simp <;> omega) | (simp at * <;> omega)) ?_)
      refine aops_cons rfl rfl (AOp.conviU Try.underlying3 Try.underlying162 rfl rfl (by first | omega | (simp <;> omega) | (simp at * <;> omega)) (by first | omega | (simp <;> omega) | (simp at * <;> omega)) ?_)
      refine aops_cons rfl rfl (AOp.shrD (d := 2) rfl rfl rfl (by decide) (by decide) ?_)
      refine aops_cons rfl rfl (AOp.conviI Try.underlying162 Try.underlying3 rfl rfl (by first | omega | (simp <;> omega) | (simp at * <;> omega)) (by first | omega | (simp <;> omega) | (simp at * <;> omega)) ?_)
      refine aops_cons rfl rfl (AOp.assign rfl rfl ?_)
      refine aops_nil ?_
      refine aw_seq ?_
      refine aw_draw 6 [0, 0, 0, 0, 0, 0] (by kernel_rfl) (by kernel_rfl) ?_
      refine psq_cons _ rfl (core0 (AOp.move rfl rfl ⟨rfl, rfl⟩)) ?_
      refine psq_cons _ rfl (core0 (AOp.move rfl rfl ⟨rfl, rfl⟩)) ?_
      refine psq_cons _ rfl (core0 (AOp.move rfl rfl ⟨rfl, rfl⟩)) ?_
      refine psq_cons _ rfl (core0 (AOp.indexLN Try.underlying27 Try.sizeOf111 rfl rfl rfl (by first | omega | (simp <;> omega) | (simp at * <;> omega)) (fun _ => rfl) ⟨rfl, rfl⟩)) ?_
      refine psq_cons _ rfl (core0 (AOp.loadN Try.isAgg111 Try.sizeOf111 rfl rfl (reads_im _ _) rfl rfl ⟨rfl, rfl⟩)) ?_
      refine psq_cons _ rfl (core0 (AOp.loadN Try.isAgg111 Try.sizeOf111 rfl rfl (reads_im _ _) rfl rfl ⟨rfl, rfl⟩)) ?_
      refine psq_nil ?_
      refine aops_cons rfl rfl (AOp.callP Try.call127 rfl rfl rfl (by exact order _ _) ?_)
      refine aops_cons rfl rfl (AOp.lss rfl rfl rfl ?_)
      refine aops_nil ?_
      refine aw_cond _ rfl (fun h3 => ?_) (fun h3 => ?_)
      focus
        have h3_ := h3
        try simp only [List.length_map, List.length_cons, List.length_nil, nrm] at h3
        all_goals try (exfalso; first | (simp at h3_; done) | omega)
        all_goals
          refine aw_region ?_
          refine aops_cons rfl rfl (AOp.move rfl rfl ?_)
          refine aops_cons rfl rfl (AOp.addE rfl rfl rfl (by first | omega | (simp <;> omega) | (simp at * <;> omega)) (by first | omega | (simp <;> omega) | (simp at * <;> omega)) ?_)
          refine aops_cons rfl rfl (AOp.assign rfl rfl ?_)
          refine aops_nil ?_
          have hm : ordI (l[(i + j) / 2]'(by omega)) t < 0 := h3
          refine ⟨((i + j) / 2 + 1, j), ⟨by omega, by omega, fun k hk h => ?_, hhi⟩, by dsimp only; omega, (wk_env (sube_cons rfl (sube_cons rfl (sube_cons rfl (sube_cons rfl (sube_cons rfl (sube_cons rfl (sube_nil _))))))))⟩
          exact ord_below hs hk (by omega) (by omega) hm
      rotate_right
      focus
        have h3_ := h3
        try simp only [List.length_map, List.length_cons, List.length_nil, nrm] at h3
        all_goals try (exfalso; first | (simp at h3_; done) | omega)
        all_goals
          refine aw_region ?_
          refine aops_cons rfl rfl (AOp.move rfl rfl ?_)
          refine aops_cons rfl rfl (AOp.assign rfl rfl ?_)
          refine aops_nil ?_
          have hm : 0 ≤ ordI (l[(i + j) / 2]'(by omega)) t := h3
          refine ⟨(i, (i + j) / 2), ⟨by omega, by omega, hlo, fun k hk h => ?_⟩, by dsimp only; omega, (wk_env (sube_cons rfl (sube_cons rfl (sube_cons rfl (sube_cons rfl (sube_cons rfl (sube_cons rfl (sube_nil _))))))))⟩
          intro h4
          have := ord_below hs (by omega) hk h h4
          omega

theorem holds (l : List L) (now c f : Int) (hs : srt l) (hl : l.length ≤ 1000000) : Pur Try.prog 131 [ls l, .sc (.int .i64 now), .sc (.int .i64 c), .sc (.int .i64 f)] (.sc (.int .i64 (hld l now c f))) := by
  refine acallsN Try.func131 rfl Try.ntmps131 rfl ?_
  refine aw_seq ?_
  refine aw_region ?_
  refine aops_cons rfl rfl (AOp.assign rfl rfl ?_)
  refine aops_nil ?_
  refine aw_seq ?_
  refine aw_region ?_
  refine aops_cons rfl rfl (AOp.move rfl rfl ?_)
  refine aops_cons rfl rfl (AOp.move rfl rfl ?_)
  refine aops_cons rfl rfl (AOp.move rfl rfl ?_)
  refine aops_cons rfl rfl (AOp.build' (places := [(0, 1), (1, 1), (2, 1), (3, 1)]) Try.zeroValue111 (by kernel_rfl) (by kernel_rfl) Try.underlying111 (by kernel_rfl) rfl rfl rfl rfl ?_)
  refine aops_cons rfl rfl (AOp.callP Try.call126 rfl rfl rfl (by exact search l ⟨c, f, 0, 0⟩ hs hl) ?_)
  refine aops_cons rfl rfl (AOp.move rfl rfl ?_)
  refine aops_cons rfl rfl (AOp.extract rfl rfl rfl ?_)
  refine aops_cons rfl rfl (AOp.extract rfl rfl rfl ?_)
  refine aops_cons rfl rfl (AOp.assign rfl rfl ?_)
  refine aops_cons rfl rfl (AOp.assign rfl rfl ?_)
  refine aops_nil ?_
  refine aw_seq ?_
  refine aw_seq ?_
  refine aw_region ?_
  refine aops_cons rfl rfl (AOp.move rfl rfl ?_)
  refine aops_cons rfl rfl (AOp.not rfl rfl ?_)
  refine aops_cons rfl rfl (AOp.move rfl rfl ?_)
  refine aops_guard 2 false 21 _ rfl rfl rfl rfl rfl (fun g1 => ?_) (fun g1 => ?_)
  focus
    have g1_ := g1
    try simp only [List.length_map, List.length_cons, List.length_nil, nrm] at g1
    all_goals try (exfalso; first | (simp at g1_; done) | omega)
    all_goals
      refine AOp.move rfl rfl ?_
      refine aops_guard 2 false 21 _ rfl rfl rfl rfl rfl (fun _ => ?_) (fun hh => by exfalso; first | (rw [g1_] at hh; exact absurd hh (by decide)) | (revert hh; simp [g1_]))
      refine AOp.move rfl rfl ?_
      refine aops_guard 2 false 21 _ rfl rfl rfl rfl rfl (fun _ => ?_) (fun hh => by exfalso; first | (rw [g1_] at hh; exact absurd hh (by decide)) | (revert hh; simp [g1_]))
      refine AOp.move rfl rfl ?_
      refine aops_guard 2 false 21 _ rfl rfl rfl rfl rfl (fun _ => ?_) (fun hh => by exfalso; first | (rw [g1_] at hh; exact absurd hh (by decide)) | (revert hh; simp [g1_]))
      refine AOp.indexLN Try.underlying27 Try.sizeOf111 rfl rfl rfl (by first | first | omega | (simp <;> omega) | (simp at * <;> omega) | (have := pos_lt hs (by assumption); omega)) (fun _ => rfl) ?_
      refine aops_guard 2 false 21 _ rfl rfl rfl rfl rfl (fun _ => ?_) (fun hh => by exfalso; first | (rw [g1_] at hh; exact absurd hh (by decide)) | (revert hh; simp [g1_]))
      refine AOp.fieldI Try.underlying111 rfl Try.sizeOf3 (by decide) rfl rfl rfl ?_
      refine aops_guard 2 false 21 _ rfl rfl rfl rfl rfl (fun _ => ?_) (fun hh => by exfalso; first | (rw [g1_] at hh; exact absurd hh (by decide)) | (revert hh; simp [g1_]))
      refine AOp.load1 Try.isAgg3 rfl rfl (reads_im _ _) rfl ?_
      refine aops_guard 2 false 21 _ rfl rfl rfl rfl rfl (fun _ => ?_) (fun hh => by exfalso; first | (rw [g1_] at hh; exact absurd hh (by decide)) | (revert hh; simp [g1_]))
      refine AOp.geq rfl rfl rfl ?_
  rotate_right
  focus
    have g1_ := g1
    try simp only [List.length_map, List.length_cons, List.length_nil, nrm] at g1
    all_goals try (exfalso; first | (simp at g1_; done) | omega)
    all_goals
      refine aops_guard 2 false 21 _ rfl rfl rfl rfl rfl (fun hh => by exfalso; first | (rw [g1_] at hh; exact absurd hh (by decide)) | (revert hh; simp [g1_])) (fun _ => ?_)
      refine aops_guard 2 false 21 _ rfl rfl rfl rfl rfl (fun hh => by exfalso; first | (rw [g1_] at hh; exact absurd hh (by decide)) | (revert hh; simp [g1_])) (fun _ => ?_)
      refine aops_guard 2 false 21 _ rfl rfl rfl rfl rfl (fun hh => by exfalso; first | (rw [g1_] at hh; exact absurd hh (by decide)) | (revert hh; simp [g1_])) (fun _ => ?_)
      refine aops_guard 2 false 21 _ rfl rfl rfl rfl rfl (fun hh => by exfalso; first | (rw [g1_] at hh; exact absurd hh (by decide)) | (revert hh; simp [g1_])) (fun _ => ?_)
      refine aops_guard 2 false 21 _ rfl rfl rfl rfl rfl (fun hh => by exfalso; first | (rw [g1_] at hh; exact absurd hh (by decide)) | (revert hh; simp [g1_])) (fun _ => ?_)
      refine aops_guard 2 false 21 _ rfl rfl rfl rfl rfl (fun hh => by exfalso; first | (rw [g1_] at hh; exact absurd hh (by decide)) | (revert hh; simp [g1_])) (fun _ => ?_)
  all_goals
    first
    | refine aops_cons rfl rfl (AOp.pick_t rfl rfl (by first | assumption | rfl) rfl ?_)
    | refine aops_cons rfl rfl (AOp.pick_f rfl rfl (by first | assumption | rfl) rfl ?_)
    refine aops_nil ?_
    refine aw_cond _ rfl (fun h2 => ?_) (fun h2 => ?_)
    focus
      have h2_ := h2
      try simp only [List.length_map, List.length_cons, List.length_nil, nrm] at h2
      all_goals try (exfalso; first | (simp at h2_; done) | omega)
      all_goals
        refine aw_seq ?_
        refine aw_region ?_
        refine aops_cons rfl rfl (AOp.assign rfl rfl ?_)
        refine aops_nil ?_
        refine aw_weak (wk_drop (List.nil_sublist _)) ?_
        refine aw_ret ?_
        refine ⟨_, (res1 Try.results131 rfl), ?_⟩
        refine ⟨?_, rfl⟩
        first
        | rw [hld_none (by assumption)]; rfl
        | (unfold hld; rw [find_pos hs (by assumption)]; simp only []; first | rw [if_pos h2]; rfl | rw [if_neg (by omega)])
    rotate_right
    focus
      have h2_ := h2
      try simp only [List.length_map, List.length_cons, List.length_nil, nrm] at h2
      all_goals try (exfalso; first | (simp at h2_; done) | omega)
      all_goals
        refine aw_skip ?_
        skip
    all_goals
      refine aw_seq ?_
      refine aw_region ?_
      refine aops_cons rfl rfl (AOp.move rfl rfl ?_)
      refine aops_cons rfl rfl (AOp.move rfl rfl ?_)
      refine aops_cons rfl rfl (AOp.indexLN Try.underlying27 Try.sizeOf111 rfl rfl rfl (by first | first | omega | (simp <;> omega) | (simp at * <;> omega) | (have := pos_lt hs (by assumption); omega)) (fun _ => rfl) ?_)
      refine aops_cons rfl rfl (AOp.fieldI Try.underlying111 rfl Try.sizeOf3 (by decide) rfl rfl rfl ?_)
      refine aops_cons rfl rfl (AOp.load1 Try.isAgg3 rfl rfl (reads_im _ _) rfl ?_)
      refine aops_cons rfl rfl (AOp.assign rfl rfl ?_)
      refine aops_nil ?_
      refine aw_weak (wk_drop (List.nil_sublist _)) ?_
      refine aw_ret ?_
      refine ⟨_, (res1 Try.results131 rfl), ?_⟩
      refine ⟨?_, rfl⟩
      (unfold hld; rw [find_pos hs (by assumption)]; simp only []; first | rw [if_pos h2]; rfl | rw [if_neg (by omega)])

end Go.Proofs.Ytdacnebhlgibhaa
