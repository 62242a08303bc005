/- Own text: what was pruned holds what held. -/
import Derived.Test.YtdlkmimgdghgcaaLl
set_option linter.unusedVariables false
set_option linter.unusedSimpArgs false
set_option linter.all false
set_option maxRecDepth 100000
set_option maxHeartbeats 2000000
namespace Go.Proofs.Ytdlkmimgdghgcaa
open Go Go.Aw

theorem hld_prn {l : List L} {a b c f : Int} (hs : srt l) (hab : a ≤ b) : hld (prn l a) b c f = hld l b c f := by
  unfold hld
  induction l with
  | nil => rfl
  | cons y l ih =>
    have hs' := (List.pairwise_cons.1 hs).2
    have hy := (List.pairwise_cons.1 hs).1
    by_cases hu : y.u ≤ a
    · have e : prn (y :: l) a = prn l a := by unfold prn; rw [List.filter_cons_of_neg (by simpa using hu)]
      rw [e, ih hs']
      by_cases hk : y.f = f ∧ y.c = c
      · rw [List.find?_cons_of_pos (by simpa using hk)]
        have : l.find? (fun a => decide (a.f = f ∧ a.c = c)) = none := by
          rw [List.find?_eq_none]
          intro z hz
          have := ordI_lt.1 (hy z hz)
          simp; omega
        rw [this]
        simp only
        rw [if_pos (by omega)]
      · rw [List.find?_cons_of_neg (by simpa using hk)]
    · have e : prn (y :: l) a = y :: prn l a := by unfold prn; rw [List.filter_cons_of_pos (by simpa using hu)]
      rw [e]
      by_cases hk : y.f = f ∧ y.c = c
      · rw [List.find?_cons_of_pos (by simpa using hk), List.find?_cons_of_pos (by simpa using hk)]
      · rw [List.find?_cons_of_neg (by simpa using hk), List.find?_cons_of_neg (by simpa using hk)]
        exact ih hs'
theorem hld_over {l : List L} {b : Int} {y : L} (hs : srt l) (hy : y ∈ l) (hu : y.u ≤ b) : hld l b y.c y.f = 0 := by
  unfold hld
  cases h : l.find? (fun a => decide (a.f = y.f ∧ a.c = y.c)) with
  | none => rfl
  | some z =>
    have h1 := List.find?_some h
    have h2 := List.mem_of_find?_eq_some h
    obtain ⟨i, hi, rfl⟩ := List.getElem_of_mem hy
    obtain ⟨j, hj, rfl⟩ := List.getElem_of_mem h2
    simp only [decide_eq_true_eq] at h1
    have e : i = j := by
      rcases Nat.lt_trichotomy i j with e | e | e
      · have := ordI_lt.1 (srt_get hs hi hj e); omega
      · exact e
      · have := ordI_lt.1 (srt_get hs hj hi e); omega
    subst e
    simp only
    rw [if_pos hu]
theorem cls_prn {l : List L} {a b c f m : Int} (hs : srt l) (hab : a ≤ b) : cls (prn l a) b c f m = cls l b c f m := by
  unfold cls
  congr 1
  have e : ∀ y, clp (prn l a) b c f m y = clp l b c f m y := fun y => by unfold clp; rw [hld_prn hs hab]
  rw [show clp (prn l a) b c f m = clp l b c f m from funext e]
  unfold prn
  rw [List.filter_filter]
  apply List.filter_congr
  intro y hy
  by_cases hu : y.u ≤ a
  · by_cases hf : y.f = f
    · have h0 : hld l b y.c f = 0 := by rw [← hf]; exact hld_over hs hy (by omega)
      unfold clp; simp [h0]
    · unfold clp; simp [hf]
  · simp [hu]
theorem prn_prn {l : List L} {a b : Int} (hab : a ≤ b) : prn (prn l a) b = prn l b := by
  unfold prn
  rw [List.filter_filter]
  apply List.filter_congr
  intro y hy
  by_cases h : y.u ≤ b
  · simp [h]
  · have : ¬ y.u ≤ a := by omega
    simp [h, this]
theorem may_of {x : List L} (hs : srt x) (h : ∀ y ∈ x, okL y) : may x = true :=
  may_yes (fun i hi => ⟨h _ (List.getElem_mem _), fun h0 => srt_get hs (by omega) hi (by omega)⟩)
theorem goodL.ok {x : List L} {k : Nat} (h : goodL x k) : ∀ y ∈ x, okL y := fun y hy => by
  have := h.2.2 y hy
  unfold okL; omega
theorem len_cls (l : List L) (now c f m : Int) : (cls l now c f m).length ≤ l.length := by unfold cls; rw [List.length_map]; exact List.length_filter_le _ _
theorem len_prn (l : List L) (a : Int) : (prn l a).length ≤ l.length := List.length_filter_le _ _
theorem len_drp (l : List L) (c f : Int) : (drp l c f).length ≤ l.length := List.length_filter_le _ _
theorem sameLeasesT {a b : List L} (h : a = b) (ha : a.length ≤ 1000000) : Pur Try.prog 24 [ls a, ls b] (.sc (.bool true)) := by
  have k := sameLeases a b ha (by rw [← h]; exact ha)
  rwa [decide_eq_true h] at k
theorem sameIntsT {a b : List Int} (h : a = b) (ha : a.length ≤ 1000000) : Pur Try.prog 27 [ints a, ints b] (.sc (.bool true)) := by
  have k := sameInts a b ha (by rw [← h]; exact ha)
  rwa [decide_eq_true h] at k
theorem mayT {a : List L} (h : may a = true) (ha : a.length ≤ 1000000) : Pur Try.prog 30 [ls a] (.sc (.bool true)) := by
  have k := mayWalk a ha
  rwa [h] at k
def i8 (a : UInt8) : AV := .sc (.int .u8 (a.toNat : Int))

theorem leaseOverWalk (l : List UInt8) (a d c f : UInt8) : ACalls Try.prog 7 [bytes l, i8 a, i8 d, i8 c, i8 f] [] (fun r A' => r = .sc (.bool true)) (fun _ _ => False) := by
  unfold i8 bytes
  have ua := UInt8.toNat_lt a
  have ud := UInt8.toNat_lt d
  have uc := UInt8.toNat_lt c
  have uf := UInt8.toNat_lt f
  refine acallsN Try.func7 rfl Try.ntmps7 rfl ?_
  refine aw_seq ?_
  refine aw_region ?_
  refine aops_cons rfl rfl (AOp.assign rfl rfl ?_)
  refine aops_nil ?_
  refine aw_seq ?_
  refine aw_seq ?_
  refine aw_region ?_
  refine aops_cons rfl rfl (AOp.callP Try.call20 rfl rfl rfl begun ?_)
  refine aops_cons rfl rfl (AOp.not rfl rfl ?_)
  refine aops_nil ?_
  refine aw_cond _ rfl (fun h1 => ?_) (fun h1 => ?_)
  focus
    have h1_ := h1
    try simp only [List.length_map, List.length_cons, List.length_nil, nrm] at h1
    all_goals try (exfalso; first | (simp at h1_; done) | omega)
    all_goals
      refine aw_seq ?_
      refine aw_region ?_
      refine aops_cons rfl rfl (AOp.assign rfl rfl ?_)
      refine aops_nil ?_
      refine aw_ret ?_
      refine ⟨_, (res1 Try.results7 rfl), ?_⟩
      rfl
  rotate_right
  focus
    have h1_ := h1
    try simp only [List.length_map, List.length_cons, List.length_nil, nrm] at h1
    all_goals try (exfalso; first | (simp at h1_; done) | omega)
    all_goals
      refine aw_skip ?_
      skip
  all_goals
    refine aw_seq ?_
    refine aw_seq ?_
    refine aw_region ?_
    refine aops_cons rfl rfl (AOp.move rfl rfl ?_)
    first
    | refine aops_cons rfl rfl (AOp.lenS (by first | exact List.length_map _ | rfl) Try.underlying22 rfl rfl ?_)
    | refine aops_cons rfl rfl (AOp.lenN Try.underlying22 rfl rfl ?_)
    | refine aops_cons rfl rfl (AOp.lenR (by first | exact List.length_map _ | rfl) Try.underlying22 (.head _) rfl rfl ?_)
    refine aops_cons rfl rfl (AOp.gtr rfl rfl rfl ?_)
    refine aops_nil ?_
    refine aw_cond _ rfl (fun h2 => ?_) (fun h2 => ?_)
    focus
      have h2_ := h2
      try simp only [List.length_map, List.length_cons, List.length_nil, nrm] at h2
      all_goals try (exfalso; first | (simp at h2_; done) | omega)
      all_goals
        refine aw_seq ?_
        refine aw_region ?_
        refine aops_cons rfl rfl (AOp.assign rfl rfl ?_)
        refine aops_nil ?_
        refine aw_ret ?_
        refine ⟨_, (res1 Try.results7 rfl), ?_⟩
        rfl
    rotate_right
    focus
      have h2_ := h2
      try simp only [List.length_map, List.length_cons, List.length_nil, nrm] at h2
      all_goals try (exfalso; first | (simp at h2_; done) | omega)
      all_goals
        refine aw_skip ?_
        skip
    all_goals
      refine aw_seq ?_
      refine aw_region ?_
      refine aops_cons rfl rfl (AOp.move rfl rfl ?_)
      refine aops_cons rfl rfl (AOp.callN (Af := []) Try.call14 rfl rfl rfl (List.Perm.refl _) (by exact made l) (fun r' A'' hr => ?_))
      obtain ⟨b, rfl, rfl⟩ := hr
      try unfold picksB
      refine aops_cons rfl rfl (AOp.callN (Af := []) Try.call21 rfl rfl rfl (List.Perm.refl _) (by exact leases l 0 b (Nat.zero_le _) (by first | omega | (simp <;> omega) | (simp at * <;> omega))) (fun r' A'' hr => ?_))
      obtain ⟨x, n', rfl, hg, hn', rfl⟩ := hr
      have hs := hg.1
      have hx := hg.2.1
      refine aops_cons rfl rfl (AOp.assign rfl rfl ?_)
      refine aops_nil ?_
      refine aw_seq ?_
      have hsp : srt (prn x (a.toNat : Int)) := srt_filter hs
      have hpl : (prn x (a.toNat : Int)).length ≤ x.length := List.length_filter_le _ _
      have hmy : may (prn x (a.toNat : Int)) = true := may_of hsp (fun y hy => hg.ok y ((List.mem_filter.1 hy).1))
      refine aw_region ?_
      refine aops_cons rfl rfl (AOp.move rfl rfl ?_)
      first
      | refine aops_cons rfl rfl (AOp.conviI Try.underlying5 Try.underlying3 rfl rfl (by first | omega | (simp <;> omega) | (simp at * <;> omega)) (by first | omega | (simp <;> omega) | (simp at * <;> omega)) ?_)
      | refine aops_cons rfl rfl (AOp.convi Try.underlying5 Try.underlying3 rfl rfl rfl ?_)
      refine aops_cons rfl rfl (AOp.assign rfl rfl ?_)
      refine aops_nil ?_
      refine aw_seq ?_
      refine aw_region ?_
      refine aops_cons rfl rfl (AOp.move rfl rfl ?_)
      refine aops_cons rfl rfl (AOp.move rfl rfl ?_)
      first
      | refine aops_cons rfl rfl (AOp.conviI Try.underlying5 Try.underlying3 rfl rfl (by first | omega | (simp <;> omega) | (simp at * <;> omega)) (by first | omega | (simp <;> omega) | (simp at * <;> omega)) ?_)
      | refine aops_cons rfl rfl (AOp.convi Try.underlying5 Try.underlying3 rfl rfl rfl ?_)
      first
      | refine aops_cons rfl rfl (AOp.addE rfl rfl rfl (by first | omega | (simp <;> omega) | (simp at * <;> omega)) (by first | omega | (simp <;> omega) | (simp at * <;> omega)) ?_)
      | refine aops_cons rfl rfl (AOp.add rfl rfl rfl rfl ?_)
      refine aops_cons rfl rfl (AOp.assign rfl rfl ?_)
      refine aops_nil ?_
      refine aw_seq ?_
      refine aw_region ?_
      refine aops_cons rfl rfl (AOp.move rfl rfl ?_)
      refine aops_cons rfl rfl (AOp.move rfl rfl ?_)
      refine aops_cons rfl rfl (AOp.callP Try.call34 rfl rfl rfl (by exact prune _ _ (by first | omega | assumption)) ?_)
      refine aops_cons rfl rfl (AOp.assign rfl rfl ?_)
      refine aops_nil ?_
      refine aw_seq ?_
      refine aw_region ?_
      refine aops_cons rfl rfl (AOp.move rfl rfl ?_)
      refine aops_cons rfl rfl (AOp.remE rfl rfl rfl (by first | decide | omega) (by first | omega | (simp <;> omega) | (simp at * <;> omega)) ?_)
      first
      | refine aops_cons rfl rfl (AOp.conviI Try.underlying5 Try.underlying3 rfl rfl (by first | omega | (simp <;> omega) | (simp at * <;> omega)) (by first | omega | (simp <;> omega) | (simp at * <;> omega)) ?_)
      | refine aops_cons rfl rfl (AOp.convi Try.underlying5 Try.underlying3 rfl rfl rfl ?_)
      first
      | refine aops_cons rfl rfl (AOp.addE rfl rfl rfl (by first | omega | (simp <;> omega) | (simp at * <;> omega)) (by first | omega | (simp <;> omega) | (simp at * <;> omega)) ?_)
      | refine aops_cons rfl rfl (AOp.add rfl rfl rfl rfl ?_)
      refine aops_cons rfl rfl (AOp.move rfl rfl ?_)
      refine aops_cons rfl rfl (AOp.remE rfl rfl rfl (by first | decide | omega) (by first | omega | (simp <;> omega) | (simp at * <;> omega)) ?_)
      first
      | refine aops_cons rfl rfl (AOp.conviI Try.underlying5 Try.underlying3 rfl rfl (by first | omega | (simp <;> omega) | (simp at * <;> omega)) (by first | omega | (simp <;> omega) | (simp at * <;> omega)) ?_)
      | refine aops_cons rfl rfl (AOp.convi Try.underlying5 Try.underlying3 rfl rfl rfl ?_)
      first
      | refine aops_cons rfl rfl (AOp.addE rfl rfl rfl (by first | omega | (simp <;> omega) | (simp at * <;> omega)) (by first | omega | (simp <;> omega) | (simp at * <;> omega)) ?_)
      | refine aops_cons rfl rfl (AOp.add rfl rfl rfl rfl ?_)
      refine aops_cons rfl rfl (AOp.assign rfl rfl ?_)
      refine aops_cons rfl rfl (AOp.assign rfl rfl ?_)
      refine aops_nil ?_
      refine aw_seq ?_
      refine aw_seq ?_
      refine aw_region ?_
      refine aops_cons rfl rfl (AOp.assign rfl rfl ?_)
      refine aops_nil ?_
      refine aw_block ?_
      refine aw_loop (β := Nat) (S := (fun (z0 : Nat) => match z0 with | m => [(11, ls x), (13, .sc (.int .i64 ((a.toNat : Int) + (d.toNat : Int)))), (14, ls (prn x (a.toNat : Int))), (15, .sc (.int .i64 (1 + (c.toNat : Int) % 3))), (16, .sc (.int .i64 (1 + (f.toNat : Int) % 3))), (17, .sc (.int .i64 ((m : Int) + 1)))])) (B := (fun (z0 : Nat) => match z0 with | m => [])) (pre := (fun (z0 : Nat) => match z0 with | m => m ≤ 2)) (μ := (fun (z0 : Nat) => match z0 with | m => 2 - m)) 0 ((wk_drop (List.nil_sublist _)).trans (wk_env (sube_cons rfl (sube_cons rfl (sube_cons rfl (sube_cons rfl (sube_cons rfl (sube_cons rfl (sube_nil _))))))))) ?_ ?_
      · exact Nat.zero_le _
      · rintro m hm
        change AW _ _ _ ([(11, ls x), (13, .sc (.int .i64 ((a.toNat : Int) + (d.toNat : Int)))), (14, ls (prn x (a.toNat : Int))), (15, .sc (.int .i64 (1 + (c.toNat : Int) % 3))), (16, .sc (.int .i64 (1 + (f.toNat : Int) % 3))), (17, .sc (.int .i64 ((m : Int) + 1)))] : Env) ([] : List Blk) _
        replace hm : m ≤ 2 := hm
        refine aw_seq ?_
        refine aw_seq ?_
        refine aw_region ?_
        refine aops_cons rfl rfl (AOp.move rfl rfl ?_)
        refine aops_cons rfl rfl (AOp.lss rfl rfl rfl ?_)
        refine aops_nil ?_
        refine aw_cond _ rfl (fun h3 => ?_) (fun h3 => ?_)
        focus
          have h3_ := h3
          try simp only [List.length_map, List.length_cons, List.length_nil, nrm] at h3
          all_goals try (exfalso; first | (simp at h3_; done) | omega)
          all_goals
            refine aw_skip ?_
            skip
        rotate_right
        focus
          have h3_ := h3
          try simp only [List.length_map, List.length_cons, List.length_nil, nrm] at h3
          all_goals try (exfalso; first | (simp at h3_; done) | omega)
          all_goals
            refine aw_exit ?_
            refine aw_seq ?_
            have e1 := hld_prn (b := ((a.toNat : Int) + (d.toNat : Int))) (c := (1 + (c.toNat : Int) % 3)) (f := (1 + (f.toNat : Int) % 3)) hs (show (a.toNat : Int) ≤ ((a.toNat : Int) + (d.toNat : Int)) by omega)
            refine aw_region ?_
            refine aops_cons rfl rfl (AOp.move rfl rfl ?_)
            refine aops_cons rfl rfl (AOp.move rfl rfl ?_)
            refine aops_cons rfl rfl (AOp.move rfl rfl ?_)
            refine aops_cons rfl rfl (AOp.move rfl rfl ?_)
            refine aops_cons rfl rfl (AOp.callP Try.call22 rfl rfl rfl (by exact holds _ _ _ _ (by assumption) (by first | omega | assumption)) ?_)
            refine aops_cons rfl rfl (AOp.move rfl rfl ?_)
            refine aops_cons rfl rfl (AOp.move rfl rfl ?_)
            refine aops_cons rfl rfl (AOp.move rfl rfl ?_)
            refine aops_cons rfl rfl (AOp.move rfl rfl ?_)
            refine aops_cons rfl rfl (AOp.callP Try.call22 rfl rfl rfl (by exact holds _ _ _ _ (by assumption) (by first | omega | assumption)) ?_)
            refine aops_cons rfl rfl (AOp.eql rfl rfl rfl ?_)
            refine aops_cons rfl rfl (AOp.move rfl rfl ?_)
            refine aops_guard 11 true 72 _ rfl rfl rfl rfl rfl (fun g4 => ?_) (fun g4 => ?_)
            focus
              have g4_ := g4
              try simp only [List.length_map, List.length_cons, List.length_nil, nrm] at g4
              all_goals try (exfalso; first | (simp at g4_; done) | omega)
              all_goals
                refine AOp.move rfl rfl ?_
                refine aops_guard 11 true 72 _ rfl rfl rfl rfl rfl (fun _ => ?_) (fun hh => by exfalso; first | (rw [g4_] at hh; exact absurd hh (by decide)) | (revert hh; simp [g4_]))
                first
                | refine AOp.lenS (by first | exact List.length_map _ | rfl) Try.underlying36 rfl rfl ?_
                | refine AOp.lenN Try.underlying36 rfl rfl ?_
                | refine AOp.lenR (by first | exact List.length_map _ | rfl) Try.underlying36 (.head _) rfl rfl ?_
                refine aops_guard 11 true 72 _ rfl rfl rfl rfl rfl (fun _ => ?_) (fun hh => by exfalso; first | (rw [g4_] at hh; exact absurd hh (by decide)) | (revert hh; simp [g4_]))
                refine AOp.move rfl rfl ?_
                refine aops_guard 11 true 72 _ rfl rfl rfl rfl rfl (fun _ => ?_) (fun hh => by exfalso; first | (rw [g4_] at hh; exact absurd hh (by decide)) | (revert hh; simp [g4_]))
                first
                | refine AOp.lenS (by first | exact List.length_map _ | rfl) Try.underlying36 rfl rfl ?_
                | refine AOp.lenN Try.underlying36 rfl rfl ?_
                | refine AOp.lenR (by first | exact List.length_map _ | rfl) Try.underlying36 (.head _) rfl rfl ?_
                refine aops_guard 11 true 72 _ rfl rfl rfl rfl rfl (fun _ => ?_) (fun hh => by exfalso; first | (rw [g4_] at hh; exact absurd hh (by decide)) | (revert hh; simp [g4_]))
                refine AOp.leq rfl rfl rfl ?_
            rotate_right
            focus
              have g4_ := g4
              try simp only [List.length_map, List.length_cons, List.length_nil, nrm] at g4
              all_goals try (exfalso; first | (simp at g4_; done) | omega)
              all_goals
                refine aops_guard 11 true 72 _ rfl rfl rfl rfl rfl (fun hh => by exfalso; first | (rw [g4_] at hh; exact absurd hh (by decide)) | (revert hh; simp [g4_])) (fun _ => ?_)
                refine aops_guard 11 true 72 _ rfl rfl rfl rfl rfl (fun hh => by exfalso; first | (rw [g4_] at hh; exact absurd hh (by decide)) | (revert hh; simp [g4_])) (fun _ => ?_)
                refine aops_guard 11 true 72 _ rfl rfl rfl rfl rfl (fun hh => by exfalso; first | (rw [g4_] at hh; exact absurd hh (by decide)) | (revert hh; simp [g4_])) (fun _ => ?_)
                refine aops_guard 11 true 72 _ rfl rfl rfl rfl rfl (fun hh => by exfalso; first | (rw [g4_] at hh; exact absurd hh (by decide)) | (revert hh; simp [g4_])) (fun _ => ?_)
            all_goals
              first
              | refine aops_cons rfl rfl (AOp.pick_t rfl rfl (by first | assumption | rfl) rfl ?_)
              | refine aops_cons rfl rfl (AOp.pick_f rfl rfl (by first | assumption | rfl) rfl ?_)
              refine aops_cons rfl rfl (AOp.move rfl rfl ?_)
              refine aops_guard 18 true 79 _ rfl rfl rfl rfl rfl (fun g5 => ?_) (fun g5 => ?_)
              focus
                have g5_ := g5
                try simp only [List.length_map, List.length_cons, List.length_nil, nrm] at g5
                all_goals try (exfalso; first | (simp at g5_; done) | omega)
                all_goals
                  refine AOp.move rfl rfl ?_
                  refine aops_guard 18 true 79 _ rfl rfl rfl rfl rfl (fun _ => ?_) (fun hh => by exfalso; first | (rw [g5_] at hh; exact absurd hh (by decide)) | (revert hh; simp [g5_]))
                  refine AOp.move rfl rfl ?_
                  refine aops_guard 18 true 79 _ rfl rfl rfl rfl rfl (fun _ => ?_) (fun hh => by exfalso; first | (rw [g5_] at hh; exact absurd hh (by decide)) | (revert hh; simp [g5_]))
                  refine AOp.callP Try.call34 rfl rfl rfl (by exact prune _ _ (by first | omega | assumption)) ?_
                  refine aops_guard 18 true 79 _ rfl rfl rfl rfl rfl (fun _ => ?_) (fun hh => by exfalso; first | (rw [g5_] at hh; exact absurd hh (by decide)) | (revert hh; simp [g5_]))
                  refine AOp.move rfl rfl ?_
                  refine aops_guard 18 true 79 _ rfl rfl rfl rfl rfl (fun _ => ?_) (fun hh => by exfalso; first | (rw [g5_] at hh; exact absurd hh (by decide)) | (revert hh; simp [g5_]))
                  refine AOp.move rfl rfl ?_
                  refine aops_guard 18 true 79 _ rfl rfl rfl rfl rfl (fun _ => ?_) (fun hh => by exfalso; first | (rw [g5_] at hh; exact absurd hh (by decide)) | (revert hh; simp [g5_]))
                  refine AOp.callP Try.call34 rfl rfl rfl (by exact prune _ _ (by first | omega | assumption)) ?_
                  refine aops_guard 18 true 79 _ rfl rfl rfl rfl rfl (fun _ => ?_) (fun hh => by exfalso; first | (rw [g5_] at hh; exact absurd hh (by decide)) | (revert hh; simp [g5_]))
                  refine AOp.callP Try.call24 rfl rfl rfl (by exact sameLeasesT (prn_prn (by first | omega | (simp <;> omega) | (simp at * <;> omega))) (Nat.le_trans (len_prn _ _) (by first | omega | (simp <;> omega) | (simp at * <;> omega)))) ?_
              rotate_right
              focus
                have g5_ := g5
                try simp only [List.length_map, List.length_cons, List.length_nil, nrm] at g5
                all_goals try (exfalso; first | (simp at g5_; done) | omega)
                all_goals
                  refine aops_guard 18 true 79 _ rfl rfl rfl rfl rfl (fun hh => by exfalso; first | (rw [g5_] at hh; exact absurd hh (by decide)) | (revert hh; simp [g5_])) (fun _ => ?_)
                  refine aops_guard 18 true 79 _ rfl rfl rfl rfl rfl (fun hh => by exfalso; first | (rw [g5_] at hh; exact absurd hh (by decide)) | (revert hh; simp [g5_])) (fun _ => ?_)
                  refine aops_guard 18 true 79 _ rfl rfl rfl rfl rfl (fun hh => by exfalso; first | (rw [g5_] at hh; exact absurd hh (by decide)) | (revert hh; simp [g5_])) (fun _ => ?_)
                  refine aops_guard 18 true 79 _ rfl rfl rfl rfl rfl (fun hh => by exfalso; first | (rw [g5_] at hh; exact absurd hh (by decide)) | (revert hh; simp [g5_])) (fun _ => ?_)
                  refine aops_guard 18 true 79 _ rfl rfl rfl rfl rfl (fun hh => by exfalso; first | (rw [g5_] at hh; exact absurd hh (by decide)) | (revert hh; simp [g5_])) (fun _ => ?_)
                  refine aops_guard 18 true 79 _ rfl rfl rfl rfl rfl (fun hh => by exfalso; first | (rw [g5_] at hh; exact absurd hh (by decide)) | (revert hh; simp [g5_])) (fun _ => ?_)
              all_goals
                first
                | refine aops_cons rfl rfl (AOp.pick_t rfl rfl (by first | assumption | rfl) rfl ?_)
                | refine aops_cons rfl rfl (AOp.pick_f rfl rfl (by first | assumption | rfl) rfl ?_)
                refine aops_cons rfl rfl (AOp.move rfl rfl ?_)
                refine aops_guard 27 true 88 _ rfl rfl rfl rfl rfl (fun g6 => ?_) (fun g6 => ?_)
                focus
                  have g6_ := g6
                  try simp only [List.length_map, List.length_cons, List.length_nil, nrm] at g6
                  all_goals try (exfalso; first | (simp at g6_; done) | omega)
                  all_goals
                    refine AOp.move rfl rfl ?_
                    refine aops_guard 27 true 88 _ rfl rfl rfl rfl rfl (fun _ => ?_) (fun hh => by exfalso; first | (rw [g6_] at hh; exact absurd hh (by decide)) | (revert hh; simp [g6_]))
                    refine AOp.callP Try.call30 rfl rfl rfl (by exact mayT hmy (by first | omega | (simp <;> omega) | (simp at * <;> omega))) ?_
                rotate_right
                focus
                  have g6_ := g6
                  try simp only [List.length_map, List.length_cons, List.length_nil, nrm] at g6
                  all_goals try (exfalso; first | (simp at g6_; done) | omega)
                  all_goals
                    refine aops_guard 27 true 88 _ rfl rfl rfl rfl rfl (fun hh => by exfalso; first | (rw [g6_] at hh; exact absurd hh (by decide)) | (revert hh; simp [g6_])) (fun _ => ?_)
                all_goals
                  first
                  | refine aops_cons rfl rfl (AOp.pick_t rfl rfl (by first | assumption | rfl) rfl ?_)
                  | refine aops_cons rfl rfl (AOp.pick_f rfl rfl (by first | assumption | rfl) rfl ?_)
                  refine aops_cons rfl rfl (AOp.assign rfl rfl ?_)
                  refine aops_nil ?_
                  refine aw_ret ?_
                  refine ⟨_, (res1 Try.results7 rfl), ?_⟩
                  rfl
        all_goals
          refine aw_seq ?_
          refine aw_block ?_
          refine aw_seq ?_
          refine aw_region ?_
          refine aops_cons rfl rfl (AOp.move rfl rfl ?_)
          refine aops_cons rfl rfl (AOp.move rfl rfl ?_)
          refine aops_cons rfl rfl (AOp.move rfl rfl ?_)
          refine aops_cons rfl rfl (AOp.move rfl rfl ?_)
          refine aops_cons rfl rfl (AOp.move rfl rfl ?_)
          refine aops_cons rfl rfl (AOp.callP Try.call28 rfl rfl rfl (by exact clash _ _ _ _ _ (by assumption) (by first | omega | assumption)) ?_)
          refine aops_cons rfl rfl (AOp.move rfl rfl ?_)
          refine aops_cons rfl rfl (AOp.move rfl rfl ?_)
          refine aops_cons rfl rfl (AOp.move rfl rfl ?_)
          refine aops_cons rfl rfl (AOp.move rfl rfl ?_)
          refine aops_cons rfl rfl (AOp.move rfl rfl ?_)
          refine aops_cons rfl rfl (AOp.callP Try.call28 rfl rfl rfl (by exact clash _ _ _ _ _ (by assumption) (by first | omega | assumption)) ?_)
          refine aops_cons rfl rfl (AOp.callP Try.call27 rfl rfl rfl (by exact sameIntsT (cls_prn hs (by first | omega | (simp <;> omega) | (simp at * <;> omega))) (Nat.le_trans (len_cls _ _ _ _ _) (by first | omega | (simp <;> omega) | (simp at * <;> omega)))) ?_)
          refine aops_cons rfl rfl (AOp.not rfl rfl ?_)
          refine aops_nil ?_
          refine aw_cond _ rfl (fun h7 => ?_) (fun h7 => ?_)
          focus
            have h7_ := h7
            try simp only [List.length_map, List.length_cons, List.length_nil, nrm] at h7
            all_goals try (exfalso; first | (simp at h7_; done) | omega)
            all_goals
              refine aw_seq ?_
              refine aw_region ?_
              refine aops_cons rfl rfl (AOp.assign rfl rfl ?_)
              refine aops_nil ?_
              refine aw_ret ?_
              refine ⟨_, (res1 Try.results7 rfl), ?_⟩
              rfl
          rotate_right
          focus
            have h7_ := h7
            try simp only [List.length_map, List.length_cons, List.length_nil, nrm] at h7
            all_goals try (exfalso; first | (simp at h7_; done) | omega)
            all_goals
              refine aw_skip ?_
              skip
          all_goals
            refine aw_region ?_
            refine aops_cons rfl rfl (AOp.move rfl rfl ?_)
            first
            | refine aops_cons rfl rfl (AOp.addE rfl rfl rfl (by first | omega | (simp <;> omega) | (simp at * <;> omega)) (by first | omega | (simp <;> omega) | (simp at * <;> omega)) ?_)
            | refine aops_cons rfl rfl (AOp.add rfl rfl rfl rfl ?_)
            refine aops_cons rfl rfl (AOp.assign rfl rfl ?_)
            refine aops_nil ?_
            refine ⟨m + 1, ?_, ?_, (wk_env (sube_cons rfl (sube_cons rfl (sube_cons rfl (sube_cons rfl (sube_cons rfl (sube_cons rfl (sube_nil _))))))))⟩
            · dsimp only; omega
            · dsimp only; omega

end Go.Proofs.Ytdlkmimgdghgcaa
