/- Own text: the document's way to grant. -/
import Derived.Test.YtdacnebhlgibhaaLh
import Derived.Test.YtdacnebhlgibhaaAwK
set_option linter.unusedVariables false
set_option linter.unusedSimpArgs false
set_option linter.all false
set_option maxRecDepth 100000
set_option maxHeartbeats 2000000
namespace Go.Proofs.Ytdacnebhlgibhaa
open Go Go.Aw

/-- A lease, made greater by one of the same. -/
def stp (x y : L) : L := if y.c = x.c ∧ y.f = x.f then ⟨x.c, x.f, max x.m y.m, max x.u y.u⟩ else x
def acc (l : List L) (x : L) : L := l.foldl stp x
theorem acc_key (l : List L) (x : L) : (acc l x).c = x.c ∧ (acc l x).f = x.f := by
  unfold acc
  induction l generalizing x with
  | nil => exact ⟨rfl, rfl⟩
  | cons y l ih =>
    rw [List.foldl_cons]
    obtain ⟨h1, h2⟩ := ih (stp x y)
    rw [h1, h2]
    unfold stp; split <;> exact ⟨rfl, rfl⟩
theorem acc_succ {l : List L} {x : L} {i : Nat} (h : i < l.length) : acc (l.take (i + 1)) x = stp (acc (l.take i) x) l[i] := by
  unfold acc
  rw [List.take_add_one, List.getElem?_eq_getElem h, List.foldl_append]; rfl
theorem acc_yes {l : List L} {x : L} {i : Nat} (h : i < l.length) (hc : l[i].c = (acc (l.take i) x).c ∧ l[i].f = (acc (l.take i) x).f) : (⟨(acc (l.take i) x).c, (acc (l.take i) x).f, max (acc (l.take i) x).m l[i].m, max (acc (l.take i) x).u l[i].u⟩ : L).e = (acc (l.take (i + 1)) x).e := by
  rw [acc_succ h]; unfold stp; rw [if_pos hc]
theorem acc_no {l : List L} {x : L} {i : Nat} (h : i < l.length) (hc : ¬ (l[i].c = (acc (l.take i) x).c ∧ l[i].f = (acc (l.take i) x).f)) : (acc (l.take i) x).e = (acc (l.take (i + 1)) x).e := by
  rw [acc_succ h]; unfold stp; rw [if_neg hc]
def bey (x y : L) : Prop := x.f < y.f ∨ y.f = x.f ∧ x.c < y.c
instance (x y : L) : Decidable (bey x y) := by unfold bey; infer_instance
/-- The document's way to grant. -/
def rput (r : List L) (x : L) : List L := match r.findIdx? (fun y => decide (bey x y)) with
  | some i => insL r i x
  | none => r ++ [x]
def rgr (l : List L) (x : L) : List L := rput (drp l (acc l x).c (acc l x).f) (acc l x)
theorem rput_some {r : List L} {x : L} {i : Nat} (hi : i < r.length) (h : ∀ k (hk : k < r.length), k < i → ¬ bey x r[k]) (hp : bey x r[i]) : rput r x = insL r i x := by
  unfold rput
  rw [List.findIdx?_eq_some_iff_getElem.2 ⟨hi, by simpa using hp, fun j hj => by simpa using h j (by omega) hj⟩]
theorem rput_none {r : List L} {x : L} (h : ∀ k (hk : k < r.length), ¬ bey x r[k]) : rput r x = r ++ [x] := by
  unfold rput
  rw [List.findIdx?_eq_none_iff.2]
  intro y hy
  obtain ⟨j, hj, rfl⟩ := List.getElem_of_mem hy
  simpa using h j hj
theorem wk_boxeq {n : Nat} {v : Env} {A : List Blk} {b : Nat} {t : TypeId} {cs cs' : List AV} (h : cs = cs') : Wk n v (.box b t cs :: A) v (.box b t cs' :: A) := by subst h; exact Wk.refl _ _ _

theorem refGrant (l : List L) (x : L) (hl : l.length ≤ 100000) : Pur Try.prog 109 [ls l, .ag x.e] (ls (rgr l x)) := by
  refine acallsN Try.func109 rfl Try.ntmps109 rfl ?_
  refine aw_seq ?_
  refine aw_region ?_
  refine aops_cons rfl rfl (AOp.box rfl rfl rfl ?_); intro b1
  refine aops_cons rfl rfl (AOp.assign rfl rfl ?_)
  refine aops_nil ?_
  refine aw_seq ?_
  refine aw_seq ?_
  refine aw_region ?_
  refine aops_cons rfl rfl (AOp.assign rfl rfl ?_)
  refine aops_nil ?_
  refine aw_block ?_
  refine aw_loop (β := Nat) (S := (fun (z0 : Nat) => match z0 with | i => [(0, ls l), (3, .sc (.pointer (some ⟨b1, 0, none⟩))), (5, .sc (.int .i64 (i : Int)))])) (B := (fun (z0 : Nat) => match z0 with | i => [.box b1 111 (acc (l.take i) x).e])) (pre := (fun (z0 : Nat) => match z0 with | i => i ≤ l.length)) (μ := (fun (z0 : Nat) => match z0 with | i => l.length - i)) 0 (wk_env (sube_cons rfl (sube_cons rfl (sube_cons rfl (sube_nil _))))) ?_ ?_
  · exact Nat.zero_le _
  · rintro i hp
    change AW _ _ _ ([(0, ls l), (3, .sc (.pointer (some ⟨b1, 0, none⟩))), (5, .sc (.int .i64 (i : Int)))] : Env) ([.box b1 111 (acc (l.take i) x).e] : List Blk) _
    replace hp : i ≤ l.length := hp
    refine aw_seq ?_
    refine aw_seq ?_
    refine aw_region ?_
    refine aops_cons rfl rfl (AOp.move rfl rfl ?_)
    refine aops_cons rfl rfl (AOp.move rfl rfl ?_)
    refine aops_cons rfl rfl (AOp.lenS (by first | exact List.length_map _ | rfl) Try.underlying27 rfl rfl ?_)
    refine aops_cons rfl rfl (AOp.lss rfl rfl rfl ?_)
    refine aops_nil ?_
    refine aw_cond _ rfl (fun h1 => ?_) (fun h1 => ?_)
    focus
      have h1_ := h1
      try simp only [List.length_map, List.length_cons, List.length_nil, nrm] at h1
      all_goals try (exfalso; first | (simp at h1_; done) | omega)
      all_goals
        refine aw_skip ?_
        skip
    rotate_right
    focus
      have h1_ := h1
      try simp only [List.length_map, List.length_cons, List.length_nil, nrm] at h1
      all_goals try (exfalso; first | (simp at h1_; done) | omega)
      all_goals
        refine aw_exit ?_
        refine aw_seq ?_
        have e1 : i = l.length := by omega
        subst e1
        rw [List.take_of_length_le (Nat.le_refl _)]
        refine aw_region ?_
        refine aops_cons rfl rfl (AOp.move rfl rfl ?_)
        refine aops_cons rfl rfl (AOp.fieldB Try.underlying111 rfl Try.sizeOf3 (by decide) rfl rfl rfl ?_)
        refine aops_cons rfl rfl (AOp.load1 Try.isAgg3 rfl rfl (reads_box _ (.head _)) rfl ?_)
        refine aops_cons rfl rfl (AOp.fieldB Try.underlying111 rfl Try.sizeOf3 (by decide) rfl rfl rfl ?_)
        refine aops_cons rfl rfl (AOp.load1 Try.isAgg3 rfl rfl (reads_box _ (.head _)) rfl ?_)
        refine aops_cons rfl rfl (AOp.callN (Af := [.box b1 111 (acc l x).e]) Try.call52 rfl rfl rfl (List.Perm.refl _) (by exact refDrop l _ _ (by first | omega | (simp <;> omega) | (simp at * <;> omega))) (fun r' A'' hr => ?_))
        obtain ⟨w, rfl, rfl⟩ := hr
        unfold rowL
        refine aops_cons rfl rfl (AOp.assign rfl rfl ?_)
        refine aops_nil ?_
        refine aw_seq ?_
        refine aw_seq ?_
        have hdl : (drp l (acc l x).c (acc l x).f).length ≤ l.length := List.length_filter_le _ _
        refine aw_region ?_
        refine aops_cons rfl rfl (AOp.assign rfl rfl ?_)
        refine aops_nil ?_
        refine aw_block ?_
        refine aw_loop (β := Nat) (S := (fun (z0 : Nat) => match z0 with | i => [(3, .sc (.pointer (some ⟨b1, 0, none⟩))), (6, .sc w), (7, .sc (.int .i64 (i : Int)))])) (B := (fun (z0 : Nat) => match z0 with | i => [.row w 111 4 ((drp l (acc l x).c (acc l x).f).map L.e), .box b1 111 (acc l x).e])) (pre := (fun (z0 : Nat) => match z0 with | i => i ≤ (drp l (acc l x).c (acc l x).f).length ∧ ∀ k (hk : k < (drp l (acc l x).c (acc l x).f).length), k < i → ¬ bey (acc l x) (drp l (acc l x).c (acc l x).f)[k])) (μ := (fun (z0 : Nat) => match z0 with | i => (drp l (acc l x).c (acc l x).f).length - i)) 0 (wk_env (sube_cons rfl (sube_cons rfl (sube_cons rfl (sube_nil _))))) ?_ ?_
        · exact ⟨Nat.zero_le _, fun k h h0 => by omega⟩
        · rintro i ⟨hi, ha⟩
          change AW _ _ _ ([(3, .sc (.pointer (some ⟨b1, 0, none⟩))), (6, .sc w), (7, .sc (.int .i64 (i : Int)))] : Env) ([.row w 111 4 ((drp l (acc l x).c (acc l x).f).map L.e), .box b1 111 (acc l x).e] : List Blk) _
          refine aw_seq ?_
          refine aw_seq ?_
          refine aw_region ?_
          refine aops_cons rfl rfl (AOp.move rfl rfl ?_)
          refine aops_cons rfl rfl (AOp.move rfl rfl ?_)
          refine aops_cons rfl rfl (AOp.lenR (by first | exact List.length_map _ | rfl) Try.underlying27 (.head _) rfl rfl ?_)
          refine aops_cons rfl rfl (AOp.lss rfl rfl rfl ?_)
          refine aops_nil ?_
          refine aw_cond _ rfl (fun h2 => ?_) (fun h2 => ?_)
          focus
            have h2_ := h2
            try simp only [List.length_map, List.length_cons, List.length_nil, nrm] at h2
            all_goals try (exfalso; first | (simp at h2_; done) | omega)
            all_goals
              refine aw_skip ?_
              skip
          rotate_right
          focus
            have h2_ := h2
            try simp only [List.length_map, List.length_cons, List.length_nil, nrm] at h2
            all_goals try (exfalso; first | (simp at h2_; done) | omega)
            all_goals
              refine aw_exit ?_
              refine aw_seq ?_
              refine aw_region ?_
              refine aops_cons rfl rfl (AOp.move rfl rfl ?_)
              refine aops_cons rfl rfl (AOp.loadN Try.isAgg111 Try.sizeOf111 rfl rfl (reads_box _ (.tail _ (.head _))) rfl rfl ?_)
              refine aops_cons rfl rfl (AOp.buildS' Try.underlying27 Try.sizeOf111 Try.zeroValue111 rfl rfl rfl rfl rfl rfl rfl rfl rfl rfl rfl ?_)
              (refine aops_cons rfl rfl (AOp.append' (bytes := 32) Try.zeroValue111 Try.sizeOf111 Try.underlying27 (by kernel_rfl) rfl rfl rfl (pull_here _ _) rfl (src_sl Try.underlying27 (all_len rfl)) (by first | omega | (simp <;> omega) | (simp at * <;> omega)) (by decide) ?_); intro b2)
              refine aops_cons rfl rfl (AOp.assign rfl rfl ?_)
              refine aops_nil ?_
              refine aw_weak (wk_freeze (pull_here _ _) (subf_new (s := 4) rfl (subf_nil _ _ _))) ?_
              refine aw_weak (wk_drop (List.nil_sublist _)) ?_
              refine aw_ret ?_
              refine ⟨_, (res1 Try.results109 rfl), ?_⟩
              refine ⟨?_, rfl⟩
              unfold rgr
              rw [rput_none (fun k hk => ha k hk (by omega))]
              unfold ls
              rw [List.map_append]; rfl
          all_goals
            refine aw_seq ?_
            refine aw_block ?_
            refine aw_seq ?_
            refine aw_draw 25 [0, 0, 0, 0, 0, 0, 0, 0, 0, 0, 0, 0, 0, 0, 0, 0, 0, 0, 0, 0, 0, 0, 0, 0, 0] (by kernel_rfl) (by kernel_rfl) ?_
            refine psq_cons _ rfl (core0 (AOp.move rfl rfl ⟨rfl, rfl⟩)) ?_
            refine psq_cons _ rfl (core0 (AOp.move rfl rfl ⟨rfl, rfl⟩)) ?_
            refine psq_cons _ rfl (core0 (AOp.indexR Try.underlying27 Try.sizeOf111 (.head _) rfl rfl rfl (by first | omega | (simp <;> omega) | (simp at * <;> omega)) (by first | omega | (simp <;> omega) | (simp at * <;> omega)) ⟨rfl, rfl⟩)) ?_
            refine psq_cons _ rfl (core0 (AOp.fieldB Try.underlying111 rfl Try.sizeOf3 (by decide) rfl rfl rfl ⟨rfl, rfl⟩)) ?_
            refine psq_cons _ rfl (core0 (AOp.load1 Try.isAgg3 rfl rfl (reads_row _ (.head _) (idx_nat (by first | omega | (simp <;> omega) | (simp at * <;> omega))) (by first | omega | (simp <;> omega) | (simp at * <;> omega))) rfl ⟨rfl, rfl⟩)) ?_
            refine psq_cons _ rfl (core0 (AOp.fieldB Try.underlying111 rfl Try.sizeOf3 (by decide) rfl rfl rfl ⟨rfl, rfl⟩)) ?_
            refine psq_cons _ rfl (core0 (AOp.load1 Try.isAgg3 rfl rfl (reads_box _ (.tail _ (.head _))) rfl ⟨rfl, rfl⟩)) ?_
            refine psq_cons _ rfl (core0 (AOp.gtr rfl rfl rfl ⟨rfl, rfl⟩)) ?_
            refine psq_cons _ rfl (core0 (AOp.move rfl rfl ⟨rfl, rfl⟩)) ?_
            refine psq_guard 8 false 70 _ rfl rfl rfl rfl (fun g3 => ?_) (fun g3 => ?_)
            focus
              have g3_ := g3
              try simp only [List.length_map, List.length_cons, List.length_nil, nrm] at g3
              all_goals try (exfalso; first | (simp at g3_; done) | omega)
              all_goals
                refine psg _ (core0 (AOp.move rfl rfl ⟨rfl, rfl⟩)) ?_
                refine psq_guard 8 false 70 _ rfl rfl rfl rfl (fun _ => ?_) (fun hh => by exfalso; first | (rw [g3_] at hh; exact absurd hh (by decide)) | (revert hh; simp [g3_]))
                refine psg _ (core0 (AOp.move rfl rfl ⟨rfl, rfl⟩)) ?_
                refine psq_guard 8 false 70 _ rfl rfl rfl rfl (fun _ => ?_) (fun hh => by exfalso; first | (rw [g3_] at hh; exact absurd hh (by decide)) | (revert hh; simp [g3_]))
                refine psg _ (core0 (AOp.indexR Try.underlying27 Try.sizeOf111 (.head _) rfl rfl rfl (by first | omega | (simp <;> omega) | (simp at * <;> omega)) (by first | omega | (simp <;> omega) | (simp at * <;> omega)) ⟨rfl, rfl⟩)) ?_
                refine psq_guard 8 false 70 _ rfl rfl rfl rfl (fun _ => ?_) (fun hh => by exfalso; first | (rw [g3_] at hh; exact absurd hh (by decide)) | (revert hh; simp [g3_]))
                refine psg _ (core0 (AOp.fieldB Try.underlying111 rfl Try.sizeOf3 (by decide) rfl rfl rfl ⟨rfl, rfl⟩)) ?_
                refine psq_guard 8 false 70 _ rfl rfl rfl rfl (fun _ => ?_) (fun hh => by exfalso; first | (rw [g3_] at hh; exact absurd hh (by decide)) | (revert hh; simp [g3_]))
                refine psg _ (core0 (AOp.load1 Try.isAgg3 rfl rfl (reads_row _ (.head _) (idx_nat (by first | omega | (simp <;> omega) | (simp at * <;> omega))) (by first | omega | (simp <;> omega) | (simp at * <;> omega))) rfl ⟨rfl, rfl⟩)) ?_
                refine psq_guard 8 false 70 _ rfl rfl rfl rfl (fun _ => ?_) (fun hh => by exfalso; first | (rw [g3_] at hh; exact absurd hh (by decide)) | (revert hh; simp [g3_]))
                refine psg _ (core0 (AOp.fieldB Try.underlying111 rfl Try.sizeOf3 (by decide) rfl rfl rfl ⟨rfl, rfl⟩)) ?_
                refine psq_guard 8 false 70 _ rfl rfl rfl rfl (fun _ => ?_) (fun hh => by exfalso; first | (rw [g3_] at hh; exact absurd hh (by decide)) | (revert hh; simp [g3_]))
                refine psg _ (core0 (AOp.load1 Try.isAgg3 rfl rfl (reads_box _ (.tail _ (.head _))) rfl ⟨rfl, rfl⟩)) ?_
                refine psq_guard 8 false 70 _ rfl rfl rfl rfl (fun _ => ?_) (fun hh => by exfalso; first | (rw [g3_] at hh; exact absurd hh (by decide)) | (revert hh; simp [g3_]))
                refine psg _ (core0 (AOp.eql rfl rfl rfl ⟨rfl, rfl⟩)) ?_
                refine psq_guard 8 false 70 _ rfl rfl rfl rfl (fun _ => ?_) (fun hh => by exfalso; first | (rw [g3_] at hh; exact absurd hh (by decide)) | (revert hh; simp [g3_]))
                refine psg _ (core0 (AOp.move rfl rfl ⟨rfl, rfl⟩)) ?_
            rotate_right
            focus
              have g3_ := g3
              try simp only [List.length_map, List.length_cons, List.length_nil, nrm] at g3
              all_goals try (exfalso; first | (simp at g3_; done) | omega)
              all_goals
                refine psq_guard 8 false 70 _ rfl rfl rfl rfl (fun hh => by exfalso; first | (rw [g3_] at hh; exact absurd hh (by decide)) | (revert hh; simp [g3_])) (fun _ => ?_)
                refine psq_guard 8 false 70 _ rfl rfl rfl rfl (fun hh => by exfalso; first | (rw [g3_] at hh; exact absurd hh (by decide)) | (revert hh; simp [g3_])) (fun _ => ?_)
                refine psq_guard 8 false 70 _ rfl rfl rfl rfl (fun hh => by exfalso; first | (rw [g3_] at hh; exact absurd hh (by decide)) | (revert hh; simp [g3_])) (fun _ => ?_)
                refine psq_guard 8 false 70 _ rfl rfl rfl rfl (fun hh => by exfalso; first | (rw [g3_] at hh; exact absurd hh (by decide)) | (revert hh; simp [g3_])) (fun _ => ?_)
                refine psq_guard 8 false 70 _ rfl rfl rfl rfl (fun hh => by exfalso; first | (rw [g3_] at hh; exact absurd hh (by decide)) | (revert hh; simp [g3_])) (fun _ => ?_)
                refine psq_guard 8 false 70 _ rfl rfl rfl rfl (fun hh => by exfalso; first | (rw [g3_] at hh; exact absurd hh (by decide)) | (revert hh; simp [g3_])) (fun _ => ?_)
                refine psq_guard 8 false 70 _ rfl rfl rfl rfl (fun hh => by exfalso; first | (rw [g3_] at hh; exact absurd hh (by decide)) | (revert hh; simp [g3_])) (fun _ => ?_)
                refine psq_guard 8 false 70 _ rfl rfl rfl rfl (fun hh => by exfalso; first | (rw [g3_] at hh; exact absurd hh (by decide)) | (revert hh; simp [g3_])) (fun _ => ?_)
            all_goals
              first
              | (refine psq_guardU 17 true 79 rfl rfl rfl rfl ?_; refine psq_guardU 17 true 79 rfl rfl rfl rfl ?_; refine psq_guardU 17 true 79 rfl rfl rfl rfl ?_; refine psq_guardU 17 true 79 rfl rfl rfl rfl ?_; refine psq_guardU 17 true 79 rfl rfl rfl rfl ?_; refine psq_guardU 17 true 79 rfl rfl rfl rfl ?_; refine psq_guardU 17 true 79 rfl rfl rfl rfl ?_)
              | skip
                refine psq_guard 17 true 79 _ rfl rfl rfl rfl (fun g4 => ?_) (fun g4 => ?_)
                focus
                  have g4_ := g4
                  try simp only [List.length_map, List.length_cons, List.length_nil, nrm] at g4
                  all_goals try (exfalso; first | (simp at g4_; done) | omega)
                  all_goals
                    refine psg _ (core0 (AOp.move rfl rfl ⟨rfl, rfl⟩)) ?_
                    refine psq_guard 17 true 79 _ rfl rfl rfl rfl (fun _ => ?_) (fun hh => by exfalso; first | (rw [g4_] at hh; exact absurd hh (by decide)) | (revert hh; simp [g4_]))
                    refine psg _ (core0 (AOp.move rfl rfl ⟨rfl, rfl⟩)) ?_
                    refine psq_guard 17 true 79 _ rfl rfl rfl rfl (fun _ => ?_) (fun hh => by exfalso; first | (rw [g4_] at hh; exact absurd hh (by decide)) | (revert hh; simp [g4_]))
                    refine psg _ (core0 (AOp.indexR Try.underlying27 Try.sizeOf111 (.head _) rfl rfl rfl (by first | omega | (simp <;> omega) | (simp at * <;> omega)) (by first | omega | (simp <;> omega) | (simp at * <;> omega)) ⟨rfl, rfl⟩)) ?_
                    refine psq_guard 17 true 79 _ rfl rfl rfl rfl (fun _ => ?_) (fun hh => by exfalso; first | (rw [g4_] at hh; exact absurd hh (by decide)) | (revert hh; simp [g4_]))
                    refine psg _ (core0 (AOp.fieldB Try.underlying111 rfl Try.sizeOf3 (by decide) rfl rfl rfl ⟨rfl, rfl⟩)) ?_
                    refine psq_guard 17 true 79 _ rfl rfl rfl rfl (fun _ => ?_) (fun hh => by exfalso; first | (rw [g4_] at hh; exact absurd hh (by decide)) | (revert hh; simp [g4_]))
                    refine psg _ (core0 (AOp.load1 Try.isAgg3 rfl rfl (reads_row _ (.head _) (idx_nat (by first | omega | (simp <;> omega) | (simp at * <;> omega))) (by first | omega | (simp <;> omega) | (simp at * <;> omega))) rfl ⟨rfl, rfl⟩)) ?_
                    refine psq_guard 17 true 79 _ rfl rfl rfl rfl (fun _ => ?_) (fun hh => by exfalso; first | (rw [g4_] at hh; exact absurd hh (by decide)) | (revert hh; simp [g4_]))
                    refine psg _ (core0 (AOp.fieldB Try.underlying111 rfl Try.sizeOf3 (by decide) rfl rfl rfl ⟨rfl, rfl⟩)) ?_
                    refine psq_guard 17 true 79 _ rfl rfl rfl rfl (fun _ => ?_) (fun hh => by exfalso; first | (rw [g4_] at hh; exact absurd hh (by decide)) | (revert hh; simp [g4_]))
                    refine psg _ (core0 (AOp.load1 Try.isAgg3 rfl rfl (reads_box _ (.tail _ (.head _))) rfl ⟨rfl, rfl⟩)) ?_
                rotate_right
                focus
                  have g4_ := g4
                  try simp only [List.length_map, List.length_cons, List.length_nil, nrm] at g4
                  all_goals try (exfalso; first | (simp at g4_; done) | omega)
                  all_goals
                    refine psq_guard 17 true 79 _ rfl rfl rfl rfl (fun hh => by exfalso; first | (rw [g4_] at hh; exact absurd hh (by decide)) | (revert hh; simp [g4_])) (fun _ => ?_)
                    refine psq_guard 17 true 79 _ rfl rfl rfl rfl (fun hh => by exfalso; first | (rw [g4_] at hh; exact absurd hh (by decide)) | (revert hh; simp [g4_])) (fun _ => ?_)
                    refine psq_guard 17 true 79 _ rfl rfl rfl rfl (fun hh => by exfalso; first | (rw [g4_] at hh; exact absurd hh (by decide)) | (revert hh; simp [g4_])) (fun _ => ?_)
                    refine psq_guard 17 true 79 _ rfl rfl rfl rfl (fun hh => by exfalso; first | (rw [g4_] at hh; exact absurd hh (by decide)) | (revert hh; simp [g4_])) (fun _ => ?_)
                    refine psq_guard 17 true 79 _ rfl rfl rfl rfl (fun hh => by exfalso; first | (rw [g4_] at hh; exact absurd hh (by decide)) | (revert hh; simp [g4_])) (fun _ => ?_)
                    refine psq_guard 17 true 79 _ rfl rfl rfl rfl (fun hh => by exfalso; first | (rw [g4_] at hh; exact absurd hh (by decide)) | (revert hh; simp [g4_])) (fun _ => ?_)
              all_goals
                refine psq_nil ?_
                first
                | (refine aops_guardU 17 true 79 rfl rfl rfl rfl rfl ?_)
                | skip
                  refine aops_guard 17 true 79 _ rfl rfl rfl rfl rfl (fun g5 => ?_) (fun g5 => ?_)
                  focus
                    have g5_ := g5
                    try simp only [List.length_map, List.length_cons, List.length_nil, nrm] at g5
                    all_goals try (exfalso; first | (simp at g5_; done) | omega)
                    all_goals
                      refine AOp.gtr rfl rfl rfl ?_
                  rotate_right
                  focus
                    have g5_ := g5
                    try simp only [List.length_map, List.length_cons, List.length_nil, nrm] at g5
                    all_goals try (exfalso; first | (simp at g5_; done) | omega)
                all_goals
                  refine aops_guard 8 false 70 _ rfl rfl rfl rfl rfl (fun g6 => ?_) (fun g6 => ?_)
                  focus
                    have g6_ := g6
                    try simp only [List.length_map, List.length_cons, List.length_nil, nrm] at g6
                    all_goals try (exfalso; first | (simp at g6_; done) | omega)
                    all_goals
                      first
                      | refine AOp.pick_t rfl rfl (by first | assumption | rfl) rfl ?_
                      | refine AOp.pick_f rfl rfl (by first | assumption | rfl) rfl ?_
                  rotate_right
                  focus
                    have g6_ := g6
                    try simp only [List.length_map, List.length_cons, List.length_nil, nrm] at g6
                    all_goals try (exfalso; first | (simp at g6_; done) | omega)
                  all_goals
                    first
                    | refine aops_cons rfl rfl (AOp.pick_t rfl rfl (by first | assumption | rfl) rfl ?_)
                    | refine aops_cons rfl rfl (AOp.pick_f rfl rfl (by first | assumption | rfl) rfl ?_)
                    refine aops_nil ?_
                    refine aw_cond _ rfl (fun h7 => ?_) (fun h7 => ?_)
                    focus
                      have h7_ := h7
                      try simp only [List.length_map, List.length_cons, List.length_nil, nrm] at h7
                      all_goals try (exfalso; first | (simp at h7_; done) | omega)
                      all_goals
                        refine aw_seq ?_
                        refine aw_drawM (fun A0 => Blk.row w 111 4 ((drp l (acc l x).c (acc l x).f).map L.e) ∈ A0 ∧ Blk.box b1 111 (acc l x).e ∈ A0) ⟨.head _, .tail _ (.head _)⟩ [5, 1, 1, 1, 5, 1, 1, 5, 1, 1, 1, 5, 5] (by kernel_rfl) (by kernel_rfl) ?_
                        refine q_over ?_
                        refine q_go1 _ rfl (fun _ _ => AOp.move rfl rfl ⟨rfl, rfl⟩) ?_
                        refine q_go1 _ rfl (fun _ _ => AOp.move rfl rfl ⟨rfl, rfl⟩) ?_
                        refine q_go1 _ rfl (fun A0 hA0 => AOp.cutR Try.underlying27 Try.sizeOf111 hA0.1 rfl rfl bd_none (bd_some rfl (by first | omega | (simp <;> omega) | (simp at * <;> omega)) rfl) (by first | omega | (simp <;> omega) | (simp at * <;> omega)) (by first | omega | (simp <;> omega) | (simp at * <;> omega)) rfl ⟨rfl, rfl⟩) ?_
                        refine q_over ?_
                        refine q_go1 _ rfl (fun A0 hA0 => AOp.loadN Try.isAgg111 Try.sizeOf111 rfl rfl (reads_box _ hA0.2) rfl rfl ⟨rfl, rfl⟩) ?_
                        refine q_go1 _ rfl (fun _ _ => AOp.buildS' Try.underlying27 Try.sizeOf111 Try.zeroValue111 rfl rfl rfl rfl rfl rfl rfl rfl rfl rfl rfl ⟨rfl, rfl⟩) ?_
                        refine q_over ?_
                        refine q_go1 _ rfl (fun _ _ => AOp.move rfl rfl ⟨rfl, rfl⟩) ?_
                        refine q_go1 _ rfl (fun _ _ => AOp.move rfl rfl ⟨rfl, rfl⟩) ?_
                        refine q_go1 _ rfl (fun A0 hA0 => AOp.cutR Try.underlying27 Try.sizeOf111 hA0.1 rfl rfl (bd_some rfl (by first | omega | (simp <;> omega) | (simp at * <;> omega)) rfl) bd_none (by first | omega | (simp <;> omega) | (simp at * <;> omega)) (by first | omega | (simp <;> omega) | (simp at * <;> omega)) rfl ⟨rfl, rfl⟩) ?_
                        refine q_over ?_
                        refine q_over ?_
                        refine q_nil ?_
                        refine c_go rfl (AOp.buildR' Try.underlying27 Try.sizeOf111 Try.zeroValue111 rfl rfl rfl rfl rfl rfl rfl rfl rfl rfl rfl ?_); intro b3; refine ⟨⟨by simp, by simp⟩, ?_⟩
                        refine c_over (by decide) ?_
                        refine c_over (by decide) ?_
                        refine c_over (by decide) ?_
                        (refine c_go rfl (AOp.append' (bytes := 32) Try.zeroValue111 Try.sizeOf111 Try.underlying27 (by kernel_rfl) rfl rfl rfl (pull_here _ _) rfl (src_os Try.underlying27 (.tail _ (.head _)) (by first | omega | (simp <;> omega) | (simp at * <;> omega))) (by first | omega | (simp <;> omega) | (simp at * <;> omega)) (by decide) ?_); intro b4; refine ⟨⟨by simp, by simp⟩, ?_⟩)
                        refine c_over (by decide) ?_
                        refine c_over (by decide) ?_
                        (refine c_go rfl (AOp.append' (bytes := 32) Try.zeroValue111 Try.sizeOf111 Try.underlying27 (by kernel_rfl) rfl rfl rfl (pull_here _ _) rfl (src_sl Try.underlying27 (all_len rfl)) (by first | omega | (simp <;> omega) | (simp at * <;> omega)) (by decide) ?_); intro b5; refine ⟨⟨by simp, by simp⟩, ?_⟩)
                        refine c_over (by decide) ?_
                        refine c_over (by decide) ?_
                        refine c_over (by decide) ?_
                        (refine c_go rfl (AOp.append' (bytes := 32) Try.zeroValue111 Try.sizeOf111 Try.underlying27 (by kernel_rfl) rfl rfl rfl (pull_here _ _) rfl (src_os Try.underlying27 (.tail _ (.head _)) (by first | omega | (simp <;> omega) | (simp at * <;> omega))) (by first | omega | (simp <;> omega) | (simp at * <;> omega)) (by decide) ?_); intro b6; refine ⟨⟨by simp, by simp⟩, ?_⟩)
                        refine c_go rfl (AOp.assign rfl rfl ⟨⟨by simp, by simp⟩, ?_⟩)
                        refine c_nil ?_
                        refine aw_weak (wk_freeze (pull_here _ _) (subf_new (s := 4) rfl (subf_nil _ _ _))) ?_
                        refine aw_weak (wk_drop (List.nil_sublist _)) ?_
                        refine aw_ret ?_
                        refine ⟨_, (res1 Try.results109 rfl), ?_⟩
                        refine ⟨?_, rfl⟩
                        unfold rgr
                        rw [rput_some (i := i) (by omega) ha (by unfold bey; omega)]
                        unfold ls
                        rw [insL_map]
                        show AV.sl ([] ++ List.take i (List.map L.e (drp l (acc l x).c (acc l x).f)) ++ [(acc l x).e] ++ List.take ((List.map L.e (drp l (acc l x).c (acc l x).f)).length - i) ((List.map L.e (drp l (acc l x).c (acc l x).f)).drop i)) = _
                        rw [List.take_of_length_le (show ((List.map L.e (drp l (acc l x).c (acc l x).f)).drop i).length ≤ _ by simp), List.nil_append, List.append_assoc]; rfl
                    rotate_right
                    focus
                      have h7_ := h7
                      try simp only [List.length_map, List.length_cons, List.length_nil, nrm] at h7
                      all_goals try (exfalso; first | (simp at h7_; done) | omega)
                      all_goals
                        refine aw_skip ?_
                        skip
                    all_goals
                      refine aw_region ?_
                      refine aops_cons rfl rfl (AOp.move rfl rfl ?_)
                      refine aops_cons rfl rfl (AOp.addE rfl rfl rfl (by first | omega | (simp <;> omega) | (simp at * <;> omega)) (by first | omega | (simp <;> omega) | (simp at * <;> omega)) ?_)
                      refine aops_cons rfl rfl (AOp.assign rfl rfl ?_)
                      refine aops_nil ?_
                      refine ⟨i + 1, ⟨by omega, fun k hk h => ?_⟩, by dsimp only; omega, (wk_env (sube_cons rfl (sube_cons rfl (sube_cons rfl (sube_nil _)))))⟩
                      rcases Nat.lt_or_ge k i with h0 | h0
                      · exact ha k hk h0
                      · have e : k = i := by omega
                        subst e; unfold bey; omega
    all_goals
      refine aw_seq ?_
      refine aw_block ?_
      refine aw_seq ?_
      refine aw_draw 16 [0, 0, 0, 0, 0, 0, 0, 0, 0, 0, 0, 0, 0, 0, 0, 0] (by kernel_rfl) (by kernel_rfl) ?_
      refine psq_cons _ rfl (core0 (AOp.move rfl rfl ⟨rfl, rfl⟩)) ?_
      refine psq_cons _ rfl (core0 (AOp.move rfl rfl ⟨rfl, rfl⟩)) ?_
      refine psq_cons _ rfl (core0 (AOp.indexLN Try.underlying27 Try.sizeOf111 rfl rfl rfl (by first | omega | (simp <;> omega) | (simp at * <;> omega)) (fun _ => rfl) ⟨rfl, rfl⟩)) ?_
      refine psq_cons _ rfl (core0 (AOp.fieldI Try.underlying111 rfl Try.sizeOf3 (by decide) rfl rfl rfl ⟨rfl, rfl⟩)) ?_
      refine psq_cons _ rfl (core0 (AOp.load1 Try.isAgg3 rfl rfl (reads_im _ _) rfl ⟨rfl, rfl⟩)) ?_
      refine psq_cons _ rfl (core0 (AOp.fieldB Try.underlying111 rfl Try.sizeOf3 (by decide) rfl rfl rfl ⟨rfl, rfl⟩)) ?_
      refine psq_cons _ rfl (core0 (AOp.load1 Try.isAgg3 rfl rfl (reads_box _ (.head _)) rfl ⟨rfl, rfl⟩)) ?_
      refine psq_cons _ rfl (core0 (AOp.eql rfl rfl rfl ⟨rfl, rfl⟩)) ?_
      refine psq_cons _ rfl (core0 (AOp.move rfl rfl ⟨rfl, rfl⟩)) ?_
      refine psq_guard 8 true 22 _ rfl rfl rfl rfl (fun g8 => ?_) (fun g8 => ?_)
      focus
        have g8_ := g8
        try simp only [List.length_map, List.length_cons, List.length_nil, nrm] at g8
        all_goals try (exfalso; first | (simp at g8_; done) | omega)
        all_goals
          refine psg _ (core0 (AOp.move rfl rfl ⟨rfl, rfl⟩)) ?_
          refine psq_guard 8 true 22 _ rfl rfl rfl rfl (fun _ => ?_) (fun hh => by exfalso; first | (rw [g8_] at hh; exact absurd hh (by decide)) | (revert hh; simp [g8_]))
          refine psg _ (core0 (AOp.move rfl rfl ⟨rfl, rfl⟩)) ?_
          refine psq_guard 8 true 22 _ rfl rfl rfl rfl (fun _ => ?_) (fun hh => by exfalso; first | (rw [g8_] at hh; exact absurd hh (by decide)) | (revert hh; simp [g8_]))
          refine psg _ (core0 (AOp.indexLN Try.underlying27 Try.sizeOf111 rfl rfl rfl (by first | omega | (simp <;> omega) | (simp at * <;> omega)) (fun _ => rfl) ⟨rfl, rfl⟩)) ?_
          refine psq_guard 8 true 22 _ rfl rfl rfl rfl (fun _ => ?_) (fun hh => by exfalso; first | (rw [g8_] at hh; exact absurd hh (by decide)) | (revert hh; simp [g8_]))
          refine psg _ (core0 (AOp.fieldI Try.underlying111 rfl Try.sizeOf3 (by decide) rfl rfl rfl ⟨rfl, rfl⟩)) ?_
          refine psq_guard 8 true 22 _ rfl rfl rfl rfl (fun _ => ?_) (fun hh => by exfalso; first | (rw [g8_] at hh; exact absurd hh (by decide)) | (revert hh; simp [g8_]))
          refine psg _ (core0 (AOp.load1 Try.isAgg3 rfl rfl (reads_im _ _) rfl ⟨rfl, rfl⟩)) ?_
          refine psq_guard 8 true 22 _ rfl rfl rfl rfl (fun _ => ?_) (fun hh => by exfalso; first | (rw [g8_] at hh; exact absurd hh (by decide)) | (revert hh; simp [g8_]))
          refine psg _ (core0 (AOp.fieldB Try.underlying111 rfl Try.sizeOf3 (by decide) rfl rfl rfl ⟨rfl, rfl⟩)) ?_
          refine psq_guard 8 true 22 _ rfl rfl rfl rfl (fun _ => ?_) (fun hh => by exfalso; first | (rw [g8_] at hh; exact absurd hh (by decide)) | (revert hh; simp [g8_]))
          refine psg _ (core0 (AOp.load1 Try.isAgg3 rfl rfl (reads_box _ (.head _)) rfl ⟨rfl, rfl⟩)) ?_
      rotate_right
      focus
        have g8_ := g8
        try simp only [List.length_map, List.length_cons, List.length_nil, nrm] at g8
        all_goals try (exfalso; first | (simp at g8_; done) | omega)
        all_goals
          refine psq_guard 8 true 22 _ rfl rfl rfl rfl (fun hh => by exfalso; first | (rw [g8_] at hh; exact absurd hh (by decide)) | (revert hh; simp [g8_])) (fun _ => ?_)
          refine psq_guard 8 true 22 _ rfl rfl rfl rfl (fun hh => by exfalso; first | (rw [g8_] at hh; exact absurd hh (by decide)) | (revert hh; simp [g8_])) (fun _ => ?_)
          refine psq_guard 8 true 22 _ rfl rfl rfl rfl (fun hh => by exfalso; first | (rw [g8_] at hh; exact absurd hh (by decide)) | (revert hh; simp [g8_])) (fun _ => ?_)
          refine psq_guard 8 true 22 _ rfl rfl rfl rfl (fun hh => by exfalso; first | (rw [g8_] at hh; exact absurd hh (by decide)) | (revert hh; simp [g8_])) (fun _ => ?_)
          refine psq_guard 8 true 22 _ rfl rfl rfl rfl (fun hh => by exfalso; first | (rw [g8_] at hh; exact absurd hh (by decide)) | (revert hh; simp [g8_])) (fun _ => ?_)
          refine psq_guard 8 true 22 _ rfl rfl rfl rfl (fun hh => by exfalso; first | (rw [g8_] at hh; exact absurd hh (by decide)) | (revert hh; simp [g8_])) (fun _ => ?_)
      all_goals
        refine psq_nil ?_
        refine aops_guard 8 true 22 _ rfl rfl rfl rfl rfl (fun g9 => ?_) (fun g9 => ?_)
        focus
          have g9_ := g9
          try simp only [List.length_map, List.length_cons, List.length_nil, nrm] at g9
          all_goals try (exfalso; first | (simp at g9_; done) | omega)
          all_goals
            refine AOp.eql rfl rfl rfl ?_
        rotate_right
        focus
          have g9_ := g9
          try simp only [List.length_map, List.length_cons, List.length_nil, nrm] at g9
          all_goals try (exfalso; first | (simp at g9_; done) | omega)
        all_goals
          first
          | refine aops_cons rfl rfl (AOp.pick_t rfl rfl (by first | assumption | rfl) rfl ?_)
          | refine aops_cons rfl rfl (AOp.pick_f rfl rfl (by first | assumption | rfl) rfl ?_)
          refine aops_nil ?_
          refine aw_cond _ rfl (fun h10 => ?_) (fun h10 => ?_)
          focus
            have h10_ := h10
            try simp only [List.length_map, List.length_cons, List.length_nil, nrm] at h10
            all_goals try (exfalso; first | (simp at h10_; done) | omega)
            all_goals
              refine aw_drawM (fun A0 => ∃ m' u' : Int, A0 = [.box b1 111 [.sc (.int .i64 (acc (l.take i) x).c), .sc (.int .i64 (acc (l.take i) x).f), .sc (.int .i64 m'), .sc (.int .i64 u')]]) ⟨_, _, rfl⟩ [1, 0, 1, 1, 1, 1, 1, 1, 1, 0, 1, 1, 1, 1, 1, 1, 1, 5, 1, 5] (by kernel_rfl) (by kernel_rfl) ?_
              refine q_go1 _ rfl (fun _ _ => AOp.fieldB Try.underlying111 rfl Try.sizeOf3 (by decide) rfl rfl rfl ⟨rfl, rfl⟩) ?_
              refine q_go0 _ rfl (AOp.load1 Try.isAgg3 rfl rfl (reads_box _ (.head _)) rfl ⟨rfl, rfl⟩) ?_
              refine q_go1 _ rfl (fun _ _ => AOp.move rfl rfl ⟨rfl, rfl⟩) ?_
              refine q_go1 _ rfl (fun _ _ => AOp.move rfl rfl ⟨rfl, rfl⟩) ?_
              refine q_go1 _ rfl (fun _ _ => AOp.indexLN Try.underlying27 Try.sizeOf111 rfl rfl rfl (by first | omega | (simp <;> omega) | (simp at * <;> omega)) (fun _ => rfl) ⟨rfl, rfl⟩) ?_
              refine q_go1 _ rfl (fun _ _ => AOp.fieldI Try.underlying111 rfl Try.sizeOf3 (by decide) rfl rfl rfl ⟨rfl, rfl⟩) ?_
              refine q_go1 _ rfl (fun _ _ => AOp.load1 Try.isAgg3 rfl rfl (reads_im _ _) rfl ⟨rfl, rfl⟩) ?_
              refine q_go1 _ rfl (fun _ _ => AOp.max2 rfl rfl rfl ⟨rfl, rfl⟩) ?_
              refine q_go1 _ rfl (fun _ _ => AOp.fieldB Try.underlying111 rfl Try.sizeOf3 (by decide) rfl rfl rfl ⟨rfl, rfl⟩) ?_
              refine q_go0 _ rfl (AOp.load1 Try.isAgg3 rfl rfl (reads_box _ (.head _)) rfl ⟨rfl, rfl⟩) ?_
              refine q_go1 _ rfl (fun _ _ => AOp.move rfl rfl ⟨rfl, rfl⟩) ?_
              refine q_go1 _ rfl (fun _ _ => AOp.move rfl rfl ⟨rfl, rfl⟩) ?_
              refine q_go1 _ rfl (fun _ _ => AOp.indexLN Try.underlying27 Try.sizeOf111 rfl rfl rfl (by first | omega | (simp <;> omega) | (simp at * <;> omega)) (fun _ => rfl) ⟨rfl, rfl⟩) ?_
              refine q_go1 _ rfl (fun _ _ => AOp.fieldI Try.underlying111 rfl Try.sizeOf3 (by decide) rfl rfl rfl ⟨rfl, rfl⟩) ?_
              refine q_go1 _ rfl (fun _ _ => AOp.load1 Try.isAgg3 rfl rfl (reads_im _ _) rfl ⟨rfl, rfl⟩) ?_
              refine q_go1 _ rfl (fun _ _ => AOp.max2 rfl rfl rfl ⟨rfl, rfl⟩) ?_
              refine q_go1 _ rfl (fun _ _ => AOp.fieldB Try.underlying111 rfl Try.sizeOf3 (by decide) rfl rfl rfl ⟨rfl, rfl⟩) ?_
              refine q_over ?_
              refine q_go1 _ rfl (fun _ _ => AOp.fieldB Try.underlying111 rfl Try.sizeOf3 (by decide) rfl rfl rfl ⟨rfl, rfl⟩) ?_
              refine q_over ?_
              refine q_nil ?_
              refine c_over (by decide) ?_
              refine c_over (by decide) ?_
              refine c_over (by decide) ?_
              refine c_over (by decide) ?_
              refine c_over (by decide) ?_
              refine c_over (by decide) ?_
              refine c_over (by decide) ?_
              refine c_over (by decide) ?_
              refine c_over (by decide) ?_
              refine c_over (by decide) ?_
              refine c_over (by decide) ?_
              refine c_over (by decide) ?_
              refine c_over (by decide) ?_
              refine c_over (by decide) ?_
              refine c_over (by decide) ?_
              refine c_over (by decide) ?_
              refine c_over (by decide) ?_
              refine c_go rfl (AOp.storeB' Try.sizeOf3 rfl rfl rfl rfl rfl (pull_here _ _) rfl rfl ⟨⟨_, _, rfl⟩, ?_⟩)
              refine c_over (by decide) ?_
              refine c_go rfl (AOp.storeB' Try.sizeOf3 rfl rfl rfl rfl rfl (pull_here _ _) rfl rfl ⟨⟨_, _, rfl⟩, ?_⟩)
              refine c_nil ?_
              skip
          rotate_right
          focus
            have h10_ := h10
            try simp only [List.length_map, List.length_cons, List.length_nil, nrm] at h10
            all_goals try (exfalso; first | (simp at h10_; done) | omega)
            all_goals
              refine aw_skip ?_
              skip
          all_goals
            refine aw_region ?_
            refine aops_cons rfl rfl (AOp.move rfl rfl ?_)
            refine aops_cons rfl rfl (AOp.addE rfl rfl rfl (by first | omega | (simp <;> omega) | (simp at * <;> omega)) (by first | omega | (simp <;> omega) | (simp at * <;> omega)) ?_)
            refine aops_cons rfl rfl (AOp.assign rfl rfl ?_)
            refine aops_nil ?_
            first
            | (refine ⟨i + 1, ?_, ?_, (wk_boxeq (A := []) (acc_yes ?_ ?_)).trans (wk_env (sube_cons rfl (sube_cons rfl (sube_cons rfl (sube_nil _)))))⟩; (dsimp only; omega); (dsimp only; omega); omega; omega)
            | (refine ⟨i + 1, ?_, ?_, (wk_boxeq (A := []) (acc_no ?_ ?_)).trans (wk_env (sube_cons rfl (sube_cons rfl (sube_cons rfl (sube_nil _)))))⟩; (dsimp only; omega); (dsimp only; omega); omega; omega)

end Go.Proofs.Ytdacnebhlgibhaa
