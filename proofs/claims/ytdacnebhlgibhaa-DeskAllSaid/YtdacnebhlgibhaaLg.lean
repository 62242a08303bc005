/- Own text: a lease is granted. -/
import Derived.Test.YtdacnebhlgibhaaLf
set_option linter.unusedVariables false
set_option linter.unusedSimpArgs false
set_option linter.all false
set_option maxRecDepth 100000
set_option maxHeartbeats 2000000
namespace Go.Proofs.Ytdacnebhlgibhaa
open Go Go.Aw

def up (y x : L) : L := ⟨y.c, y.f, max y.m x.m, max y.u x.u⟩
/-- Them with another one. -/
def gr (l : List L) (x : L) : List L := if has l x = true then l.set (pos l x) (up (l[pos l x]?.getD x) x) else insL l (pos l x) x
theorem pos_le (l : List L) (x : L) : pos l x ≤ l.length := List.countP_le_length
theorem searchRow (l : List L) (t : L) (w : Value) (hs : srt l) (hl : l.length ≤ 1000000) : ACalls Try.prog 126 [.sc w, .ag t.e, .fn (.func 127) []] [rowL w l] (fun r A' => r = .tp [.sc (.int .i64 (pos l t : Nat)), .sc (.bool (has l t))] ∧ A' = [rowL w l]) (fun _ _ => False) :=
  acalls_borrow (pre := []) (flat_tp (fun x hx => by
    rcases List.mem_cons.1 hx with rfl | hx
    · exact flat_sc _
    · rw [List.mem_singleton] at hx; subst hx; exact flat_sc _)) (search l t hs hl)

theorem grant (l : List L) (x : L) (hs : srt l) (hl : l.length ≤ 1000000) : Pur Try.prog 105 [ls l, .ag x.e] (ls (gr l x)) := by
  refine acallsN Try.func105 rfl Try.ntmps105 rfl ?_
  refine aw_seq ?_
  refine aw_region ?_
  refine aops_cons rfl rfl (AOp.boxI rfl rfl rfl ?_)
  refine aops_cons rfl rfl (AOp.assign rfl rfl ?_)
  refine aops_nil ?_
  refine aw_seq ?_
  refine aw_region ?_
  refine aops_cons rfl rfl (AOp.move rfl rfl ?_)
  refine aops_cons rfl rfl (AOp.callN (Af := []) Try.call100 rfl rfl rfl (List.Perm.refl _) (by exact clone l hl) (fun r' A'' hr => ?_))
  obtain ⟨w, rfl, rfl⟩ := hr
  unfold rowL
  refine aops_cons rfl rfl (AOp.assign rfl rfl ?_)
  refine aops_nil ?_
  refine aw_seq ?_
  refine aw_region ?_
  refine aops_cons rfl rfl (AOp.move rfl rfl ?_)
  first
  | refine aops_cons rfl rfl (AOp.loadN Try.isAgg111 Try.sizeOf111 rfl rfl (reads_im _ _) rfl rfl ?_)
  | refine aops_cons rfl rfl (AOp.loadN Try.isAgg111 Try.sizeOf111 rfl rfl (reads_box _ (.head _)) rfl rfl ?_)
  | refine aops_cons rfl rfl (AOp.loadN Try.isAgg111 Try.sizeOf111 rfl rfl (reads_box _ (.tail _ (.head _))) rfl rfl ?_)
  | refine aops_cons rfl rfl (AOp.loadN Try.isAgg111 Try.sizeOf111 rfl rfl (reads_row _ (.head _) (idx_nat (by first | first | omega | (simp <;> omega) | (simp at * <;> omega) | (have hlt := pos_lt hs (by assumption); first | omega | (simp <;> omega) | (simp at * <;> omega)))) (by first | first | omega | (simp <;> omega) | (simp at * <;> omega) | (have hlt := pos_lt hs (by assumption); first | omega | (simp <;> omega) | (simp at * <;> omega)))) rfl rfl ?_)
  | refine aops_cons rfl rfl (AOp.loadN Try.isAgg111 Try.sizeOf111 rfl rfl (reads_row _ (.head _) (idx_map (by first | first | omega | (simp <;> omega) | (simp at * <;> omega) | (have hlt := pos_lt hs (by assumption); first | omega | (simp <;> omega) | (simp at * <;> omega)))) (by first | first | omega | (simp <;> omega) | (simp at * <;> omega) | (have hlt := pos_lt hs (by assumption); first | omega | (simp <;> omega) | (simp at * <;> omega)))) rfl rfl ?_)
  | refine aops_cons rfl rfl (AOp.loadN Try.isAgg111 Try.sizeOf111 rfl rfl (reads_row _ (.head _) (by assumption) (by first | first | omega | (simp <;> omega) | (simp at * <;> omega) | (have hlt := pos_lt hs (by assumption); first | omega | (simp <;> omega) | (simp at * <;> omega)))) rfl rfl ?_)
  | refine aops_cons rfl rfl (AOp.loadN Try.isAgg111 Try.sizeOf111 rfl rfl (reads_row _ (.tail _ (.head _)) (idx_nat (by first | first | omega | (simp <;> omega) | (simp at * <;> omega) | (have hlt := pos_lt hs (by assumption); first | omega | (simp <;> omega) | (simp at * <;> omega)))) (by first | first | omega | (simp <;> omega) | (simp at * <;> omega) | (have hlt := pos_lt hs (by assumption); first | omega | (simp <;> omega) | (simp at * <;> omega)))) rfl rfl ?_)
  | refine aops_cons rfl rfl (AOp.loadN Try.isAgg111 Try.sizeOf111 rfl rfl (reads_row _ (.tail _ (.head _)) (idx_map (by first | first | omega | (simp <;> omega) | (simp at * <;> omega) | (have hlt := pos_lt hs (by assumption); first | omega | (simp <;> omega) | (simp at * <;> omega)))) (by first | first | omega | (simp <;> omega) | (simp at * <;> omega) | (have hlt := pos_lt hs (by assumption); first | omega | (simp <;> omega) | (simp at * <;> omega)))) rfl rfl ?_)
  | refine aops_cons rfl rfl (AOp.loadN Try.isAgg111 Try.sizeOf111 rfl rfl (reads_row _ (.tail _ (.head _)) (by assumption) (by first | first | omega | (simp <;> omega) | (simp at * <;> omega) | (have hlt := pos_lt hs (by assumption); first | omega | (simp <;> omega) | (simp at * <;> omega)))) rfl rfl ?_)
  refine aops_cons rfl rfl (AOp.callN (Af := []) Try.call126 rfl rfl rfl (List.Perm.refl _) (by exact searchRow l x w hs hl) (fun r' A'' hr => ?_))
  obtain ⟨rfl, rfl⟩ := hr
  unfold rowL
  refine aops_cons rfl rfl (AOp.move rfl rfl ?_)
  refine aops_cons rfl rfl (AOp.extract rfl rfl rfl ?_)
  refine aops_cons rfl rfl (AOp.extract rfl rfl rfl ?_)
  refine aops_cons rfl rfl (AOp.assign rfl rfl ?_)
  refine aops_cons rfl rfl (AOp.assign rfl rfl ?_)
  refine aops_nil ?_
  refine aw_seq ?_
  refine aw_seq ?_
  refine aw_region ?_
  refine aops_cons rfl rfl (AOp.move rfl rfl ?_)
  refine aops_cons rfl rfl (AOp.not rfl rfl ?_)
  refine aops_nil ?_
  refine aw_cond _ rfl (fun h1 => ?_) (fun h1 => ?_)
  focus
    have h1_ := h1
    try simp only [List.length_map, List.length_cons, List.length_nil, nrm] at h1
    all_goals try (exfalso; first | (simp at h1_; done) | omega)
    all_goals
      refine aw_seq ?_
      refine aw_region ?_
      refine aops_cons rfl rfl (AOp.move rfl rfl ?_)
      refine aops_cons rfl rfl (AOp.move rfl rfl ?_)
      first
      | refine aops_cons rfl rfl (AOp.loadN Try.isAgg111 Try.sizeOf111 rfl rfl (reads_im _ _) rfl rfl ?_)
      | refine aops_cons rfl rfl (AOp.loadN Try.isAgg111 Try.sizeOf111 rfl rfl (reads_box _ (.head _)) rfl rfl ?_)
      | refine aops_cons rfl rfl (AOp.loadN Try.isAgg111 Try.sizeOf111 rfl rfl (reads_box _ (.tail _ (.head _))) rfl rfl ?_)
      | refine aops_cons rfl rfl (AOp.loadN Try.isAgg111 Try.sizeOf111 rfl rfl (reads_row _ (.head _) (idx_nat (by first | first | omega | (simp <;> omega) | (simp at * <;> omega) | (have hlt := pos_lt hs (by assumption); first | omega | (simp <;> omega) | (simp at * <;> omega)))) (by first | first | omega | (simp <;> omega) | (simp at * <;> omega) | (have hlt := pos_lt hs (by assumption); first | omega | (simp <;> omega) | (simp at * <;> omega)))) rfl rfl ?_)
      | refine aops_cons rfl rfl (AOp.loadN Try.isAgg111 Try.sizeOf111 rfl rfl (reads_row _ (.head _) (idx_map (by first | first | omega | (simp <;> omega) | (simp at * <;> omega) | (have hlt := pos_lt hs (by assumption); first | omega | (simp <;> omega) | (simp at * <;> omega)))) (by first | first | omega | (simp <;> omega) | (simp at * <;> omega) | (have hlt := pos_lt hs (by assumption); first | omega | (simp <;> omega) | (simp at * <;> omega)))) rfl rfl ?_)
      | refine aops_cons rfl rfl (AOp.loadN Try.isAgg111 Try.sizeOf111 rfl rfl (reads_row _ (.head _) (by assumption) (by first | first | omega | (simp <;> omega) | (simp at * <;> omega) | (have hlt := pos_lt hs (by assumption); first | omega | (simp <;> omega) | (simp at * <;> omega)))) rfl rfl ?_)
      | refine aops_cons rfl rfl (AOp.loadN Try.isAgg111 Try.sizeOf111 rfl rfl (reads_row _ (.tail _ (.head _)) (idx_nat (by first | first | omega | (simp <;> omega) | (simp at * <;> omega) | (have hlt := pos_lt hs (by assumption); first | omega | (simp <;> omega) | (simp at * <;> omega)))) (by first | first | omega | (simp <;> omega) | (simp at * <;> omega) | (have hlt := pos_lt hs (by assumption); first | omega | (simp <;> omega) | (simp at * <;> omega)))) rfl rfl ?_)
      | refine aops_cons rfl rfl (AOp.loadN Try.isAgg111 Try.sizeOf111 rfl rfl (reads_row _ (.tail _ (.head _)) (idx_map (by first | first | omega | (simp <;> omega) | (simp at * <;> omega) | (have hlt := pos_lt hs (by assumption); first | omega | (simp <;> omega) | (simp at * <;> omega)))) (by first | first | omega | (simp <;> omega) | (simp at * <;> omega) | (have hlt := pos_lt hs (by assumption); first | omega | (simp <;> omega) | (simp at * <;> omega)))) rfl rfl ?_)
      | refine aops_cons rfl rfl (AOp.loadN Try.isAgg111 Try.sizeOf111 rfl rfl (reads_row _ (.tail _ (.head _)) (by assumption) (by first | first | omega | (simp <;> omega) | (simp at * <;> omega) | (have hlt := pos_lt hs (by assumption); first | omega | (simp <;> omega) | (simp at * <;> omega)))) rfl rfl ?_)
      refine aops_cons rfl rfl (AOp.buildR' Try.underlying27 Try.sizeOf111 Try.zeroValue111 rfl rfl rfl rfl rfl rfl rfl rfl rfl rfl rfl ?_); intro b1
      refine aops_cons rfl rfl (AOp.callN (Af := []) Try.call128 rfl rfl rfl (List.Perm.swap _ _ _) (by exact insert l x (pos l x) w _ (pos_le l x) hl) (fun r' A'' hr => ?_))
      obtain ⟨w', rfl, rfl⟩ := hr
      refine aops_cons rfl rfl (AOp.assign rfl rfl ?_)
      refine aops_nil ?_
      refine aw_weak (wk_freeze (pull_here _ _) (subf_new (s := 4) rfl (subf_nil _ _ _))) ?_
      refine aw_weak (wk_drop (List.nil_sublist _)) ?_
      refine aw_ret ?_
      refine ⟨_, (res1 Try.results105 rfl), ?_⟩
      refine ⟨?_, rfl⟩
      unfold gr
      rw [if_neg (by rw [h1]; decide)]; rfl
  rotate_right
  focus
    have h1_ := h1
    try simp only [List.length_map, List.length_cons, List.length_nil, nrm] at h1
    all_goals try (exfalso; first | (simp at h1_; done) | omega)
    all_goals
      refine aw_skip ?_
      skip
  all_goals
    refine aw_seq ?_
    refine aw_draw 23 [1, 1, 1, 1, 1, 1, 2, 1, 0, 1, 1, 1, 1, 1, 2, 1, 0, 1, 1, 1, 2, 1, 3] (by kernel_rfl) (by kernel_rfl) ?_
    refine psq_cons _ rfl (core1 (fun _ _ => AOp.move rfl rfl ⟨rfl, rfl⟩)) ?_
    refine psq_cons _ rfl (core1 (fun _ _ => AOp.move rfl rfl ⟨rfl, rfl⟩)) ?_
    refine psq_cons _ rfl (core1 (fun _ _ => AOp.move rfl rfl ⟨rfl, rfl⟩)) ?_
    refine psq_cons _ rfl (core1 (fun _ _ => AOp.move rfl rfl ⟨rfl, rfl⟩)) ?_
    refine psq_cons _ rfl (core1 (fun _ _ => AOp.move rfl rfl ⟨rfl, rfl⟩)) ?_
    refine psq_cons _ rfl (core1 (fun _ _ => AOp.move rfl rfl ⟨rfl, rfl⟩)) ?_
    first
    | refine psq_cons _ rfl (core2 ⟨AOp.indexLN Try.underlying27 Try.sizeOf111 rfl rfl rfl (by first | first | omega | (simp <;> omega) | (simp at * <;> omega) | (have hlt := pos_lt hs (by assumption); first | omega | (simp <;> omega) | (simp at * <;> omega))) (fun _ => rfl) ⟨rfl, rfl⟩, trivial⟩) ?_
    | refine psq_cons _ rfl (core2 ⟨AOp.indexLI Try.underlying27 Try.sizeOf111 rfl rfl rfl (by first | first | omega | (simp <;> omega) | (simp at * <;> omega) | (have hlt := pos_lt hs (by assumption); first | omega | (simp <;> omega) | (simp at * <;> omega))) (by first | first | omega | (simp <;> omega) | (simp at * <;> omega) | (have hlt := pos_lt hs (by assumption); first | omega | (simp <;> omega) | (simp at * <;> omega))) (fun _ => rfl) ⟨rfl, rfl⟩, trivial⟩) ?_
    | refine psq_cons _ rfl (core2 ⟨AOp.indexS Try.underlying27 Try.sizeOf111 (by assumption) rfl rfl rfl (by first | first | omega | (simp <;> omega) | (simp at * <;> omega) | (have hlt := pos_lt hs (by assumption); first | omega | (simp <;> omega) | (simp at * <;> omega))) (by assumption) ⟨rfl, rfl⟩, trivial⟩) ?_
    | refine psq_cons _ rfl (core2 ⟨AOp.indexS Try.underlying27 Try.sizeOf111 (by assumption) rfl rfl rfl (by first | first | omega | (simp <;> omega) | (simp at * <;> omega) | (have hlt := pos_lt hs (by assumption); first | omega | (simp <;> omega) | (simp at * <;> omega))) (List.getElem?_eq_getElem (by first | first | omega | (simp <;> omega) | (simp at * <;> omega) | (have hlt := pos_lt hs (by assumption); first | omega | (simp <;> omega) | (simp at * <;> omega)))) ⟨rfl, rfl⟩, trivial⟩) ?_
    | refine psq_cons _ rfl (core2 ⟨AOp.indexS Try.underlying27 Try.sizeOf111 (by exact all_len rfl) rfl rfl rfl (by first | first | omega | (simp <;> omega) | (simp at * <;> omega) | (have hlt := pos_lt hs (by assumption); first | omega | (simp <;> omega) | (simp at * <;> omega))) rfl ⟨rfl, rfl⟩, trivial⟩) ?_
    | refine psq_cons _ rfl (core2 ⟨AOp.indexR Try.underlying27 Try.sizeOf111 (.head _) rfl rfl rfl (by first | first | omega | (simp <;> omega) | (simp at * <;> omega) | (have hlt := pos_lt hs (by assumption); first | omega | (simp <;> omega) | (simp at * <;> omega))) (by first | first | omega | (simp <;> omega) | (simp at * <;> omega) | (have hlt := pos_lt hs (by assumption); first | omega | (simp <;> omega) | (simp at * <;> omega))) ⟨rfl, rfl⟩, trivial⟩) ?_
    | refine psq_cons _ rfl (core2 ⟨AOp.indexR Try.underlying27 Try.sizeOf111 (.tail _ (.head _)) rfl rfl rfl (by first | first | omega | (simp <;> omega) | (simp at * <;> omega) | (have hlt := pos_lt hs (by assumption); first | omega | (simp <;> omega) | (simp at * <;> omega))) (by first | first | omega | (simp <;> omega) | (simp at * <;> omega) | (have hlt := pos_lt hs (by assumption); first | omega | (simp <;> omega) | (simp at * <;> omega))) ⟨rfl, rfl⟩, trivial⟩) ?_
    first
    | refine psq_cons _ rfl (core1 (fun _ _ => AOp.fieldI Try.underlying111 rfl Try.sizeOf3 (by decide) rfl rfl rfl ⟨rfl, rfl⟩)) ?_
    | refine psq_cons _ rfl (core1 (fun _ _ => AOp.fieldB Try.underlying111 rfl Try.sizeOf3 (by decide) rfl rfl rfl ⟨rfl, rfl⟩)) ?_
    | refine psq_cons _ rfl (core1 (fun _ _ => AOp.fieldR Try.underlying111 rfl Try.sizeOf3 (by decide) rfl rfl rfl ⟨rfl, rfl⟩)) ?_
    first
    | refine psq_cons _ rfl (core0 (AOp.load1 Try.isAgg3 rfl rfl (reads_im _ _) rfl ⟨rfl, rfl⟩)) ?_
    | refine psq_cons _ rfl (core0 (AOp.load1 Try.isAgg3 rfl rfl (reads_box _ (.head _)) rfl ⟨rfl, rfl⟩)) ?_
    | refine psq_cons _ rfl (core0 (AOp.load1 Try.isAgg3 rfl rfl (reads_box _ (.tail _ (.head _))) rfl ⟨rfl, rfl⟩)) ?_
    | refine psq_cons _ rfl (core0 (AOp.load1 Try.isAgg3 rfl rfl (reads_row _ (.head _) (idx_nat (by first | first | omega | (simp <;> omega) | (simp at * <;> omega) | (have hlt := pos_lt hs (by assumption); first | omega | (simp <;> omega) | (simp at * <;> omega)))) (by first | first | omega | (simp <;> omega) | (simp at * <;> omega) | (have hlt := pos_lt hs (by assumption); first | omega | (simp <;> omega) | (simp at * <;> omega)))) rfl ⟨rfl, rfl⟩)) ?_
    | refine psq_cons _ rfl (core0 (AOp.load1 Try.isAgg3 rfl rfl (reads_row _ (.head _) (idx_map (by first | first | omega | (simp <;> omega) | (simp at * <;> omega) | (have hlt := pos_lt hs (by assumption); first | omega | (simp <;> omega) | (simp at * <;> omega)))) (by first | first | omega | (simp <;> omega) | (simp at * <;> omega) | (have hlt := pos_lt hs (by assumption); first | omega | (simp <;> omega) | (simp at * <;> omega)))) rfl ⟨rfl, rfl⟩)) ?_
    | refine psq_cons _ rfl (core0 (AOp.load1 Try.isAgg3 rfl rfl (reads_row _ (.head _) (by assumption) (by first | first | omega | (simp <;> omega) | (simp at * <;> omega) | (have hlt := pos_lt hs (by assumption); first | omega | (simp <;> omega) | (simp at * <;> omega)))) rfl ⟨rfl, rfl⟩)) ?_
    | refine psq_cons _ rfl (core0 (AOp.load1 Try.isAgg3 rfl rfl (reads_row _ (.tail _ (.head _)) (idx_nat (by first | first | omega | (simp <;> omega) | (simp at * <;> omega) | (have hlt := pos_lt hs (by assumption); first | omega | (simp <;> omega) | (simp at * <;> omega)))) (by first | first | omega | (simp <;> omega) | (simp at * <;> omega) | (have hlt := pos_lt hs (by assumption); first | omega | (simp <;> omega) | (simp at * <;> omega)))) rfl ⟨rfl, rfl⟩)) ?_
    | refine psq_cons _ rfl (core0 (AOp.load1 Try.isAgg3 rfl rfl (reads_row _ (.tail _ (.head _)) (idx_map (by first | first | omega | (simp <;> omega) | (simp at * <;> omega) | (have hlt := pos_lt hs (by assumption); first | omega | (simp <;> omega) | (simp at * <;> omega)))) (by first | first | omega | (simp <;> omega) | (simp at * <;> omega) | (have hlt := pos_lt hs (by assumption); first | omega | (simp <;> omega) | (simp at * <;> omega)))) rfl ⟨rfl, rfl⟩)) ?_
    | refine psq_cons _ rfl (core0 (AOp.load1 Try.isAgg3 rfl rfl (reads_row _ (.tail _ (.head _)) (by assumption) (by first | first | omega | (simp <;> omega) | (simp at * <;> omega) | (have hlt := pos_lt hs (by assumption); first | omega | (simp <;> omega) | (simp at * <;> omega)))) rfl ⟨rfl, rfl⟩)) ?_
    first
    | refine psq_cons _ rfl (core1 (fun _ _ => AOp.fieldI Try.underlying111 rfl Try.sizeOf3 (by decide) rfl rfl rfl ⟨rfl, rfl⟩)) ?_
    | refine psq_cons _ rfl (core1 (fun _ _ => AOp.fieldB Try.underlying111 rfl Try.sizeOf3 (by decide) rfl rfl rfl ⟨rfl, rfl⟩)) ?_
    | refine psq_cons _ rfl (core1 (fun _ _ => AOp.fieldR Try.underlying111 rfl Try.sizeOf3 (by decide) rfl rfl rfl ⟨rfl, rfl⟩)) ?_
    first
    | refine psq_cons _ rfl (core1 (fun _ _ => AOp.load1 Try.isAgg3 rfl rfl (reads_im _ _) rfl ⟨rfl, rfl⟩)) ?_
    | refine psq_cons _ rfl (core1 (fun _ _ => AOp.load1 Try.isAgg3 rfl rfl (reads_box _ (.head _)) rfl ⟨rfl, rfl⟩)) ?_
    | refine psq_cons _ rfl (core1 (fun _ _ => AOp.load1 Try.isAgg3 rfl rfl (reads_box _ (.tail _ (.head _))) rfl ⟨rfl, rfl⟩)) ?_
    | refine psq_cons _ rfl (core1 (fun _ _ => AOp.load1 Try.isAgg3 rfl rfl (reads_row _ (.head _) (idx_nat (by first | first | omega | (simp <;> omega) | (simp at * <;> omega) | (have hlt := pos_lt hs (by assumption); first | omega | (simp <;> omega) | (simp at * <;> omega)))) (by first | first | omega | (simp <;> omega) | (simp at * <;> omega) | (have hlt := pos_lt hs (by assumption); first | omega | (simp <;> omega) | (simp at * <;> omega)))) rfl ⟨rfl, rfl⟩)) ?_
    | refine psq_cons _ rfl (core1 (fun _ _ => AOp.load1 Try.isAgg3 rfl rfl (reads_row _ (.head _) (idx_map (by first | first | omega | (simp <;> omega) | (simp at * <;> omega) | (have hlt := pos_lt hs (by assumption); first | omega | (simp <;> omega) | (simp at * <;> omega)))) (by first | first | omega | (simp <;> omega) | (simp at * <;> omega) | (have hlt := pos_lt hs (by assumption); first | omega | (simp <;> omega) | (simp at * <;> omega)))) rfl ⟨rfl, rfl⟩)) ?_
    | refine psq_cons _ rfl (core1 (fun _ _ => AOp.load1 Try.isAgg3 rfl rfl (reads_row _ (.head _) (by assumption) (by first | first | omega | (simp <;> omega) | (simp at * <;> omega) | (have hlt := pos_lt hs (by assumption); first | omega | (simp <;> omega) | (simp at * <;> omega)))) rfl ⟨rfl, rfl⟩)) ?_
    | refine psq_cons _ rfl (core1 (fun _ _ => AOp.load1 Try.isAgg3 rfl rfl (reads_row _ (.tail _ (.head _)) (idx_nat (by first | first | omega | (simp <;> omega) | (simp at * <;> omega) | (have hlt := pos_lt hs (by assumption); first | omega | (simp <;> omega) | (simp at * <;> omega)))) (by first | first | omega | (simp <;> omega) | (simp at * <;> omega) | (have hlt := pos_lt hs (by assumption); first | omega | (simp <;> omega) | (simp at * <;> omega)))) rfl ⟨rfl, rfl⟩)) ?_
    | refine psq_cons _ rfl (core1 (fun _ _ => AOp.load1 Try.isAgg3 rfl rfl (reads_row _ (.tail _ (.head _)) (idx_map (by first | first | omega | (simp <;> omega) | (simp at * <;> omega) | (have hlt := pos_lt hs (by assumption); first | omega | (simp <;> omega) | (simp at * <;> omega)))) (by first | first | omega | (simp <;> omega) | (simp at * <;> omega) | (have hlt := pos_lt hs (by assumption); first | omega | (simp <;> omega) | (simp at * <;> omega)))) rfl ⟨rfl, rfl⟩)) ?_
    | refine psq_cons _ rfl (core1 (fun _ _ => AOp.load1 Try.isAgg3 rfl rfl (reads_row _ (.tail _ (.head _)) (by assumption) (by first | first | omega | (simp <;> omega) | (simp at * <;> omega) | (have hlt := pos_lt hs (by assumption); first | omega | (simp <;> omega) | (simp at * <;> omega)))) rfl ⟨rfl, rfl⟩)) ?_
    refine psq_cons _ rfl (core1 (fun _ _ => AOp.max2 rfl rfl rfl ⟨rfl, rfl⟩)) ?_
    refine psq_cons _ rfl (core1 (fun _ _ => AOp.move rfl rfl ⟨rfl, rfl⟩)) ?_
    refine psq_cons _ rfl (core1 (fun _ _ => AOp.move rfl rfl ⟨rfl, rfl⟩)) ?_
    first
    | refine psq_cons _ rfl (core2 ⟨AOp.indexLN Try.underlying27 Try.sizeOf111 rfl rfl rfl (by first | first | omega | (simp <;> omega) | (simp at * <;> omega) | (have hlt := pos_lt hs (by assumption); first | omega | (simp <;> omega) | (simp at * <;> omega))) (fun _ => rfl) ⟨rfl, rfl⟩, trivial⟩) ?_
    | refine psq_cons _ rfl (core2 ⟨AOp.indexLI Try.underlying27 Try.sizeOf111 rfl rfl rfl (by first | first | omega | (simp <;> omega) | (simp at * <;> omega) | (have hlt := pos_lt hs (by assumption); first | omega | (simp <;> omega) | (simp at * <;> omega))) (by first | first | omega | (simp <;> omega) | (simp at * <;> omega) | (have hlt := pos_lt hs (by assumption); first | omega | (simp <;> omega) | (simp at * <;> omega))) (fun _ => rfl) ⟨rfl, rfl⟩, trivial⟩) ?_
    | refine psq_cons _ rfl (core2 ⟨AOp.indexS Try.underlying27 Try.sizeOf111 (by assumption) rfl rfl rfl (by first | first | omega | (simp <;> omega) | (simp at * <;> omega) | (have hlt := pos_lt hs (by assumption); first | omega | (simp <;> omega) | (simp at * <;> omega))) (by assumption) ⟨rfl, rfl⟩, trivial⟩) ?_
    | refine psq_cons _ rfl (core2 ⟨AOp.indexS Try.underlying27 Try.sizeOf111 (by assumption) rfl rfl rfl (by first | first | omega | (simp <;> omega) | (simp at * <;> omega) | (have hlt := pos_lt hs (by assumption); first | omega | (simp <;> omega) | (simp at * <;> omega))) (List.getElem?_eq_getElem (by first | first | omega | (simp <;> omega) | (simp at * <;> omega) | (have hlt := pos_lt hs (by assumption); first | omega | (simp <;> omega) | (simp at * <;> omega)))) ⟨rfl, rfl⟩, trivial⟩) ?_
    | refine psq_cons _ rfl (core2 ⟨AOp.indexS Try.underlying27 Try.sizeOf111 (by exact all_len rfl) rfl rfl rfl (by first | first | omega | (simp <;> omega) | (simp at * <;> omega) | (have hlt := pos_lt hs (by assumption); first | omega | (simp <;> omega) | (simp at * <;> omega))) rfl ⟨rfl, rfl⟩, trivial⟩) ?_
    | refine psq_cons _ rfl (core2 ⟨AOp.indexR Try.underlying27 Try.sizeOf111 (.head _) rfl rfl rfl (by first | first | omega | (simp <;> omega) | (simp at * <;> omega) | (have hlt := pos_lt hs (by assumption); first | omega | (simp <;> omega) | (simp at * <;> omega))) (by first | first | omega | (simp <;> omega) | (simp at * <;> omega) | (have hlt := pos_lt hs (by assumption); first | omega | (simp <;> omega) | (simp at * <;> omega))) ⟨rfl, rfl⟩, trivial⟩) ?_
    | refine psq_cons _ rfl (core2 ⟨AOp.indexR Try.underlying27 Try.sizeOf111 (.tail _ (.head _)) rfl rfl rfl (by first | first | omega | (simp <;> omega) | (simp at * <;> omega) | (have hlt := pos_lt hs (by assumption); first | omega | (simp <;> omega) | (simp at * <;> omega))) (by first | first | omega | (simp <;> omega) | (simp at * <;> omega) | (have hlt := pos_lt hs (by assumption); first | omega | (simp <;> omega) | (simp at * <;> omega))) ⟨rfl, rfl⟩, trivial⟩) ?_
    first
    | refine psq_cons _ rfl (core1 (fun _ _ => AOp.fieldI Try.underlying111 rfl Try.sizeOf3 (by decide) rfl rfl rfl ⟨rfl, rfl⟩)) ?_
    | refine psq_cons _ rfl (core1 (fun _ _ => AOp.fieldB Try.underlying111 rfl Try.sizeOf3 (by decide) rfl rfl rfl ⟨rfl, rfl⟩)) ?_
    | refine psq_cons _ rfl (core1 (fun _ _ => AOp.fieldR Try.underlying111 rfl Try.sizeOf3 (by decide) rfl rfl rfl ⟨rfl, rfl⟩)) ?_
    first
    | refine psq_cons _ rfl (core0 (AOp.load1 Try.isAgg3 rfl rfl (reads_im _ _) rfl ⟨rfl, rfl⟩)) ?_
    | refine psq_cons _ rfl (core0 (AOp.load1 Try.isAgg3 rfl rfl (reads_box _ (.head _)) rfl ⟨rfl, rfl⟩)) ?_
    | refine psq_cons _ rfl (core0 (AOp.load1 Try.isAgg3 rfl rfl (reads_box _ (.tail _ (.head _))) rfl ⟨rfl, rfl⟩)) ?_
    | refine psq_cons _ rfl (core0 (AOp.load1 Try.isAgg3 rfl rfl (reads_row _ (.head _) (idx_nat (by first | first | omega | (simp <;> omega) | (simp at * <;> omega) | (have hlt := pos_lt hs (by assumption); first | omega | (simp <;> omega) | (simp at * <;> omega)))) (by first | first | omega | (simp <;> omega) | (simp at * <;> omega) | (have hlt := pos_lt hs (by assumption); first | omega | (simp <;> omega) | (simp at * <;> omega)))) rfl ⟨rfl, rfl⟩)) ?_
    | refine psq_cons _ rfl (core0 (AOp.load1 Try.isAgg3 rfl rfl (reads_row _ (.head _) (idx_map (by first | first | omega | (simp <;> omega) | (simp at * <;> omega) | (have hlt := pos_lt hs (by assumption); first | omega | (simp <;> omega) | (simp at * <;> omega)))) (by first | first | omega | (simp <;> omega) | (simp at * <;> omega) | (have hlt := pos_lt hs (by assumption); first | omega | (simp <;> omega) | (simp at * <;> omega)))) rfl ⟨rfl, rfl⟩)) ?_
    | refine psq_cons _ rfl (core0 (AOp.load1 Try.isAgg3 rfl rfl (reads_row _ (.head _) (by assumption) (by first | first | omega | (simp <;> omega) | (simp at * <;> omega) | (have hlt := pos_lt hs (by assumption); first | omega | (simp <;> omega) | (simp at * <;> omega)))) rfl ⟨rfl, rfl⟩)) ?_
    | refine psq_cons _ rfl (core0 (AOp.load1 Try.isAgg3 rfl rfl (reads_row _ (.tail _ (.head _)) (idx_nat (by first | first | omega | (simp <;> omega) | (simp at * <;> omega) | (have hlt := pos_lt hs (by assumption); first | omega | (simp <;> omega) | (simp at * <;> omega)))) (by first | first | omega | (simp <;> omega) | (simp at * <;> omega) | (have hlt := pos_lt hs (by assumption); first | omega | (simp <;> omega) | (simp at * <;> omega)))) rfl ⟨rfl, rfl⟩)) ?_
    | refine psq_cons _ rfl (core0 (AOp.load1 Try.isAgg3 rfl rfl (reads_row _ (.tail _ (.head _)) (idx_map (by first | first | omega | (simp <;> omega) | (simp at * <;> omega) | (have hlt := pos_lt hs (by assumption); first | omega | (simp <;> omega) | (simp at * <;> omega)))) (by first | first | omega | (simp <;> omega) | (simp at * <;> omega) | (have hlt := pos_lt hs (by assumption); first | omega | (simp <;> omega) | (simp at * <;> omega)))) rfl ⟨rfl, rfl⟩)) ?_
    | refine psq_cons _ rfl (core0 (AOp.load1 Try.isAgg3 rfl rfl (reads_row _ (.tail _ (.head _)) (by assumption) (by first | first | omega | (simp <;> omega) | (simp at * <;> omega) | (have hlt := pos_lt hs (by assumption); first | omega | (simp <;> omega) | (simp at * <;> omega)))) rfl ⟨rfl, rfl⟩)) ?_
    first
    | refine psq_cons _ rfl (core1 (fun _ _ => AOp.fieldI Try.underlying111 rfl Try.sizeOf3 (by decide) rfl rfl rfl ⟨rfl, rfl⟩)) ?_
    | refine psq_cons _ rfl (core1 (fun _ _ => AOp.fieldB Try.underlying111 rfl Try.sizeOf3 (by decide) rfl rfl rfl ⟨rfl, rfl⟩)) ?_
    | refine psq_cons _ rfl (core1 (fun _ _ => AOp.fieldR Try.underlying111 rfl Try.sizeOf3 (by decide) rfl rfl rfl ⟨rfl, rfl⟩)) ?_
    first
    | refine psq_cons _ rfl (core1 (fun _ _ => AOp.load1 Try.isAgg3 rfl rfl (reads_im _ _) rfl ⟨rfl, rfl⟩)) ?_
    | refine psq_cons _ rfl (core1 (fun _ _ => AOp.load1 Try.isAgg3 rfl rfl (reads_box _ (.head _)) rfl ⟨rfl, rfl⟩)) ?_
    | refine psq_cons _ rfl (core1 (fun _ _ => AOp.load1 Try.isAgg3 rfl rfl (reads_box _ (.tail _ (.head _))) rfl ⟨rfl, rfl⟩)) ?_
    | refine psq_cons _ rfl (core1 (fun _ _ => AOp.load1 Try.isAgg3 rfl rfl (reads_row _ (.head _) (idx_nat (by first | first | omega | (simp <;> omega) | (simp at * <;> omega) | (have hlt := pos_lt hs (by assumption); first | omega | (simp <;> omega) | (simp at * <;> omega)))) (by first | first | omega | (simp <;> omega) | (simp at * <;> omega) | (have hlt := pos_lt hs (by assumption); first | omega | (simp <;> omega) | (simp at * <;> omega)))) rfl ⟨rfl, rfl⟩)) ?_
    | refine psq_cons _ rfl (core1 (fun _ _ => AOp.load1 Try.isAgg3 rfl rfl (reads_row _ (.head _) (idx_map (by first | first | omega | (simp <;> omega) | (simp at * <;> omega) | (have hlt := pos_lt hs (by assumption); first | omega | (simp <;> omega) | (simp at * <;> omega)))) (by first | first | omega | (simp <;> omega) | (simp at * <;> omega) | (have hlt := pos_lt hs (by assumption); first | omega | (simp <;> omega) | (simp at * <;> omega)))) rfl ⟨rfl, rfl⟩)) ?_
    | refine psq_cons _ rfl (core1 (fun _ _ => AOp.load1 Try.isAgg3 rfl rfl (reads_row _ (.head _) (by assumption) (by first | first | omega | (simp <;> omega) | (simp at * <;> omega) | (have hlt := pos_lt hs (by assumption); first | omega | (simp <;> omega) | (simp at * <;> omega)))) rfl ⟨rfl, rfl⟩)) ?_
    | refine psq_cons _ rfl (core1 (fun _ _ => AOp.load1 Try.isAgg3 rfl rfl (reads_row _ (.tail _ (.head _)) (idx_nat (by first | first | omega | (simp <;> omega) | (simp at * <;> omega) | (have hlt := pos_lt hs (by assumption); first | omega | (simp <;> omega) | (simp at * <;> omega)))) (by first | first | omega | (simp <;> omega) | (simp at * <;> omega) | (have hlt := pos_lt hs (by assumption); first | omega | (simp <;> omega) | (simp at * <;> omega)))) rfl ⟨rfl, rfl⟩)) ?_
    | refine psq_cons _ rfl (core1 (fun _ _ => AOp.load1 Try.isAgg3 rfl rfl (reads_row _ (.tail _ (.head _)) (idx_map (by first | first | omega | (simp <;> omega) | (simp at * <;> omega) | (have hlt := pos_lt hs (by assumption); first | omega | (simp <;> omega) | (simp at * <;> omega)))) (by first | first | omega | (simp <;> omega) | (simp at * <;> omega) | (have hlt := pos_lt hs (by assumption); first | omega | (simp <;> omega) | (simp at * <;> omega)))) rfl ⟨rfl, rfl⟩)) ?_
    | refine psq_cons _ rfl (core1 (fun _ _ => AOp.load1 Try.isAgg3 rfl rfl (reads_row _ (.tail _ (.head _)) (by assumption) (by first | first | omega | (simp <;> omega) | (simp at * <;> omega) | (have hlt := pos_lt hs (by assumption); first | omega | (simp <;> omega) | (simp at * <;> omega)))) rfl ⟨rfl, rfl⟩)) ?_
    refine psq_cons _ rfl (core1 (fun _ _ => AOp.max2 rfl rfl rfl ⟨rfl, rfl⟩)) ?_
    first
    | refine psq_cons _ rfl (core2 ⟨AOp.indexLN Try.underlying27 Try.sizeOf111 rfl rfl rfl (by first | first | omega | (simp <;> omega) | (simp at * <;> omega) | (have hlt := pos_lt hs (by assumption); first | omega | (simp <;> omega) | (simp at * <;> omega))) (fun _ => rfl) ⟨rfl, rfl⟩, trivial⟩) ?_
    | refine psq_cons _ rfl (core2 ⟨AOp.indexLI Try.underlying27 Try.sizeOf111 rfl rfl rfl (by first | first | omega | (simp <;> omega) | (simp at * <;> omega) | (have hlt := pos_lt hs (by assumption); first | omega | (simp <;> omega) | (simp at * <;> omega))) (by first | first | omega | (simp <;> omega) | (simp at * <;> omega) | (have hlt := pos_lt hs (by assumption); first | omega | (simp <;> omega) | (simp at * <;> omega))) (fun _ => rfl) ⟨rfl, rfl⟩, trivial⟩) ?_
    | refine psq_cons _ rfl (core2 ⟨AOp.indexS Try.underlying27 Try.sizeOf111 (by assumption) rfl rfl rfl (by first | first | omega | (simp <;> omega) | (simp at * <;> omega) | (have hlt := pos_lt hs (by assumption); first | omega | (simp <;> omega) | (simp at * <;> omega))) (by assumption) ⟨rfl, rfl⟩, trivial⟩) ?_
    | refine psq_cons _ rfl (core2 ⟨AOp.indexS Try.underlying27 Try.sizeOf111 (by assumption) rfl rfl rfl (by first | first | omega | (simp <;> omega) | (simp at * <;> omega) | (have hlt := pos_lt hs (by assumption); first | omega | (simp <;> omega) | (simp at * <;> omega))) (List.getElem?_eq_getElem (by first | first | omega | (simp <;> omega) | (simp at * <;> omega) | (have hlt := pos_lt hs (by assumption); first | omega | (simp <;> omega) | (simp at * <;> omega)))) ⟨rfl, rfl⟩, trivial⟩) ?_
    | refine psq_cons _ rfl (core2 ⟨AOp.indexS Try.underlying27 Try.sizeOf111 (by exact all_len rfl) rfl rfl rfl (by first | first | omega | (simp <;> omega) | (simp at * <;> omega) | (have hlt := pos_lt hs (by assumption); first | omega | (simp <;> omega) | (simp at * <;> omega))) rfl ⟨rfl, rfl⟩, trivial⟩) ?_
    | refine psq_cons _ rfl (core2 ⟨AOp.indexR Try.underlying27 Try.sizeOf111 (.head _) rfl rfl rfl (by first | first | omega | (simp <;> omega) | (simp at * <;> omega) | (have hlt := pos_lt hs (by assumption); first | omega | (simp <;> omega) | (simp at * <;> omega))) (by first | first | omega | (simp <;> omega) | (simp at * <;> omega) | (have hlt := pos_lt hs (by assumption); first | omega | (simp <;> omega) | (simp at * <;> omega))) ⟨rfl, rfl⟩, trivial⟩) ?_
    | refine psq_cons _ rfl (core2 ⟨AOp.indexR Try.underlying27 Try.sizeOf111 (.tail _ (.head _)) rfl rfl rfl (by first | first | omega | (simp <;> omega) | (simp at * <;> omega) | (have hlt := pos_lt hs (by assumption); first | omega | (simp <;> omega) | (simp at * <;> omega))) (by first | first | omega | (simp <;> omega) | (simp at * <;> omega) | (have hlt := pos_lt hs (by assumption); first | omega | (simp <;> omega) | (simp at * <;> omega))) ⟨rfl, rfl⟩, trivial⟩) ?_
    first
    | refine psq_cons _ rfl (core1 (fun _ _ => AOp.fieldI Try.underlying111 rfl Try.sizeOf3 (by decide) rfl rfl rfl ⟨rfl, rfl⟩)) ?_
    | refine psq_cons _ rfl (core1 (fun _ _ => AOp.fieldB Try.underlying111 rfl Try.sizeOf3 (by decide) rfl rfl rfl ⟨rfl, rfl⟩)) ?_
    | refine psq_cons _ rfl (core1 (fun _ _ => AOp.fieldR Try.underlying111 rfl Try.sizeOf3 (by decide) rfl rfl rfl ⟨rfl, rfl⟩)) ?_
    first
    | refine psq_cons _ rfl (core3 (AOp.storeB' Try.sizeOf3 rfl rfl rfl rfl rfl (pull_here _ _) rfl rfl ⟨rfl, rfl⟩) trivial) ?_
    | refine psq_cons _ rfl (core3 (AOp.storeB' Try.sizeOf3 rfl rfl rfl rfl rfl (pull_there (pull_here _ _)) rfl rfl ⟨rfl, rfl⟩) trivial) ?_
    | refine psq_cons _ rfl (core3 (AOp.storeR' Try.sizeOf3 rfl rfl rfl rfl rfl (pull_here _ _) (by first | exact idx_nat (by first | first | omega | (simp <;> omega) | (simp at * <;> omega) | (have hlt := pos_lt hs (by assumption); first | omega | (simp <;> omega) | (simp at * <;> omega))) | exact idx_map (by first | first | omega | (simp <;> omega) | (simp at * <;> omega) | (have hlt := pos_lt hs (by assumption); first | omega | (simp <;> omega) | (simp at * <;> omega))) | assumption) rfl rfl rfl ⟨rfl, rfl⟩) trivial) ?_
    | refine psq_cons _ rfl (core3 (AOp.storeR' Try.sizeOf3 rfl rfl rfl rfl rfl (pull_there (pull_here _ _)) (by first | exact idx_nat (by first | first | omega | (simp <;> omega) | (simp at * <;> omega) | (have hlt := pos_lt hs (by assumption); first | omega | (simp <;> omega) | (simp at * <;> omega))) | exact idx_map (by first | first | omega | (simp <;> omega) | (simp at * <;> omega) | (have hlt := pos_lt hs (by assumption); first | omega | (simp <;> omega) | (simp at * <;> omega))) | assumption) rfl rfl rfl ⟨rfl, rfl⟩) trivial) ?_
    refine psq_nil ?_
    first
    | refine aops_cons rfl rfl (AOp.indexLN Try.underlying27 Try.sizeOf111 rfl rfl rfl (by first | first | omega | (simp <;> omega) | (simp at * <;> omega) | (have hlt := pos_lt hs (by assumption); first | omega | (simp <;> omega) | (simp at * <;> omega))) (fun _ => rfl) ?_)
    | refine aops_cons rfl rfl (AOp.indexLI Try.underlying27 Try.sizeOf111 rfl rfl rfl (by first | first | omega | (simp <;> omega) | (simp at * <;> omega) | (have hlt := pos_lt hs (by assumption); first | omega | (simp <;> omega) | (simp at * <;> omega))) (by first | first | omega | (simp <;> omega) | (simp at * <;> omega) | (have hlt := pos_lt hs (by assumption); first | omega | (simp <;> omega) | (simp at * <;> omega))) (fun _ => rfl) ?_)
    | refine aops_cons rfl rfl (AOp.indexS Try.underlying27 Try.sizeOf111 (by assumption) rfl rfl rfl (by first | first | omega | (simp <;> omega) | (simp at * <;> omega) | (have hlt := pos_lt hs (by assumption); first | omega | (simp <;> omega) | (simp at * <;> omega))) (by assumption) ?_)
    | refine aops_cons rfl rfl (AOp.indexS Try.underlying27 Try.sizeOf111 (by assumption) rfl rfl rfl (by first | first | omega | (simp <;> omega) | (simp at * <;> omega) | (have hlt := pos_lt hs (by assumption); first | omega | (simp <;> omega) | (simp at * <;> omega))) (List.getElem?_eq_getElem (by first | first | omega | (simp <;> omega) | (simp at * <;> omega) | (have hlt := pos_lt hs (by assumption); first | omega | (simp <;> omega) | (simp at * <;> omega)))) ?_)
    | refine aops_cons rfl rfl (AOp.indexS Try.underlying27 Try.sizeOf111 (by exact all_len rfl) rfl rfl rfl (by first | first | omega | (simp <;> omega) | (simp at * <;> omega) | (have hlt := pos_lt hs (by assumption); first | omega | (simp <;> omega) | (simp at * <;> omega))) rfl ?_)
    | refine aops_cons rfl rfl (AOp.indexR Try.underlying27 Try.sizeOf111 (.head _) rfl rfl rfl (by first | first | omega | (simp <;> omega) | (simp at * <;> omega) | (have hlt := pos_lt hs (by assumption); first | omega | (simp <;> omega) | (simp at * <;> omega))) (by first | first | omega | (simp <;> omega) | (simp at * <;> omega) | (have hlt := pos_lt hs (by assumption); first | omega | (simp <;> omega) | (simp at * <;> omega))) ?_)
    | refine aops_cons rfl rfl (AOp.indexR Try.underlying27 Try.sizeOf111 (.tail _ (.head _)) rfl rfl rfl (by first | first | omega | (simp <;> omega) | (simp at * <;> omega) | (have hlt := pos_lt hs (by assumption); first | omega | (simp <;> omega) | (simp at * <;> omega))) (by first | first | omega | (simp <;> omega) | (simp at * <;> omega) | (have hlt := pos_lt hs (by assumption); first | omega | (simp <;> omega) | (simp at * <;> omega))) ?_)
    first
    | refine aops_cons rfl rfl (AOp.fieldI Try.underlying111 rfl Try.sizeOf3 (by decide) rfl rfl rfl ?_)
    | refine aops_cons rfl rfl (AOp.fieldB Try.underlying111 rfl Try.sizeOf3 (by decide) rfl rfl rfl ?_)
    | refine aops_cons rfl rfl (AOp.fieldR Try.underlying111 rfl Try.sizeOf3 (by decide) rfl rfl rfl ?_)
    refine aops_cons rfl rfl (AOp.storeR' Try.sizeOf3 rfl rfl rfl rfl rfl (pull_here _ _) (by exact List.getElem?_set_self (by have hlt := pos_lt hs (by assumption); simp; omega)) rfl rfl rfl ?_)
    refine aops_nil ?_
    refine aw_seq ?_
    refine aw_region ?_
    refine aops_cons rfl rfl (AOp.move rfl rfl ?_)
    refine aops_cons rfl rfl (AOp.assign rfl rfl ?_)
    refine aops_nil ?_
    refine aw_weak (wk_freeze (pull_here _ _) (subf_new (s := 4) rfl (subf_nil _ _ _))) ?_
    refine aw_weak (wk_drop (List.nil_sublist _)) ?_
    refine aw_ret ?_
    refine ⟨_, (res1 Try.results105 rfl), ?_⟩
    refine ⟨?_, rfl⟩
    have hlt := pos_lt hs h1
    unfold gr
    rw [if_pos h1, List.getElem?_eq_getElem hlt, Option.getD_some, List.set_set]
    unfold ls
    rw [List.map_set]
    rfl

end Go.Proofs.Ytdacnebhlgibhaa
