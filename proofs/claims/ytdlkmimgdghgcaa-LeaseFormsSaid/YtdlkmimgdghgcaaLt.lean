/- Own text: who may hold what, of some. -/
import Derived.Test.YtdlkmimgdghgcaaLp
import Derived.Test.YtdlkmimgdghgcaaAwN
set_option linter.unusedVariables false
set_option linter.unusedSimpArgs false
set_option linter.all false
set_option maxRecDepth 100000
set_option maxHeartbeats 2000000
namespace Go.Proofs.Ytdlkmimgdghgcaa
open Go Go.Aw

def fa : L := ⟨1, 2, 1, 10⟩
def fb : L := ⟨3, 2, 1, 20⟩
def fc : L := ⟨2, 1, 2, 15⟩
def bads : List (List L) := [[⟨0, 1, 1, 0⟩], [⟨4, 1, 1, 0⟩], [⟨1, 7, 1, 0⟩], [⟨1, 1, 0, 0⟩], [⟨1, 1, 3, 0⟩], [⟨1, 1, 1, -1⟩], [⟨1, 2, 1, 10⟩, ⟨1, 2, 1, 10⟩], [⟨3, 2, 1, 20⟩, ⟨1, 2, 1, 10⟩], [⟨1, 2, 1, 10⟩, ⟨2, 1, 2, 15⟩]]
def be1 (l : List L) : List AV := [ls l]
theorem srt_of {l : List L} (h : may l = true) : srt l := by
  have h' : mayP l := by unfold may at h; simpa using h
  unfold srt
  rw [List.pairwise_iff_getElem]
  have key : ∀ d i (hi : i + 1 + d < l.length), ordI (l[i]'(by omega)) (l[i + 1 + d]'hi) < 0 := by
    intro d
    induction d with
    | zero => intro i hi; have := (h' (i + 1) hi).2 (by omega); simpa using this
    | succ d ih =>
      intro i hi
      have h1 := ih i (by omega)
      have h2 := (h' (i + 1 + (d + 1)) hi).2 (by omega)
      rw [ordI_lt] at *
      simp only [show i + 1 + (d + 1) - 1 = i + 1 + d by omega] at h2
      omega
  intro i j hi hj hij
  have := key (j - (i + 1)) i (by omega)
  simpa only [show i + 1 + (j - (i + 1)) = j by omega] using this
theorem srt3 : srt ([⟨2, 1, 2, 15⟩, ⟨1, 2, 1, 10⟩, ⟨3, 2, 1, 20⟩] : List L) := by
  rw [srt_iff]
  simp [sltP]
theorem srt3' : srt [fc, fa, fb] := srt3
theorem f3may : may [fc, fa, fb] = true := may_of srt3 (fun y hy => by
  simp at hy
  rcases hy with rfl | rfl | rfl <;> simp [okL, fa, fb, fc])
theorem bad_may {l : List L} (h : l ∈ bads) : may l = false := by
  refine may_no (fun h' => ?_)
  simp only [bads, List.mem_cons, List.not_mem_nil, or_false] at h
  rcases h with rfl | rfl | rfl | rfl | rfl | rfl | rfl | rfl | rfl
  all_goals first
    | (have := (h' 0 (by decide)).1; simp [okL] at this; done)
    | (have := (h' 1 (by decide)).2 (by decide); rw [ordI_lt] at this; simp at this; done)
theorem mayBad (i : Nat) (h : i < bads.length) : Pur Try.prog 30 [ls bads[i]] (.sc (.bool false)) := by
  have k := mayWalk bads[i] (Nat.le_trans ((show ∀ l ∈ bads, l.length ≤ 2 by decide) _ (List.getElem_mem h)) (by decide))
  rwa [bad_may (List.getElem_mem h)] at k
theorem fG0 : Pur Try.prog 32 [.sc (.slice none 0 0), .ag fb.e] (ls [fb]) := by
  have h := acalls_nil (pre := []) (gran [] fb List.Pairwise.nil (by decide))
  exact h
theorem fG1 : Pur Try.prog 32 [ls [fb], .ag fa.e] (ls [fa, fb]) := by
  have h := gran [fb] fa (by unfold srt; simp) (by decide)
  rwa [show gr2 [fb] fa = [fa, fb] by decide] at h
theorem fG2 : Pur Try.prog 32 [ls [fa, fb], .ag fc.e] (ls [fc, fa, fb]) := by
  have h := gran [fa, fb] fc (by rw [srt_iff]; simp [sltP, fa, fb]) (by decide)
  rwa [show gr2 [fa, fb] fc = [fc, fa, fb] by decide] at h
theorem fM : Pur Try.prog 32 [ls [fc, fa, fb], .ag (L.e ⟨1, 2, 2, 5⟩)] (ls [⟨2, 1, 2, 15⟩, ⟨1, 2, 2, 10⟩, ⟨3, 2, 1, 20⟩]) := by
  have h := gran [fc, fa, fb] ⟨1, 2, 2, 5⟩ srt3' (by decide)
  rwa [show gr2 [fc, fa, fb] ⟨1, 2, 2, 5⟩ = [⟨2, 1, 2, 15⟩, ⟨1, 2, 2, 10⟩, ⟨3, 2, 1, 20⟩] by decide] at h
theorem fN : Pur Try.prog 32 [ls [fc, fa, fb], .ag (L.e ⟨2, 1, 1, 50⟩)] (ls [⟨2, 1, 2, 50⟩, ⟨1, 2, 1, 10⟩, ⟨3, 2, 1, 20⟩]) := by
  have h := gran [fc, fa, fb] ⟨2, 1, 1, 50⟩ srt3' (by decide)
  rwa [show gr2 [fc, fa, fb] ⟨2, 1, 1, 50⟩ = [⟨2, 1, 2, 50⟩, ⟨1, 2, 1, 10⟩, ⟨3, 2, 1, 20⟩] by decide] at h
theorem fMay : Pur Try.prog 30 [ls [fc, fa, fb]] (.sc (.bool true)) := mayT f3may (by decide)
theorem fMay0 : Pur Try.prog 30 [.sc (.slice none 0 0)] (.sc (.bool true)) := by
  have h := acalls_nil (pre := []) (mayT (a := []) (may_yes (fun i hi => by simp at hi)) (by decide))
  exact h
theorem fC28 : Pur Try.prog 28 [ls [fc, fa, fb], .sc (.int .i64 9), .sc (.int .i64 2), .sc (.int .i64 2), .sc (.int .i64 2)] (ints [1, 3]) := by
  have h := clash [fc, fa, fb] 9 2 2 2 srt3' (by decide)
  rwa [show cls [fc, fa, fb] 9 2 2 2 = [1, 3] by decide] at h
theorem fC34 : Pur Try.prog 28 [ls [fc, fa, fb], .sc (.int .i64 10), .sc (.int .i64 2), .sc (.int .i64 2), .sc (.int .i64 2)] (ints [3]) := by
  have h := clash [fc, fa, fb] 10 2 2 2 srt3' (by decide)
  rwa [show cls [fc, fa, fb] 10 2 2 2 = [3] by decide] at h
theorem fC40 : Pur Try.prog 28 [ls [fc, fa, fb], .sc (.int .i64 9), .sc (.int .i64 2), .sc (.int .i64 2), .sc (.int .i64 1)] (ints []) := by
  have h := clash [fc, fa, fb] 9 2 2 1 srt3' (by decide)
  rwa [show cls [fc, fa, fb] 9 2 2 1 = [] by decide] at h
theorem fC46 : Pur Try.prog 28 [ls [fc, fa, fb], .sc (.int .i64 9), .sc (.int .i64 1), .sc (.int .i64 1), .sc (.int .i64 1)] (ints [2]) := by
  have h := clash [fc, fa, fb] 9 1 1 1 srt3' (by decide)
  rwa [show cls [fc, fa, fb] 9 1 1 1 = [2] by decide] at h
theorem fC52 : Pur Try.prog 28 [ls [fc, fa, fb], .sc (.int .i64 9), .sc (.int .i64 2), .sc (.int .i64 1), .sc (.int .i64 2)] (ints []) := by
  have h := clash [fc, fa, fb] 9 2 1 2 srt3' (by decide)
  rwa [show cls [fc, fa, fb] 9 2 1 2 = [] by decide] at h
theorem fP58 : Pur Try.prog 34 [ls [fc, fa, fb], .sc (.int .i64 15)] (ls [fb]) := by
  have h := prune [fc, fa, fb] 15 (by decide)
  rwa [show prn [fc, fa, fb] 15 = [fb] by decide] at h
theorem fP64 : Pur Try.prog 34 [ls [fc, fa, fb], .sc (.int .i64 0)] (ls [fc, fa, fb]) := by
  have h := prune [fc, fa, fb] 0 (by decide)
  rwa [show prn [fc, fa, fb] 0 = [fc, fa, fb] by decide] at h
theorem fD : Pur Try.prog 25 [ls [fc, fa, fb], .sc (.int .i64 1), .sc (.int .i64 1)] (ls [fc, fa, fb]) := by
  have h := drop [fc, fa, fb] 1 1 (by decide)
  rwa [show drp [fc, fa, fb] 1 1 = [fc, fa, fb] by decide] at h

theorem leaseFormsWalk  : ACalls Try.prog 6 [] [] (fun r A' => r = .sc (.bool true)) (fun _ _ => False) := by
  have hbl : bads.length = 9 := rfl
  refine acallsN Try.func6 rfl Try.ntmps6 rfl ?_
  refine aw_seq ?_
  refine aw_region ?_
  refine aops_cons rfl rfl (AOp.assign rfl rfl ?_)
  refine aops_nil ?_
  refine aw_seq ?_
  refine aw_seq ?_
  refine aw_region ?_
  refine aops_cons rfl rfl (AOp.callP Try.call20 rfl rfl rfl begun ?_)
  refine aops_cons rfl rfl (AOp.not rfl rfl ?_)
  refine aops_nil ?_
  refine aw_cond _ rfl (fun h1 => ?_) (fun h1 => ?_)
  focus
    have h1_ := h1
    try simp only [List.length_map, List.length_cons, List.length_nil, nrm] at h1
    all_goals try (exfalso; first | (simp at h1_; done) | omega)
    all_goals
      refine aw_seq ?_
      refine aw_region ?_
      refine aops_cons rfl rfl (AOp.assign rfl rfl ?_)
      refine aops_nil ?_
      refine aw_ret ?_
      refine ⟨_, (res1 Try.results6 rfl), ?_⟩
      first | rfl | (simp; done) | (simp; omega)
  rotate_right
  focus
    have h1_ := h1
    try simp only [List.length_map, List.length_cons, List.length_nil, nrm] at h1
    all_goals try (exfalso; first | (simp at h1_; done) | omega)
    all_goals
      refine aw_skip ?_
      skip
  all_goals
    refine aw_seq ?_
    refine aw_region ?_
    refine aops_cons rfl rfl (AOp.build' (places := [(0, 1), (1, 1), (2, 1), (3, 1)]) Try.zeroValue58 (by kernel_rfl) (by kernel_rfl) Try.underlying58 (by kernel_rfl) rfl rfl rfl rfl ?_)
    refine aops_cons rfl rfl (AOp.build' (places := [(0, 1), (1, 1), (2, 1), (3, 1)]) Try.zeroValue58 (by kernel_rfl) (by kernel_rfl) Try.underlying58 (by kernel_rfl) rfl rfl rfl rfl ?_)
    refine aops_cons rfl rfl (AOp.build' (places := [(0, 1), (1, 1), (2, 1), (3, 1)]) Try.zeroValue58 (by kernel_rfl) (by kernel_rfl) Try.underlying58 (by kernel_rfl) rfl rfl rfl rfl ?_)
    refine aops_cons rfl rfl (AOp.alloc Try.zeroValue58 (by kernel_rfl) rfl rfl ?_); intro b1
    refine aops_cons rfl rfl (AOp.alloc Try.zeroValue58 (by kernel_rfl) rfl rfl ?_); intro b2
    refine aops_cons rfl rfl (AOp.alloc Try.zeroValue58 (by kernel_rfl) rfl rfl ?_); intro b3
    first
    | refine aops_cons rfl rfl (AOp.storeB' Try.sizeOf58 rfl rfl rfl rfl rfl (pull_here _ _) rfl rfl ?_)
    | refine aops_cons rfl rfl (AOp.storeB' Try.sizeOf58 rfl rfl rfl rfl rfl (pull_there (pull_here _ _)) rfl rfl ?_)
    | refine aops_cons rfl rfl (AOp.storeB' Try.sizeOf58 rfl rfl rfl rfl rfl (pull_there (pull_there (pull_here _ _))) rfl rfl ?_)
    | refine aops_cons rfl rfl (AOp.storeR' Try.sizeOf58 rfl rfl rfl rfl rfl (pull_here _ _) (by first | exact idx_nat (by first | omega | (simp <;> omega) | (simp at * <;> omega)) | exact idx_map (by first | omega | (simp <;> omega) | (simp at * <;> omega)) | assumption) rfl rfl rfl ?_)
    | refine aops_cons rfl rfl (AOp.storeR' Try.sizeOf58 rfl rfl rfl rfl rfl (pull_there (pull_here _ _)) (by first | exact idx_nat (by first | omega | (simp <;> omega) | (simp at * <;> omega)) | exact idx_map (by first | omega | (simp <;> omega) | (simp at * <;> omega)) | assumption) rfl rfl rfl ?_)
    | refine aops_cons rfl rfl (AOp.storeR' Try.sizeOf58 rfl rfl rfl rfl rfl (pull_there (pull_there (pull_here _ _))) (by first | exact idx_nat (by first | omega | (simp <;> omega) | (simp at * <;> omega)) | exact idx_map (by first | omega | (simp <;> omega) | (simp at * <;> omega)) | assumption) rfl rfl rfl ?_)
    first
    | refine aops_cons rfl rfl (AOp.storeB' Try.sizeOf58 rfl rfl rfl rfl rfl (pull_here _ _) rfl rfl ?_)
    | refine aops_cons rfl rfl (AOp.storeB' Try.sizeOf58 rfl rfl rfl rfl rfl (pull_there (pull_here _ _)) rfl rfl ?_)
    | refine aops_cons rfl rfl (AOp.storeB' Try.sizeOf58 rfl rfl rfl rfl rfl (pull_there (pull_there (pull_here _ _))) rfl rfl ?_)
    | refine aops_cons rfl rfl (AOp.storeR' Try.sizeOf58 rfl rfl rfl rfl rfl (pull_here _ _) (by first | exact idx_nat (by first | omega | (simp <;> omega) | (simp at * <;> omega)) | exact idx_map (by first | omega | (simp <;> omega) | (simp at * <;> omega)) | assumption) rfl rfl rfl ?_)
    | refine aops_cons rfl rfl (AOp.storeR' Try.sizeOf58 rfl rfl rfl rfl rfl (pull_there (pull_here _ _)) (by first | exact idx_nat (by first | omega | (simp <;> omega) | (simp at * <;> omega)) | exact idx_map (by first | omega | (simp <;> omega) | (simp at * <;> omega)) | assumption) rfl rfl rfl ?_)
    | refine aops_cons rfl rfl (AOp.storeR' Try.sizeOf58 rfl rfl rfl rfl rfl (pull_there (pull_there (pull_here _ _))) (by first | exact idx_nat (by first | omega | (simp <;> omega) | (simp at * <;> omega)) | exact idx_map (by first | omega | (simp <;> omega) | (simp at * <;> omega)) | assumption) rfl rfl rfl ?_)
    first
    | refine aops_cons rfl rfl (AOp.storeB' Try.sizeOf58 rfl rfl rfl rfl rfl (pull_here _ _) rfl rfl ?_)
    | refine aops_cons rfl rfl (AOp.storeB' Try.sizeOf58 rfl rfl rfl rfl rfl (pull_there (pull_here _ _)) rfl rfl ?_)
    | refine aops_cons rfl rfl (AOp.storeB' Try.sizeOf58 rfl rfl rfl rfl rfl (pull_there (pull_there (pull_here _ _))) rfl rfl ?_)
    | refine aops_cons rfl rfl (AOp.storeR' Try.sizeOf58 rfl rfl rfl rfl rfl (pull_here _ _) (by first | exact idx_nat (by first | omega | (simp <;> omega) | (simp at * <;> omega)) | exact idx_map (by first | omega | (simp <;> omega) | (simp at * <;> omega)) | assumption) rfl rfl rfl ?_)
    | refine aops_cons rfl rfl (AOp.storeR' Try.sizeOf58 rfl rfl rfl rfl rfl (pull_there (pull_here _ _)) (by first | exact idx_nat (by first | omega | (simp <;> omega) | (simp at * <;> omega)) | exact idx_map (by first | omega | (simp <;> omega) | (simp at * <;> omega)) | assumption) rfl rfl rfl ?_)
    | refine aops_cons rfl rfl (AOp.storeR' Try.sizeOf58 rfl rfl rfl rfl rfl (pull_there (pull_there (pull_here _ _))) (by first | exact idx_nat (by first | omega | (simp <;> omega) | (simp at * <;> omega)) | exact idx_map (by first | omega | (simp <;> omega) | (simp at * <;> omega)) | assumption) rfl rfl rfl ?_)
    refine aops_nil ?_
    refine aw_seq ?_
    refine aw_draw 5 [0, 0, 0, 0, 0] (by kernel_rfl) (by kernel_rfl) ?_
    first
    | refine psq_cons _ rfl (core0 (AOp.loadN Try.isAgg58 Try.sizeOf58 rfl rfl (reads_im _ _) rfl rfl ⟨rfl, rfl⟩)) ?_
    | refine psq_cons _ rfl (core0 (AOp.loadN Try.isAgg58 Try.sizeOf58 rfl rfl (reads_box _ (.head _)) rfl rfl ⟨rfl, rfl⟩)) ?_
    | refine psq_cons _ rfl (core0 (AOp.loadN Try.isAgg58 Try.sizeOf58 rfl rfl (reads_box _ (.tail _ (.head _))) rfl rfl ⟨rfl, rfl⟩)) ?_
    | refine psq_cons _ rfl (core0 (AOp.loadN Try.isAgg58 Try.sizeOf58 rfl rfl (reads_box _ (.tail _ (.tail _ (.head _)))) rfl rfl ⟨rfl, rfl⟩)) ?_
    | refine psq_cons _ rfl (core0 (AOp.loadN Try.isAgg58 Try.sizeOf58 rfl rfl (reads_row _ (.head _) (idx_nat (by first | omega | (simp <;> omega) | (simp at * <;> omega))) (by first | omega | (simp <;> omega) | (simp at * <;> omega))) rfl rfl ⟨rfl, rfl⟩)) ?_
    | refine psq_cons _ rfl (core0 (AOp.loadN Try.isAgg58 Try.sizeOf58 rfl rfl (reads_row _ (.head _) (idx_map (by first | omega | (simp <;> omega) | (simp at * <;> omega))) (by first | omega | (simp <;> omega) | (simp at * <;> omega))) rfl rfl ⟨rfl, rfl⟩)) ?_
    | refine psq_cons _ rfl (core0 (AOp.loadN Try.isAgg58 Try.sizeOf58 rfl rfl (reads_row _ (.head _) (by assumption) (by first | omega | (simp <;> omega) | (simp at * <;> omega))) rfl rfl ⟨rfl, rfl⟩)) ?_
    | refine psq_cons _ rfl (core0 (AOp.loadN Try.isAgg58 Try.sizeOf58 rfl rfl (reads_row _ (.tail _ (.head _)) (idx_nat (by first | omega | (simp <;> omega) | (simp at * <;> omega))) (by first | omega | (simp <;> omega) | (simp at * <;> omega))) rfl rfl ⟨rfl, rfl⟩)) ?_
    | refine psq_cons _ rfl (core0 (AOp.loadN Try.isAgg58 Try.sizeOf58 rfl rfl (reads_row _ (.tail _ (.head _)) (idx_map (by first | omega | (simp <;> omega) | (simp at * <;> omega))) (by first | omega | (simp <;> omega) | (simp at * <;> omega))) rfl rfl ⟨rfl, rfl⟩)) ?_
    | refine psq_cons _ rfl (core0 (AOp.loadN Try.isAgg58 Try.sizeOf58 rfl rfl (reads_row _ (.tail _ (.head _)) (by assumption) (by first | omega | (simp <;> omega) | (simp at * <;> omega))) rfl rfl ⟨rfl, rfl⟩)) ?_
    | refine psq_cons _ rfl (core0 (AOp.loadN Try.isAgg58 Try.sizeOf58 rfl rfl (reads_row _ (.tail _ (.tail _ (.head _))) (idx_nat (by first | omega | (simp <;> omega) | (simp at * <;> omega))) (by first | omega | (simp <;> omega) | (simp at * <;> omega))) rfl rfl ⟨rfl, rfl⟩)) ?_
    | refine psq_cons _ rfl (core0 (AOp.loadN Try.isAgg58 Try.sizeOf58 rfl rfl (reads_row _ (.tail _ (.tail _ (.head _))) (idx_map (by first | omega | (simp <;> omega) | (simp at * <;> omega))) (by first | omega | (simp <;> omega) | (simp at * <;> omega))) rfl rfl ⟨rfl, rfl⟩)) ?_
    | refine psq_cons _ rfl (core0 (AOp.loadN Try.isAgg58 Try.sizeOf58 rfl rfl (reads_row _ (.tail _ (.tail _ (.head _))) (by assumption) (by first | omega | (simp <;> omega) | (simp at * <;> omega))) rfl rfl ⟨rfl, rfl⟩)) ?_
    refine psq_cons _ rfl (core0 (AOp.callP Try.call32 rfl rfl rfl fG0 ⟨rfl, rfl⟩)) ?_
    first
    | refine psq_cons _ rfl (core0 (AOp.loadN Try.isAgg58 Try.sizeOf58 rfl rfl (reads_im _ _) rfl rfl ⟨rfl, rfl⟩)) ?_
    | refine psq_cons _ rfl (core0 (AOp.loadN Try.isAgg58 Try.sizeOf58 rfl rfl (reads_box _ (.head _)) rfl rfl ⟨rfl, rfl⟩)) ?_
    | refine psq_cons _ rfl (core0 (AOp.loadN Try.isAgg58 Try.sizeOf58 rfl rfl (reads_box _ (.tail _ (.head _))) rfl rfl ⟨rfl, rfl⟩)) ?_
    | refine psq_cons _ rfl (core0 (AOp.loadN Try.isAgg58 Try.sizeOf58 rfl rfl (reads_box _ (.tail _ (.tail _ (.head _)))) rfl rfl ⟨rfl, rfl⟩)) ?_
    | refine psq_cons _ rfl (core0 (AOp.loadN Try.isAgg58 Try.sizeOf58 rfl rfl (reads_row _ (.head _) (idx_nat (by first | omega | (simp <;> omega) | (simp at * <;> omega))) (by first | omega | (simp <;> omega) | (simp at * <;> omega))) rfl rfl ⟨rfl, rfl⟩)) ?_
    | refine psq_cons _ rfl (core0 (AOp.loadN Try.isAgg58 Try.sizeOf58 rfl rfl (reads_row _ (.head _) (idx_map (by first | omega | (simp <;> omega) | (simp at * <;> omega))) (by first | omega | (simp <;> omega) | (simp at * <;> omega))) rfl rfl ⟨rfl, rfl⟩)) ?_
    | refine psq_cons _ rfl (core0 (AOp.loadN Try.isAgg58 Try.sizeOf58 rfl rfl (reads_row _ (.head _) (by assumption) (by first | omega | (simp <;> omega) | (simp at * <;> omega))) rfl rfl ⟨rfl, rfl⟩)) ?_
    | refine psq_cons _ rfl (core0 (AOp.loadN Try.isAgg58 Try.sizeOf58 rfl rfl (reads_row _ (.tail _ (.head _)) (idx_nat (by first | omega | (simp <;> omega) | (simp at * <;> omega))) (by first | omega | (simp <;> omega) | (simp at * <;> omega))) rfl rfl ⟨rfl, rfl⟩)) ?_
    | refine psq_cons _ rfl (core0 (AOp.loadN Try.isAgg58 Try.sizeOf58 rfl rfl (reads_row _ (.tail _ (.head _)) (idx_map (by first | omega | (simp <;> omega) | (simp at * <;> omega))) (by first | omega | (simp <;> omega) | (simp at * <;> omega))) rfl rfl ⟨rfl, rfl⟩)) ?_
    | refine psq_cons _ rfl (core0 (AOp.loadN Try.isAgg58 Try.sizeOf58 rfl rfl (reads_row _ (.tail _ (.head _)) (by assumption) (by first | omega | (simp <;> omega) | (simp at * <;> omega))) rfl rfl ⟨rfl, rfl⟩)) ?_
    | refine psq_cons _ rfl (core0 (AOp.loadN Try.isAgg58 Try.sizeOf58 rfl rfl (reads_row _ (.tail _ (.tail _ (.head _))) (idx_nat (by first | omega | (simp <;> omega) | (simp at * <;> omega))) (by first | omega | (simp <;> omega) | (simp at * <;> omega))) rfl rfl ⟨rfl, rfl⟩)) ?_
    | refine psq_cons _ rfl (core0 (AOp.loadN Try.isAgg58 Try.sizeOf58 rfl rfl (reads_row _ (.tail _ (.tail _ (.head _))) (idx_map (by first | omega | (simp <;> omega) | (simp at * <;> omega))) (by first | omega | (simp <;> omega) | (simp at * <;> omega))) rfl rfl ⟨rfl, rfl⟩)) ?_
    | refine psq_cons _ rfl (core0 (AOp.loadN Try.isAgg58 Try.sizeOf58 rfl rfl (reads_row _ (.tail _ (.tail _ (.head _))) (by assumption) (by first | omega | (simp <;> omega) | (simp at * <;> omega))) rfl rfl ⟨rfl, rfl⟩)) ?_
    refine psq_cons _ rfl (core0 (AOp.callP Try.call32 rfl rfl rfl fG1 ⟨rfl, rfl⟩)) ?_
    first
    | refine psq_cons _ rfl (core0 (AOp.loadN Try.isAgg58 Try.sizeOf58 rfl rfl (reads_im _ _) rfl rfl ⟨rfl, rfl⟩)) ?_
    | refine psq_cons _ rfl (core0 (AOp.loadN Try.isAgg58 Try.sizeOf58 rfl rfl (reads_box _ (.head _)) rfl rfl ⟨rfl, rfl⟩)) ?_
    | refine psq_cons _ rfl (core0 (AOp.loadN Try.isAgg58 Try.sizeOf58 rfl rfl (reads_box _ (.tail _ (.head _))) rfl rfl ⟨rfl, rfl⟩)) ?_
    | refine psq_cons _ rfl (core0 (AOp.loadN Try.isAgg58 Try.sizeOf58 rfl rfl (reads_box _ (.tail _ (.tail _ (.head _)))) rfl rfl ⟨rfl, rfl⟩)) ?_
    | refine psq_cons _ rfl (core0 (AOp.loadN Try.isAgg58 Try.sizeOf58 rfl rfl (reads_row _ (.head _) (idx_nat (by first | omega | (simp <;> omega) | (simp at * <;> omega))) (by first | omega | (simp <;> omega) | (simp at * <;> omega))) rfl rfl ⟨rfl, rfl⟩)) ?_
    | refine psq_cons _ rfl (core0 (AOp.loadN Try.isAgg58 Try.sizeOf58 rfl rfl (reads_row _ (.head _) (idx_map (by first | omega | (simp <;> omega) | (simp at * <;> omega))) (by first | omega | (simp <;> omega) | (simp at * <;> omega))) rfl rfl ⟨rfl, rfl⟩)) ?_
    | refine psq_cons _ rfl (core0 (AOp.loadN Try.isAgg58 Try.sizeOf58 rfl rfl (reads_row _ (.head _) (by assumption) (by first | omega | (simp <;> omega) | (simp at * <;> omega))) rfl rfl ⟨rfl, rfl⟩)) ?_
    | refine psq_cons _ rfl (core0 (AOp.loadN Try.isAgg58 Try.sizeOf58 rfl rfl (reads_row _ (.tail _ (.head _)) (idx_nat (by first | omega | (simp <;> omega) | (simp at * <;> omega))) (by first | omega | (simp <;> omega) | (simp at * <;> omega))) rfl rfl ⟨rfl, rfl⟩)) ?_
    | refine psq_cons _ rfl (core0 (AOp.loadN Try.isAgg58 Try.sizeOf58 rfl rfl (reads_row _ (.tail _ (.head _)) (idx_map (by first | omega | (simp <;> omega) | (simp at * <;> omega))) (by first | omega | (simp <;> omega) | (simp at * <;> omega))) rfl rfl ⟨rfl, rfl⟩)) ?_
    | refine psq_cons _ rfl (core0 (AOp.loadN Try.isAgg58 Try.sizeOf58 rfl rfl (reads_row _ (.tail _ (.head _)) (by assumption) (by first | omega | (simp <;> omega) | (simp at * <;> omega))) rfl rfl ⟨rfl, rfl⟩)) ?_
    | refine psq_cons _ rfl (core0 (AOp.loadN Try.isAgg58 Try.sizeOf58 rfl rfl (reads_row _ (.tail _ (.tail _ (.head _))) (idx_nat (by first | omega | (simp <;> omega) | (simp at * <;> omega))) (by first | omega | (simp <;> omega) | (simp at * <;> omega))) rfl rfl ⟨rfl, rfl⟩)) ?_
    | refine psq_cons _ rfl (core0 (AOp.loadN Try.isAgg58 Try.sizeOf58 rfl rfl (reads_row _ (.tail _ (.tail _ (.head _))) (idx_map (by first | omega | (simp <;> omega) | (simp at * <;> omega))) (by first | omega | (simp <;> omega) | (simp at * <;> omega))) rfl rfl ⟨rfl, rfl⟩)) ?_
    | refine psq_cons _ rfl (core0 (AOp.loadN Try.isAgg58 Try.sizeOf58 rfl rfl (reads_row _ (.tail _ (.tail _ (.head _))) (by assumption) (by first | omega | (simp <;> omega) | (simp at * <;> omega))) rfl rfl ⟨rfl, rfl⟩)) ?_
    refine psq_nil ?_
    refine aops_cons rfl rfl (AOp.callP Try.call32 rfl rfl rfl fG2 ?_)
    refine aops_cons rfl rfl (AOp.assign rfl rfl ?_)
    refine aops_nil ?_
    refine aw_seq ?_
    refine aw_seq ?_
    refine aw_draw 22 [0, 0, 0, 0, 0, 0, 0, 0, 0, 0, 0, 0, 0, 0, 0, 0, 0, 0, 0, 0, 0, 0] (by kernel_rfl) (by kernel_rfl) ?_
    refine psq_cons _ rfl (core0 (AOp.move rfl rfl ⟨rfl, rfl⟩)) ?_
    first
    | refine psq_cons _ rfl (core0 (AOp.lenS (by first | exact List.length_map _ | rfl) Try.underlying36 rfl rfl ⟨rfl, rfl⟩)) ?_
    | refine psq_cons _ rfl (core0 (AOp.lenN Try.underlying36 rfl rfl ⟨rfl, rfl⟩)) ?_
    | refine psq_cons _ rfl (core0 (AOp.lenR (by first | exact List.length_map _ | rfl) Try.underlying36 (.head _) rfl rfl ⟨rfl, rfl⟩)) ?_
    | refine psq_cons _ rfl (core0 (AOp.lenR (by first | exact List.length_map _ | rfl) Try.underlying36 (.tail _ (.head _)) rfl rfl ⟨rfl, rfl⟩)) ?_
    | refine psq_cons _ rfl (core0 (AOp.lenR (by first | exact List.length_map _ | rfl) Try.underlying36 (.tail _ (.tail _ (.head _))) rfl rfl ⟨rfl, rfl⟩)) ?_
    refine psq_cons _ rfl (core0 (AOp.neq rfl rfl rfl ⟨rfl, rfl⟩)) ?_
    refine psq_cons _ rfl (core0 (AOp.move rfl rfl ⟨rfl, rfl⟩)) ?_
    refine psq_guard 3 false 23 _ rfl rfl rfl rfl (fun g2 => ?_) (fun g2 => ?_)
    focus
      have g2_ := g2
      try simp only [List.length_map, List.length_cons, List.length_nil, nrm] at g2
      all_goals try (exfalso; first | (simp at g2_; done) | omega)
      all_goals
        refine psg _ (core0 (AOp.move rfl rfl ⟨rfl, rfl⟩)) ?_
        refine psq_guard 3 false 23 _ rfl rfl rfl rfl (fun _ => ?_) (fun hh => by exfalso; first | (rw [g2_] at hh; exact absurd hh (by decide)) | (revert hh; simp [g2_]))
        first
        | refine psg _ (core0 (AOp.indexLN Try.underlying36 Try.sizeOf58 rfl rfl rfl (by first | omega | (simp <;> omega) | (simp at * <;> omega)) (fun _ => rfl) ⟨rfl, rfl⟩)) ?_
        | refine psg _ (core0 (AOp.indexLI Try.underlying36 Try.sizeOf58 rfl rfl rfl (by first | omega | (simp <;> omega) | (simp at * <;> omega)) (by first | omega | (simp <;> omega) | (simp at * <;> omega)) (fun _ => rfl) ⟨rfl, rfl⟩)) ?_
        | refine psg _ (core0 (AOp.indexS Try.underlying36 Try.sizeOf58 (by assumption) rfl rfl rfl (by first | omega | (simp <;> omega) | (simp at * <;> omega)) (by assumption) ⟨rfl, rfl⟩)) ?_
        | refine psg _ (core0 (AOp.indexS Try.underlying36 Try.sizeOf58 (by assumption) rfl rfl rfl (by first | omega | (simp <;> omega) | (simp at * <;> omega)) (List.getElem?_eq_getElem (by first | omega | (simp <;> omega) | (simp at * <;> omega))) ⟨rfl, rfl⟩)) ?_
        | refine psg _ (core0 (AOp.indexS Try.underlying36 Try.sizeOf58 (by exact all_len rfl) rfl rfl rfl (by first | omega | (simp <;> omega) | (simp at * <;> omega)) rfl ⟨rfl, rfl⟩)) ?_
        | refine psg _ (core0 (AOp.indexR Try.underlying36 Try.sizeOf58 (.head _) rfl rfl rfl (by first | omega | (simp <;> omega) | (simp at * <;> omega)) (by first | omega | (simp <;> omega) | (simp at * <;> omega)) ⟨rfl, rfl⟩)) ?_
        | refine psg _ (core0 (AOp.indexR Try.underlying36 Try.sizeOf58 (.tail _ (.head _)) rfl rfl rfl (by first | omega | (simp <;> omega) | (simp at * <;> omega)) (by first | omega | (simp <;> omega) | (simp at * <;> omega)) ⟨rfl, rfl⟩)) ?_
        | refine psg _ (core0 (AOp.indexR Try.underlying36 Try.sizeOf58 (.tail _ (.tail _ (.head _))) rfl rfl rfl (by first | omega | (simp <;> omega) | (simp at * <;> omega)) (by first | omega | (simp <;> omega) | (simp at * <;> omega)) ⟨rfl, rfl⟩)) ?_
        refine psq_guard 3 false 23 _ rfl rfl rfl rfl (fun _ => ?_) (fun hh => by exfalso; first | (rw [g2_] at hh; exact absurd hh (by decide)) | (revert hh; simp [g2_]))
        first
        | refine psg _ (core0 (AOp.loadN Try.isAgg58 Try.sizeOf58 rfl rfl (reads_im _ _) rfl rfl ⟨rfl, rfl⟩)) ?_
        | refine psg _ (core0 (AOp.loadN Try.isAgg58 Try.sizeOf58 rfl rfl (reads_box _ (.head _)) rfl rfl ⟨rfl, rfl⟩)) ?_
        | refine psg _ (core0 (AOp.loadN Try.isAgg58 Try.sizeOf58 rfl rfl (reads_box _ (.tail _ (.head _))) rfl rfl ⟨rfl, rfl⟩)) ?_
        | refine psg _ (core0 (AOp.loadN Try.isAgg58 Try.sizeOf58 rfl rfl (reads_box _ (.tail _ (.tail _ (.head _)))) rfl rfl ⟨rfl, rfl⟩)) ?_
        | refine psg _ (core0 (AOp.loadN Try.isAgg58 Try.sizeOf58 rfl rfl (reads_row _ (.head _) (idx_nat (by first | omega | (simp <;> omega) | (simp at * <;> omega))) (by first | omega | (simp <;> omega) | (simp at * <;> omega))) rfl rfl ⟨rfl, rfl⟩)) ?_
        | refine psg _ (core0 (AOp.loadN Try.isAgg58 Try.sizeOf58 rfl rfl (reads_row _ (.head _) (idx_map (by first | omega | (simp <;> omega) | (simp at * <;> omega))) (by first | omega | (simp <;> omega) | (simp at * <;> omega))) rfl rfl ⟨rfl, rfl⟩)) ?_
        | refine psg _ (core0 (AOp.loadN Try.isAgg58 Try.sizeOf58 rfl rfl (reads_row _ (.head _) (by assumption) (by first | omega | (simp <;> omega) | (simp at * <;> omega))) rfl rfl ⟨rfl, rfl⟩)) ?_
        | refine psg _ (core0 (AOp.loadN Try.isAgg58 Try.sizeOf58 rfl rfl (reads_row _ (.tail _ (.head _)) (idx_nat (by first | omega | (simp <;> omega) | (simp at * <;> omega))) (by first | omega | (simp <;> omega) | (simp at * <;> omega))) rfl rfl ⟨rfl, rfl⟩)) ?_
        | refine psg _ (core0 (AOp.loadN Try.isAgg58 Try.sizeOf58 rfl rfl (reads_row _ (.tail _ (.head _)) (idx_map (by first | omega | (simp <;> omega) | (simp at * <;> omega))) (by first | omega | (simp <;> omega) | (simp at * <;> omega))) rfl rfl ⟨rfl, rfl⟩)) ?_
        | refine psg _ (core0 (AOp.loadN Try.isAgg58 Try.sizeOf58 rfl rfl (reads_row _ (.tail _ (.head _)) (by assumption) (by first | omega | (simp <;> omega) | (simp at * <;> omega))) rfl rfl ⟨rfl, rfl⟩)) ?_
        | refine psg _ (core0 (AOp.loadN Try.isAgg58 Try.sizeOf58 rfl rfl (reads_row _ (.tail _ (.tail _ (.head _))) (idx_nat (by first | omega | (simp <;> omega) | (simp at * <;> omega))) (by first | omega | (simp <;> omega) | (simp at * <;> omega))) rfl rfl ⟨rfl, rfl⟩)) ?_
        | refine psg _ (core0 (AOp.loadN Try.isAgg58 Try.sizeOf58 rfl rfl (reads_row _ (.tail _ (.tail _ (.head _))) (idx_map (by first | omega | (simp <;> omega) | (simp at * <;> omega))) (by first | omega | (simp <;> omega) | (simp at * <;> omega))) rfl rfl ⟨rfl, rfl⟩)) ?_
        | refine psg _ (core0 (AOp.loadN Try.isAgg58 Try.sizeOf58 rfl rfl (reads_row _ (.tail _ (.tail _ (.head _))) (by assumption) (by first | omega | (simp <;> omega) | (simp at * <;> omega))) rfl rfl ⟨rfl, rfl⟩)) ?_
        refine psq_guard 3 false 23 _ rfl rfl rfl rfl (fun _ => ?_) (fun hh => by exfalso; first | (rw [g2_] at hh; exact absurd hh (by decide)) | (revert hh; simp [g2_]))
        first
        | refine psg _ (core0 (AOp.loadN Try.isAgg58 Try.sizeOf58 rfl rfl (reads_im _ _) rfl rfl ⟨rfl, rfl⟩)) ?_
        | refine psg _ (core0 (AOp.loadN Try.isAgg58 Try.sizeOf58 rfl rfl (reads_box _ (.head _)) rfl rfl ⟨rfl, rfl⟩)) ?_
        | refine psg _ (core0 (AOp.loadN Try.isAgg58 Try.sizeOf58 rfl rfl (reads_box _ (.tail _ (.head _))) rfl rfl ⟨rfl, rfl⟩)) ?_
        | refine psg _ (core0 (AOp.loadN Try.isAgg58 Try.sizeOf58 rfl rfl (reads_box _ (.tail _ (.tail _ (.head _)))) rfl rfl ⟨rfl, rfl⟩)) ?_
        | refine psg _ (core0 (AOp.loadN Try.isAgg58 Try.sizeOf58 rfl rfl (reads_row _ (.head _) (idx_nat (by first | omega | (simp <;> omega) | (simp at * <;> omega))) (by first | omega | (simp <;> omega) | (simp at * <;> omega))) rfl rfl ⟨rfl, rfl⟩)) ?_
        | refine psg _ (core0 (AOp.loadN Try.isAgg58 Try.sizeOf58 rfl rfl (reads_row _ (.head _) (idx_map (by first | omega | (simp <;> omega) | (simp at * <;> omega))) (by first | omega | (simp <;> omega) | (simp at * <;> omega))) rfl rfl ⟨rfl, rfl⟩)) ?_
        | refine psg _ (core0 (AOp.loadN Try.isAgg58 Try.sizeOf58 rfl rfl (reads_row _ (.head _) (by assumption) (by first | omega | (simp <;> omega) | (simp at * <;> omega))) rfl rfl ⟨rfl, rfl⟩)) ?_
        | refine psg _ (core0 (AOp.loadN Try.isAgg58 Try.sizeOf58 rfl rfl (reads_row _ (.tail _ (.head _)) (idx_nat (by first | omega | (simp <;> omega) | (simp at * <;> omega))) (by first | omega | (simp <;> omega) | (simp at * <;> omega))) rfl rfl ⟨rfl, rfl⟩)) ?_
        | refine psg _ (core0 (AOp.loadN Try.isAgg58 Try.sizeOf58 rfl rfl (reads_row _ (.tail _ (.head _)) (idx_map (by first | omega | (simp <;> omega) | (simp at * <;> omega))) (by first | omega | (simp <;> omega) | (simp at * <;> omega))) rfl rfl ⟨rfl, rfl⟩)) ?_
        | refine psg _ (core0 (AOp.loadN Try.isAgg58 Try.sizeOf58 rfl rfl (reads_row _ (.tail _ (.head _)) (by assumption) (by first | omega | (simp <;> omega) | (simp at * <;> omega))) rfl rfl ⟨rfl, rfl⟩)) ?_
        | refine psg _ (core0 (AOp.loadN Try.isAgg58 Try.sizeOf58 rfl rfl (reads_row _ (.tail _ (.tail _ (.head _))) (idx_nat (by first | omega | (simp <;> omega) | (simp at * <;> omega))) (by first | omega | (simp <;> omega) | (simp at * <;> omega))) rfl rfl ⟨rfl, rfl⟩)) ?_
        | refine psg _ (core0 (AOp.loadN Try.isAgg58 Try.sizeOf58 rfl rfl (reads_row _ (.tail _ (.tail _ (.head _))) (idx_map (by first | omega | (simp <;> omega) | (simp at * <;> omega))) (by first | omega | (simp <;> omega) | (simp at * <;> omega))) rfl rfl ⟨rfl, rfl⟩)) ?_
        | refine psg _ (core0 (AOp.loadN Try.isAgg58 Try.sizeOf58 rfl rfl (reads_row _ (.tail _ (.tail _ (.head _))) (by assumption) (by first | omega | (simp <;> omega) | (simp at * <;> omega))) rfl rfl ⟨rfl, rfl⟩)) ?_
        refine psq_guard 3 false 23 _ rfl rfl rfl rfl (fun _ => ?_) (fun hh => by exfalso; first | (rw [g2_] at hh; exact absurd hh (by decide)) | (revert hh; simp [g2_]))
        refine psg _ (core0 (AOp.neL (a := fc) (b := fc) rfl rfl rfl rfl rfl ⟨rfl, rfl⟩)) ?_
    rotate_right
    focus
      have g2_ := g2
      try simp only [List.length_map, List.length_cons, List.length_nil, nrm] at g2
      all_goals try (exfalso; first | (simp at g2_; done) | omega)
      all_goals
        refine psq_guard 3 false 23 _ rfl rfl rfl rfl (fun hh => by exfalso; first | (rw [g2_] at hh; exact absurd hh (by decide)) | (revert hh; simp [g2_])) (fun _ => ?_)
        refine psq_guard 3 false 23 _ rfl rfl rfl rfl (fun hh => by exfalso; first | (rw [g2_] at hh; exact absurd hh (by decide)) | (revert hh; simp [g2_])) (fun _ => ?_)
        refine psq_guard 3 false 23 _ rfl rfl rfl rfl (fun hh => by exfalso; first | (rw [g2_] at hh; exact absurd hh (by decide)) | (revert hh; simp [g2_])) (fun _ => ?_)
        refine psq_guard 3 false 23 _ rfl rfl rfl rfl (fun hh => by exfalso; first | (rw [g2_] at hh; exact absurd hh (by decide)) | (revert hh; simp [g2_])) (fun _ => ?_)
    all_goals
      first
      | refine psq_cons _ rfl (core0 (AOp.pick_t rfl rfl (by first | assumption | rfl) rfl ⟨rfl, rfl⟩)) ?_
      | refine psq_cons _ rfl (core0 (AOp.pick_f rfl rfl (by first | assumption | rfl) rfl ⟨rfl, rfl⟩)) ?_
      refine psq_cons _ rfl (core0 (AOp.move rfl rfl ⟨rfl, rfl⟩)) ?_
      refine psq_guard 10 false 30 _ rfl rfl rfl rfl (fun g3 => ?_) (fun g3 => ?_)
      focus
        have g3_ := g3
        try simp only [List.length_map, List.length_cons, List.length_nil, nrm] at g3
        all_goals try (exfalso; first | (simp at g3_; done) | omega)
        all_goals
          refine psg _ (core0 (AOp.move rfl rfl ⟨rfl, rfl⟩)) ?_
          refine psq_guard 10 false 30 _ rfl rfl rfl rfl (fun _ => ?_) (fun hh => by exfalso; first | (rw [g3_] at hh; exact absurd hh (by decide)) | (revert hh; simp [g3_]))
          first
          | refine psg _ (core0 (AOp.indexLN Try.underlying36 Try.sizeOf58 rfl rfl rfl (by first | omega | (simp <;> omega) | (simp at * <;> omega)) (fun _ => rfl) ⟨rfl, rfl⟩)) ?_
          | refine psg _ (core0 (AOp.indexLI Try.underlying36 Try.sizeOf58 rfl rfl rfl (by first | omega | (simp <;> omega) | (simp at * <;> omega)) (by first | omega | (simp <;> omega) | (simp at * <;> omega)) (fun _ => rfl) ⟨rfl, rfl⟩)) ?_
          | refine psg _ (core0 (AOp.indexS Try.underlying36 Try.sizeOf58 (by assumption) rfl rfl rfl (by first | omega | (simp <;> omega) | (simp at * <;> omega)) (by assumption) ⟨rfl, rfl⟩)) ?_
          | refine psg _ (core0 (AOp.indexS Try.underlying36 Try.sizeOf58 (by assumption) rfl rfl rfl (by first | omega | (simp <;> omega) | (simp at * <;> omega)) (List.getElem?_eq_getElem (by first | omega | (simp <;> omega) | (simp at * <;> omega))) ⟨rfl, rfl⟩)) ?_
          | refine psg _ (core0 (AOp.indexS Try.underlying36 Try.sizeOf58 (by exact all_len rfl) rfl rfl rfl (by first | omega | (simp <;> omega) | (simp at * <;> omega)) rfl ⟨rfl, rfl⟩)) ?_
          | refine psg _ (core0 (AOp.indexR Try.underlying36 Try.sizeOf58 (.head _) rfl rfl rfl (by first | omega | (simp <;> omega) | (simp at * <;> omega)) (by first | omega | (simp <;> omega) | (simp at * <;> omega)) ⟨rfl, rfl⟩)) ?_
          | refine psg _ (core0 (AOp.indexR Try.underlying36 Try.sizeOf58 (.tail _ (.head _)) rfl rfl rfl (by first | omega | (simp <;> omega) | (simp at * <;> omega)) (by first | omega | (simp <;> omega) | (simp at * <;> omega)) ⟨rfl, rfl⟩)) ?_
          | refine psg _ (core0 (AOp.indexR Try.underlying36 Try.sizeOf58 (.tail _ (.tail _ (.head _))) rfl rfl rfl (by first | omega | (simp <;> omega) | (simp at * <;> omega)) (by first | omega | (simp <;> omega) | (simp at * <;> omega)) ⟨rfl, rfl⟩)) ?_
          refine psq_guard 10 false 30 _ rfl rfl rfl rfl (fun _ => ?_) (fun hh => by exfalso; first | (rw [g3_] at hh; exact absurd hh (by decide)) | (revert hh; simp [g3_]))
          first
          | refine psg _ (core0 (AOp.loadN Try.isAgg58 Try.sizeOf58 rfl rfl (reads_im _ _) rfl rfl ⟨rfl, rfl⟩)) ?_
          | refine psg _ (core0 (AOp.loadN Try.isAgg58 Try.sizeOf58 rfl rfl (reads_box _ (.head _)) rfl rfl ⟨rfl, rfl⟩)) ?_
          | refine psg _ (core0 (AOp.loadN Try.isAgg58 Try.sizeOf58 rfl rfl (reads_box _ (.tail _ (.head _))) rfl rfl ⟨rfl, rfl⟩)) ?_
          | refine psg _ (core0 (AOp.loadN Try.isAgg58 Try.sizeOf58 rfl rfl (reads_box _ (.tail _ (.tail _ (.head _)))) rfl rfl ⟨rfl, rfl⟩)) ?_
          | refine psg _ (core0 (AOp.loadN Try.isAgg58 Try.sizeOf58 rfl rfl (reads_row _ (.head _) (idx_nat (by first | omega | (simp <;> omega) | (simp at * <;> omega))) (by first | omega | (simp <;> omega) | (simp at * <;> omega))) rfl rfl ⟨rfl, rfl⟩)) ?_
          | refine psg _ (core0 (AOp.loadN Try.isAgg58 Try.sizeOf58 rfl rfl (reads_row _ (.head _) (idx_map (by first | omega | (simp <;> omega) | (simp at * <;> omega))) (by first | omega | (simp <;> omega) | (simp at * <;> omega))) rfl rfl ⟨rfl, rfl⟩)) ?_
          | refine psg _ (core0 (AOp.loadN Try.isAgg58 Try.sizeOf58 rfl rfl (reads_row _ (.head _) (by assumption) (by first | omega | (simp <;> omega) | (simp at * <;> omega))) rfl rfl ⟨rfl, rfl⟩)) ?_
          | refine psg _ (core0 (AOp.loadN Try.isAgg58 Try.sizeOf58 rfl rfl (reads_row _ (.tail _ (.head _)) (idx_nat (by first | omega | (simp <;> omega) | (simp at * <;> omega))) (by first | omega | (simp <;> omega) | (simp at * <;> omega))) rfl rfl ⟨rfl, rfl⟩)) ?_
          | refine psg _ (core0 (AOp.loadN Try.isAgg58 Try.sizeOf58 rfl rfl (reads_row _ (.tail _ (.head _)) (idx_map (by first | omega | (simp <;> omega) | (simp at * <;> omega))) (by first | omega | (simp <;> omega) | (simp at * <;> omega))) rfl rfl ⟨rfl, rfl⟩)) ?_
          | refine psg _ (core0 (AOp.loadN Try.isAgg58 Try.sizeOf58 rfl rfl (reads_row _ (.tail _ (.head _)) (by assumption) (by first | omega | (simp <;> omega) | (simp at * <;> omega))) rfl rfl ⟨rfl, rfl⟩)) ?_
          | refine psg _ (core0 (AOp.loadN Try.isAgg58 Try.sizeOf58 rfl rfl (reads_row _ (.tail _ (.tail _ (.head _))) (idx_nat (by first | omega | (simp <;> omega) | (simp at * <;> omega))) (by first | omega | (simp <;> omega) | (simp at * <;> omega))) rfl rfl ⟨rfl, rfl⟩)) ?_
          | refine psg _ (core0 (AOp.loadN Try.isAgg58 Try.sizeOf58 rfl rfl (reads_row _ (.tail _ (.tail _ (.head _))) (idx_map (by first | omega | (simp <;> omega) | (simp at * <;> omega))) (by first | omega | (simp <;> omega) | (simp at * <;> omega))) rfl rfl ⟨rfl, rfl⟩)) ?_
          | refine psg _ (core0 (AOp.loadN Try.isAgg58 Try.sizeOf58 rfl rfl (reads_row _ (.tail _ (.tail _ (.head _))) (by assumption) (by first | omega | (simp <;> omega) | (simp at * <;> omega))) rfl rfl ⟨rfl, rfl⟩)) ?_
          refine psq_guard 10 false 30 _ rfl rfl rfl rfl (fun _ => ?_) (fun hh => by exfalso; first | (rw [g3_] at hh; exact absurd hh (by decide)) | (revert hh; simp [g3_]))
          first
          | refine psg _ (core0 (AOp.loadN Try.isAgg58 Try.sizeOf58 rfl rfl (reads_im _ _) rfl rfl ⟨rfl, rfl⟩)) ?_
          | refine psg _ (core0 (AOp.loadN Try.isAgg58 Try.sizeOf58 rfl rfl (reads_box _ (.head _)) rfl rfl ⟨rfl, rfl⟩)) ?_
          | refine psg _ (core0 (AOp.loadN Try.isAgg58 Try.sizeOf58 rfl rfl (reads_box _ (.tail _ (.head _))) rfl rfl ⟨rfl, rfl⟩)) ?_
          | refine psg _ (core0 (AOp.loadN Try.isAgg58 Try.sizeOf58 rfl rfl (reads_box _ (.tail _ (.tail _ (.head _)))) rfl rfl ⟨rfl, rfl⟩)) ?_
          | refine psg _ (core0 (AOp.loadN Try.isAgg58 Try.sizeOf58 rfl rfl (reads_row _ (.head _) (idx_nat (by first | omega | (simp <;> omega) | (simp at * <;> omega))) (by first | omega | (simp <;> omega) | (simp at * <;> omega))) rfl rfl ⟨rfl, rfl⟩)) ?_
          | refine psg _ (core0 (AOp.loadN Try.isAgg58 Try.sizeOf58 rfl rfl (reads_row _ (.head _) (idx_map (by first | omega | (simp <;> omega) | (simp at * <;> omega))) (by first | omega | (simp <;> omega) | (simp at * <;> omega))) rfl rfl ⟨rfl, rfl⟩)) ?_
          | refine psg _ (core0 (AOp.loadN Try.isAgg58 Try.sizeOf58 rfl rfl (reads_row _ (.head _) (by assumption) (by first | omega | (simp <;> omega) | (simp at * <;> omega))) rfl rfl ⟨rfl, rfl⟩)) ?_
          | refine psg _ (core0 (AOp.loadN Try.isAgg58 Try.sizeOf58 rfl rfl (reads_row _ (.tail _ (.head _)) (idx_nat (by first | omega | (simp <;> omega) | (simp at * <;> omega))) (by first | omega | (simp <;> omega) | (simp at * <;> omega))) rfl rfl ⟨rfl, rfl⟩)) ?_
          | refine psg _ (core0 (AOp.loadN Try.isAgg58 Try.sizeOf58 rfl rfl (reads_row _ (.tail _ (.head _)) (idx_map (by first | omega | (simp <;> omega) | (simp at * <;> omega))) (by first | omega | (simp <;> omega) | (simp at * <;> omega))) rfl rfl ⟨rfl, rfl⟩)) ?_
          | refine psg _ (core0 (AOp.loadN Try.isAgg58 Try.sizeOf58 rfl rfl (reads_row _ (.tail _ (.head _)) (by assumption) (by first | omega | (simp <;> omega) | (simp at * <;> omega))) rfl rfl ⟨rfl, rfl⟩)) ?_
          | refine psg _ (core0 (AOp.loadN Try.isAgg58 Try.sizeOf58 rfl rfl (reads_row _ (.tail _ (.tail _ (.head _))) (idx_nat (by first | omega | (simp <;> omega) | (simp at * <;> omega))) (by first | omega | (simp <;> omega) | (simp at * <;> omega))) rfl rfl ⟨rfl, rfl⟩)) ?_
          | refine psg _ (core0 (AOp.loadN Try.isAgg58 Try.sizeOf58 rfl rfl (reads_row _ (.tail _ (.tail _ (.head _))) (idx_map (by first | omega | (simp <;> omega) | (simp at * <;> omega))) (by first | omega | (simp <;> omega) | (simp at * <;> omega))) rfl rfl ⟨rfl, rfl⟩)) ?_
          | refine psg _ (core0 (AOp.loadN Try.isAgg58 Try.sizeOf58 rfl rfl (reads_row _ (.tail _ (.tail _ (.head _))) (by assumption) (by first | omega | (simp <;> omega) | (simp at * <;> omega))) rfl rfl ⟨rfl, rfl⟩)) ?_
          refine psq_guard 10 false 30 _ rfl rfl rfl rfl (fun _ => ?_) (fun hh => by exfalso; first | (rw [g3_] at hh; exact absurd hh (by decide)) | (revert hh; simp [g3_]))
          refine psg _ (core0 (AOp.neL (a := fa) (b := fa) rfl rfl rfl rfl rfl ⟨rfl, rfl⟩)) ?_
      rotate_right
      focus
        have g3_ := g3
        try simp only [List.length_map, List.length_cons, List.length_nil, nrm] at g3
        all_goals try (exfalso; first | (simp at g3_; done) | omega)
        all_goals
          refine psq_guard 10 false 30 _ rfl rfl rfl rfl (fun hh => by exfalso; first | (rw [g3_] at hh; exact absurd hh (by decide)) | (revert hh; simp [g3_])) (fun _ => ?_)
          refine psq_guard 10 false 30 _ rfl rfl rfl rfl (fun hh => by exfalso; first | (rw [g3_] at hh; exact absurd hh (by decide)) | (revert hh; simp [g3_])) (fun _ => ?_)
          refine psq_guard 10 false 30 _ rfl rfl rfl rfl (fun hh => by exfalso; first | (rw [g3_] at hh; exact absurd hh (by decide)) | (revert hh; simp [g3_])) (fun _ => ?_)
          refine psq_guard 10 false 30 _ rfl rfl rfl rfl (fun hh => by exfalso; first | (rw [g3_] at hh; exact absurd hh (by decide)) | (revert hh; simp [g3_])) (fun _ => ?_)
      all_goals
        first
        | refine psq_cons _ rfl (core0 (AOp.pick_t rfl rfl (by first | assumption | rfl) rfl ⟨rfl, rfl⟩)) ?_
        | refine psq_cons _ rfl (core0 (AOp.pick_f rfl rfl (by first | assumption | rfl) rfl ⟨rfl, rfl⟩)) ?_
        refine psq_cons _ rfl (core0 (AOp.move rfl rfl ⟨rfl, rfl⟩)) ?_
        refine psq_guard 17 false 37 _ rfl rfl rfl rfl (fun g4 => ?_) (fun g4 => ?_)
        focus
          have g4_ := g4
          try simp only [List.length_map, List.length_cons, List.length_nil, nrm] at g4
          all_goals try (exfalso; first | (simp at g4_; done) | omega)
          all_goals
            refine psg _ (core0 (AOp.move rfl rfl ⟨rfl, rfl⟩)) ?_
            refine psq_guard 17 false 37 _ rfl rfl rfl rfl (fun _ => ?_) (fun hh => by exfalso; first | (rw [g4_] at hh; exact absurd hh (by decide)) | (revert hh; simp [g4_]))
            first
            | refine psg _ (core0 (AOp.indexLN Try.underlying36 Try.sizeOf58 rfl rfl rfl (by first | omega | (simp <;> omega) | (simp at * <;> omega)) (fun _ => rfl) ⟨rfl, rfl⟩)) ?_
            | refine psg _ (core0 (AOp.indexLI Try.underlying36 Try.sizeOf58 rfl rfl rfl (by first | omega | (simp <;> omega) | (simp at * <;> omega)) (by first | omega | (simp <;> omega) | (simp at * <;> omega)) (fun _ => rfl) ⟨rfl, rfl⟩)) ?_
            | refine psg _ (core0 (AOp.indexS Try.underlying36 Try.sizeOf58 (by assumption) rfl rfl rfl (by first | omega | (simp <;> omega) | (simp at * <;> omega)) (by assumption) ⟨rfl, rfl⟩)) ?_
            | refine psg _ (core0 (AOp.indexS Try.underlying36 Try.sizeOf58 (by assumption) rfl rfl rfl (by first | omega | (simp <;> omega) | (simp at * <;> omega)) (List.getElem?_eq_getElem (by first | omega | (simp <;> omega) | (simp at * <;> omega))) ⟨rfl, rfl⟩)) ?_
            | refine psg _ (core0 (AOp.indexS Try.underlying36 Try.sizeOf58 (by exact all_len rfl) rfl rfl rfl (by first | omega | (simp <;> omega) | (simp at * <;> omega)) rfl ⟨rfl, rfl⟩)) ?_
            | refine psg _ (core0 (AOp.indexR Try.underlying36 Try.sizeOf58 (.head _) rfl rfl rfl (by first | omega | (simp <;> omega) | (simp at * <;> omega)) (by first | omega | (simp <;> omega) | (simp at * <;> omega)) ⟨rfl, rfl⟩)) ?_
            | refine psg _ (core0 (AOp.indexR Try.underlying36 Try.sizeOf58 (.tail _ (.head _)) rfl rfl rfl (by first | omega | (simp <;> omega) | (simp at * <;> omega)) (by first | omega | (simp <;> omega) | (simp at * <;> omega)) ⟨rfl, rfl⟩)) ?_
            | refine psg _ (core0 (AOp.indexR Try.underlying36 Try.sizeOf58 (.tail _ (.tail _ (.head _))) rfl rfl rfl (by first | omega | (simp <;> omega) | (simp at * <;> omega)) (by first | omega | (simp <;> omega) | (simp at * <;> omega)) ⟨rfl, rfl⟩)) ?_
            refine psq_guard 17 false 37 _ rfl rfl rfl rfl (fun _ => ?_) (fun hh => by exfalso; first | (rw [g4_] at hh; exact absurd hh (by decide)) | (revert hh; simp [g4_]))
            first
            | refine psg _ (core0 (AOp.loadN Try.isAgg58 Try.sizeOf58 rfl rfl (reads_im _ _) rfl rfl ⟨rfl, rfl⟩)) ?_
            | refine psg _ (core0 (AOp.loadN Try.isAgg58 Try.sizeOf58 rfl rfl (reads_box _ (.head _)) rfl rfl ⟨rfl, rfl⟩)) ?_
            | refine psg _ (core0 (AOp.loadN Try.isAgg58 Try.sizeOf58 rfl rfl (reads_box _ (.tail _ (.head _))) rfl rfl ⟨rfl, rfl⟩)) ?_
            | refine psg _ (core0 (AOp.loadN Try.isAgg58 Try.sizeOf58 rfl rfl (reads_box _ (.tail _ (.tail _ (.head _)))) rfl rfl ⟨rfl, rfl⟩)) ?_
            | refine psg _ (core0 (AOp.loadN Try.isAgg58 Try.sizeOf58 rfl rfl (reads_row _ (.head _) (idx_nat (by first | omega | (simp <;> omega) | (simp at * <;> omega))) (by first | omega | (simp <;> omega) | (simp at * <;> omega))) rfl rfl ⟨rfl, rfl⟩)) ?_
            | refine psg _ (core0 (AOp.loadN Try.isAgg58 Try.sizeOf58 rfl rfl (reads_row _ (.head _) (idx_map (by first | omega | (simp <;> omega) | (simp at * <;> omega))) (by first | omega | (simp <;> omega) | (simp at * <;> omega))) rfl rfl ⟨rfl, rfl⟩)) ?_
            | refine psg _ (core0 (AOp.loadN Try.isAgg58 Try.sizeOf58 rfl rfl (reads_row _ (.head _) (by assumption) (by first | omega | (simp <;> omega) | (simp at * <;> omega))) rfl rfl ⟨rfl, rfl⟩)) ?_
            | refine psg _ (core0 (AOp.loadN Try.isAgg58 Try.sizeOf58 rfl rfl (reads_row _ (.tail _ (.head _)) (idx_nat (by first | omega | (simp <;> omega) | (simp at * <;> omega))) (by first | omega | (simp <;> omega) | (simp at * <;> omega))) rfl rfl ⟨rfl, rfl⟩)) ?_
            | refine psg _ (core0 (AOp.loadN Try.isAgg58 Try.sizeOf58 rfl rfl (reads_row _ (.tail _ (.head _)) (idx_map (by first | omega | (simp <;> omega) | (simp at * <;> omega))) (by first | omega | (simp <;> omega) | (simp at * <;> omega))) rfl rfl ⟨rfl, rfl⟩)) ?_
            | refine psg _ (core0 (AOp.loadN Try.isAgg58 Try.sizeOf58 rfl rfl (reads_row _ (.tail _ (.head _)) (by assumption) (by first | omega | (simp <;> omega) | (simp at * <;> omega))) rfl rfl ⟨rfl, rfl⟩)) ?_
            | refine psg _ (core0 (AOp.loadN Try.isAgg58 Try.sizeOf58 rfl rfl (reads_row _ (.tail _ (.tail _ (.head _))) (idx_nat (by first | omega | (simp <;> omega) | (simp at * <;> omega))) (by first | omega | (simp <;> omega) | (simp at * <;> omega))) rfl rfl ⟨rfl, rfl⟩)) ?_
            | refine psg _ (core0 (AOp.loadN Try.isAgg58 Try.sizeOf58 rfl rfl (reads_row _ (.tail _ (.tail _ (.head _))) (idx_map (by first | omega | (simp <;> omega) | (simp at * <;> omega))) (by first | omega | (simp <;> omega) | (simp at * <;> omega))) rfl rfl ⟨rfl, rfl⟩)) ?_
            | refine psg _ (core0 (AOp.loadN Try.isAgg58 Try.sizeOf58 rfl rfl (reads_row _ (.tail _ (.tail _ (.head _))) (by assumption) (by first | omega | (simp <;> omega) | (simp at * <;> omega))) rfl rfl ⟨rfl, rfl⟩)) ?_
            refine psq_guard 17 false 37 _ rfl rfl rfl rfl (fun _ => ?_) (fun hh => by exfalso; first | (rw [g4_] at hh; exact absurd hh (by decide)) | (revert hh; simp [g4_]))
            first
            | refine psg _ (core0 (AOp.loadN Try.isAgg58 Try.sizeOf58 rfl rfl (reads_im _ _) rfl rfl ⟨rfl, rfl⟩)) ?_
            | refine psg _ (core0 (AOp.loadN Try.isAgg58 Try.sizeOf58 rfl rfl (reads_box _ (.head _)) rfl rfl ⟨rfl, rfl⟩)) ?_
            | refine psg _ (core0 (AOp.loadN Try.isAgg58 Try.sizeOf58 rfl rfl (reads_box _ (.tail _ (.head _))) rfl rfl ⟨rfl, rfl⟩)) ?_
            | refine psg _ (core0 (AOp.loadN Try.isAgg58 Try.sizeOf58 rfl rfl (reads_box _ (.tail _ (.tail _ (.head _)))) rfl rfl ⟨rfl, rfl⟩)) ?_
            | refine psg _ (core0 (AOp.loadN Try.isAgg58 Try.sizeOf58 rfl rfl (reads_row _ (.head _) (idx_nat (by first | omega | (simp <;> omega) | (simp at * <;> omega))) (by first | omega | (simp <;> omega) | (simp at * <;> omega))) rfl rfl ⟨rfl, rfl⟩)) ?_
            | refine psg _ (core0 (AOp.loadN Try.isAgg58 Try.sizeOf58 rfl rfl (reads_row _ (.head _) (idx_map (by first | omega | (simp <;> omega) | (simp at * <;> omega))) (by first | omega | (simp <;> omega) | (simp at * <;> omega))) rfl rfl ⟨rfl, rfl⟩)) ?_
            | refine psg _ (core0 (AOp.loadN Try.isAgg58 Try.sizeOf58 rfl rfl (reads_row _ (.head _) (by assumption) (by first | omega | (simp <;> omega) | (simp at * <;> omega))) rfl rfl ⟨rfl, rfl⟩)) ?_
            | refine psg _ (core0 (AOp.loadN Try.isAgg58 Try.sizeOf58 rfl rfl (reads_row _ (.tail _ (.head _)) (idx_nat (by first | omega | (simp <;> omega) | (simp at * <;> omega))) (by first | omega | (simp <;> omega) | (simp at * <;> omega))) rfl rfl ⟨rfl, rfl⟩)) ?_
            | refine psg _ (core0 (AOp.loadN Try.isAgg58 Try.sizeOf58 rfl rfl (reads_row _ (.tail _ (.head _)) (idx_map (by first | omega | (simp <;> omega) | (simp at * <;> omega))) (by first | omega | (simp <;> omega) | (simp at * <;> omega))) rfl rfl ⟨rfl, rfl⟩)) ?_
            | refine psg _ (core0 (AOp.loadN Try.isAgg58 Try.sizeOf58 rfl rfl (reads_row _ (.tail _ (.head _)) (by assumption) (by first | omega | (simp <;> omega) | (simp at * <;> omega))) rfl rfl ⟨rfl, rfl⟩)) ?_
            | refine psg _ (core0 (AOp.loadN Try.isAgg58 Try.sizeOf58 rfl rfl (reads_row _ (.tail _ (.tail _ (.head _))) (idx_nat (by first | omega | (simp <;> omega) | (simp at * <;> omega))) (by first | omega | (simp <;> omega) | (simp at * <;> omega))) rfl rfl ⟨rfl, rfl⟩)) ?_
            | refine psg _ (core0 (AOp.loadN Try.isAgg58 Try.sizeOf58 rfl rfl (reads_row _ (.tail _ (.tail _ (.head _))) (idx_map (by first | omega | (simp <;> omega) | (simp at * <;> omega))) (by first | omega | (simp <;> omega) | (simp at * <;> omega))) rfl rfl ⟨rfl, rfl⟩)) ?_
            | refine psg _ (core0 (AOp.loadN Try.isAgg58 Try.sizeOf58 rfl rfl (reads_row _ (.tail _ (.tail _ (.head _))) (by assumption) (by first | omega | (simp <;> omega) | (simp at * <;> omega))) rfl rfl ⟨rfl, rfl⟩)) ?_
        rotate_right
        focus
          have g4_ := g4
          try simp only [List.length_map, List.length_cons, List.length_nil, nrm] at g4
          all_goals try (exfalso; first | (simp at g4_; done) | omega)
          all_goals
            refine psq_guard 17 false 37 _ rfl rfl rfl rfl (fun hh => by exfalso; first | (rw [g4_] at hh; exact absurd hh (by decide)) | (revert hh; simp [g4_])) (fun _ => ?_)
            refine psq_guard 17 false 37 _ rfl rfl rfl rfl (fun hh => by exfalso; first | (rw [g4_] at hh; exact absurd hh (by decide)) | (revert hh; simp [g4_])) (fun _ => ?_)
            refine psq_guard 17 false 37 _ rfl rfl rfl rfl (fun hh => by exfalso; first | (rw [g4_] at hh; exact absurd hh (by decide)) | (revert hh; simp [g4_])) (fun _ => ?_)
        all_goals
          refine psq_nil ?_
          refine aops_guard 17 false 37 _ rfl rfl rfl rfl rfl (fun g5 => ?_) (fun g5 => ?_)
          focus
            have g5_ := g5
            try simp only [List.length_map, List.length_cons, List.length_nil, nrm] at g5
            all_goals try (exfalso; first | (simp at g5_; done) | omega)
            all_goals
              refine AOp.neL (a := fb) (b := fb) rfl rfl rfl rfl rfl ?_
          rotate_right
          focus
            have g5_ := g5
            try simp only [List.length_map, List.length_cons, List.length_nil, nrm] at g5
            all_goals try (exfalso; first | (simp at g5_; done) | omega)
          all_goals
            first
            | refine aops_cons rfl rfl (AOp.pick_t rfl rfl (by first | assumption | rfl) rfl ?_)
            | refine aops_cons rfl rfl (AOp.pick_f rfl rfl (by first | assumption | rfl) rfl ?_)
            refine aops_nil ?_
            refine aw_cond _ rfl (fun h6 => ?_) (fun h6 => ?_)
            focus
              have h6_ := h6
              try simp only [List.length_map, List.length_cons, List.length_nil, nrm] at h6
              all_goals try (exfalso; first | (simp at h6_; done) | omega)
              all_goals
                refine aw_seq ?_
                refine aw_region ?_
                refine aops_cons rfl rfl (AOp.assign rfl rfl ?_)
                refine aops_nil ?_
                refine aw_ret ?_
                refine ⟨_, (res1 Try.results6 rfl), ?_⟩
                first | rfl | (simp; done) | (simp; omega)
            rotate_right
            focus
              have h6_ := h6
              try simp only [List.length_map, List.length_cons, List.length_nil, nrm] at h6
              all_goals try (exfalso; first | (simp at h6_; done) | omega)
              all_goals
                refine aw_skip ?_
                skip
            all_goals
              refine aw_seq ?_
              refine aw_region ?_
              refine aops_cons rfl rfl (AOp.move rfl rfl ?_)
              refine aops_cons rfl rfl (AOp.build' (places := [(0, 1), (1, 1), (2, 1), (3, 1)]) Try.zeroValue58 (by kernel_rfl) (by kernel_rfl) Try.underlying58 (by kernel_rfl) rfl rfl rfl rfl ?_)
              refine aops_cons rfl rfl (AOp.callP Try.call32 rfl rfl rfl fM ?_)
              refine aops_cons rfl rfl (AOp.assign rfl rfl ?_)
              refine aops_nil ?_
              refine aw_seq ?_
              refine aw_region ?_
              refine aops_cons rfl rfl (AOp.move rfl rfl ?_)
              refine aops_cons rfl rfl (AOp.build' (places := [(0, 1), (1, 1), (2, 1), (3, 1)]) Try.zeroValue58 (by kernel_rfl) (by kernel_rfl) Try.underlying58 (by kernel_rfl) rfl rfl rfl rfl ?_)
              refine aops_cons rfl rfl (AOp.callP Try.call32 rfl rfl rfl fN ?_)
              refine aops_cons rfl rfl (AOp.assign rfl rfl ?_)
              refine aops_nil ?_
              refine aw_seq ?_
              refine aw_seq ?_
              refine aw_region ?_
              refine aops_cons rfl rfl (AOp.move rfl rfl ?_)
              first
              | refine aops_cons rfl rfl (AOp.lenS (by first | exact List.length_map _ | rfl) Try.underlying36 rfl rfl ?_)
              | refine aops_cons rfl rfl (AOp.lenN Try.underlying36 rfl rfl ?_)
              | refine aops_cons rfl rfl (AOp.lenR (by first | exact List.length_map _ | rfl) Try.underlying36 (.head _) rfl rfl ?_)
              | refine aops_cons rfl rfl (AOp.lenR (by first | exact List.length_map _ | rfl) Try.underlying36 (.tail _ (.head _)) rfl rfl ?_)
              | refine aops_cons rfl rfl (AOp.lenR (by first | exact List.length_map _ | rfl) Try.underlying36 (.tail _ (.tail _ (.head _))) rfl rfl ?_)
              refine aops_cons rfl rfl (AOp.neq rfl rfl rfl ?_)
              refine aops_cons rfl rfl (AOp.move rfl rfl ?_)
              refine aops_guard 3 false 53 _ rfl rfl rfl rfl rfl (fun g7 => ?_) (fun g7 => ?_)
              focus
                have g7_ := g7
                try simp only [List.length_map, List.length_cons, List.length_nil, nrm] at g7
                all_goals try (exfalso; first | (simp at g7_; done) | omega)
                all_goals
                  refine AOp.move rfl rfl ?_
                  refine aops_guard 3 false 53 _ rfl rfl rfl rfl rfl (fun _ => ?_) (fun hh => by exfalso; first | (rw [g7_] at hh; exact absurd hh (by decide)) | (revert hh; simp [g7_]))
                  first
                  | refine AOp.lenS (by first | exact List.length_map _ | rfl) Try.underlying36 rfl rfl ?_
                  | refine AOp.lenN Try.underlying36 rfl rfl ?_
                  | refine AOp.lenR (by first | exact List.length_map _ | rfl) Try.underlying36 (.head _) rfl rfl ?_
                  | refine AOp.lenR (by first | exact List.length_map _ | rfl) Try.underlying36 (.tail _ (.head _)) rfl rfl ?_
                  | refine AOp.lenR (by first | exact List.length_map _ | rfl) Try.underlying36 (.tail _ (.tail _ (.head _))) rfl rfl ?_
                  refine aops_guard 3 false 53 _ rfl rfl rfl rfl rfl (fun _ => ?_) (fun hh => by exfalso; first | (rw [g7_] at hh; exact absurd hh (by decide)) | (revert hh; simp [g7_]))
                  refine AOp.neq rfl rfl rfl ?_
              rotate_right
              focus
                have g7_ := g7
                try simp only [List.length_map, List.length_cons, List.length_nil, nrm] at g7
                all_goals try (exfalso; first | (simp at g7_; done) | omega)
                all_goals
                  refine aops_guard 3 false 53 _ rfl rfl rfl rfl rfl (fun hh => by exfalso; first | (rw [g7_] at hh; exact absurd hh (by decide)) | (revert hh; simp [g7_])) (fun _ => ?_)
                  refine aops_guard 3 false 53 _ rfl rfl rfl rfl rfl (fun hh => by exfalso; first | (rw [g7_] at hh; exact absurd hh (by decide)) | (revert hh; simp [g7_])) (fun _ => ?_)
              all_goals
                first
                | refine aops_cons rfl rfl (AOp.pick_t rfl rfl (by first | assumption | rfl) rfl ?_)
                | refine aops_cons rfl rfl (AOp.pick_f rfl rfl (by first | assumption | rfl) rfl ?_)
                refine aops_nil ?_
                refine aw_cond _ rfl (fun h8 => ?_) (fun h8 => ?_)
                focus
                  have h8_ := h8
                  try simp only [List.length_map, List.length_cons, List.length_nil, nrm] at h8
                  all_goals try (exfalso; first | (simp at h8_; done) | omega)
                  all_goals
                    refine aw_seq ?_
                    refine aw_region ?_
                    refine aops_cons rfl rfl (AOp.assign rfl rfl ?_)
                    refine aops_nil ?_
                    refine aw_ret ?_
                    refine ⟨_, (res1 Try.results6 rfl), ?_⟩
                    first | rfl | (simp; done) | (simp; omega)
                rotate_right
                focus
                  have h8_ := h8
                  try simp only [List.length_map, List.length_cons, List.length_nil, nrm] at h8
                  all_goals try (exfalso; first | (simp at h8_; done) | omega)
                  all_goals
                    refine aw_skip ?_
                    skip
                all_goals
                  refine aw_seq ?_
                  refine aw_region ?_
                  refine aops_cons rfl rfl (AOp.build' (places := [(0, 1), (1, 1), (2, 1), (3, 1)]) Try.zeroValue58 (by kernel_rfl) (by kernel_rfl) Try.underlying58 (by kernel_rfl) rfl rfl rfl rfl ?_)
                  refine aops_cons rfl rfl (AOp.buildS' Try.underlying36 Try.sizeOf58 Try.zeroValue58 rfl rfl rfl rfl rfl rfl rfl rfl rfl rfl rfl ?_)
                  refine aops_cons rfl rfl (AOp.build' (places := [(0, 1), (1, 1), (2, 1), (3, 1)]) Try.zeroValue58 (by kernel_rfl) (by kernel_rfl) Try.underlying58 (by kernel_rfl) rfl rfl rfl rfl ?_)
                  refine aops_cons rfl rfl (AOp.buildS' Try.underlying36 Try.sizeOf58 Try.zeroValue58 rfl rfl rfl rfl rfl rfl rfl rfl rfl rfl rfl ?_)
                  refine aops_cons rfl rfl (AOp.build' (places := [(0, 1), (1, 1), (2, 1), (3, 1)]) Try.zeroValue58 (by kernel_rfl) (by kernel_rfl) Try.underlying58 (by kernel_rfl) rfl rfl rfl rfl ?_)
                  refine aops_cons rfl rfl (AOp.buildS' Try.underlying36 Try.sizeOf58 Try.zeroValue58 rfl rfl rfl rfl rfl rfl rfl rfl rfl rfl rfl ?_)
                  refine aops_cons rfl rfl (AOp.build' (places := [(0, 1), (1, 1), (2, 1), (3, 1)]) Try.zeroValue58 (by kernel_rfl) (by kernel_rfl) Try.underlying58 (by kernel_rfl) rfl rfl rfl rfl ?_)
                  refine aops_cons rfl rfl (AOp.buildS' Try.underlying36 Try.sizeOf58 Try.zeroValue58 rfl rfl rfl rfl rfl rfl rfl rfl rfl rfl rfl ?_)
                  refine aops_cons rfl rfl (AOp.build' (places := [(0, 1), (1, 1), (2, 1), (3, 1)]) Try.zeroValue58 (by kernel_rfl) (by kernel_rfl) Try.underlying58 (by kernel_rfl) rfl rfl rfl rfl ?_)
                  refine aops_cons rfl rfl (AOp.buildS' Try.underlying36 Try.sizeOf58 Try.zeroValue58 rfl rfl rfl rfl rfl rfl rfl rfl rfl rfl rfl ?_)
                  refine aops_cons rfl rfl (AOp.build' (places := [(0, 1), (1, 1), (2, 1), (3, 1)]) Try.zeroValue58 (by kernel_rfl) (by kernel_rfl) Try.underlying58 (by kernel_rfl) rfl rfl rfl rfl ?_)
                  refine aops_cons rfl rfl (AOp.buildS' Try.underlying36 Try.sizeOf58 Try.zeroValue58 rfl rfl rfl rfl rfl rfl rfl rfl rfl rfl rfl ?_)
                  first
                  | refine aops_cons rfl rfl (AOp.loadN Try.isAgg58 Try.sizeOf58 rfl rfl (reads_im _ _) rfl rfl ?_)
                  | refine aops_cons rfl rfl (AOp.loadN Try.isAgg58 Try.sizeOf58 rfl rfl (reads_box _ (.head _)) rfl rfl ?_)
                  | refine aops_cons rfl rfl (AOp.loadN Try.isAgg58 Try.sizeOf58 rfl rfl (reads_box _ (.tail _ (.head _))) rfl rfl ?_)
                  | refine aops_cons rfl rfl (AOp.loadN Try.isAgg58 Try.sizeOf58 rfl rfl (reads_box _ (.tail _ (.tail _ (.head _)))) rfl rfl ?_)
                  | refine aops_cons rfl rfl (AOp.loadN Try.isAgg58 Try.sizeOf58 rfl rfl (reads_row _ (.head _) (idx_nat (by first | omega | (simp <;> omega) | (simp at * <;> omega))) (by first | omega | (simp <;> omega) | (simp at * <;> omega))) rfl rfl ?_)
                  | refine aops_cons rfl rfl (AOp.loadN Try.isAgg58 Try.sizeOf58 rfl rfl (reads_row _ (.head _) (idx_map (by first | omega | (simp <;> omega) | (simp at * <;> omega))) (by first | omega | (simp <;> omega) | (simp at * <;> omega))) rfl rfl ?_)
                  | refine aops_cons rfl rfl (AOp.loadN Try.isAgg58 Try.sizeOf58 rfl rfl (reads_row _ (.head _) (by assumption) (by first | omega | (simp <;> omega) | (simp at * <;> omega))) rfl rfl ?_)
                  | refine aops_cons rfl rfl (AOp.loadN Try.isAgg58 Try.sizeOf58 rfl rfl (reads_row _ (.tail _ (.head _)) (idx_nat (by first | omega | (simp <;> omega) | (simp at * <;> omega))) (by first | omega | (simp <;> omega) | (simp at * <;> omega))) rfl rfl ?_)
                  | refine aops_cons rfl rfl (AOp.loadN Try.isAgg58 Try.sizeOf58 rfl rfl (reads_row _ (.tail _ (.head _)) (idx_map (by first | omega | (simp <;> omega) | (simp at * <;> omega))) (by first | omega | (simp <;> omega) | (simp at * <;> omega))) rfl rfl ?_)
                  | refine aops_cons rfl rfl (AOp.loadN Try.isAgg58 Try.sizeOf58 rfl rfl (reads_row _ (.tail _ (.head _)) (by assumption) (by first | omega | (simp <;> omega) | (simp at * <;> omega))) rfl rfl ?_)
                  | refine aops_cons rfl rfl (AOp.loadN Try.isAgg58 Try.sizeOf58 rfl rfl (reads_row _ (.tail _ (.tail _ (.head _))) (idx_nat (by first | omega | (simp <;> omega) | (simp at * <;> omega))) (by first | omega | (simp <;> omega) | (simp at * <;> omega))) rfl rfl ?_)
                  | refine aops_cons rfl rfl (AOp.loadN Try.isAgg58 Try.sizeOf58 rfl rfl (reads_row _ (.tail _ (.tail _ (.head _))) (idx_map (by first | omega | (simp <;> omega) | (simp at * <;> omega))) (by first | omega | (simp <;> omega) | (simp at * <;> omega))) rfl rfl ?_)
                  | refine aops_cons rfl rfl (AOp.loadN Try.isAgg58 Try.sizeOf58 rfl rfl (reads_row _ (.tail _ (.tail _ (.head _))) (by assumption) (by first | omega | (simp <;> omega) | (simp at * <;> omega))) rfl rfl ?_)
                  first
                  | refine aops_cons rfl rfl (AOp.loadN Try.isAgg58 Try.sizeOf58 rfl rfl (reads_im _ _) rfl rfl ?_)
                  | refine aops_cons rfl rfl (AOp.loadN Try.isAgg58 Try.sizeOf58 rfl rfl (reads_box _ (.head _)) rfl rfl ?_)
                  | refine aops_cons rfl rfl (AOp.loadN Try.isAgg58 Try.sizeOf58 rfl rfl (reads_box _ (.tail _ (.head _))) rfl rfl ?_)
                  | refine aops_cons rfl rfl (AOp.loadN Try.isAgg58 Try.sizeOf58 rfl rfl (reads_box _ (.tail _ (.tail _ (.head _)))) rfl rfl ?_)
                  | refine aops_cons rfl rfl (AOp.loadN Try.isAgg58 Try.sizeOf58 rfl rfl (reads_row _ (.head _) (idx_nat (by first | omega | (simp <;> omega) | (simp at * <;> omega))) (by first | omega | (simp <;> omega) | (simp at * <;> omega))) rfl rfl ?_)
                  | refine aops_cons rfl rfl (AOp.loadN Try.isAgg58 Try.sizeOf58 rfl rfl (reads_row _ (.head _) (idx_map (by first | omega | (simp <;> omega) | (simp at * <;> omega))) (by first | omega | (simp <;> omega) | (simp at * <;> omega))) rfl rfl ?_)
                  | refine aops_cons rfl rfl (AOp.loadN Try.isAgg58 Try.sizeOf58 rfl rfl (reads_row _ (.head _) (by assumption) (by first | omega | (simp <;> omega) | (simp at * <;> omega))) rfl rfl ?_)
                  | refine aops_cons rfl rfl (AOp.loadN Try.isAgg58 Try.sizeOf58 rfl rfl (reads_row _ (.tail _ (.head _)) (idx_nat (by first | omega | (simp <;> omega) | (simp at * <;> omega))) (by first | omega | (simp <;> omega) | (simp at * <;> omega))) rfl rfl ?_)
                  | refine aops_cons rfl rfl (AOp.loadN Try.isAgg58 Try.sizeOf58 rfl rfl (reads_row _ (.tail _ (.head _)) (idx_map (by first | omega | (simp <;> omega) | (simp at * <;> omega))) (by first | omega | (simp <;> omega) | (simp at * <;> omega))) rfl rfl ?_)
                  | refine aops_cons rfl rfl (AOp.loadN Try.isAgg58 Try.sizeOf58 rfl rfl (reads_row _ (.tail _ (.head _)) (by assumption) (by first | omega | (simp <;> omega) | (simp at * <;> omega))) rfl rfl ?_)
                  | refine aops_cons rfl rfl (AOp.loadN Try.isAgg58 Try.sizeOf58 rfl rfl (reads_row _ (.tail _ (.tail _ (.head _))) (idx_nat (by first | omega | (simp <;> omega) | (simp at * <;> omega))) (by first | omega | (simp <;> omega) | (simp at * <;> omega))) rfl rfl ?_)
                  | refine aops_cons rfl rfl (AOp.loadN Try.isAgg58 Try.sizeOf58 rfl rfl (reads_row _ (.tail _ (.tail _ (.head _))) (idx_map (by first | omega | (simp <;> omega) | (simp at * <;> omega))) (by first | omega | (simp <;> omega) | (simp at * <;> omega))) rfl rfl ?_)
                  | refine aops_cons rfl rfl (AOp.loadN Try.isAgg58 Try.sizeOf58 rfl rfl (reads_row _ (.tail _ (.tail _ (.head _))) (by assumption) (by first | omega | (simp <;> omega) | (simp at * <;> omega))) rfl rfl ?_)
                  refine aops_cons rfl rfl (AOp.buildS' Try.underlying36 Try.sizeOf58 Try.zeroValue58 rfl rfl rfl rfl rfl rfl rfl rfl rfl rfl rfl ?_)
                  first
                  | refine aops_cons rfl rfl (AOp.loadN Try.isAgg58 Try.sizeOf58 rfl rfl (reads_im _ _) rfl rfl ?_)
                  | refine aops_cons rfl rfl (AOp.loadN Try.isAgg58 Try.sizeOf58 rfl rfl (reads_box _ (.head _)) rfl rfl ?_)
                  | refine aops_cons rfl rfl (AOp.loadN Try.isAgg58 Try.sizeOf58 rfl rfl (reads_box _ (.tail _ (.head _))) rfl rfl ?_)
                  | refine aops_cons rfl rfl (AOp.loadN Try.isAgg58 Try.sizeOf58 rfl rfl (reads_box _ (.tail _ (.tail _ (.head _)))) rfl rfl ?_)
                  | refine aops_cons rfl rfl (AOp.loadN Try.isAgg58 Try.sizeOf58 rfl rfl (reads_row _ (.head _) (idx_nat (by first | omega | (simp <;> omega) | (simp at * <;> omega))) (by first | omega | (simp <;> omega) | (simp at * <;> omega))) rfl rfl ?_)
                  | refine aops_cons rfl rfl (AOp.loadN Try.isAgg58 Try.sizeOf58 rfl rfl (reads_row _ (.head _) (idx_map (by first | omega | (simp <;> omega) | (simp at * <;> omega))) (by first | omega | (simp <;> omega) | (simp at * <;> omega))) rfl rfl ?_)
                  | refine aops_cons rfl rfl (AOp.loadN Try.isAgg58 Try.sizeOf58 rfl rfl (reads_row _ (.head _) (by assumption) (by first | omega | (simp <;> omega) | (simp at * <;> omega))) rfl rfl ?_)
                  | refine aops_cons rfl rfl (AOp.loadN Try.isAgg58 Try.sizeOf58 rfl rfl (reads_row _ (.tail _ (.head _)) (idx_nat (by first | omega | (simp <;> omega) | (simp at * <;> omega))) (by first | omega | (simp <;> omega) | (simp at * <;> omega))) rfl rfl ?_)
                  | refine aops_cons rfl rfl (AOp.loadN Try.isAgg58 Try.sizeOf58 rfl rfl (reads_row _ (.tail _ (.head _)) (idx_map (by first | omega | (simp <;> omega) | (simp at * <;> omega))) (by first | omega | (simp <;> omega) | (simp at * <;> omega))) rfl rfl ?_)
                  | refine aops_cons rfl rfl (AOp.loadN Try.isAgg58 Try.sizeOf58 rfl rfl (reads_row _ (.tail _ (.head _)) (by assumption) (by first | omega | (simp <;> omega) | (simp at * <;> omega))) rfl rfl ?_)
                  | refine aops_cons rfl rfl (AOp.loadN Try.isAgg58 Try.sizeOf58 rfl rfl (reads_row _ (.tail _ (.tail _ (.head _))) (idx_nat (by first | omega | (simp <;> omega) | (simp at * <;> omega))) (by first | omega | (simp <;> omega) | (simp at * <;> omega))) rfl rfl ?_)
                  | refine aops_cons rfl rfl (AOp.loadN Try.isAgg58 Try.sizeOf58 rfl rfl (reads_row _ (.tail _ (.tail _ (.head _))) (idx_map (by first | omega | (simp <;> omega) | (simp at * <;> omega))) (by first | omega | (simp <;> omega) | (simp at * <;> omega))) rfl rfl ?_)
                  | refine aops_cons rfl rfl (AOp.loadN Try.isAgg58 Try.sizeOf58 rfl rfl (reads_row _ (.tail _ (.tail _ (.head _))) (by assumption) (by first | omega | (simp <;> omega) | (simp at * <;> omega))) rfl rfl ?_)
                  first
                  | refine aops_cons rfl rfl (AOp.loadN Try.isAgg58 Try.sizeOf58 rfl rfl (reads_im _ _) rfl rfl ?_)
                  | refine aops_cons rfl rfl (AOp.loadN Try.isAgg58 Try.sizeOf58 rfl rfl (reads_box _ (.head _)) rfl rfl ?_)
                  | refine aops_cons rfl rfl (AOp.loadN Try.isAgg58 Try.sizeOf58 rfl rfl (reads_box _ (.tail _ (.head _))) rfl rfl ?_)
                  | refine aops_cons rfl rfl (AOp.loadN Try.isAgg58 Try.sizeOf58 rfl rfl (reads_box _ (.tail _ (.tail _ (.head _)))) rfl rfl ?_)
                  | refine aops_cons rfl rfl (AOp.loadN Try.isAgg58 Try.sizeOf58 rfl rfl (reads_row _ (.head _) (idx_nat (by first | omega | (simp <;> omega) | (simp at * <;> omega))) (by first | omega | (simp <;> omega) | (simp at * <;> omega))) rfl rfl ?_)
                  | refine aops_cons rfl rfl (AOp.loadN Try.isAgg58 Try.sizeOf58 rfl rfl (reads_row _ (.head _) (idx_map (by first | omega | (simp <;> omega) | (simp at * <;> omega))) (by first | omega | (simp <;> omega) | (simp at * <;> omega))) rfl rfl ?_)
                  | refine aops_cons rfl rfl (AOp.loadN Try.isAgg58 Try.sizeOf58 rfl rfl (reads_row _ (.head _) (by assumption) (by first | omega | (simp <;> omega) | (simp at * <;> omega))) rfl rfl ?_)
                  | refine aops_cons rfl rfl (AOp.loadN Try.isAgg58 Try.sizeOf58 rfl rfl (reads_row _ (.tail _ (.head _)) (idx_nat (by first | omega | (simp <;> omega) | (simp at * <;> omega))) (by first | omega | (simp <;> omega) | (simp at * <;> omega))) rfl rfl ?_)
                  | refine aops_cons rfl rfl (AOp.loadN Try.isAgg58 Try.sizeOf58 rfl rfl (reads_row _ (.tail _ (.head _)) (idx_map (by first | omega | (simp <;> omega) | (simp at * <;> omega))) (by first | omega | (simp <;> omega) | (simp at * <;> omega))) rfl rfl ?_)
                  | refine aops_cons rfl rfl (AOp.loadN Try.isAgg58 Try.sizeOf58 rfl rfl (reads_row _ (.tail _ (.head _)) (by assumption) (by first | omega | (simp <;> omega) | (simp at * <;> omega))) rfl rfl ?_)
                  | refine aops_cons rfl rfl (AOp.loadN Try.isAgg58 Try.sizeOf58 rfl rfl (reads_row _ (.tail _ (.tail _ (.head _))) (idx_nat (by first | omega | (simp <;> omega) | (simp at * <;> omega))) (by first | omega | (simp <;> omega) | (simp at * <;> omega))) rfl rfl ?_)
                  | refine aops_cons rfl rfl (AOp.loadN Try.isAgg58 Try.sizeOf58 rfl rfl (reads_row _ (.tail _ (.tail _ (.head _))) (idx_map (by first | omega | (simp <;> omega) | (simp at * <;> omega))) (by first | omega | (simp <;> omega) | (simp at * <;> omega))) rfl rfl ?_)
                  | refine aops_cons rfl rfl (AOp.loadN Try.isAgg58 Try.sizeOf58 rfl rfl (reads_row _ (.tail _ (.tail _ (.head _))) (by assumption) (by first | omega | (simp <;> omega) | (simp at * <;> omega))) rfl rfl ?_)
                  refine aops_cons rfl rfl (AOp.buildS' Try.underlying36 Try.sizeOf58 Try.zeroValue58 rfl rfl rfl rfl rfl rfl rfl rfl rfl rfl rfl ?_)
                  first
                  | refine aops_cons rfl rfl (AOp.loadN Try.isAgg58 Try.sizeOf58 rfl rfl (reads_im _ _) rfl rfl ?_)
                  | refine aops_cons rfl rfl (AOp.loadN Try.isAgg58 Try.sizeOf58 rfl rfl (reads_box _ (.head _)) rfl rfl ?_)
                  | refine aops_cons rfl rfl (AOp.loadN Try.isAgg58 Try.sizeOf58 rfl rfl (reads_box _ (.tail _ (.head _))) rfl rfl ?_)
                  | refine aops_cons rfl rfl (AOp.loadN Try.isAgg58 Try.sizeOf58 rfl rfl (reads_box _ (.tail _ (.tail _ (.head _)))) rfl rfl ?_)
                  | refine aops_cons rfl rfl (AOp.loadN Try.isAgg58 Try.sizeOf58 rfl rfl (reads_row _ (.head _) (idx_nat (by first | omega | (simp <;> omega) | (simp at * <;> omega))) (by first | omega | (simp <;> omega) | (simp at * <;> omega))) rfl rfl ?_)
                  | refine aops_cons rfl rfl (AOp.loadN Try.isAgg58 Try.sizeOf58 rfl rfl (reads_row _ (.head _) (idx_map (by first | omega | (simp <;> omega) | (simp at * <;> omega))) (by first | omega | (simp <;> omega) | (simp at * <;> omega))) rfl rfl ?_)
                  | refine aops_cons rfl rfl (AOp.loadN Try.isAgg58 Try.sizeOf58 rfl rfl (reads_row _ (.head _) (by assumption) (by first | omega | (simp <;> omega) | (simp at * <;> omega))) rfl rfl ?_)
                  | refine aops_cons rfl rfl (AOp.loadN Try.isAgg58 Try.sizeOf58 rfl rfl (reads_row _ (.tail _ (.head _)) (idx_nat (by first | omega | (simp <;> omega) | (simp at * <;> omega))) (by first | omega | (simp <;> omega) | (simp at * <;> omega))) rfl rfl ?_)
                  | refine aops_cons rfl rfl (AOp.loadN Try.isAgg58 Try.sizeOf58 rfl rfl (reads_row _ (.tail _ (.head _)) (idx_map (by first | omega | (simp <;> omega) | (simp at * <;> omega))) (by first | omega | (simp <;> omega) | (simp at * <;> omega))) rfl rfl ?_)
                  | refine aops_cons rfl rfl (AOp.loadN Try.isAgg58 Try.sizeOf58 rfl rfl (reads_row _ (.tail _ (.head _)) (by assumption) (by first | omega | (simp <;> omega) | (simp at * <;> omega))) rfl rfl ?_)
                  | refine aops_cons rfl rfl (AOp.loadN Try.isAgg58 Try.sizeOf58 rfl rfl (reads_row _ (.tail _ (.tail _ (.head _))) (idx_nat (by first | omega | (simp <;> omega) | (simp at * <;> omega))) (by first | omega | (simp <;> omega) | (simp at * <;> omega))) rfl rfl ?_)
                  | refine aops_cons rfl rfl (AOp.loadN Try.isAgg58 Try.sizeOf58 rfl rfl (reads_row _ (.tail _ (.tail _ (.head _))) (idx_map (by first | omega | (simp <;> omega) | (simp at * <;> omega))) (by first | omega | (simp <;> omega) | (simp at * <;> omega))) rfl rfl ?_)
                  | refine aops_cons rfl rfl (AOp.loadN Try.isAgg58 Try.sizeOf58 rfl rfl (reads_row _ (.tail _ (.tail _ (.head _))) (by assumption) (by first | omega | (simp <;> omega) | (simp at * <;> omega))) rfl rfl ?_)
                  first
                  | refine aops_cons rfl rfl (AOp.loadN Try.isAgg58 Try.sizeOf58 rfl rfl (reads_im _ _) rfl rfl ?_)
                  | refine aops_cons rfl rfl (AOp.loadN Try.isAgg58 Try.sizeOf58 rfl rfl (reads_box _ (.head _)) rfl rfl ?_)
                  | refine aops_cons rfl rfl (AOp.loadN Try.isAgg58 Try.sizeOf58 rfl rfl (reads_box _ (.tail _ (.head _))) rfl rfl ?_)
                  | refine aops_cons rfl rfl (AOp.loadN Try.isAgg58 Try.sizeOf58 rfl rfl (reads_box _ (.tail _ (.tail _ (.head _)))) rfl rfl ?_)
                  | refine aops_cons rfl rfl (AOp.loadN Try.isAgg58 Try.sizeOf58 rfl rfl (reads_row _ (.head _) (idx_nat (by first | omega | (simp <;> omega) | (simp at * <;> omega))) (by first | omega | (simp <;> omega) | (simp at * <;> omega))) rfl rfl ?_)
                  | refine aops_cons rfl rfl (AOp.loadN Try.isAgg58 Try.sizeOf58 rfl rfl (reads_row _ (.head _) (idx_map (by first | omega | (simp <;> omega) | (simp at * <;> omega))) (by first | omega | (simp <;> omega) | (simp at * <;> omega))) rfl rfl ?_)
                  | refine aops_cons rfl rfl (AOp.loadN Try.isAgg58 Try.sizeOf58 rfl rfl (reads_row _ (.head _) (by assumption) (by first | omega | (simp <;> omega) | (simp at * <;> omega))) rfl rfl ?_)
                  | refine aops_cons rfl rfl (AOp.loadN Try.isAgg58 Try.sizeOf58 rfl rfl (reads_row _ (.tail _ (.head _)) (idx_nat (by first | omega | (simp <;> omega) | (simp at * <;> omega))) (by first | omega | (simp <;> omega) | (simp at * <;> omega))) rfl rfl ?_)
                  | refine aops_cons rfl rfl (AOp.loadN Try.isAgg58 Try.sizeOf58 rfl rfl (reads_row _ (.tail _ (.head _)) (idx_map (by first | omega | (simp <;> omega) | (simp at * <;> omega))) (by first | omega | (simp <;> omega) | (simp at * <;> omega))) rfl rfl ?_)
                  | refine aops_cons rfl rfl (AOp.loadN Try.isAgg58 Try.sizeOf58 rfl rfl (reads_row _ (.tail _ (.head _)) (by assumption) (by first | omega | (simp <;> omega) | (simp at * <;> omega))) rfl rfl ?_)
                  | refine aops_cons rfl rfl (AOp.loadN Try.isAgg58 Try.sizeOf58 rfl rfl (reads_row _ (.tail _ (.tail _ (.head _))) (idx_nat (by first | omega | (simp <;> omega) | (simp at * <;> omega))) (by first | omega | (simp <;> omega) | (simp at * <;> omega))) rfl rfl ?_)
                  | refine aops_cons rfl rfl (AOp.loadN Try.isAgg58 Try.sizeOf58 rfl rfl (reads_row _ (.tail _ (.tail _ (.head _))) (idx_map (by first | omega | (simp <;> omega) | (simp at * <;> omega))) (by first | omega | (simp <;> omega) | (simp at * <;> omega))) rfl rfl ?_)
                  | refine aops_cons rfl rfl (AOp.loadN Try.isAgg58 Try.sizeOf58 rfl rfl (reads_row _ (.tail _ (.tail _ (.head _))) (by assumption) (by first | omega | (simp <;> omega) | (simp at * <;> omega))) rfl rfl ?_)
                  refine aops_cons rfl rfl (AOp.buildS' Try.underlying36 Try.sizeOf58 Try.zeroValue58 rfl rfl rfl rfl rfl rfl rfl rfl rfl rfl rfl ?_)
                  refine aops_cons rfl rfl (AOp.buildS' Try.underlying72 Try.sizeOf36 Try.zeroValue36 rfl rfl rfl rfl rfl rfl rfl rfl rfl rfl rfl ?_)
                  refine aops_cons rfl rfl (AOp.assign rfl rfl ?_)
                  refine aops_nil ?_
                  refine aw_seq ?_
                  refine aw_seq ?_
                  refine aw_region ?_
                  refine aops_cons rfl rfl (AOp.assign rfl rfl ?_)
                  refine aops_nil ?_
                  refine aw_block ?_
                  refine aw_loop (β := Nat) (S := (fun (z0 : Nat) => match z0 with | i => [(4, ls [fc, fa, fb]), (5, ls [⟨2, 1, 2, 15⟩, ⟨1, 2, 2, 10⟩, ⟨3, 2, 1, 20⟩]), (6, ls [⟨2, 1, 2, 50⟩, ⟨1, 2, 1, 10⟩, ⟨3, 2, 1, 20⟩]), (7, .sl (bads.map be1)), (8, .sc (.int .i64 (i : Int)))])) (B := (fun (z0 : Nat) => match z0 with | i => [])) (pre := (fun (z0 : Nat) => match z0 with | i => i ≤ 9)) (μ := (fun (z0 : Nat) => match z0 with | i => 9 - i)) 0 ((wk_drop (List.nil_sublist _)).trans (wk_env (sube_cons rfl (sube_cons rfl (sube_cons rfl (sube_cons rfl (sube_cons rfl (sube_nil _)))))))) ?_ ?_
                  · exact Nat.zero_le _
                  · rintro i hi
                    change AW _ _ _ ([(4, ls [fc, fa, fb]), (5, ls [⟨2, 1, 2, 15⟩, ⟨1, 2, 2, 10⟩, ⟨3, 2, 1, 20⟩]), (6, ls [⟨2, 1, 2, 50⟩, ⟨1, 2, 1, 10⟩, ⟨3, 2, 1, 20⟩]), (7, .sl (bads.map be1)), (8, .sc (.int .i64 (i : Int)))] : Env) ([] : List Blk) _
                    replace hi : i ≤ 9 := hi
                    refine aw_seq ?_
                    refine aw_seq ?_
                    refine aw_region ?_
                    refine aops_cons rfl rfl (AOp.move rfl rfl ?_)
                    refine aops_cons rfl rfl (AOp.move rfl rfl ?_)
                    first
                    | refine aops_cons rfl rfl (AOp.lenS (by first | exact List.length_map _ | rfl) Try.underlying72 rfl rfl ?_)
                    | refine aops_cons rfl rfl (AOp.lenN Try.underlying72 rfl rfl ?_)
                    | refine aops_cons rfl rfl (AOp.lenR (by first | exact List.length_map _ | rfl) Try.underlying72 (.head _) rfl rfl ?_)
                    | refine aops_cons rfl rfl (AOp.lenR (by first | exact List.length_map _ | rfl) Try.underlying72 (.tail _ (.head _)) rfl rfl ?_)
                    | refine aops_cons rfl rfl (AOp.lenR (by first | exact List.length_map _ | rfl) Try.underlying72 (.tail _ (.tail _ (.head _))) rfl rfl ?_)
                    refine aops_cons rfl rfl (AOp.lss rfl rfl rfl ?_)
                    refine aops_nil ?_
                    refine aw_cond _ rfl (fun h9 => ?_) (fun h9 => ?_)
                    focus
                      have h9_ := h9
                      try simp only [List.length_map, List.length_cons, List.length_nil, nrm] at h9
                      all_goals try (exfalso; first | (simp at h9_; done) | omega)
                      all_goals
                        refine aw_skip ?_
                        skip
                    rotate_right
                    focus
                      have h9_ := h9
                      try simp only [List.length_map, List.length_cons, List.length_nil, nrm] at h9
                      all_goals try (exfalso; first | (simp at h9_; done) | omega)
                      all_goals
                        refine aw_exit ?_
                        refine aw_seq ?_
                        refine aw_region ?_
                        refine aops_cons rfl rfl (AOp.move rfl rfl ?_)
                        first
                        | refine aops_cons rfl rfl (AOp.indexLN Try.underlying36 Try.sizeOf58 rfl rfl rfl (by first | omega | (simp <;> omega) | (simp at * <;> omega)) (fun _ => rfl) ?_)
                        | refine aops_cons rfl rfl (AOp.indexLI Try.underlying36 Try.sizeOf58 rfl rfl rfl (by first | omega | (simp <;> omega) | (simp at * <;> omega)) (by first | omega | (simp <;> omega) | (simp at * <;> omega)) (fun _ => rfl) ?_)
                        | refine aops_cons rfl rfl (AOp.indexS Try.underlying36 Try.sizeOf58 (by assumption) rfl rfl rfl (by first | omega | (simp <;> omega) | (simp at * <;> omega)) (by assumption) ?_)
                        | refine aops_cons rfl rfl (AOp.indexS Try.underlying36 Try.sizeOf58 (by assumption) rfl rfl rfl (by first | omega | (simp <;> omega) | (simp at * <;> omega)) (List.getElem?_eq_getElem (by first | omega | (simp <;> omega) | (simp at * <;> omega))) ?_)
                        | refine aops_cons rfl rfl (AOp.indexS Try.underlying36 Try.sizeOf58 (by exact all_len rfl) rfl rfl rfl (by first | omega | (simp <;> omega) | (simp at * <;> omega)) rfl ?_)
                        | refine aops_cons rfl rfl (AOp.indexR Try.underlying36 Try.sizeOf58 (.head _) rfl rfl rfl (by first | omega | (simp <;> omega) | (simp at * <;> omega)) (by first | omega | (simp <;> omega) | (simp at * <;> omega)) ?_)
                        | refine aops_cons rfl rfl (AOp.indexR Try.underlying36 Try.sizeOf58 (.tail _ (.head _)) rfl rfl rfl (by first | omega | (simp <;> omega) | (simp at * <;> omega)) (by first | omega | (simp <;> omega) | (simp at * <;> omega)) ?_)
                        | refine aops_cons rfl rfl (AOp.indexR Try.underlying36 Try.sizeOf58 (.tail _ (.tail _ (.head _))) rfl rfl rfl (by first | omega | (simp <;> omega) | (simp at * <;> omega)) (by first | omega | (simp <;> omega) | (simp at * <;> omega)) ?_)
                        first
                        | refine aops_cons rfl rfl (AOp.fieldI Try.underlying58 rfl Try.sizeOf3 (by decide) rfl rfl rfl ?_)
                        | refine aops_cons rfl rfl (AOp.fieldB Try.underlying58 rfl Try.sizeOf3 (by decide) rfl rfl rfl ?_)
                        | refine aops_cons rfl rfl (AOp.fieldR Try.underlying58 rfl Try.sizeOf3 (by decide) rfl rfl rfl ?_)
                        first
                        | refine aops_cons rfl rfl (AOp.load1 Try.isAgg3 rfl rfl (reads_im _ _) rfl ?_)
                        | refine aops_cons rfl rfl (AOp.load1 Try.isAgg3 rfl rfl (reads_box _ (.head _)) rfl ?_)
                        | refine aops_cons rfl rfl (AOp.load1 Try.isAgg3 rfl rfl (reads_box _ (.tail _ (.head _))) rfl ?_)
                        | refine aops_cons rfl rfl (AOp.load1 Try.isAgg3 rfl rfl (reads_box _ (.tail _ (.tail _ (.head _)))) rfl ?_)
                        | refine aops_cons rfl rfl (AOp.load1 Try.isAgg3 rfl rfl (reads_row _ (.head _) (idx_nat (by first | omega | (simp <;> omega) | (simp at * <;> omega))) (by first | omega | (simp <;> omega) | (simp at * <;> omega))) rfl ?_)
                        | refine aops_cons rfl rfl (AOp.load1 Try.isAgg3 rfl rfl (reads_row _ (.head _) (idx_map (by first | omega | (simp <;> omega) | (simp at * <;> omega))) (by first | omega | (simp <;> omega) | (simp at * <;> omega))) rfl ?_)
                        | refine aops_cons rfl rfl (AOp.load1 Try.isAgg3 rfl rfl (reads_row _ (.head _) (by assumption) (by first | omega | (simp <;> omega) | (simp at * <;> omega))) rfl ?_)
                        | refine aops_cons rfl rfl (AOp.load1 Try.isAgg3 rfl rfl (reads_row _ (.tail _ (.head _)) (idx_nat (by first | omega | (simp <;> omega) | (simp at * <;> omega))) (by first | omega | (simp <;> omega) | (simp at * <;> omega))) rfl ?_)
                        | refine aops_cons rfl rfl (AOp.load1 Try.isAgg3 rfl rfl (reads_row _ (.tail _ (.head _)) (idx_map (by first | omega | (simp <;> omega) | (simp at * <;> omega))) (by first | omega | (simp <;> omega) | (simp at * <;> omega))) rfl ?_)
                        | refine aops_cons rfl rfl (AOp.load1 Try.isAgg3 rfl rfl (reads_row _ (.tail _ (.head _)) (by assumption) (by first | omega | (simp <;> omega) | (simp at * <;> omega))) rfl ?_)
                        | refine aops_cons rfl rfl (AOp.load1 Try.isAgg3 rfl rfl (reads_row _ (.tail _ (.tail _ (.head _))) (idx_nat (by first | omega | (simp <;> omega) | (simp at * <;> omega))) (by first | omega | (simp <;> omega) | (simp at * <;> omega))) rfl ?_)
                        | refine aops_cons rfl rfl (AOp.load1 Try.isAgg3 rfl rfl (reads_row _ (.tail _ (.tail _ (.head _))) (idx_map (by first | omega | (simp <;> omega) | (simp at * <;> omega))) (by first | omega | (simp <;> omega) | (simp at * <;> omega))) rfl ?_)
                        | refine aops_cons rfl rfl (AOp.load1 Try.isAgg3 rfl rfl (reads_row _ (.tail _ (.tail _ (.head _))) (by assumption) (by first | omega | (simp <;> omega) | (simp at * <;> omega))) rfl ?_)
                        refine aops_cons rfl rfl (AOp.eql rfl rfl rfl ?_)
                        refine aops_cons rfl rfl (AOp.move rfl rfl ?_)
                        refine aops_guard 5 true 96 _ rfl rfl rfl rfl rfl (fun g10 => ?_) (fun g10 => ?_)
                        focus
                          have g10_ := g10
                          try simp only [List.length_map, List.length_cons, List.length_nil, nrm] at g10
                          all_goals try (exfalso; first | (simp at g10_; done) | omega)
                          all_goals
                            refine AOp.move rfl rfl ?_
                            refine aops_guard 5 true 96 _ rfl rfl rfl rfl rfl (fun _ => ?_) (fun hh => by exfalso; first | (rw [g10_] at hh; exact absurd hh (by decide)) | (revert hh; simp [g10_]))
                            first
                            | refine AOp.indexLN Try.underlying36 Try.sizeOf58 rfl rfl rfl (by first | omega | (simp <;> omega) | (simp at * <;> omega)) (fun _ => rfl) ?_
                            | refine AOp.indexLI Try.underlying36 Try.sizeOf58 rfl rfl rfl (by first | omega | (simp <;> omega) | (simp at * <;> omega)) (by first | omega | (simp <;> omega) | (simp at * <;> omega)) (fun _ => rfl) ?_
                            | refine AOp.indexS Try.underlying36 Try.sizeOf58 (by assumption) rfl rfl rfl (by first | omega | (simp <;> omega) | (simp at * <;> omega)) (by assumption) ?_
                            | refine AOp.indexS Try.underlying36 Try.sizeOf58 (by assumption) rfl rfl rfl (by first | omega | (simp <;> omega) | (simp at * <;> omega)) (List.getElem?_eq_getElem (by first | omega | (simp <;> omega) | (simp at * <;> omega))) ?_
                            | refine AOp.indexS Try.underlying36 Try.sizeOf58 (by exact all_len rfl) rfl rfl rfl (by first | omega | (simp <;> omega) | (simp at * <;> omega)) rfl ?_
                            | refine AOp.indexR Try.underlying36 Try.sizeOf58 (.head _) rfl rfl rfl (by first | omega | (simp <;> omega) | (simp at * <;> omega)) (by first | omega | (simp <;> omega) | (simp at * <;> omega)) ?_
                            | refine AOp.indexR Try.underlying36 Try.sizeOf58 (.tail _ (.head _)) rfl rfl rfl (by first | omega | (simp <;> omega) | (simp at * <;> omega)) (by first | omega | (simp <;> omega) | (simp at * <;> omega)) ?_
                            | refine AOp.indexR Try.underlying36 Try.sizeOf58 (.tail _ (.tail _ (.head _))) rfl rfl rfl (by first | omega | (simp <;> omega) | (simp at * <;> omega)) (by first | omega | (simp <;> omega) | (simp at * <;> omega)) ?_
                            refine aops_guard 5 true 96 _ rfl rfl rfl rfl rfl (fun _ => ?_) (fun hh => by exfalso; first | (rw [g10_] at hh; exact absurd hh (by decide)) | (revert hh; simp [g10_]))
                            first
                            | refine AOp.fieldI Try.underlying58 rfl Try.sizeOf3 (by decide) rfl rfl rfl ?_
                            | refine AOp.fieldB Try.underlying58 rfl Try.sizeOf3 (by decide) rfl rfl rfl ?_
                            | refine AOp.fieldR Try.underlying58 rfl Try.sizeOf3 (by decide) rfl rfl rfl ?_
                            refine aops_guard 5 true 96 _ rfl rfl rfl rfl rfl (fun _ => ?_) (fun hh => by exfalso; first | (rw [g10_] at hh; exact absurd hh (by decide)) | (revert hh; simp [g10_]))
                            first
                            | refine AOp.load1 Try.isAgg3 rfl rfl (reads_im _ _) rfl ?_
                            | refine AOp.load1 Try.isAgg3 rfl rfl (reads_box _ (.head _)) rfl ?_
                            | refine AOp.load1 Try.isAgg3 rfl rfl (reads_box _ (.tail _ (.head _))) rfl ?_
                            | refine AOp.load1 Try.isAgg3 rfl rfl (reads_box _ (.tail _ (.tail _ (.head _)))) rfl ?_
                            | refine AOp.load1 Try.isAgg3 rfl rfl (reads_row _ (.head _) (idx_nat (by first | omega | (simp <;> omega) | (simp at * <;> omega))) (by first | omega | (simp <;> omega) | (simp at * <;> omega))) rfl ?_
                            | refine AOp.load1 Try.isAgg3 rfl rfl (reads_row _ (.head _) (idx_map (by first | omega | (simp <;> omega) | (simp at * <;> omega))) (by first | omega | (simp <;> omega) | (simp at * <;> omega))) rfl ?_
                            | refine AOp.load1 Try.isAgg3 rfl rfl (reads_row _ (.head _) (by assumption) (by first | omega | (simp <;> omega) | (simp at * <;> omega))) rfl ?_
                            | refine AOp.load1 Try.isAgg3 rfl rfl (reads_row _ (.tail _ (.head _)) (idx_nat (by first | omega | (simp <;> omega) | (simp at * <;> omega))) (by first | omega | (simp <;> omega) | (simp at * <;> omega))) rfl ?_
                            | refine AOp.load1 Try.isAgg3 rfl rfl (reads_row _ (.tail _ (.head _)) (idx_map (by first | omega | (simp <;> omega) | (simp at * <;> omega))) (by first | omega | (simp <;> omega) | (simp at * <;> omega))) rfl ?_
                            | refine AOp.load1 Try.isAgg3 rfl rfl (reads_row _ (.tail _ (.head _)) (by assumption) (by first | omega | (simp <;> omega) | (simp at * <;> omega))) rfl ?_
                            | refine AOp.load1 Try.isAgg3 rfl rfl (reads_row _ (.tail _ (.tail _ (.head _))) (idx_nat (by first | omega | (simp <;> omega) | (simp at * <;> omega))) (by first | omega | (simp <;> omega) | (simp at * <;> omega))) rfl ?_
                            | refine AOp.load1 Try.isAgg3 rfl rfl (reads_row _ (.tail _ (.tail _ (.head _))) (idx_map (by first | omega | (simp <;> omega) | (simp at * <;> omega))) (by first | omega | (simp <;> omega) | (simp at * <;> omega))) rfl ?_
                            | refine AOp.load1 Try.isAgg3 rfl rfl (reads_row _ (.tail _ (.tail _ (.head _))) (by assumption) (by first | omega | (simp <;> omega) | (simp at * <;> omega))) rfl ?_
                            refine aops_guard 5 true 96 _ rfl rfl rfl rfl rfl (fun _ => ?_) (fun hh => by exfalso; first | (rw [g10_] at hh; exact absurd hh (by decide)) | (revert hh; simp [g10_]))
                            refine AOp.eql rfl rfl rfl ?_
                        rotate_right
                        focus
                          have g10_ := g10
                          try simp only [List.length_map, List.length_cons, List.length_nil, nrm] at g10
                          all_goals try (exfalso; first | (simp at g10_; done) | omega)
                          all_goals
                            refine aops_guard 5 true 96 _ rfl rfl rfl rfl rfl (fun hh => by exfalso; first | (rw [g10_] at hh; exact absurd hh (by decide)) | (revert hh; simp [g10_])) (fun _ => ?_)
                            refine aops_guard 5 true 96 _ rfl rfl rfl rfl rfl (fun hh => by exfalso; first | (rw [g10_] at hh; exact absurd hh (by decide)) | (revert hh; simp [g10_])) (fun _ => ?_)
                            refine aops_guard 5 true 96 _ rfl rfl rfl rfl rfl (fun hh => by exfalso; first | (rw [g10_] at hh; exact absurd hh (by decide)) | (revert hh; simp [g10_])) (fun _ => ?_)
                            refine aops_guard 5 true 96 _ rfl rfl rfl rfl rfl (fun hh => by exfalso; first | (rw [g10_] at hh; exact absurd hh (by decide)) | (revert hh; simp [g10_])) (fun _ => ?_)
                        all_goals
                          first
                          | refine aops_cons rfl rfl (AOp.pick_t rfl rfl (by first | assumption | rfl) rfl ?_)
                          | refine aops_cons rfl rfl (AOp.pick_f rfl rfl (by first | assumption | rfl) rfl ?_)
                          refine aops_cons rfl rfl (AOp.move rfl rfl ?_)
                          refine aops_guard 12 true 103 _ rfl rfl rfl rfl rfl (fun g11 => ?_) (fun g11 => ?_)
                          focus
                            have g11_ := g11
                            try simp only [List.length_map, List.length_cons, List.length_nil, nrm] at g11
                            all_goals try (exfalso; first | (simp at g11_; done) | omega)
                            all_goals
                              refine AOp.move rfl rfl ?_
                              refine aops_guard 12 true 103 _ rfl rfl rfl rfl rfl (fun _ => ?_) (fun hh => by exfalso; first | (rw [g11_] at hh; exact absurd hh (by decide)) | (revert hh; simp [g11_]))
                              first
                              | refine AOp.indexLN Try.underlying36 Try.sizeOf58 rfl rfl rfl (by first | omega | (simp <;> omega) | (simp at * <;> omega)) (fun _ => rfl) ?_
                              | refine AOp.indexLI Try.underlying36 Try.sizeOf58 rfl rfl rfl (by first | omega | (simp <;> omega) | (simp at * <;> omega)) (by first | omega | (simp <;> omega) | (simp at * <;> omega)) (fun _ => rfl) ?_
                              | refine AOp.indexS Try.underlying36 Try.sizeOf58 (by assumption) rfl rfl rfl (by first | omega | (simp <;> omega) | (simp at * <;> omega)) (by assumption) ?_
                              | refine AOp.indexS Try.underlying36 Try.sizeOf58 (by assumption) rfl rfl rfl (by first | omega | (simp <;> omega) | (simp at * <;> omega)) (List.getElem?_eq_getElem (by first | omega | (simp <;> omega) | (simp at * <;> omega))) ?_
                              | refine AOp.indexS Try.underlying36 Try.sizeOf58 (by exact all_len rfl) rfl rfl rfl (by first | omega | (simp <;> omega) | (simp at * <;> omega)) rfl ?_
                              | refine AOp.indexR Try.underlying36 Try.sizeOf58 (.head _) rfl rfl rfl (by first | omega | (simp <;> omega) | (simp at * <;> omega)) (by first | omega | (simp <;> omega) | (simp at * <;> omega)) ?_
                              | refine AOp.indexR Try.underlying36 Try.sizeOf58 (.tail _ (.head _)) rfl rfl rfl (by first | omega | (simp <;> omega) | (simp at * <;> omega)) (by first | omega | (simp <;> omega) | (simp at * <;> omega)) ?_
                              | refine AOp.indexR Try.underlying36 Try.sizeOf58 (.tail _ (.tail _ (.head _))) rfl rfl rfl (by first | omega | (simp <;> omega) | (simp at * <;> omega)) (by first | omega | (simp <;> omega) | (simp at * <;> omega)) ?_
                              refine aops_guard 12 true 103 _ rfl rfl rfl rfl rfl (fun _ => ?_) (fun hh => by exfalso; first | (rw [g11_] at hh; exact absurd hh (by decide)) | (revert hh; simp [g11_]))
                              first
                              | refine AOp.fieldI Try.underlying58 rfl Try.sizeOf3 (by decide) rfl rfl rfl ?_
                              | refine AOp.fieldB Try.underlying58 rfl Try.sizeOf3 (by decide) rfl rfl rfl ?_
                              | refine AOp.fieldR Try.underlying58 rfl Try.sizeOf3 (by decide) rfl rfl rfl ?_
                              refine aops_guard 12 true 103 _ rfl rfl rfl rfl rfl (fun _ => ?_) (fun hh => by exfalso; first | (rw [g11_] at hh; exact absurd hh (by decide)) | (revert hh; simp [g11_]))
                              first
                              | refine AOp.load1 Try.isAgg3 rfl rfl (reads_im _ _) rfl ?_
                              | refine AOp.load1 Try.isAgg3 rfl rfl (reads_box _ (.head _)) rfl ?_
                              | refine AOp.load1 Try.isAgg3 rfl rfl (reads_box _ (.tail _ (.head _))) rfl ?_
                              | refine AOp.load1 Try.isAgg3 rfl rfl (reads_box _ (.tail _ (.tail _ (.head _)))) rfl ?_
                              | refine AOp.load1 Try.isAgg3 rfl rfl (reads_row _ (.head _) (idx_nat (by first | omega | (simp <;> omega) | (simp at * <;> omega))) (by first | omega | (simp <;> omega) | (simp at * <;> omega))) rfl ?_
                              | refine AOp.load1 Try.isAgg3 rfl rfl (reads_row _ (.head _) (idx_map (by first | omega | (simp <;> omega) | (simp at * <;> omega))) (by first | omega | (simp <;> omega) | (simp at * <;> omega))) rfl ?_
                              | refine AOp.load1 Try.isAgg3 rfl rfl (reads_row _ (.head _) (by assumption) (by first | omega | (simp <;> omega) | (simp at * <;> omega))) rfl ?_
                              | refine AOp.load1 Try.isAgg3 rfl rfl (reads_row _ (.tail _ (.head _)) (idx_nat (by first | omega | (simp <;> omega) | (simp at * <;> omega))) (by first | omega | (simp <;> omega) | (simp at * <;> omega))) rfl ?_
                              | refine AOp.load1 Try.isAgg3 rfl rfl (reads_row _ (.tail _ (.head _)) (idx_map (by first | omega | (simp <;> omega) | (simp at * <;> omega))) (by first | omega | (simp <;> omega) | (simp at * <;> omega))) rfl ?_
                              | refine AOp.load1 Try.isAgg3 rfl rfl (reads_row _ (.tail _ (.head _)) (by assumption) (by first | omega | (simp <;> omega) | (simp at * <;> omega))) rfl ?_
                              | refine AOp.load1 Try.isAgg3 rfl rfl (reads_row _ (.tail _ (.tail _ (.head _))) (idx_nat (by first | omega | (simp <;> omega) | (simp at * <;> omega))) (by first | omega | (simp <;> omega) | (simp at * <;> omega))) rfl ?_
                              | refine AOp.load1 Try.isAgg3 rfl rfl (reads_row _ (.tail _ (.tail _ (.head _))) (idx_map (by first | omega | (simp <;> omega) | (simp at * <;> omega))) (by first | omega | (simp <;> omega) | (simp at * <;> omega))) rfl ?_
                              | refine AOp.load1 Try.isAgg3 rfl rfl (reads_row _ (.tail _ (.tail _ (.head _))) (by assumption) (by first | omega | (simp <;> omega) | (simp at * <;> omega))) rfl ?_
                              refine aops_guard 12 true 103 _ rfl rfl rfl rfl rfl (fun _ => ?_) (fun hh => by exfalso; first | (rw [g11_] at hh; exact absurd hh (by decide)) | (revert hh; simp [g11_]))
                              refine AOp.eql rfl rfl rfl ?_
                          rotate_right
                          focus
                            have g11_ := g11
                            try simp only [List.length_map, List.length_cons, List.length_nil, nrm] at g11
                            all_goals try (exfalso; first | (simp at g11_; done) | omega)
                            all_goals
                              refine aops_guard 12 true 103 _ rfl rfl rfl rfl rfl (fun hh => by exfalso; first | (rw [g11_] at hh; exact absurd hh (by decide)) | (revert hh; simp [g11_])) (fun _ => ?_)
                              refine aops_guard 12 true 103 _ rfl rfl rfl rfl rfl (fun hh => by exfalso; first | (rw [g11_] at hh; exact absurd hh (by decide)) | (revert hh; simp [g11_])) (fun _ => ?_)
                              refine aops_guard 12 true 103 _ rfl rfl rfl rfl rfl (fun hh => by exfalso; first | (rw [g11_] at hh; exact absurd hh (by decide)) | (revert hh; simp [g11_])) (fun _ => ?_)
                              refine aops_guard 12 true 103 _ rfl rfl rfl rfl rfl (fun hh => by exfalso; first | (rw [g11_] at hh; exact absurd hh (by decide)) | (revert hh; simp [g11_])) (fun _ => ?_)
                          all_goals
                            first
                            | refine aops_cons rfl rfl (AOp.pick_t rfl rfl (by first | assumption | rfl) rfl ?_)
                            | refine aops_cons rfl rfl (AOp.pick_f rfl rfl (by first | assumption | rfl) rfl ?_)
                            refine aops_cons rfl rfl (AOp.move rfl rfl ?_)
                            refine aops_guard 19 true 110 _ rfl rfl rfl rfl rfl (fun g12 => ?_) (fun g12 => ?_)
                            focus
                              have g12_ := g12
                              try simp only [List.length_map, List.length_cons, List.length_nil, nrm] at g12
                              all_goals try (exfalso; first | (simp at g12_; done) | omega)
                              all_goals
                                refine AOp.move rfl rfl ?_
                                refine aops_guard 19 true 110 _ rfl rfl rfl rfl rfl (fun _ => ?_) (fun hh => by exfalso; first | (rw [g12_] at hh; exact absurd hh (by decide)) | (revert hh; simp [g12_]))
                                first
                                | refine AOp.indexLN Try.underlying36 Try.sizeOf58 rfl rfl rfl (by first | omega | (simp <;> omega) | (simp at * <;> omega)) (fun _ => rfl) ?_
                                | refine AOp.indexLI Try.underlying36 Try.sizeOf58 rfl rfl rfl (by first | omega | (simp <;> omega) | (simp at * <;> omega)) (by first | omega | (simp <;> omega) | (simp at * <;> omega)) (fun _ => rfl) ?_
                                | refine AOp.indexS Try.underlying36 Try.sizeOf58 (by assumption) rfl rfl rfl (by first | omega | (simp <;> omega) | (simp at * <;> omega)) (by assumption) ?_
                                | refine AOp.indexS Try.underlying36 Try.sizeOf58 (by assumption) rfl rfl rfl (by first | omega | (simp <;> omega) | (simp at * <;> omega)) (List.getElem?_eq_getElem (by first | omega | (simp <;> omega) | (simp at * <;> omega))) ?_
                                | refine AOp.indexS Try.underlying36 Try.sizeOf58 (by exact all_len rfl) rfl rfl rfl (by first | omega | (simp <;> omega) | (simp at * <;> omega)) rfl ?_
                                | refine AOp.indexR Try.underlying36 Try.sizeOf58 (.head _) rfl rfl rfl (by first | omega | (simp <;> omega) | (simp at * <;> omega)) (by first | omega | (simp <;> omega) | (simp at * <;> omega)) ?_
                                | refine AOp.indexR Try.underlying36 Try.sizeOf58 (.tail _ (.head _)) rfl rfl rfl (by first | omega | (simp <;> omega) | (simp at * <;> omega)) (by first | omega | (simp <;> omega) | (simp at * <;> omega)) ?_
                                | refine AOp.indexR Try.underlying36 Try.sizeOf58 (.tail _ (.tail _ (.head _))) rfl rfl rfl (by first | omega | (simp <;> omega) | (simp at * <;> omega)) (by first | omega | (simp <;> omega) | (simp at * <;> omega)) ?_
                                refine aops_guard 19 true 110 _ rfl rfl rfl rfl rfl (fun _ => ?_) (fun hh => by exfalso; first | (rw [g12_] at hh; exact absurd hh (by decide)) | (revert hh; simp [g12_]))
                                first
                                | refine AOp.fieldI Try.underlying58 rfl Try.sizeOf3 (by decide) rfl rfl rfl ?_
                                | refine AOp.fieldB Try.underlying58 rfl Try.sizeOf3 (by decide) rfl rfl rfl ?_
                                | refine AOp.fieldR Try.underlying58 rfl Try.sizeOf3 (by decide) rfl rfl rfl ?_
                                refine aops_guard 19 true 110 _ rfl rfl rfl rfl rfl (fun _ => ?_) (fun hh => by exfalso; first | (rw [g12_] at hh; exact absurd hh (by decide)) | (revert hh; simp [g12_]))
                                first
                                | refine AOp.load1 Try.isAgg3 rfl rfl (reads_im _ _) rfl ?_
                                | refine AOp.load1 Try.isAgg3 rfl rfl (reads_box _ (.head _)) rfl ?_
                                | refine AOp.load1 Try.isAgg3 rfl rfl (reads_box _ (.tail _ (.head _))) rfl ?_
                                | refine AOp.load1 Try.isAgg3 rfl rfl (reads_box _ (.tail _ (.tail _ (.head _)))) rfl ?_
                                | refine AOp.load1 Try.isAgg3 rfl rfl (reads_row _ (.head _) (idx_nat (by first | omega | (simp <;> omega) | (simp at * <;> omega))) (by first | omega | (simp <;> omega) | (simp at * <;> omega))) rfl ?_
                                | refine AOp.load1 Try.isAgg3 rfl rfl (reads_row _ (.head _) (idx_map (by first | omega | (simp <;> omega) | (simp at * <;> omega))) (by first | omega | (simp <;> omega) | (simp at * <;> omega))) rfl ?_
                                | refine AOp.load1 Try.isAgg3 rfl rfl (reads_row _ (.head _) (by assumption) (by first | omega | (simp <;> omega) | (simp at * <;> omega))) rfl ?_
                                | refine AOp.load1 Try.isAgg3 rfl rfl (reads_row _ (.tail _ (.head _)) (idx_nat (by first | omega | (simp <;> omega) | (simp at * <;> omega))) (by first | omega | (simp <;> omega) | (simp at * <;> omega))) rfl ?_
                                | refine AOp.load1 Try.isAgg3 rfl rfl (reads_row _ (.tail _ (.head _)) (idx_map (by first | omega | (simp <;> omega) | (simp at * <;> omega))) (by first | omega | (simp <;> omega) | (simp at * <;> omega))) rfl ?_
                                | refine AOp.load1 Try.isAgg3 rfl rfl (reads_row _ (.tail _ (.head _)) (by assumption) (by first | omega | (simp <;> omega) | (simp at * <;> omega))) rfl ?_
                                | refine AOp.load1 Try.isAgg3 rfl rfl (reads_row _ (.tail _ (.tail _ (.head _))) (idx_nat (by first | omega | (simp <;> omega) | (simp at * <;> omega))) (by first | omega | (simp <;> omega) | (simp at * <;> omega))) rfl ?_
                                | refine AOp.load1 Try.isAgg3 rfl rfl (reads_row _ (.tail _ (.tail _ (.head _))) (idx_map (by first | omega | (simp <;> omega) | (simp at * <;> omega))) (by first | omega | (simp <;> omega) | (simp at * <;> omega))) rfl ?_
                                | refine AOp.load1 Try.isAgg3 rfl rfl (reads_row _ (.tail _ (.tail _ (.head _))) (by assumption) (by first | omega | (simp <;> omega) | (simp at * <;> omega))) rfl ?_
                                refine aops_guard 19 true 110 _ rfl rfl rfl rfl rfl (fun _ => ?_) (fun hh => by exfalso; first | (rw [g12_] at hh; exact absurd hh (by decide)) | (revert hh; simp [g12_]))
                                refine AOp.eql rfl rfl rfl ?_
                            rotate_right
                            focus
                              have g12_ := g12
                              try simp only [List.length_map, List.length_cons, List.length_nil, nrm] at g12
                              all_goals try (exfalso; first | (simp at g12_; done) | omega)
                              all_goals
                                refine aops_guard 19 true 110 _ rfl rfl rfl rfl rfl (fun hh => by exfalso; first | (rw [g12_] at hh; exact absurd hh (by decide)) | (revert hh; simp [g12_])) (fun _ => ?_)
                                refine aops_guard 19 true 110 _ rfl rfl rfl rfl rfl (fun hh => by exfalso; first | (rw [g12_] at hh; exact absurd hh (by decide)) | (revert hh; simp [g12_])) (fun _ => ?_)
                                refine aops_guard 19 true 110 _ rfl rfl rfl rfl rfl (fun hh => by exfalso; first | (rw [g12_] at hh; exact absurd hh (by decide)) | (revert hh; simp [g12_])) (fun _ => ?_)
                                refine aops_guard 19 true 110 _ rfl rfl rfl rfl rfl (fun hh => by exfalso; first | (rw [g12_] at hh; exact absurd hh (by decide)) | (revert hh; simp [g12_])) (fun _ => ?_)
                            all_goals
                              first
                              | refine aops_cons rfl rfl (AOp.pick_t rfl rfl (by first | assumption | rfl) rfl ?_)
                              | refine aops_cons rfl rfl (AOp.pick_f rfl rfl (by first | assumption | rfl) rfl ?_)
                              refine aops_cons rfl rfl (AOp.move rfl rfl ?_)
                              refine aops_guard 26 true 117 _ rfl rfl rfl rfl rfl (fun g13 => ?_) (fun g13 => ?_)
                              focus
                                have g13_ := g13
                                try simp only [List.length_map, List.length_cons, List.length_nil, nrm] at g13
                                all_goals try (exfalso; first | (simp at g13_; done) | omega)
                                all_goals
                                  refine AOp.move rfl rfl ?_
                                  refine aops_guard 26 true 117 _ rfl rfl rfl rfl rfl (fun _ => ?_) (fun hh => by exfalso; first | (rw [g13_] at hh; exact absurd hh (by decide)) | (revert hh; simp [g13_]))
                                  refine AOp.callP Try.call28 rfl rfl rfl fC28 ?_
                                  refine aops_guard 26 true 117 _ rfl rfl rfl rfl rfl (fun _ => ?_) (fun hh => by exfalso; first | (rw [g13_] at hh; exact absurd hh (by decide)) | (revert hh; simp [g13_]))
                                  refine AOp.buildS' Try.underlying40 Try.sizeOf3 Try.zeroValue3 rfl rfl rfl rfl rfl rfl rfl rfl rfl rfl rfl ?_
                                  refine aops_guard 26 true 117 _ rfl rfl rfl rfl rfl (fun _ => ?_) (fun hh => by exfalso; first | (rw [g13_] at hh; exact absurd hh (by decide)) | (revert hh; simp [g13_]))
                                  refine AOp.callP Try.call27 rfl rfl rfl (by exact sameIntsT (a := [1, 3]) (b := [1, 3]) rfl (by decide)) ?_
                              rotate_right
                              focus
                                have g13_ := g13
                                try simp only [List.length_map, List.length_cons, List.length_nil, nrm] at g13
                                all_goals try (exfalso; first | (simp at g13_; done) | omega)
                                all_goals
                                  refine aops_guard 26 true 117 _ rfl rfl rfl rfl rfl (fun hh => by exfalso; first | (rw [g13_] at hh; exact absurd hh (by decide)) | (revert hh; simp [g13_])) (fun _ => ?_)
                                  refine aops_guard 26 true 117 _ rfl rfl rfl rfl rfl (fun hh => by exfalso; first | (rw [g13_] at hh; exact absurd hh (by decide)) | (revert hh; simp [g13_])) (fun _ => ?_)
                                  refine aops_guard 26 true 117 _ rfl rfl rfl rfl rfl (fun hh => by exfalso; first | (rw [g13_] at hh; exact absurd hh (by decide)) | (revert hh; simp [g13_])) (fun _ => ?_)
                              all_goals
                                first
                                | refine aops_cons rfl rfl (AOp.pick_t rfl rfl (by first | assumption | rfl) rfl ?_)
                                | refine aops_cons rfl rfl (AOp.pick_f rfl rfl (by first | assumption | rfl) rfl ?_)
                                refine aops_cons rfl rfl (AOp.move rfl rfl ?_)
                                refine aops_guard 32 true 123 _ rfl rfl rfl rfl rfl (fun g14 => ?_) (fun g14 => ?_)
                                focus
                                  have g14_ := g14
                                  try simp only [List.length_map, List.length_cons, List.length_nil, nrm] at g14
                                  all_goals try (exfalso; first | (simp at g14_; done) | omega)
                                  all_goals
                                    refine AOp.move rfl rfl ?_
                                    refine aops_guard 32 true 123 _ rfl rfl rfl rfl rfl (fun _ => ?_) (fun hh => by exfalso; first | (rw [g14_] at hh; exact absurd hh (by decide)) | (revert hh; simp [g14_]))
                                    refine AOp.callP Try.call28 rfl rfl rfl fC34 ?_
                                    refine aops_guard 32 true 123 _ rfl rfl rfl rfl rfl (fun _ => ?_) (fun hh => by exfalso; first | (rw [g14_] at hh; exact absurd hh (by decide)) | (revert hh; simp [g14_]))
                                    refine AOp.buildS' Try.underlying40 Try.sizeOf3 Try.zeroValue3 rfl rfl rfl rfl rfl rfl rfl rfl rfl rfl rfl ?_
                                    refine aops_guard 32 true 123 _ rfl rfl rfl rfl rfl (fun _ => ?_) (fun hh => by exfalso; first | (rw [g14_] at hh; exact absurd hh (by decide)) | (revert hh; simp [g14_]))
                                    refine AOp.callP Try.call27 rfl rfl rfl (by exact sameIntsT (a := [3]) (b := [3]) rfl (by decide)) ?_
                                rotate_right
                                focus
                                  have g14_ := g14
                                  try simp only [List.length_map, List.length_cons, List.length_nil, nrm] at g14
                                  all_goals try (exfalso; first | (simp at g14_; done) | omega)
                                  all_goals
                                    refine aops_guard 32 true 123 _ rfl rfl rfl rfl rfl (fun hh => by exfalso; first | (rw [g14_] at hh; exact absurd hh (by decide)) | (revert hh; simp [g14_])) (fun _ => ?_)
                                    refine aops_guard 32 true 123 _ rfl rfl rfl rfl rfl (fun hh => by exfalso; first | (rw [g14_] at hh; exact absurd hh (by decide)) | (revert hh; simp [g14_])) (fun _ => ?_)
                                    refine aops_guard 32 true 123 _ rfl rfl rfl rfl rfl (fun hh => by exfalso; first | (rw [g14_] at hh; exact absurd hh (by decide)) | (revert hh; simp [g14_])) (fun _ => ?_)
                                all_goals
                                  first
                                  | refine aops_cons rfl rfl (AOp.pick_t rfl rfl (by first | assumption | rfl) rfl ?_)
                                  | refine aops_cons rfl rfl (AOp.pick_f rfl rfl (by first | assumption | rfl) rfl ?_)
                                  refine aops_cons rfl rfl (AOp.move rfl rfl ?_)
                                  refine aops_guard 38 true 129 _ rfl rfl rfl rfl rfl (fun g15 => ?_) (fun g15 => ?_)
                                  focus
                                    have g15_ := g15
                                    try simp only [List.length_map, List.length_cons, List.length_nil, nrm] at g15
                                    all_goals try (exfalso; first | (simp at g15_; done) | omega)
                                    all_goals
                                      refine AOp.move rfl rfl ?_
                                      refine aops_guard 38 true 129 _ rfl rfl rfl rfl rfl (fun _ => ?_) (fun hh => by exfalso; first | (rw [g15_] at hh; exact absurd hh (by decide)) | (revert hh; simp [g15_]))
                                      refine AOp.callP Try.call28 rfl rfl rfl fC40 ?_
                                      refine aops_guard 38 true 129 _ rfl rfl rfl rfl rfl (fun _ => ?_) (fun hh => by exfalso; first | (rw [g15_] at hh; exact absurd hh (by decide)) | (revert hh; simp [g15_]))
                                      first
                                      | refine AOp.lenS (by first | exact List.length_map _ | rfl) Try.underlying40 rfl rfl ?_
                                      | refine AOp.lenN Try.underlying40 rfl rfl ?_
                                      | refine AOp.lenR (by first | exact List.length_map _ | rfl) Try.underlying40 (.head _) rfl rfl ?_
                                      | refine AOp.lenR (by first | exact List.length_map _ | rfl) Try.underlying40 (.tail _ (.head _)) rfl rfl ?_
                                      | refine AOp.lenR (by first | exact List.length_map _ | rfl) Try.underlying40 (.tail _ (.tail _ (.head _))) rfl rfl ?_
                                      refine aops_guard 38 true 129 _ rfl rfl rfl rfl rfl (fun _ => ?_) (fun hh => by exfalso; first | (rw [g15_] at hh; exact absurd hh (by decide)) | (revert hh; simp [g15_]))
                                      refine AOp.eql rfl rfl rfl ?_
                                  rotate_right
                                  focus
                                    have g15_ := g15
                                    try simp only [List.length_map, List.length_cons, List.length_nil, nrm] at g15
                                    all_goals try (exfalso; first | (simp at g15_; done) | omega)
                                    all_goals
                                      refine aops_guard 38 true 129 _ rfl rfl rfl rfl rfl (fun hh => by exfalso; first | (rw [g15_] at hh; exact absurd hh (by decide)) | (revert hh; simp [g15_])) (fun _ => ?_)
                                      refine aops_guard 38 true 129 _ rfl rfl rfl rfl rfl (fun hh => by exfalso; first | (rw [g15_] at hh; exact absurd hh (by decide)) | (revert hh; simp [g15_])) (fun _ => ?_)
                                      refine aops_guard 38 true 129 _ rfl rfl rfl rfl rfl (fun hh => by exfalso; first | (rw [g15_] at hh; exact absurd hh (by decide)) | (revert hh; simp [g15_])) (fun _ => ?_)
                                  all_goals
                                    first
                                    | refine aops_cons rfl rfl (AOp.pick_t rfl rfl (by first | assumption | rfl) rfl ?_)
                                    | refine aops_cons rfl rfl (AOp.pick_f rfl rfl (by first | assumption | rfl) rfl ?_)
                                    refine aops_cons rfl rfl (AOp.move rfl rfl ?_)
                                    refine aops_guard 44 true 135 _ rfl rfl rfl rfl rfl (fun g16 => ?_) (fun g16 => ?_)
                                    focus
                                      have g16_ := g16
                                      try simp only [List.length_map, List.length_cons, List.length_nil, nrm] at g16
                                      all_goals try (exfalso; first | (simp at g16_; done) | omega)
                                      all_goals
                                        refine AOp.move rfl rfl ?_
                                        refine aops_guard 44 true 135 _ rfl rfl rfl rfl rfl (fun _ => ?_) (fun hh => by exfalso; first | (rw [g16_] at hh; exact absurd hh (by decide)) | (revert hh; simp [g16_]))
                                        refine AOp.callP Try.call28 rfl rfl rfl fC46 ?_
                                        refine aops_guard 44 true 135 _ rfl rfl rfl rfl rfl (fun _ => ?_) (fun hh => by exfalso; first | (rw [g16_] at hh; exact absurd hh (by decide)) | (revert hh; simp [g16_]))
                                        refine AOp.buildS' Try.underlying40 Try.sizeOf3 Try.zeroValue3 rfl rfl rfl rfl rfl rfl rfl rfl rfl rfl rfl ?_
                                        refine aops_guard 44 true 135 _ rfl rfl rfl rfl rfl (fun _ => ?_) (fun hh => by exfalso; first | (rw [g16_] at hh; exact absurd hh (by decide)) | (revert hh; simp [g16_]))
                                        refine AOp.callP Try.call27 rfl rfl rfl (by exact sameIntsT (a := [2]) (b := [2]) rfl (by decide)) ?_
                                    rotate_right
                                    focus
                                      have g16_ := g16
                                      try simp only [List.length_map, List.length_cons, List.length_nil, nrm] at g16
                                      all_goals try (exfalso; first | (simp at g16_; done) | omega)
                                      all_goals
                                        refine aops_guard 44 true 135 _ rfl rfl rfl rfl rfl (fun hh => by exfalso; first | (rw [g16_] at hh; exact absurd hh (by decide)) | (revert hh; simp [g16_])) (fun _ => ?_)
                                        refine aops_guard 44 true 135 _ rfl rfl rfl rfl rfl (fun hh => by exfalso; first | (rw [g16_] at hh; exact absurd hh (by decide)) | (revert hh; simp [g16_])) (fun _ => ?_)
                                        refine aops_guard 44 true 135 _ rfl rfl rfl rfl rfl (fun hh => by exfalso; first | (rw [g16_] at hh; exact absurd hh (by decide)) | (revert hh; simp [g16_])) (fun _ => ?_)
                                    all_goals
                                      first
                                      | refine aops_cons rfl rfl (AOp.pick_t rfl rfl (by first | assumption | rfl) rfl ?_)
                                      | refine aops_cons rfl rfl (AOp.pick_f rfl rfl (by first | assumption | rfl) rfl ?_)
                                      refine aops_cons rfl rfl (AOp.move rfl rfl ?_)
                                      refine aops_guard 50 true 141 _ rfl rfl rfl rfl rfl (fun g17 => ?_) (fun g17 => ?_)
                                      focus
                                        have g17_ := g17
                                        try simp only [List.length_map, List.length_cons, List.length_nil, nrm] at g17
                                        all_goals try (exfalso; first | (simp at g17_; done) | omega)
                                        all_goals
                                          refine AOp.move rfl rfl ?_
                                          refine aops_guard 50 true 141 _ rfl rfl rfl rfl rfl (fun _ => ?_) (fun hh => by exfalso; first | (rw [g17_] at hh; exact absurd hh (by decide)) | (revert hh; simp [g17_]))
                                          refine AOp.callP Try.call28 rfl rfl rfl fC52 ?_
                                          refine aops_guard 50 true 141 _ rfl rfl rfl rfl rfl (fun _ => ?_) (fun hh => by exfalso; first | (rw [g17_] at hh; exact absurd hh (by decide)) | (revert hh; simp [g17_]))
                                          first
                                          | refine AOp.lenS (by first | exact List.length_map _ | rfl) Try.underlying40 rfl rfl ?_
                                          | refine AOp.lenN Try.underlying40 rfl rfl ?_
                                          | refine AOp.lenR (by first | exact List.length_map _ | rfl) Try.underlying40 (.head _) rfl rfl ?_
                                          | refine AOp.lenR (by first | exact List.length_map _ | rfl) Try.underlying40 (.tail _ (.head _)) rfl rfl ?_
                                          | refine AOp.lenR (by first | exact List.length_map _ | rfl) Try.underlying40 (.tail _ (.tail _ (.head _))) rfl rfl ?_
                                          refine aops_guard 50 true 141 _ rfl rfl rfl rfl rfl (fun _ => ?_) (fun hh => by exfalso; first | (rw [g17_] at hh; exact absurd hh (by decide)) | (revert hh; simp [g17_]))
                                          refine AOp.eql rfl rfl rfl ?_
                                      rotate_right
                                      focus
                                        have g17_ := g17
                                        try simp only [List.length_map, List.length_cons, List.length_nil, nrm] at g17
                                        all_goals try (exfalso; first | (simp at g17_; done) | omega)
                                        all_goals
                                          refine aops_guard 50 true 141 _ rfl rfl rfl rfl rfl (fun hh => by exfalso; first | (rw [g17_] at hh; exact absurd hh (by decide)) | (revert hh; simp [g17_])) (fun _ => ?_)
                                          refine aops_guard 50 true 141 _ rfl rfl rfl rfl rfl (fun hh => by exfalso; first | (rw [g17_] at hh; exact absurd hh (by decide)) | (revert hh; simp [g17_])) (fun _ => ?_)
                                          refine aops_guard 50 true 141 _ rfl rfl rfl rfl rfl (fun hh => by exfalso; first | (rw [g17_] at hh; exact absurd hh (by decide)) | (revert hh; simp [g17_])) (fun _ => ?_)
                                      all_goals
                                        first
                                        | refine aops_cons rfl rfl (AOp.pick_t rfl rfl (by first | assumption | rfl) rfl ?_)
                                        | refine aops_cons rfl rfl (AOp.pick_f rfl rfl (by first | assumption | rfl) rfl ?_)
                                        refine aops_cons rfl rfl (AOp.move rfl rfl ?_)
                                        refine aops_guard 56 true 147 _ rfl rfl rfl rfl rfl (fun g18 => ?_) (fun g18 => ?_)
                                        focus
                                          have g18_ := g18
                                          try simp only [List.length_map, List.length_cons, List.length_nil, nrm] at g18
                                          all_goals try (exfalso; first | (simp at g18_; done) | omega)
                                          all_goals
                                            refine AOp.move rfl rfl ?_
                                            refine aops_guard 56 true 147 _ rfl rfl rfl rfl rfl (fun _ => ?_) (fun hh => by exfalso; first | (rw [g18_] at hh; exact absurd hh (by decide)) | (revert hh; simp [g18_]))
                                            refine AOp.callP Try.call34 rfl rfl rfl fP58 ?_
                                            refine aops_guard 56 true 147 _ rfl rfl rfl rfl rfl (fun _ => ?_) (fun hh => by exfalso; first | (rw [g18_] at hh; exact absurd hh (by decide)) | (revert hh; simp [g18_]))
                                            first
                                            | refine AOp.lenS (by first | exact List.length_map _ | rfl) Try.underlying36 rfl rfl ?_
                                            | refine AOp.lenN Try.underlying36 rfl rfl ?_
                                            | refine AOp.lenR (by first | exact List.length_map _ | rfl) Try.underlying36 (.head _) rfl rfl ?_
                                            | refine AOp.lenR (by first | exact List.length_map _ | rfl) Try.underlying36 (.tail _ (.head _)) rfl rfl ?_
                                            | refine AOp.lenR (by first | exact List.length_map _ | rfl) Try.underlying36 (.tail _ (.tail _ (.head _))) rfl rfl ?_
                                            refine aops_guard 56 true 147 _ rfl rfl rfl rfl rfl (fun _ => ?_) (fun hh => by exfalso; first | (rw [g18_] at hh; exact absurd hh (by decide)) | (revert hh; simp [g18_]))
                                            refine AOp.eql rfl rfl rfl ?_
                                        rotate_right
                                        focus
                                          have g18_ := g18
                                          try simp only [List.length_map, List.length_cons, List.length_nil, nrm] at g18
                                          all_goals try (exfalso; first | (simp at g18_; done) | omega)
                                          all_goals
                                            refine aops_guard 56 true 147 _ rfl rfl rfl rfl rfl (fun hh => by exfalso; first | (rw [g18_] at hh; exact absurd hh (by decide)) | (revert hh; simp [g18_])) (fun _ => ?_)
                                            refine aops_guard 56 true 147 _ rfl rfl rfl rfl rfl (fun hh => by exfalso; first | (rw [g18_] at hh; exact absurd hh (by decide)) | (revert hh; simp [g18_])) (fun _ => ?_)
                                            refine aops_guard 56 true 147 _ rfl rfl rfl rfl rfl (fun hh => by exfalso; first | (rw [g18_] at hh; exact absurd hh (by decide)) | (revert hh; simp [g18_])) (fun _ => ?_)
                                        all_goals
                                          first
                                          | refine aops_cons rfl rfl (AOp.pick_t rfl rfl (by first | assumption | rfl) rfl ?_)
                                          | refine aops_cons rfl rfl (AOp.pick_f rfl rfl (by first | assumption | rfl) rfl ?_)
                                          refine aops_cons rfl rfl (AOp.move rfl rfl ?_)
                                          refine aops_guard 62 true 153 _ rfl rfl rfl rfl rfl (fun g19 => ?_) (fun g19 => ?_)
                                          focus
                                            have g19_ := g19
                                            try simp only [List.length_map, List.length_cons, List.length_nil, nrm] at g19
                                            all_goals try (exfalso; first | (simp at g19_; done) | omega)
                                            all_goals
                                              refine AOp.move rfl rfl ?_
                                              refine aops_guard 62 true 153 _ rfl rfl rfl rfl rfl (fun _ => ?_) (fun hh => by exfalso; first | (rw [g19_] at hh; exact absurd hh (by decide)) | (revert hh; simp [g19_]))
                                              refine AOp.callP Try.call34 rfl rfl rfl fP64 ?_
                                              refine aops_guard 62 true 153 _ rfl rfl rfl rfl rfl (fun _ => ?_) (fun hh => by exfalso; first | (rw [g19_] at hh; exact absurd hh (by decide)) | (revert hh; simp [g19_]))
                                              first
                                              | refine AOp.lenS (by first | exact List.length_map _ | rfl) Try.underlying36 rfl rfl ?_
                                              | refine AOp.lenN Try.underlying36 rfl rfl ?_
                                              | refine AOp.lenR (by first | exact List.length_map _ | rfl) Try.underlying36 (.head _) rfl rfl ?_
                                              | refine AOp.lenR (by first | exact List.length_map _ | rfl) Try.underlying36 (.tail _ (.head _)) rfl rfl ?_
                                              | refine AOp.lenR (by first | exact List.length_map _ | rfl) Try.underlying36 (.tail _ (.tail _ (.head _))) rfl rfl ?_
                                              refine aops_guard 62 true 153 _ rfl rfl rfl rfl rfl (fun _ => ?_) (fun hh => by exfalso; first | (rw [g19_] at hh; exact absurd hh (by decide)) | (revert hh; simp [g19_]))
                                              refine AOp.eql rfl rfl rfl ?_
                                          rotate_right
                                          focus
                                            have g19_ := g19
                                            try simp only [List.length_map, List.length_cons, List.length_nil, nrm] at g19
                                            all_goals try (exfalso; first | (simp at g19_; done) | omega)
                                            all_goals
                                              refine aops_guard 62 true 153 _ rfl rfl rfl rfl rfl (fun hh => by exfalso; first | (rw [g19_] at hh; exact absurd hh (by decide)) | (revert hh; simp [g19_])) (fun _ => ?_)
                                              refine aops_guard 62 true 153 _ rfl rfl rfl rfl rfl (fun hh => by exfalso; first | (rw [g19_] at hh; exact absurd hh (by decide)) | (revert hh; simp [g19_])) (fun _ => ?_)
                                              refine aops_guard 62 true 153 _ rfl rfl rfl rfl rfl (fun hh => by exfalso; first | (rw [g19_] at hh; exact absurd hh (by decide)) | (revert hh; simp [g19_])) (fun _ => ?_)
                                          all_goals
                                            first
                                            | refine aops_cons rfl rfl (AOp.pick_t rfl rfl (by first | assumption | rfl) rfl ?_)
                                            | refine aops_cons rfl rfl (AOp.pick_f rfl rfl (by first | assumption | rfl) rfl ?_)
                                            refine aops_cons rfl rfl (AOp.move rfl rfl ?_)
                                            refine aops_guard 68 true 159 _ rfl rfl rfl rfl rfl (fun g20 => ?_) (fun g20 => ?_)
                                            focus
                                              have g20_ := g20
                                              try simp only [List.length_map, List.length_cons, List.length_nil, nrm] at g20
                                              all_goals try (exfalso; first | (simp at g20_; done) | omega)
                                              all_goals
                                                refine AOp.move rfl rfl ?_
                                                refine aops_guard 68 true 159 _ rfl rfl rfl rfl rfl (fun _ => ?_) (fun hh => by exfalso; first | (rw [g20_] at hh; exact absurd hh (by decide)) | (revert hh; simp [g20_]))
                                                refine AOp.callP Try.call25 rfl rfl rfl fD ?_
                                                refine aops_guard 68 true 159 _ rfl rfl rfl rfl rfl (fun _ => ?_) (fun hh => by exfalso; first | (rw [g20_] at hh; exact absurd hh (by decide)) | (revert hh; simp [g20_]))
                                                first
                                                | refine AOp.lenS (by first | exact List.length_map _ | rfl) Try.underlying36 rfl rfl ?_
                                                | refine AOp.lenN Try.underlying36 rfl rfl ?_
                                                | refine AOp.lenR (by first | exact List.length_map _ | rfl) Try.underlying36 (.head _) rfl rfl ?_
                                                | refine AOp.lenR (by first | exact List.length_map _ | rfl) Try.underlying36 (.tail _ (.head _)) rfl rfl ?_
                                                | refine AOp.lenR (by first | exact List.length_map _ | rfl) Try.underlying36 (.tail _ (.tail _ (.head _))) rfl rfl ?_
                                                refine aops_guard 68 true 159 _ rfl rfl rfl rfl rfl (fun _ => ?_) (fun hh => by exfalso; first | (rw [g20_] at hh; exact absurd hh (by decide)) | (revert hh; simp [g20_]))
                                                refine AOp.eql rfl rfl rfl ?_
                                            rotate_right
                                            focus
                                              have g20_ := g20
                                              try simp only [List.length_map, List.length_cons, List.length_nil, nrm] at g20
                                              all_goals try (exfalso; first | (simp at g20_; done) | omega)
                                              all_goals
                                                refine aops_guard 68 true 159 _ rfl rfl rfl rfl rfl (fun hh => by exfalso; first | (rw [g20_] at hh; exact absurd hh (by decide)) | (revert hh; simp [g20_])) (fun _ => ?_)
                                                refine aops_guard 68 true 159 _ rfl rfl rfl rfl rfl (fun hh => by exfalso; first | (rw [g20_] at hh; exact absurd hh (by decide)) | (revert hh; simp [g20_])) (fun _ => ?_)
                                                refine aops_guard 68 true 159 _ rfl rfl rfl rfl rfl (fun hh => by exfalso; first | (rw [g20_] at hh; exact absurd hh (by decide)) | (revert hh; simp [g20_])) (fun _ => ?_)
                                            all_goals
                                              first
                                              | refine aops_cons rfl rfl (AOp.pick_t rfl rfl (by first | assumption | rfl) rfl ?_)
                                              | refine aops_cons rfl rfl (AOp.pick_f rfl rfl (by first | assumption | rfl) rfl ?_)
                                              refine aops_cons rfl rfl (AOp.move rfl rfl ?_)
                                              refine aops_guard 74 true 165 _ rfl rfl rfl rfl rfl (fun g21 => ?_) (fun g21 => ?_)
                                              focus
                                                have g21_ := g21
                                                try simp only [List.length_map, List.length_cons, List.length_nil, nrm] at g21
                                                all_goals try (exfalso; first | (simp at g21_; done) | omega)
                                                all_goals
                                                  refine AOp.move rfl rfl ?_
                                                  refine aops_guard 74 true 165 _ rfl rfl rfl rfl rfl (fun _ => ?_) (fun hh => by exfalso; first | (rw [g21_] at hh; exact absurd hh (by decide)) | (revert hh; simp [g21_]))
                                                  refine AOp.callP Try.call30 rfl rfl rfl fMay ?_
                                              rotate_right
                                              focus
                                                have g21_ := g21
                                                try simp only [List.length_map, List.length_cons, List.length_nil, nrm] at g21
                                                all_goals try (exfalso; first | (simp at g21_; done) | omega)
                                                all_goals
                                                  refine aops_guard 74 true 165 _ rfl rfl rfl rfl rfl (fun hh => by exfalso; first | (rw [g21_] at hh; exact absurd hh (by decide)) | (revert hh; simp [g21_])) (fun _ => ?_)
                                              all_goals
                                                first
                                                | refine aops_cons rfl rfl (AOp.pick_t rfl rfl (by first | assumption | rfl) rfl ?_)
                                                | refine aops_cons rfl rfl (AOp.pick_f rfl rfl (by first | assumption | rfl) rfl ?_)
                                                refine aops_cons rfl rfl (AOp.move rfl rfl ?_)
                                                refine aops_guard 78 true 169 _ rfl rfl rfl rfl rfl (fun g22 => ?_) (fun g22 => ?_)
                                                focus
                                                  have g22_ := g22
                                                  try simp only [List.length_map, List.length_cons, List.length_nil, nrm] at g22
                                                  all_goals try (exfalso; first | (simp at g22_; done) | omega)
                                                  all_goals
                                                    refine AOp.callP Try.call30 rfl rfl rfl fMay0 ?_
                                                rotate_right
                                                focus
                                                  have g22_ := g22
                                                  try simp only [List.length_map, List.length_cons, List.length_nil, nrm] at g22
                                                  all_goals try (exfalso; first | (simp at g22_; done) | omega)
                                                all_goals
                                                  first
                                                  | refine aops_cons rfl rfl (AOp.pick_t rfl rfl (by first | assumption | rfl) rfl ?_)
                                                  | refine aops_cons rfl rfl (AOp.pick_f rfl rfl (by first | assumption | rfl) rfl ?_)
                                                  refine aops_cons rfl rfl (AOp.assign rfl rfl ?_)
                                                  refine aops_nil ?_
                                                  refine aw_ret ?_
                                                  refine ⟨_, (res1 Try.results6 rfl), ?_⟩
                                                  first | rfl | (simp; done) | (simp; omega)
                    all_goals
                      refine aw_seq ?_
                      refine aw_block ?_
                      refine aw_seq ?_
                      have hb : i < bads.length := by show i < 9; omega
                      refine aw_region ?_
                      refine aops_cons rfl rfl (AOp.move rfl rfl ?_)
                      refine aops_cons rfl rfl (AOp.move rfl rfl ?_)
                      first
                      | refine aops_cons rfl rfl (AOp.indexLN Try.underlying72 Try.sizeOf36 rfl rfl rfl (by first | omega | (simp <;> omega) | (simp at * <;> omega)) (fun _ => rfl) ?_)
                      | refine aops_cons rfl rfl (AOp.indexLI Try.underlying72 Try.sizeOf36 rfl rfl rfl (by first | omega | (simp <;> omega) | (simp at * <;> omega)) (by first | omega | (simp <;> omega) | (simp at * <;> omega)) (fun _ => rfl) ?_)
                      | refine aops_cons rfl rfl (AOp.indexS Try.underlying72 Try.sizeOf36 (by assumption) rfl rfl rfl (by first | omega | (simp <;> omega) | (simp at * <;> omega)) (by assumption) ?_)
                      | refine aops_cons rfl rfl (AOp.indexS Try.underlying72 Try.sizeOf36 (by assumption) rfl rfl rfl (by first | omega | (simp <;> omega) | (simp at * <;> omega)) (List.getElem?_eq_getElem (by first | omega | (simp <;> omega) | (simp at * <;> omega))) ?_)
                      | refine aops_cons rfl rfl (AOp.indexS Try.underlying72 Try.sizeOf36 (by exact all_len rfl) rfl rfl rfl (by first | omega | (simp <;> omega) | (simp at * <;> omega)) rfl ?_)
                      | refine aops_cons rfl rfl (AOp.indexR Try.underlying72 Try.sizeOf36 (.head _) rfl rfl rfl (by first | omega | (simp <;> omega) | (simp at * <;> omega)) (by first | omega | (simp <;> omega) | (simp at * <;> omega)) ?_)
                      | refine aops_cons rfl rfl (AOp.indexR Try.underlying72 Try.sizeOf36 (.tail _ (.head _)) rfl rfl rfl (by first | omega | (simp <;> omega) | (simp at * <;> omega)) (by first | omega | (simp <;> omega) | (simp at * <;> omega)) ?_)
                      | refine aops_cons rfl rfl (AOp.indexR Try.underlying72 Try.sizeOf36 (.tail _ (.tail _ (.head _))) rfl rfl rfl (by first | omega | (simp <;> omega) | (simp at * <;> omega)) (by first | omega | (simp <;> omega) | (simp at * <;> omega)) ?_)
                      first
                      | refine aops_cons rfl rfl (AOp.load1 Try.isAgg36 rfl rfl (reads_im _ _) rfl ?_)
                      | refine aops_cons rfl rfl (AOp.load1 Try.isAgg36 rfl rfl (reads_box _ (.head _)) rfl ?_)
                      | refine aops_cons rfl rfl (AOp.load1 Try.isAgg36 rfl rfl (reads_box _ (.tail _ (.head _))) rfl ?_)
                      | refine aops_cons rfl rfl (AOp.load1 Try.isAgg36 rfl rfl (reads_box _ (.tail _ (.tail _ (.head _)))) rfl ?_)
                      | refine aops_cons rfl rfl (AOp.load1 Try.isAgg36 rfl rfl (reads_row _ (.head _) (idx_nat (by first | omega | (simp <;> omega) | (simp at * <;> omega))) (by first | omega | (simp <;> omega) | (simp at * <;> omega))) rfl ?_)
                      | refine aops_cons rfl rfl (AOp.load1 Try.isAgg36 rfl rfl (reads_row _ (.head _) (idx_map (by first | omega | (simp <;> omega) | (simp at * <;> omega))) (by first | omega | (simp <;> omega) | (simp at * <;> omega))) rfl ?_)
                      | refine aops_cons rfl rfl (AOp.load1 Try.isAgg36 rfl rfl (reads_row _ (.head _) (by assumption) (by first | omega | (simp <;> omega) | (simp at * <;> omega))) rfl ?_)
                      | refine aops_cons rfl rfl (AOp.load1 Try.isAgg36 rfl rfl (reads_row _ (.tail _ (.head _)) (idx_nat (by first | omega | (simp <;> omega) | (simp at * <;> omega))) (by first | omega | (simp <;> omega) | (simp at * <;> omega))) rfl ?_)
                      | refine aops_cons rfl rfl (AOp.load1 Try.isAgg36 rfl rfl (reads_row _ (.tail _ (.head _)) (idx_map (by first | omega | (simp <;> omega) | (simp at * <;> omega))) (by first | omega | (simp <;> omega) | (simp at * <;> omega))) rfl ?_)
                      | refine aops_cons rfl rfl (AOp.load1 Try.isAgg36 rfl rfl (reads_row _ (.tail _ (.head _)) (by assumption) (by first | omega | (simp <;> omega) | (simp at * <;> omega))) rfl ?_)
                      | refine aops_cons rfl rfl (AOp.load1 Try.isAgg36 rfl rfl (reads_row _ (.tail _ (.tail _ (.head _))) (idx_nat (by first | omega | (simp <;> omega) | (simp at * <;> omega))) (by first | omega | (simp <;> omega) | (simp at * <;> omega))) rfl ?_)
                      | refine aops_cons rfl rfl (AOp.load1 Try.isAgg36 rfl rfl (reads_row _ (.tail _ (.tail _ (.head _))) (idx_map (by first | omega | (simp <;> omega) | (simp at * <;> omega))) (by first | omega | (simp <;> omega) | (simp at * <;> omega))) rfl ?_)
                      | refine aops_cons rfl rfl (AOp.load1 Try.isAgg36 rfl rfl (reads_row _ (.tail _ (.tail _ (.head _))) (by assumption) (by first | omega | (simp <;> omega) | (simp at * <;> omega))) rfl ?_)
                      refine aops_cons rfl rfl (AOp.callP Try.call30 rfl rfl rfl (by exact mayBad i hb) ?_)
                      refine aops_nil ?_
                      refine aw_cond _ rfl (fun h23 => ?_) (fun h23 => ?_)
                      focus
                        have h23_ := h23
                        try simp only [List.length_map, List.length_cons, List.length_nil, nrm] at h23
                        all_goals try (exfalso; first | (simp at h23_; done) | omega)
                        all_goals
                          refine aw_seq ?_
                          refine aw_region ?_
                          refine aops_cons rfl rfl (AOp.assign rfl rfl ?_)
                          refine aops_nil ?_
                          refine aw_ret ?_
                          refine ⟨_, (res1 Try.results6 rfl), ?_⟩
                          first | rfl | (simp; done) | (simp; omega)
                      rotate_right
                      focus
                        have h23_ := h23
                        try simp only [List.length_map, List.length_cons, List.length_nil, nrm] at h23
                        all_goals try (exfalso; first | (simp at h23_; done) | omega)
                        all_goals
                          refine aw_skip ?_
                          skip
                      all_goals
                        refine aw_region ?_
                        refine aops_cons rfl rfl (AOp.move rfl rfl ?_)
                        first
                        | refine aops_cons rfl rfl (AOp.addE rfl rfl rfl (by first | omega | (simp <;> omega) | (simp at * <;> omega)) (by first | omega | (simp <;> omega) | (simp at * <;> omega)) ?_)
                        | refine aops_cons rfl rfl (AOp.add rfl rfl rfl rfl ?_)
                        refine aops_cons rfl rfl (AOp.assign rfl rfl ?_)
                        refine aops_nil ?_
                        refine ⟨i + 1, ?_, ?_, (wk_env (sube_cons rfl (sube_cons rfl (sube_cons rfl (sube_cons rfl (sube_cons rfl (sube_nil _)))))))⟩
                        · dsimp only; omega
                        · dsimp only; omega

end Go.Proofs.Ytdlkmimgdghgcaa
