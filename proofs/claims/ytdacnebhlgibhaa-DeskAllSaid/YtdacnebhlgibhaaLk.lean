/- Own text: leases that are made of numbers. -/
import Derived.Test.YtdacnebhlgibhaaLj
set_option linter.unusedVariables false
set_option linter.unusedSimpArgs false
set_option linter.all false
set_option maxRecDepth 100000
set_option maxHeartbeats 2000000
namespace Go.Proofs.Ytdacnebhlgibhaa
open Go Go.Aw

def be (b : UInt8) : List AV := [.sc (.int .u8 (b.toNat : Int))]
def bytes (l : List UInt8) : AV := .sl (l.map be)
/-- Numbers from which choices are read. -/
def picksB (b : Nat) (l : List UInt8) (n : Nat) : Blk := .box b 95 [bytes l, .sc (.int .i64 (n : Int))]
def ptr (b : Nat) : AV := .sc (.pointer (some ⟨b, 0, none⟩))
def numV (l : List UInt8) (n : Nat) (m : Int) : Int := if h : n < l.length ∧ 1 ≤ m then ((l[n]'h.1).toNat : Int) % m else 0
def numN (l : List UInt8) (n : Nat) (m : Int) : Nat := if n < l.length ∧ 1 ≤ m then n + 1 else n

theorem made (l : List UInt8) : ACalls Try.prog 14 [bytes l] [] (fun r A' => ∃ b, r = ptr b ∧ A' = [picksB b l 0]) (fun _ _ => False) := by
  refine acallsN Try.func14 rfl Try.ntmps14 rfl ?_
  refine aw_seq ?_
  refine aw_region ?_
  refine aops_cons rfl rfl (AOp.assign rfl rfl ?_)
  refine aops_nil ?_
  refine aw_seq ?_
  refine aw_region ?_
  refine aops_cons rfl rfl (AOp.move rfl rfl ?_)
  refine aops_cons rfl rfl (AOp.build' (places := [(0, 1), (1, 1)]) Try.zeroValue95 (by kernel_rfl) (by kernel_rfl) Try.underlying95 (by kernel_rfl) rfl rfl rfl rfl ?_)
  refine aops_cons rfl rfl (AOp.box rfl rfl rfl ?_); intro b1
  refine aops_cons rfl rfl (AOp.assign rfl rfl ?_)
  refine aops_nil ?_
  refine aw_ret ?_
  refine ⟨_, (res1 Try.results14 rfl), ?_⟩
  exact ⟨_, rfl, rfl⟩

theorem num (l : List UInt8) (n : Nat) (m : Int) (b : Nat) (hn : n ≤ l.length) (hl : l.length ≤ 1000000) (hm : m ≤ 1000000) : ACalls Try.prog 47 [ptr b, .sc (.int .i64 m)] [picksB b l n] (fun r A' => r = .sc (.int .i64 (numV l n m)) ∧ A' = [picksB b l (numN l n m)]) (fun _ _ => False) := by
  unfold picksB ptr
  refine acallsN Try.func47 rfl Try.ntmps47 rfl ?_
  refine aw_seq ?_
  refine aw_region ?_
  refine aops_cons rfl rfl (AOp.assign rfl rfl ?_)
  refine aops_nil ?_
  refine aw_seq ?_
  refine aw_seq ?_
  refine aw_draw 9 [0, 0, 0, 0, 0, 0, 0, 0, 0] (by kernel_rfl) (by kernel_rfl) ?_
  refine psq_cons _ rfl (core0 (AOp.move rfl rfl ⟨rfl, rfl⟩)) ?_
  first
  | refine psq_cons _ rfl (core0 (AOp.nilCheck rfl rfl nil_im ⟨rfl, rfl⟩)) ?_
  | refine psq_cons _ rfl (core0 (AOp.nilCheck rfl rfl nil_sc ⟨rfl, rfl⟩)) ?_
  first
  | refine psq_cons _ rfl (core0 (AOp.fieldI Try.underlying95 rfl Try.sizeOf3 (by decide) rfl rfl rfl ⟨rfl, rfl⟩)) ?_
  | refine psq_cons _ rfl (core0 (AOp.fieldB Try.underlying95 rfl Try.sizeOf3 (by decide) rfl rfl rfl ⟨rfl, rfl⟩)) ?_
  | refine psq_cons _ rfl (core0 (AOp.fieldR Try.underlying95 rfl Try.sizeOf3 (by decide) rfl rfl rfl ⟨rfl, rfl⟩)) ?_
  first
  | refine psq_cons _ rfl (core0 (AOp.load1 Try.isAgg3 rfl rfl (reads_im _ _) rfl ⟨rfl, rfl⟩)) ?_
  | refine psq_cons _ rfl (core0 (AOp.load1 Try.isAgg3 rfl rfl (reads_box _ (.head _)) rfl ⟨rfl, rfl⟩)) ?_
  | refine psq_cons _ rfl (core0 (AOp.load1 Try.isAgg3 rfl rfl (reads_box _ (.tail _ (.head _))) rfl ⟨rfl, rfl⟩)) ?_
  | refine psq_cons _ rfl (core0 (AOp.load1 Try.isAgg3 rfl rfl (reads_row _ (.head _) (idx_nat (by first | first | omega | (simp <;> omega) | (simp at * <;> omega) | (have := UInt8.toNat_lt (l[(↑n + 1 - 1 : Int).toNat]'(by omega)); omega))) (by first | first | omega | (simp <;> omega) | (simp at * <;> omega) | (have := UInt8.toNat_lt (l[(↑n + 1 - 1 : Int).toNat]'(by omega)); omega))) rfl ⟨rfl, rfl⟩)) ?_
  | refine psq_cons _ rfl (core0 (AOp.load1 Try.isAgg3 rfl rfl (reads_row _ (.head _) (idx_map (by first | first | omega | (simp <;> omega) | (simp at * <;> omega) | (have := UInt8.toNat_lt (l[(↑n + 1 - 1 : Int).toNat]'(by omega)); omega))) (by first | first | omega | (simp <;> omega) | (simp at * <;> omega) | (have := UInt8.toNat_lt (l[(↑n + 1 - 1 : Int).toNat]'(by omega)); omega))) rfl ⟨rfl, rfl⟩)) ?_
  | refine psq_cons _ rfl (core0 (AOp.load1 Try.isAgg3 rfl rfl (reads_row _ (.head _) (by assumption) (by first | first | omega | (simp <;> omega) | (simp at * <;> omega) | (have := UInt8.toNat_lt (l[(↑n + 1 - 1 : Int).toNat]'(by omega)); omega))) rfl ⟨rfl, rfl⟩)) ?_
  | refine psq_cons _ rfl (core0 (AOp.load1 Try.isAgg3 rfl rfl (reads_row _ (.tail _ (.head _)) (idx_nat (by first | first | omega | (simp <;> omega) | (simp at * <;> omega) | (have := UInt8.toNat_lt (l[(↑n + 1 - 1 : Int).toNat]'(by omega)); omega))) (by first | first | omega | (simp <;> omega) | (simp at * <;> omega) | (have := UInt8.toNat_lt (l[(↑n + 1 - 1 : Int).toNat]'(by omega)); omega))) rfl ⟨rfl, rfl⟩)) ?_
  | refine psq_cons _ rfl (core0 (AOp.load1 Try.isAgg3 rfl rfl (reads_row _ (.tail _ (.head _)) (idx_map (by first | first | omega | (simp <;> omega) | (simp at * <;> omega) | (have := UInt8.toNat_lt (l[(↑n + 1 - 1 : Int).toNat]'(by omega)); omega))) (by first | first | omega | (simp <;> omega) | (simp at * <;> omega) | (have := UInt8.toNat_lt (l[(↑n + 1 - 1 : Int).toNat]'(by omega)); omega))) rfl ⟨rfl, rfl⟩)) ?_
  | refine psq_cons _ rfl (core0 (AOp.load1 Try.isAgg3 rfl rfl (reads_row _ (.tail _ (.head _)) (by assumption) (by first | first | omega | (simp <;> omega) | (simp at * <;> omega) | (have := UInt8.toNat_lt (l[(↑n + 1 - 1 : Int).toNat]'(by omega)); omega))) rfl ⟨rfl, rfl⟩)) ?_
  refine psq_cons _ rfl (core0 (AOp.move rfl rfl ⟨rfl, rfl⟩)) ?_
  first
  | refine psq_cons _ rfl (core0 (AOp.nilCheck rfl rfl nil_im ⟨rfl, rfl⟩)) ?_
  | refine psq_cons _ rfl (core0 (AOp.nilCheck rfl rfl nil_sc ⟨rfl, rfl⟩)) ?_
  first
  | refine psq_cons _ rfl (core0 (AOp.fieldI Try.underlying95 rfl Try.sizeOf22 (by decide) rfl rfl rfl ⟨rfl, rfl⟩)) ?_
  | refine psq_cons _ rfl (core0 (AOp.fieldB Try.underlying95 rfl Try.sizeOf22 (by decide) rfl rfl rfl ⟨rfl, rfl⟩)) ?_
  | refine psq_cons _ rfl (core0 (AOp.fieldR Try.underlying95 rfl Try.sizeOf22 (by decide) rfl rfl rfl ⟨rfl, rfl⟩)) ?_
  first
  | refine psq_cons _ rfl (core0 (AOp.load1 Try.isAgg22 rfl rfl (reads_im _ _) rfl ⟨rfl, rfl⟩)) ?_
  | refine psq_cons _ rfl (core0 (AOp.load1 Try.isAgg22 rfl rfl (reads_box _ (.head _)) rfl ⟨rfl, rfl⟩)) ?_
  | refine psq_cons _ rfl (core0 (AOp.load1 Try.isAgg22 rfl rfl (reads_box _ (.tail _ (.head _))) rfl ⟨rfl, rfl⟩)) ?_
  | refine psq_cons _ rfl (core0 (AOp.load1 Try.isAgg22 rfl rfl (reads_row _ (.head _) (idx_nat (by first | first | omega | (simp <;> omega) | (simp at * <;> omega) | (have := UInt8.toNat_lt (l[(↑n + 1 - 1 : Int).toNat]'(by omega)); omega))) (by first | first | omega | (simp <;> omega) | (simp at * <;> omega) | (have := UInt8.toNat_lt (l[(↑n + 1 - 1 : Int).toNat]'(by omega)); omega))) rfl ⟨rfl, rfl⟩)) ?_
  | refine psq_cons _ rfl (core0 (AOp.load1 Try.isAgg22 rfl rfl (reads_row _ (.head _) (idx_map (by first | first | omega | (simp <;> omega) | (simp at * <;> omega) | (have := UInt8.toNat_lt (l[(↑n + 1 - 1 : Int).toNat]'(by omega)); omega))) (by first | first | omega | (simp <;> omega) | (simp at * <;> omega) | (have := UInt8.toNat_lt (l[(↑n + 1 - 1 : Int).toNat]'(by omega)); omega))) rfl ⟨rfl, rfl⟩)) ?_
  | refine psq_cons _ rfl (core0 (AOp.load1 Try.isAgg22 rfl rfl (reads_row _ (.head _) (by assumption) (by first | first | omega | (simp <;> omega) | (simp at * <;> omega) | (have := UInt8.toNat_lt (l[(↑n + 1 - 1 : Int).toNat]'(by omega)); omega))) rfl ⟨rfl, rfl⟩)) ?_
  | refine psq_cons _ rfl (core0 (AOp.load1 Try.isAgg22 rfl rfl (reads_row _ (.tail _ (.head _)) (idx_nat (by first | first | omega | (simp <;> omega) | (simp at * <;> omega) | (have := UInt8.toNat_lt (l[(↑n + 1 - 1 : Int).toNat]'(by omega)); omega))) (by first | first | omega | (simp <;> omega) | (simp at * <;> omega) | (have := UInt8.toNat_lt (l[(↑n + 1 - 1 : Int).toNat]'(by omega)); omega))) rfl ⟨rfl, rfl⟩)) ?_
  | refine psq_cons _ rfl (core0 (AOp.load1 Try.isAgg22 rfl rfl (reads_row _ (.tail _ (.head _)) (idx_map (by first | first | omega | (simp <;> omega) | (simp at * <;> omega) | (have := UInt8.toNat_lt (l[(↑n + 1 - 1 : Int).toNat]'(by omega)); omega))) (by first | first | omega | (simp <;> omega) | (simp at * <;> omega) | (have := UInt8.toNat_lt (l[(↑n + 1 - 1 : Int).toNat]'(by omega)); omega))) rfl ⟨rfl, rfl⟩)) ?_
  | refine psq_cons _ rfl (core0 (AOp.load1 Try.isAgg22 rfl rfl (reads_row _ (.tail _ (.head _)) (by assumption) (by first | first | omega | (simp <;> omega) | (simp at * <;> omega) | (have := UInt8.toNat_lt (l[(↑n + 1 - 1 : Int).toNat]'(by omega)); omega))) rfl ⟨rfl, rfl⟩)) ?_
  first
  | refine psq_cons _ rfl (core0 (AOp.lenS (by first | exact List.length_map _ | rfl) Try.underlying22 rfl rfl ⟨rfl, rfl⟩)) ?_
  | refine psq_cons _ rfl (core0 (AOp.lenN Try.underlying22 rfl rfl ⟨rfl, rfl⟩)) ?_
  | refine psq_cons _ rfl (core0 (AOp.lenR (by first | exact List.length_map _ | rfl) Try.underlying22 (.head _) rfl rfl ⟨rfl, rfl⟩)) ?_
  | refine psq_cons _ rfl (core0 (AOp.lenR (by first | exact List.length_map _ | rfl) Try.underlying22 (.tail _ (.head _)) rfl rfl ⟨rfl, rfl⟩)) ?_
  refine psq_nil ?_
  refine aops_cons rfl rfl (AOp.geq rfl rfl rfl ?_)
  refine aops_cons rfl rfl (AOp.move rfl rfl ?_)
  refine aops_guard 10 false 15 _ rfl rfl rfl rfl rfl (fun g1 => ?_) (fun g1 => ?_)
  focus
    have g1_ := g1
    try simp only [List.length_map, List.length_cons, List.length_nil, nrm] at g1
    all_goals try (exfalso; first | (simp at g1_; done) | omega)
    all_goals
      refine AOp.move rfl rfl ?_
      refine aops_guard 10 false 15 _ rfl rfl rfl rfl rfl (fun _ => ?_) (fun hh => by exfalso; first | (rw [g1_] at hh; exact absurd hh (by decide)) | (revert hh; simp [g1_]))
      refine AOp.lss rfl rfl rfl ?_
  rotate_right
  focus
    have g1_ := g1
    try simp only [List.length_map, List.length_cons, List.length_nil, nrm] at g1
    all_goals try (exfalso; first | (simp at g1_; done) | omega)
    all_goals
      refine aops_guard 10 false 15 _ rfl rfl rfl rfl rfl (fun hh => by exfalso; first | (rw [g1_] at hh; exact absurd hh (by decide)) | (revert hh; simp [g1_])) (fun _ => ?_)
  all_goals
    first
    | refine aops_cons rfl rfl (AOp.pick_t rfl rfl (by first | assumption | rfl) rfl ?_)
    | refine aops_cons rfl rfl (AOp.pick_f rfl rfl (by first | assumption | rfl) rfl ?_)
    refine aops_nil ?_
    refine aw_cond _ rfl (fun h2 => ?_) (fun h2 => ?_)
    focus
      have h2_ := h2
      try simp only [List.length_map, List.length_cons, List.length_nil, nrm] at h2
      all_goals try (exfalso; first | (simp at h2_; done) | omega)
      all_goals
        refine aw_seq ?_
        refine aw_region ?_
        refine aops_cons rfl rfl (AOp.assign rfl rfl ?_)
        refine aops_nil ?_
        refine aw_ret ?_
        refine ⟨_, (res1 Try.results47 rfl), ?_⟩
        have hno : ¬ (n < l.length ∧ 1 ≤ m) := by omega
        unfold numV numN
        rw [dif_neg hno, if_neg hno]; exact ⟨rfl, rfl⟩
    rotate_right
    focus
      have h2_ := h2
      try simp only [List.length_map, List.length_cons, List.length_nil, nrm] at h2
      all_goals try (exfalso; first | (simp at h2_; done) | omega)
      all_goals
        refine aw_skip ?_
        skip
    all_goals
      refine aw_seq ?_
      refine aw_region ?_
      refine aops_cons rfl rfl (AOp.move rfl rfl ?_)
      first
      | refine aops_cons rfl rfl (AOp.nilCheck rfl rfl nil_im ?_)
      | refine aops_cons rfl rfl (AOp.nilCheck rfl rfl nil_sc ?_)
      first
      | refine aops_cons rfl rfl (AOp.fieldI Try.underlying95 rfl Try.sizeOf3 (by decide) rfl rfl rfl ?_)
      | refine aops_cons rfl rfl (AOp.fieldB Try.underlying95 rfl Try.sizeOf3 (by decide) rfl rfl rfl ?_)
      | refine aops_cons rfl rfl (AOp.fieldR Try.underlying95 rfl Try.sizeOf3 (by decide) rfl rfl rfl ?_)
      first
      | refine aops_cons rfl rfl (AOp.load1 Try.isAgg3 rfl rfl (reads_im _ _) rfl ?_)
      | refine aops_cons rfl rfl (AOp.load1 Try.isAgg3 rfl rfl (reads_box _ (.head _)) rfl ?_)
      | refine aops_cons rfl rfl (AOp.load1 Try.isAgg3 rfl rfl (reads_box _ (.tail _ (.head _))) rfl ?_)
      | refine aops_cons rfl rfl (AOp.load1 Try.isAgg3 rfl rfl (reads_row _ (.head _) (idx_nat (by first | first | omega | (simp <;> omega) | (simp at * <;> omega) | (have := UInt8.toNat_lt (l[(↑n + 1 - 1 : Int).toNat]'(by omega)); omega))) (by first | first | omega | (simp <;> omega) | (simp at * <;> omega) | (have := UInt8.toNat_lt (l[(↑n + 1 - 1 : Int).toNat]'(by omega)); omega))) rfl ?_)
      | refine aops_cons rfl rfl (AOp.load1 Try.isAgg3 rfl rfl (reads_row _ (.head _) (idx_map (by first | first | omega | (simp <;> omega) | (simp at * <;> omega) | (have := UInt8.toNat_lt (l[(↑n + 1 - 1 : Int).toNat]'(by omega)); omega))) (by first | first | omega | (simp <;> omega) | (simp at * <;> omega) | (have := UInt8.toNat_lt (l[(↑n + 1 - 1 : Int).toNat]'(by omega)); omega))) rfl ?_)
      | refine aops_cons rfl rfl (AOp.load1 Try.isAgg3 rfl rfl (reads_row _ (.head _) (by assumption) (by first | first | omega | (simp <;> omega) | (simp at * <;> omega) | (have := UInt8.toNat_lt (l[(↑n + 1 - 1 : Int).toNat]'(by omega)); omega))) rfl ?_)
      | refine aops_cons rfl rfl (AOp.load1 Try.isAgg3 rfl rfl (reads_row _ (.tail _ (.head _)) (idx_nat (by first | first | omega | (simp <;> omega) | (simp at * <;> omega) | (have := UInt8.toNat_lt (l[(↑n + 1 - 1 : Int).toNat]'(by omega)); omega))) (by first | first | omega | (simp <;> omega) | (simp at * <;> omega) | (have := UInt8.toNat_lt (l[(↑n + 1 - 1 : Int).toNat]'(by omega)); omega))) rfl ?_)
      | refine aops_cons rfl rfl (AOp.load1 Try.isAgg3 rfl rfl (reads_row _ (.tail _ (.head _)) (idx_map (by first | first | omega | (simp <;> omega) | (simp at * <;> omega) | (have := UInt8.toNat_lt (l[(↑n + 1 - 1 : Int).toNat]'(by omega)); omega))) (by first | first | omega | (simp <;> omega) | (simp at * <;> omega) | (have := UInt8.toNat_lt (l[(↑n + 1 - 1 : Int).toNat]'(by omega)); omega))) rfl ?_)
      | refine aops_cons rfl rfl (AOp.load1 Try.isAgg3 rfl rfl (reads_row _ (.tail _ (.head _)) (by assumption) (by first | first | omega | (simp <;> omega) | (simp at * <;> omega) | (have := UInt8.toNat_lt (l[(↑n + 1 - 1 : Int).toNat]'(by omega)); omega))) rfl ?_)
      first
      | refine aops_cons rfl rfl (AOp.addE rfl rfl rfl (by first | first | omega | (simp <;> omega) | (simp at * <;> omega) | (have := UInt8.toNat_lt (l[(↑n + 1 - 1 : Int).toNat]'(by omega)); omega)) (by first | first | omega | (simp <;> omega) | (simp at * <;> omega) | (have := UInt8.toNat_lt (l[(↑n + 1 - 1 : Int).toNat]'(by omega)); omega)) ?_)
      | refine aops_cons rfl rfl (AOp.add rfl rfl rfl rfl ?_)
      first
      | refine aops_cons rfl rfl (AOp.nilCheck rfl rfl nil_im ?_)
      | refine aops_cons rfl rfl (AOp.nilCheck rfl rfl nil_sc ?_)
      first
      | refine aops_cons rfl rfl (AOp.fieldI Try.underlying95 rfl Try.sizeOf3 (by decide) rfl rfl rfl ?_)
      | refine aops_cons rfl rfl (AOp.fieldB Try.underlying95 rfl Try.sizeOf3 (by decide) rfl rfl rfl ?_)
      | refine aops_cons rfl rfl (AOp.fieldR Try.underlying95 rfl Try.sizeOf3 (by decide) rfl rfl rfl ?_)
      first
      | refine aops_cons rfl rfl (AOp.storeB' Try.sizeOf3 rfl rfl rfl rfl rfl (pull_here _ _) rfl rfl ?_)
      | refine aops_cons rfl rfl (AOp.storeB' Try.sizeOf3 rfl rfl rfl rfl rfl (pull_there (pull_here _ _)) rfl rfl ?_)
      | refine aops_cons rfl rfl (AOp.storeR' Try.sizeOf3 rfl rfl rfl rfl rfl (pull_here _ _) (by first | exact idx_nat (by first | first | omega | (simp <;> omega) | (simp at * <;> omega) | (have := UInt8.toNat_lt (l[(↑n + 1 - 1 : Int).toNat]'(by omega)); omega)) | exact idx_map (by first | first | omega | (simp <;> omega) | (simp at * <;> omega) | (have := UInt8.toNat_lt (l[(↑n + 1 - 1 : Int).toNat]'(by omega)); omega)) | assumption) rfl rfl rfl ?_)
      | refine aops_cons rfl rfl (AOp.storeR' Try.sizeOf3 rfl rfl rfl rfl rfl (pull_there (pull_here _ _)) (by first | exact idx_nat (by first | first | omega | (simp <;> omega) | (simp at * <;> omega) | (have := UInt8.toNat_lt (l[(↑n + 1 - 1 : Int).toNat]'(by omega)); omega)) | exact idx_map (by first | first | omega | (simp <;> omega) | (simp at * <;> omega) | (have := UInt8.toNat_lt (l[(↑n + 1 - 1 : Int).toNat]'(by omega)); omega)) | assumption) rfl rfl rfl ?_)
      refine aops_nil ?_
      refine aw_seq ?_
      refine aw_draw 13 [0, 0, 0, 0, 0, 0, 0, 0, 0, 0, 0, 0, 0] (by kernel_rfl) (by kernel_rfl) ?_
      refine psq_cons _ rfl (core0 (AOp.move rfl rfl ⟨rfl, rfl⟩)) ?_
      first
      | refine psq_cons _ rfl (core0 (AOp.nilCheck rfl rfl nil_im ⟨rfl, rfl⟩)) ?_
      | refine psq_cons _ rfl (core0 (AOp.nilCheck rfl rfl nil_sc ⟨rfl, rfl⟩)) ?_
      first
      | refine psq_cons _ rfl (core0 (AOp.fieldI Try.underlying95 rfl Try.sizeOf22 (by decide) rfl rfl rfl ⟨rfl, rfl⟩)) ?_
      | refine psq_cons _ rfl (core0 (AOp.fieldB Try.underlying95 rfl Try.sizeOf22 (by decide) rfl rfl rfl ⟨rfl, rfl⟩)) ?_
      | refine psq_cons _ rfl (core0 (AOp.fieldR Try.underlying95 rfl Try.sizeOf22 (by decide) rfl rfl rfl ⟨rfl, rfl⟩)) ?_
      first
      | refine psq_cons _ rfl (core0 (AOp.load1 Try.isAgg22 rfl rfl (reads_im _ _) rfl ⟨rfl, rfl⟩)) ?_
      | refine psq_cons _ rfl (core0 (AOp.load1 Try.isAgg22 rfl rfl (reads_box _ (.head _)) rfl ⟨rfl, rfl⟩)) ?_
      | refine psq_cons _ rfl (core0 (AOp.load1 Try.isAgg22 rfl rfl (reads_box _ (.tail _ (.head _))) rfl ⟨rfl, rfl⟩)) ?_
      | refine psq_cons _ rfl (core0 (AOp.load1 Try.isAgg22 rfl rfl (reads_row _ (.head _) (idx_nat (by first | first | omega | (simp <;> omega) | (simp at * <;> omega) | (have := UInt8.toNat_lt (l[(↑n + 1 - 1 : Int).toNat]'(by omega)); omega))) (by first | first | omega | (simp <;> omega) | (simp at * <;> omega) | (have := UInt8.toNat_lt (l[(↑n + 1 - 1 : Int).toNat]'(by omega)); omega))) rfl ⟨rfl, rfl⟩)) ?_
      | refine psq_cons _ rfl (core0 (AOp.load1 Try.isAgg22 rfl rfl (reads_row _ (.head _) (idx_map (by first | first | omega | (simp <;> omega) | (simp at * <;> omega) | (have := UInt8.toNat_lt (l[(↑n + 1 - 1 : Int).toNat]'(by omega)); omega))) (by first | first | omega | (simp <;> omega) | (simp at * <;> omega) | (have := UInt8.toNat_lt (l[(↑n + 1 - 1 : Int).toNat]'(by omega)); omega))) rfl ⟨rfl, rfl⟩)) ?_
      | refine psq_cons _ rfl (core0 (AOp.load1 Try.isAgg22 rfl rfl (reads_row _ (.head _) (by assumption) (by first | first | omega | (simp <;> omega) | (simp at * <;> omega) | (have := UInt8.toNat_lt (l[(↑n + 1 - 1 : Int).toNat]'(by omega)); omega))) rfl ⟨rfl, rfl⟩)) ?_
      | refine psq_cons _ rfl (core0 (AOp.load1 Try.isAgg22 rfl rfl (reads_row _ (.tail _ (.head _)) (idx_nat (by first | first | omega | (simp <;> omega) | (simp at * <;> omega) | (have := UInt8.toNat_lt (l[(↑n + 1 - 1 : Int).toNat]'(by omega)); omega))) (by first | first | omega | (simp <;> omega) | (simp at * <;> omega) | (have := UInt8.toNat_lt (l[(↑n + 1 - 1 : Int).toNat]'(by omega)); omega))) rfl ⟨rfl, rfl⟩)) ?_
      | refine psq_cons _ rfl (core0 (AOp.load1 Try.isAgg22 rfl rfl (reads_row _ (.tail _ (.head _)) (idx_map (by first | first | omega | (simp <;> omega) | (simp at * <;> omega) | (have := UInt8.toNat_lt (l[(↑n + 1 - 1 : Int).toNat]'(by omega)); omega))) (by first | first | omega | (simp <;> omega) | (simp at * <;> omega) | (have := UInt8.toNat_lt (l[(↑n + 1 - 1 : Int).toNat]'(by omega)); omega))) rfl ⟨rfl, rfl⟩)) ?_
      | refine psq_cons _ rfl (core0 (AOp.load1 Try.isAgg22 rfl rfl (reads_row _ (.tail _ (.head _)) (by assumption) (by first | first | omega | (simp <;> omega) | (simp at * <;> omega) | (have := UInt8.toNat_lt (l[(↑n + 1 - 1 : Int).toNat]'(by omega)); omega))) rfl ⟨rfl, rfl⟩)) ?_
      refine psq_cons _ rfl (core0 (AOp.move rfl rfl ⟨rfl, rfl⟩)) ?_
      first
      | refine psq_cons _ rfl (core0 (AOp.nilCheck rfl rfl nil_im ⟨rfl, rfl⟩)) ?_
      | refine psq_cons _ rfl (core0 (AOp.nilCheck rfl rfl nil_sc ⟨rfl, rfl⟩)) ?_
      first
      | refine psq_cons _ rfl (core0 (AOp.fieldI Try.underlying95 rfl Try.sizeOf3 (by decide) rfl rfl rfl ⟨rfl, rfl⟩)) ?_
      | refine psq_cons _ rfl (core0 (AOp.fieldB Try.underlying95 rfl Try.sizeOf3 (by decide) rfl rfl rfl ⟨rfl, rfl⟩)) ?_
      | refine psq_cons _ rfl (core0 (AOp.fieldR Try.underlying95 rfl Try.sizeOf3 (by decide) rfl rfl rfl ⟨rfl, rfl⟩)) ?_
      first
      | refine psq_cons _ rfl (core0 (AOp.load1 Try.isAgg3 rfl rfl (reads_im _ _) rfl ⟨rfl, rfl⟩)) ?_
      | refine psq_cons _ rfl (core0 (AOp.load1 Try.isAgg3 rfl rfl (reads_box _ (.head _)) rfl ⟨rfl, rfl⟩)) ?_
      | refine psq_cons _ rfl (core0 (AOp.load1 Try.isAgg3 rfl rfl (reads_box _ (.tail _ (.head _))) rfl ⟨rfl, rfl⟩)) ?_
      | refine psq_cons _ rfl (core0 (AOp.load1 Try.isAgg3 rfl rfl (reads_row _ (.head _) (idx_nat (by first | first | omega | (simp <;> omega) | (simp at * <;> omega) | (have := UInt8.toNat_lt (l[(↑n + 1 - 1 : Int).toNat]'(by omega)); omega))) (by first | first | omega | (simp <;> omega) | (simp at * <;> omega) | (have := UInt8.toNat_lt (l[(↑n + 1 - 1 : Int).toNat]'(by omega)); omega))) rfl ⟨rfl, rfl⟩)) ?_
      | refine psq_cons _ rfl (core0 (AOp.load1 Try.isAgg3 rfl rfl (reads_row _ (.head _) (idx_map (by first | first | omega | (simp <;> omega) | (simp at * <;> omega) | (have := UInt8.toNat_lt (l[(↑n + 1 - 1 : Int).toNat]'(by omega)); omega))) (by first | first | omega | (simp <;> omega) | (simp at * <;> omega) | (have := UInt8.toNat_lt (l[(↑n + 1 - 1 : Int).toNat]'(by omega)); omega))) rfl ⟨rfl, rfl⟩)) ?_
      | refine psq_cons _ rfl (core0 (AOp.load1 Try.isAgg3 rfl rfl (reads_row _ (.head _) (by assumption) (by first | first | omega | (simp <;> omega) | (simp at * <;> omega) | (have := UInt8.toNat_lt (l[(↑n + 1 - 1 : Int).toNat]'(by omega)); omega))) rfl ⟨rfl, rfl⟩)) ?_
      | refine psq_cons _ rfl (core0 (AOp.load1 Try.isAgg3 rfl rfl (reads_row _ (.tail _ (.head _)) (idx_nat (by first | first | omega | (simp <;> omega) | (simp at * <;> omega) | (have := UInt8.toNat_lt (l[(↑n + 1 - 1 : Int).toNat]'(by omega)); omega))) (by first | first | omega | (simp <;> omega) | (simp at * <;> omega) | (have := UInt8.toNat_lt (l[(↑n + 1 - 1 : Int).toNat]'(by omega)); omega))) rfl ⟨rfl, rfl⟩)) ?_
      | refine psq_cons _ rfl (core0 (AOp.load1 Try.isAgg3 rfl rfl (reads_row _ (.tail _ (.head _)) (idx_map (by first | first | omega | (simp <;> omega) | (simp at * <;> omega) | (have := UInt8.toNat_lt (l[(↑n + 1 - 1 : Int).toNat]'(by omega)); omega))) (by first | first | omega | (simp <;> omega) | (simp at * <;> omega) | (have := UInt8.toNat_lt (l[(↑n + 1 - 1 : Int).toNat]'(by omega)); omega))) rfl ⟨rfl, rfl⟩)) ?_
      | refine psq_cons _ rfl (core0 (AOp.load1 Try.isAgg3 rfl rfl (reads_row _ (.tail _ (.head _)) (by assumption) (by first | first | omega | (simp <;> omega) | (simp at * <;> omega) | (have := UInt8.toNat_lt (l[(↑n + 1 - 1 : Int).toNat]'(by omega)); omega))) rfl ⟨rfl, rfl⟩)) ?_
      first
      | refine psq_cons _ rfl (core0 (AOp.subE rfl rfl rfl (by first | first | omega | (simp <;> omega) | (simp at * <;> omega) | (have := UInt8.toNat_lt (l[(↑n + 1 - 1 : Int).toNat]'(by omega)); omega)) (by first | first | omega | (simp <;> omega) | (simp at * <;> omega) | (have := UInt8.toNat_lt (l[(↑n + 1 - 1 : Int).toNat]'(by omega)); omega)) ⟨rfl, rfl⟩)) ?_
      | refine psq_cons _ rfl (core0 (AOp.sub rfl rfl rfl rfl ⟨rfl, rfl⟩)) ?_
      first
      | refine psq_cons _ rfl (core0 (AOp.indexLN Try.underlying22 Try.sizeOf5 rfl rfl rfl (by first | first | omega | (simp <;> omega) | (simp at * <;> omega) | (have := UInt8.toNat_lt (l[(↑n + 1 - 1 : Int).toNat]'(by omega)); omega)) (fun _ => rfl) ⟨rfl, rfl⟩)) ?_
      | refine psq_cons _ rfl (core0 (AOp.indexLI Try.underlying22 Try.sizeOf5 rfl rfl rfl (by first | first | omega | (simp <;> omega) | (simp at * <;> omega) | (have := UInt8.toNat_lt (l[(↑n + 1 - 1 : Int).toNat]'(by omega)); omega)) (by first | first | omega | (simp <;> omega) | (simp at * <;> omega) | (have := UInt8.toNat_lt (l[(↑n + 1 - 1 : Int).toNat]'(by omega)); omega)) (fun _ => rfl) ⟨rfl, rfl⟩)) ?_
      | refine psq_cons _ rfl (core0 (AOp.indexS Try.underlying22 Try.sizeOf5 (by assumption) rfl rfl rfl (by first | first | omega | (simp <;> omega) | (simp at * <;> omega) | (have := UInt8.toNat_lt (l[(↑n + 1 - 1 : Int).toNat]'(by omega)); omega)) (by assumption) ⟨rfl, rfl⟩)) ?_
      | refine psq_cons _ rfl (core0 (AOp.indexS Try.underlying22 Try.sizeOf5 (by assumption) rfl rfl rfl (by first | first | omega | (simp <;> omega) | (simp at * <;> omega) | (have := UInt8.toNat_lt (l[(↑n + 1 - 1 : Int).toNat]'(by omega)); omega)) (List.getElem?_eq_getElem (by first | first | omega | (simp <;> omega) | (simp at * <;> omega) | (have := UInt8.toNat_lt (l[(↑n + 1 - 1 : Int).toNat]'(by omega)); omega))) ⟨rfl, rfl⟩)) ?_
      | refine psq_cons _ rfl (core0 (AOp.indexS Try.underlying22 Try.sizeOf5 (by exact all_len rfl) rfl rfl rfl (by first | first | omega | (simp <;> omega) | (simp at * <;> omega) | (have := UInt8.toNat_lt (l[(↑n + 1 - 1 : Int).toNat]'(by omega)); omega)) rfl ⟨rfl, rfl⟩)) ?_
      | refine psq_cons _ rfl (core0 (AOp.indexR Try.underlying22 Try.sizeOf5 (.head _) rfl rfl rfl (by first | first | omega | (simp <;> omega) | (simp at * <;> omega) | (have := UInt8.toNat_lt (l[(↑n + 1 - 1 : Int).toNat]'(by omega)); omega)) (by first | first | omega | (simp <;> omega) | (simp at * <;> omega) | (have := UInt8.toNat_lt (l[(↑n + 1 - 1 : Int).toNat]'(by omega)); omega)) ⟨rfl, rfl⟩)) ?_
      | refine psq_cons _ rfl (core0 (AOp.indexR Try.underlying22 Try.sizeOf5 (.tail _ (.head _)) rfl rfl rfl (by first | first | omega | (simp <;> omega) | (simp at * <;> omega) | (have := UInt8.toNat_lt (l[(↑n + 1 - 1 : Int).toNat]'(by omega)); omega)) (by first | first | omega | (simp <;> omega) | (simp at * <;> omega) | (have := UInt8.toNat_lt (l[(↑n + 1 - 1 : Int).toNat]'(by omega)); omega)) ⟨rfl, rfl⟩)) ?_
      first
      | refine psq_cons _ rfl (core0 (AOp.load1 Try.isAgg5 rfl rfl (reads_im _ _) rfl ⟨rfl, rfl⟩)) ?_
      | refine psq_cons _ rfl (core0 (AOp.load1 Try.isAgg5 rfl rfl (reads_box _ (.head _)) rfl ⟨rfl, rfl⟩)) ?_
      | refine psq_cons _ rfl (core0 (AOp.load1 Try.isAgg5 rfl rfl (reads_box _ (.tail _ (.head _))) rfl ⟨rfl, rfl⟩)) ?_
      | refine psq_cons _ rfl (core0 (AOp.load1 Try.isAgg5 rfl rfl (reads_row _ (.head _) (idx_nat (by first | first | omega | (simp <;> omega) | (simp at * <;> omega) | (have := UInt8.toNat_lt (l[(↑n + 1 - 1 : Int).toNat]'(by omega)); omega))) (by first | first | omega | (simp <;> omega) | (simp at * <;> omega) | (have := UInt8.toNat_lt (l[(↑n + 1 - 1 : Int).toNat]'(by omega)); omega))) rfl ⟨rfl, rfl⟩)) ?_
      | refine psq_cons _ rfl (core0 (AOp.load1 Try.isAgg5 rfl rfl (reads_row _ (.head _) (idx_map (by first | first | omega | (simp <;> omega) | (simp at * <;> omega) | (have := UInt8.toNat_lt (l[(↑n + 1 - 1 : Int).toNat]'(by omega)); omega))) (by first | first | omega | (simp <;> omega) | (simp at * <;> omega) | (have := UInt8.toNat_lt (l[(↑n + 1 - 1 : Int).toNat]'(by omega)); omega))) rfl ⟨rfl, rfl⟩)) ?_
      | refine psq_cons _ rfl (core0 (AOp.load1 Try.isAgg5 rfl rfl (reads_row _ (.head _) (by assumption) (by first | first | omega | (simp <;> omega) | (simp at * <;> omega) | (have := UInt8.toNat_lt (l[(↑n + 1 - 1 : Int).toNat]'(by omega)); omega))) rfl ⟨rfl, rfl⟩)) ?_
      | refine psq_cons _ rfl (core0 (AOp.load1 Try.isAgg5 rfl rfl (reads_row _ (.tail _ (.head _)) (idx_nat (by first | first | omega | (simp <;> omega) | (simp at * <;> omega) | (have := UInt8.toNat_lt (l[(↑n + 1 - 1 : Int).toNat]'(by omega)); omega))) (by first | first | omega | (simp <;> omega) | (simp at * <;> omega) | (have := UInt8.toNat_lt (l[(↑n + 1 - 1 : Int).toNat]'(by omega)); omega))) rfl ⟨rfl, rfl⟩)) ?_
      | refine psq_cons _ rfl (core0 (AOp.load1 Try.isAgg5 rfl rfl (reads_row _ (.tail _ (.head _)) (idx_map (by first | first | omega | (simp <;> omega) | (simp at * <;> omega) | (have := UInt8.toNat_lt (l[(↑n + 1 - 1 : Int).toNat]'(by omega)); omega))) (by first | first | omega | (simp <;> omega) | (simp at * <;> omega) | (have := UInt8.toNat_lt (l[(↑n + 1 - 1 : Int).toNat]'(by omega)); omega))) rfl ⟨rfl, rfl⟩)) ?_
      | refine psq_cons _ rfl (core0 (AOp.load1 Try.isAgg5 rfl rfl (reads_row _ (.tail _ (.head _)) (by assumption) (by first | first | omega | (simp <;> omega) | (simp at * <;> omega) | (have := UInt8.toNat_lt (l[(↑n + 1 - 1 : Int).toNat]'(by omega)); omega))) rfl ⟨rfl, rfl⟩)) ?_
      first
      | refine psq_cons _ rfl (core0 (AOp.conviI Try.underlying5 Try.underlying3 rfl rfl (by first | first | omega | (simp <;> omega) | (simp at * <;> omega) | (have := UInt8.toNat_lt (l[(↑n + 1 - 1 : Int).toNat]'(by omega)); omega)) (by first | first | omega | (simp <;> omega) | (simp at * <;> omega) | (have := UInt8.toNat_lt (l[(↑n + 1 - 1 : Int).toNat]'(by omega)); omega)) ⟨rfl, rfl⟩)) ?_
      | refine psq_cons _ rfl (core0 (AOp.convi Try.underlying5 Try.underlying3 rfl rfl rfl ⟨rfl, rfl⟩)) ?_
      refine psq_cons _ rfl (core0 (AOp.move rfl rfl ⟨rfl, rfl⟩)) ?_
      refine psq_nil ?_
      refine aops_cons rfl rfl (AOp.rem rfl rfl rfl (by first | decide | omega) rfl ?_)
      refine aops_cons rfl rfl (AOp.assign rfl rfl ?_)
      refine aops_nil ?_
      refine aw_ret ?_
      refine ⟨_, (res1 Try.results47 rfl), ?_⟩
      have hyes : n < l.length ∧ 1 ≤ m := by omega
      unfold numV numN
      rw [dif_pos hyes, if_pos hyes]
      refine ⟨?_, rfl⟩
      rw [Int.tmod_eq_emod_of_nonneg (by omega)]
      have e : ((n : Int) + 1 - 1).toNat = n := by omega
      simp only [e]


theorem numV_lt (l : List UInt8) (n : Nat) (m : Int) (h : 1 ≤ m) : 0 ≤ numV l n m ∧ numV l n m < m := by
  unfold numV
  split
  · exact ⟨Int.emod_nonneg _ (by omega), Int.emod_lt_of_pos _ (by omega)⟩
  · omega
theorem numN_le (l : List UInt8) (n : Nat) (m : Int) (h : n ≤ l.length) : numN l n m ≤ l.length := by
  unfold numN
  split
  · omega
  · exact h
/-- Leases made of numbers. -/
def leaf1 (l : List UInt8) (n : Nat) : L := ⟨1 + numV l n 3, 1 + numV l (numN l n 3) 3, 1 + numV l (numN l (numN l n 3) 3) 2, numV l (numN l (numN l (numN l n 3) 3) 2) 200⟩
def leafN (l : List UInt8) (n : Nat) : Nat := numN l (numN l (numN l (numN l n 3) 3) 2) 200
def goodL (x : List L) (k : Nat) : Prop := srt x ∧ x.length ≤ k ∧ ∀ y ∈ x, 1 ≤ y.c ∧ y.c ≤ 3 ∧ 1 ≤ y.f ∧ y.f ≤ 3 ∧ 1 ≤ y.m ∧ y.m ≤ 2 ∧ 0 ≤ y.u ∧ y.u < 200
theorem goodL_step {x : List L} {k n : Nat} (l : List UInt8) (h : goodL x k) : goodL (gr2 x (leaf1 l n)) (k + 1) := by
  obtain ⟨h1, h2, h3⟩ := h
  have hx : 1 ≤ (leaf1 l n).c ∧ (leaf1 l n).c ≤ 3 ∧ 1 ≤ (leaf1 l n).f ∧ (leaf1 l n).f ≤ 3 ∧ 1 ≤ (leaf1 l n).m ∧ (leaf1 l n).m ≤ 2 ∧ 0 ≤ (leaf1 l n).u ∧ (leaf1 l n).u < 200 := by
    have a1 := numV_lt l n 3 (by decide)
    have a2 := numV_lt l (numN l n 3) 3 (by decide)
    have a3 := numV_lt l (numN l (numN l n 3) 3) 2 (by decide)
    have a4 := numV_lt l (numN l (numN l (numN l n 3) 3) 2) 200 (by decide)
    unfold leaf1; simp only; omega
  refine ⟨srt_gr2 h1, by have := (len_gr2 x (leaf1 l n)).2; omega, fun y hy => ?_⟩
  rcases mem_gr2 hy with h | rfl | ⟨a, ha, _, rfl⟩
  · exact h3 y h
  · exact hx
  · have := h3 a ha
    unfold up; simp only; omega

end Go.Proofs.Ytdacnebhlgibhaa
