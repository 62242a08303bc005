/- Own text: leases that are made of numbers. -/
import Derived.Test.YtdlkmimgdghgcaaLj
set_option linter.unusedVariables false
set_option linter.unusedSimpArgs false
set_option linter.all false
set_option maxRecDepth 100000
set_option maxHeartbeats 2000000
namespace Go.Proofs.Ytdlkmimgdghgcaa
open Go Go.Aw

def be (b : UInt8) : List AV := [.sc (.int .u8 (b.toNat : Int))]
def bytes (l : List UInt8) : AV := .sl (l.map be)
/-- Numbers from which choices are read. -/
def picksB (b : Nat) (l : List UInt8) (n : Nat) : Blk := .box b 93 [bytes l, .sc (.int .i64 (n : Int))]
def ptr (b : Nat) : AV := .sc (.pointer (some ⟨b, 0, none⟩))
def numV (l : List UInt8) (n : Nat) (m : Int) : Int := if h : n < l.length ∧ 1 ≤ m then ((l[n]'h.1).toNat : Int) % m else 0
def numN (l : List UInt8) (n : Nat) (m : Int) : Nat := if n < l.length ∧ 1 ≤ m then n + 1 else n

theorem made (l : List UInt8) : ACalls Try.prog 14 [bytes l] [] (fun r A' => ∃ b, r = ptr b ∧ A' = [picksB b l 0]) (fun _ _ => False) := by
  refine acallsN Try.func14 rfl Try.ntmps14 rfl ?_
  refine aw_seq ?_
  refine aw_region ?_
  refine aops_cons rfl rfl (AOp.assign rfl rfl ?_)
  refine aops_nil ?_
  refine aw_seq ?_
  refine aw_region ?_
  refine aops_cons rfl rfl (AOp.move rfl rfl ?_)
  refine aops_cons rfl rfl (AOp.build' (places := [(0, 1), (1, 1)]) Try.zeroValue93 (by kernel_rfl) (by kernel_rfl) Try.underlying93 (by kernel_rfl) rfl rfl rfl rfl ?_)
  refine aops_cons rfl rfl (AOp.box rfl rfl rfl ?_); intro b1
  refine aops_cons rfl rfl (AOp.assign rfl rfl ?_)
  refine aops_nil ?_
  refine aw_ret ?_
  refine ⟨_, (res1 Try.results14 rfl), ?_⟩
  exact ⟨_, rfl, rfl⟩

theorem num (l : List UInt8) (n : Nat) (m : Int) (b : Nat) (hn : n ≤ l.length) (hl : l.length ≤ 1000000) (hm : m ≤ 1000000) : ACalls Try.prog 51 [ptr b, .sc (.int .i64 m)] [picksB b l n] (fun r A' => r = .sc (.int .i64 (numV l n m)) ∧ A' = [picksB b l (numN l n m)]) (fun _ _ => False) := by
  unfold picksB ptr
  refine acallsN Try.func51 rfl Try.ntmps51 rfl ?_
  refine aw_seq ?_
  refine aw_region ?_
  refine aops_cons rfl rfl (AOp.assign rfl rfl ?_)
  refine aops_nil ?_
  refine aw_seq ?_
  refine aw_seq ?_
  refine aw_draw 9 [0, 0, 0, 0, 0, 0, 0, 0, 0] (by kernel_rfl) (by kernel_rfl) ?_
  refine psq_cons _ rfl (core0 (AOp.move rfl rfl ⟨rfl, rfl⟩)) ?_
  first
  | refine psq_cons _ rfl (core0 (AOp.nilCheck rfl rfl nil_im ⟨rfl, rfl⟩)) ?_
  | refine psq_cons _ rfl (core0 (AOp.nilCheck rfl rfl nil_sc ⟨rfl, rfl⟩)) ?_
  first
  | refine psq_cons _ rfl (core0 (AOp.fieldI Try.underlying93 rfl Try.sizeOf3 (by decide) rfl rfl rfl ⟨rfl, rfl⟩)) ?_
  | refine psq_cons _ rfl (core0 (AOp.fieldB Try.underlying93 rfl Try.sizeOf3 (by decide) rfl rfl rfl ⟨rfl, rfl⟩)) ?_
  | refine psq_cons _ rfl (core0 (AOp.fieldR Try.underlying93 rfl Try.sizeOf3 (by decide) rfl rfl rfl ⟨rfl, rfl⟩)) ?_
  first
  | refine psq_cons _ rfl (core0 (AOp.load1 Try.isAgg3 rfl rfl (reads_im _ _) rfl ⟨rfl, rfl⟩)) ?_
  | refine psq_cons _ rfl (core0 (AOp.load1 Try.isAgg3 rfl rfl (reads_box _ (.head _)) rfl ⟨rfl, rfl⟩)) ?_
  | refine psq_cons _ rfl (core0 (AOp.load1 Try.isAgg3 rfl rfl (reads_box _ (.tail _ (.head _))) rfl ⟨rfl, rfl⟩)) ?_
  | refine psq_cons _ rfl (core0 (AOp.load1 Try.isAgg3 rfl rfl (reads_row _ (.head _) (idx_nat (by first | first | omega | (simp <;> omega) | (simp at * <;> omega) | (have := UInt8.toNat_lt (l[(↑n + 1 - 1 : Int).toNat]'(by omega)); omega))) (by first | first | omega | (simp <;> omega) | (simp at * <;> omega) | (have := UInt8.toNat_lt (l[(↑n + 1 - 1 : Int).toNat]'(by omega)); omega))) rfl ⟨rfl, rfl⟩)) ?_
  | refine psq_cons _ rfl (core0 (AOp.load1 Try.isAgg3 rfl rfl (reads_row _ (.head _) (idx_map (by first | first | omega | (simp <;> omega) | (simp at * <;> omega) | (have := UInt8.toNat_lt (l[(↑n + 1 - 1 : Int).toNat]'(by omega)); omega))) (by first | first | omega | (simp <;> omega) | (simp at * <;> omega) | (have := UInt8.toNat_lt (l[(↑n + 1 - 1 : Int).toNat]'(by omega)); omega))) rfl ⟨rfl, rfl⟩)) ?_
  | refine psq_cons _ rfl (core0 (AOp.load1 Try.isAgg3 rfl rfl (reads_row _ (.head _) (by assumption) (by first | first | omega | (simp <;> omega) | (simp at * <;> omega) | (have := UInt8.toNat_lt (l[(↑n + 1 - 1 : Int).toNat]'(by omega)); omega))) rfl ⟨rfl, rfl⟩)) ?_
  | refine psq_cons _ rfl (core0 (AOp.load1 Try.isAgg3 rfl rfl (reads_row _ (.tail _ (.head _)) (idx_nat (by first | first | omega | (simp <;> omega) | (simp at * <;> omega) | (have := UInt8.toNat_lt (l[(↑n + 1 - 1 : Int).toNat]'(by omega)); omega))) (by first | first | omega | (simp <;> omega) | (simp at * <;> omega) | (have := UInt8.toNat_lt (l[(↑n + 1 - 1 : Int).toNat]'(by omega)); omega))) rfl ⟨rfl, rfl⟩)) ?_
  | refine psq_cons _ rfl (core0 (AOp.load1 Try.isAgg3 rfl rfl (reads_row _ (.tail _ (.head _)) (idx_map (by first | first | omega | (simp <;> omega) | (simp at * <;> omega) | (have := UInt8.toNat_lt (l[(↑n + 1 - 1 : Int).toNat]'(by omega)); omega))) (by first | first | omega | (simp <;> omega) | (simp at * <;> omega) | (have := UInt8.toNat_lt (l[(↑n + 1 - 1 : Int).toNat]'(by omega)); omega))) rfl ⟨rfl, rfl⟩)) ?_
  | refine psq_cons _ rfl (core0 (AOp.load1 Try.isAgg3 rfl rfl (reads_row _ (.tail _ (.head _)) (by assumption) (by first | first | omega | (simp <;> omega) | (simp at * <;> omega) | (have := UInt8.toNat_lt (l[(↑n + 1 - 1 : Int).toNat]'(by omega)); omega))) rfl ⟨rfl, rfl⟩)) ?_
  refine psq_cons _ rfl (core0 (AOp.move rfl rfl ⟨rfl, rfl⟩)) ?_
  first
  | refine psq_cons _ rfl (core0 (AOp.nilCheck rfl rfl nil_im ⟨rfl, rfl⟩)) ?_
  | refine psq_cons _ rfl (core0 (AOp.nilCheck rfl rfl nil_sc ⟨rfl, rfl⟩)) ?_
  first
  | refine psq_cons _ rfl (core0 (AOp.fieldI Try.underlying93 rfl Try.sizeOf22 (by decide) rfl rfl rfl ⟨rfl, rfl⟩)) ?_
  | refine psq_cons _ rfl (core0 (AOp.fieldB Try.underlying93 rfl Try.sizeOf22 (by decide) rfl rfl rfl ⟨rfl, rfl⟩)) ?_
  | refine psq_cons _ rfl (core0 (AOp.fieldR Try.underlying93 rfl Try.sizeOf22 (by decide) rfl rfl rfl ⟨rfl, rfl⟩)) ?_
  first
  | refine psq_cons _ rfl (core0 (AOp.load1 Try.isAgg22 rfl rfl (reads_im _ _) rfl ⟨rfl, rfl⟩)) ?_
  | refine psq_cons _ rfl (core0 (AOp.load1 Try.isAgg22 rfl rfl (reads_box _ (.head _)) rfl ⟨rfl, rfl⟩)) ?_
  | refine psq_cons _ rfl (core0 (AOp.load1 Try.isAgg22 rfl rfl (reads_box _ (.tail _ (.head _))) rfl ⟨rfl, rfl⟩)) ?_
  | refine psq_cons _ rfl (core0 (AOp.load1 Try.isAgg22 rfl rfl (reads_row _ (.head _) (idx_nat (by first | first | omega | (simp <;> omega) | (simp at * <;> omega) | (have := UInt8.toNat_lt (l[(↑n + 1 - 1 : Int).toNat]'(by omega)); omega))) (by first | first | omega | (simp <;> omega) | (simp at * <;> omega) | (have := UInt8.toNat_lt (l[(↑n + 1 - 1 : Int).toNat]'(by omega)); omega))) rfl ⟨rfl, rfl⟩)) ?_
  | refine psq_cons _ rfl (core0 (AOp.load1 Try.isAgg22 rfl rfl (reads_row _ (.head _) (idx_map (by first | first | omega | (simp <;> omega) | (simp at * <;> omega) | (have := UInt8.toNat_lt (l[(↑n + 1 - 1 : Int).toNat]'(by omega)); omega))) (by first | first | omega | (simp <;> omega) | (simp at * <;> omega) | (have := UInt8.toNat_lt (l[(↑n + 1 - 1 : Int).toNat]'(by omega)); omega))) rfl ⟨rfl, rfl⟩)) ?_
  | refine psq_cons _ rfl (core0 (AOp.load1 Try.isAgg22 rfl rfl (reads_row _ (.head _) (by assumption) (by first | first | omega | (simp <;> omega) | (simp at * <;> omega) | (have := UInt8.toNat_lt (l[(↑n + 1 - 1 : Int).toNat]'(by omega)); omega))) rfl ⟨rfl, rfl⟩)) ?_
  | refine psq_cons _ rfl (core0 (AOp.load1 Try.isAgg22 rfl rfl (reads_row _ (.tail _ (.head _)) (idx_nat (by first | first | omega | (simp <;> omega) | (simp at * <;> omega) | (have := UInt8.toNat_lt (l[(↑n + 1 - 1 : Int).toNat]'(by omega)); omega))) (by first | first | omega | (simp <;> omega) | (simp at * <;> omega) | (have := UInt8.toNat_lt (l[(↑n + 1 - 1 : Int).toNat]'(by omega)); omega))) rfl ⟨rfl, rfl⟩)) ?_
  | refine psq_cons _ rfl (core0 (AOp.load1 Try.isAgg22 rfl rfl (reads_row _ (.tail _ (.head _)) (idx_map (by first | first | omega | (simp <;> omega) | (simp at * <;> omega) | (have := UInt8.toNat_lt (l[(↑n + 1 - 1 : Int).toNat]'(by omega)); omega))) (by first | first | omega | (simp <;> omega) | (simp at * <;> omega) | (have := UInt8.toNat_lt (l[(↑n + 1 - 1 : Int).toNat]'(by omega)); omega))) rfl ⟨rfl, rfl⟩)) ?_
  | refine psq_cons _ rfl (core0 (AOp.load1 Try.isAgg22 rfl rfl (reads_row _ (.tail _ (.head _)) (by assumption) (by first | first | omega | (simp <;> omega) | (simp at * <;> omega) | (have := UInt8.toNat_lt (l[(↑n + 1 - 1 : Int).toNat]'(by omega)); omega))) rfl ⟨rfl, rfl⟩)) ?_
  first
  | refine psq_cons _ rfl (core0 (AOp.lenS (by first | exact List.length_map _ | rfl) Try.underlying22 rfl rfl ⟨rfl, rfl⟩)) ?_
  | refine psq_cons _ rfl (core0 (AOp.lenN Try.underlying22 rfl rfl ⟨rfl, rfl⟩)) ?_
  | refine psq_cons _ rfl (core0 (AOp.lenR (by first | exact List.length_map _ | rfl) Try.underlying22 (.head _) rfl rfl ⟨rfl, rfl⟩)) ?_
  | refine psq_cons _ rfl (core0 (AOp.lenR (by first | exact List.length_map _ | rfl) Try.underlying22 (.tail _ (.head _)) rfl rfl ⟨rfl, rfl⟩)) ?_
  refine psq_nil ?_
  refine aops_cons rfl rfl (AOp.geq rfl rfl rfl ?_)
  refine aops_cons rfl rfl (AOp.move rfl rfl ?_)
  refine aops_guard 10 false 15 _ rfl rfl rfl rfl rfl (fun g1 => ?_) (fun g1 => ?_)
  focus
    have g1_ := g1
    try simp only [List.length_map, List.length_cons, List.length_nil, nrm] at g1
    all_goals try (exfalso; first | (simp at g1_; done) | omega)
    all_goals
      refine AOp.move rfl rfl ?_
      refine aops_guard 10 false 15 _ rfl rfl rfl rfl rfl (fun _ => ?_) (fun hh => by exfalso; first | (rw [g1_] at hh; exact absurd hh (by decide)) | (revert hh; simp [g1_]))
      refine AOp.lss rfl rfl rfl ?_
  rotate_right
  focus
    have g1_ := g1
    try simp only [List.length_map, List.length_cons, List.length_nil, nrm] at g1
    all_goals try (exfalso; first | (simp at g1_; done) | omega)
    all_goals
      refine aops_guard 10 false 15 _ rfl rfl rfl rfl rfl (fun hh => by exfalso; first | (rw [g1_] at hh; exact absurd hh (by decide)) | (revert hh; simp [g1_])) (fun _ => ?_)
  all_goals
    first
    | refine aops_cons rfl rfl (AOp.pick_t rfl rfl (by first | assumption | rfl) rfl ?_)
    | refine aops_cons rfl rfl (AOp.pick_f rfl rfl (by first | assumption | rfl) rfl ?_)
    refine aops_nil ?_
    refine aw_cond _ rfl (fun h2 => ?_) (fun h2 => ?_)
    focus
      have h2_ := h2
      try simp only [List.length_map, List.length_cons, List.length_nil, nrm] at h2
      all_goals try (exfalso; first | (simp at h2_; done) | omega)
      all_goals
        refine aw_seq ?_
        refine aw_region ?_
        refine aops_cons rfl rfl (AOp.assign rfl rfl ?_)
        refine aops_nil ?_
        refine aw_ret ?_
        refine ⟨_, (res1 Try.results51 rfl), ?_⟩
        have hno : ¬ (n < l.length ∧ 1 ≤ m) := by omega
        unfold numV numN
        rw [dif_neg hno, if_neg hno]; exact ⟨rfl, rfl⟩
    rotate_right
    focus
      have h2_ := h2
      try simp only [List.length_map, List.length_cons, List.length_nil, nrm] at h2
      all_goals try (exfalso; first | (simp at h2_; done) | omega)
      all_goals
        refine aw_skip ?_
        skip
    all_goals
      refine aw_seq ?_
      refine aw_region ?_
      refine aops_cons rfl rfl (AOp.move rfl rfl ?_)
      first
      | refine aops_cons rfl rfl (AOp.nilCheck rfl rfl nil_im ?_)
      | refine aops_cons rfl rfl (AOp.nilCheck rfl rfl nil_sc ?_)
      first
      | refine aops_cons rfl rfl (AOp.fieldI Try.underlying93 rfl Try.sizeOf3 (by decide) rfl rfl rfl ?_)
      | refine aops_cons rfl rfl (AOp.fieldB Try.underlying93 rfl Try.sizeOf3 (by decide) rfl rfl rfl ?_)
      | refine aops_cons rfl rfl (AOp.fieldR Try.underlying93 rfl Try.sizeOf3 (by decide) rfl rfl rfl ?_)
      first
      | refine aops_cons rfl rfl (AOp.load1 Try.isAgg3 rfl rfl (reads_im _ _) rfl ?_)
      | refine aops_cons rfl rfl (AOp.load1 Try.isAgg3 rfl rfl (reads_box _ (.head _)) rfl ?_)
      | refine aops_cons rfl rfl (AOp.load1 Try.isAgg3 rfl rfl (reads_box _ (.tail _ (.head _))) rfl ?_)
      | refine aops_cons rfl rfl (AOp.load1 Try.isAgg3 rfl rfl (reads_row _ (.head _) (idx_nat (by first | first | omega | (simp <;> omega) | (simp at * <;> omega) | (have := UInt8.toNat_lt (l[(↑n + 1 - 1 : Int).toNat]'(by omega)); omega))) (by first | first | omega | (simp <;> omega) | (simp at * <;> omega) | (have := UInt8.toNat_lt (l[(↑n + 1 - 1 : Int).toNat]'(by omega)); omega))) rfl ?_)
      | refine aops_cons rfl rfl (AOp.load1 Try.isAgg3 rfl rfl (reads_row _ (.head _) (idx_map (by first | first | omega | (simp <;> omega) | (simp at * <;> omega) | (have := UInt8.toNat_lt (l[(↑n + 1 - 1 : Int).toNat]'(by omega)); omega))) (by first | first | omega | (simp <;> omega) | (simp at * <;> omega) | (have := UInt8.toNat_lt (l[(↑n + 1 - 1 : Int).toNat]'(by omega)); omega))) rfl ?_)
      | refine aops_cons rfl rfl (AOp.load1 Try.isAgg3 rfl rfl (reads_row _ (.head _) (by assumption) (by first | first | omega | (simp <;> omega) | (simp at * <;> omega) | (have := UInt8.toNat_lt (l[(↑n + 1 - 1 : Int).toNat]'(by omega)); omega))) rfl ?_)
      | refine aops_cons rfl rfl (AOp.load1 Try.isAgg3 rfl rfl (reads_row _ (.tail _ (.head _)) (idx_nat (by first | first | omega | (simp <;> omega) | (simp at * <;> omega) | (have := UInt8.toNat_lt (l[(↑n + 1 - 1 : Int).toNat]'(by omega)); omega))) (by first | first | omega | (simp <;> omega) | (simp at * <;> omega) | (have := UInt8.toNat_lt (l[(↑n + 1 - 1 : Int).toNat]'(by omega)); omega))) rfl ?_)
      | refine aops_cons rfl rfl (AOp.load1 Try.isAgg3 rfl rfl (reads_row _ (.tail _ (.head _)) (idx_map (by first | first | omega | (simp <;> omega) | (simp at * <;> omega) | (have := UInt8.toNat_lt (l[(↑n + 1 - 1 : Int).toNat]'(by omega)); omega))) (by first | first | omega | (simp <;> omega) | (simp at * <;> omega) | (have := UInt8.toNat_lt (l[(↑n + 1 - 1 : Int).toNat]'(by omega)); omega))) rfl ?_)
      | refine aops_cons rfl rfl (AOp.load1 Try.isAgg3 rfl rfl (reads_row _ (.tail _ (.head _)) (by assumption) (by first | first | omega | (simp <;> omega) | (simp at * <;> omega) | (have := UInt8.toNat_lt (l[(↑n + 1 - 1 : Int).toNat]'(by omega)); omega))) rfl ?_)
      first
      | refine aops_cons rfl rfl (AOp.addE rfl rfl rfl (by first | first | omega | (simp <;> omega) | (simp at * <;> omega) | (have := UInt8.toNat_lt (l[(↑n + 1 - 1 : Int).toNat]'(by omega)); omega)) (by first | first | omega | (simp <;> omega) | (simp at * <;> omega) | (have := UInt8.toNat_lt (l[(↑n + 1 - 1 : Int).toNat]'(by omega)); omega)) ?_)
      | refine aops_cons rfl rfl (AOp.add rfl rfl rfl rfl ?_)
      first
      | refine aops_cons rfl rfl (AOp.nilCheck rfl rfl nil_im ?_)
      | refine aops_cons rfl rfl (AOp.nilCheck rfl rfl nil_sc ?_)
      first
      | refine aops_cons rfl rfl (AOp.fieldI Try.underlying93 rfl Try.sizeOf3 (by decide) rfl rfl rfl ?_)
      | refine aops_cons rfl rfl (AOp.fieldB Try.underlying93 rfl Try.sizeOf3 (by decide) rfl rfl rfl ?_)
      | refine aops_cons rfl rfl (AOp.fieldR Try.underlying93 rfl Try.sizeOf3 (by decide) rfl rfl rfl ?_)
      first
      | refine aops_cons rfl rfl (AOp.storeB' Try.sizeOf3 rfl rfl rfl rfl rfl (pull_here _ _) rfl rfl ?_)
      | refine aops_cons rfl rfl (AOp.storeB' Try.sizeOf3 rfl rfl rfl rfl rfl (pull_there (pull_here _ _)) rfl rfl ?_)
      | refine aops_cons rfl rfl (AOp.storeR' Try.sizeOf3 rfl rfl rfl rfl rfl (pull_here _ _) (by first | exact idx_nat (by first | first | omega | (simp <;> omega) | (simp at * <;> omega) | (have := UInt8.toNat_lt (l[(↑n + 1 - 1 : Int).toNat]'(by omega)); omega)) | exact idx_map (by first | first | omega | (simp <;> omega) | (simp at * <;> omega) | (have := UInt8.toNat_lt (l[(↑n + 1 - 1 : Int).toNat]'(by omega)); omega)) | assumption) rfl rfl rfl ?_)
      | refine aops_cons rfl rfl (AOp.storeR' Try.sizeOf3 rfl rfl rfl rfl rfl (pull_there (pull_here _ _)) (by first | exact idx_nat (by first | first | omega | (simp <;> omega) | (simp at * <;> omega) | (have := UInt8.toNat_lt (l[(↑n + 1 - 1 : Int).toNat]'(by omega)); omega)) | exact idx_map (by first | first | omega | (simp <;> omega) | (simp at * <;> omega) | (have := UInt8.toNat_lt (l[(↑n + 1 - 1 : Int).toNat]'(by omega)); omega)) | assumption) rfl rfl rfl ?_)
      refine aops_nil ?_
      refine aw_seq ?_
      refine aw_draw 13 [0, 0, 0, 0, 0, 0, 0, 0, 0, 0, 0, 0, 0] (by kernel_rfl) (by kernel_rfl) ?_
      refine psq_cons _ rfl (core0 (AOp.move rfl rfl ⟨rfl, rfl⟩)) ?_
      first
      | refine psq_cons _ rfl (core0 (AOp.nilCheck rfl rfl nil_im ⟨rfl, rfl⟩)) ?_
      | refine psq_cons _ rfl (core0 (AOp.nilCheck rfl rfl nil_sc ⟨rfl, rfl⟩)) ?_
      first
      | refine psq_cons _ rfl (core0 (AOp.fieldI Try.underlying93 rfl Try.sizeOf22 (by decide) rfl rfl rfl ⟨rfl, rfl⟩)) ?_
      | refine psq_cons _ rfl (core0 (AOp.fieldB Try.underlying93 rfl Try.sizeOf22 (by decide) rfl rfl rfl ⟨rfl, rfl⟩)) ?_
      | refine psq_cons _ rfl (core0 (AOp.fieldR Try.underlying93 rfl Try.sizeOf22 (by decide) rfl rfl rfl ⟨rfl, rfl⟩)) ?_
      first
      | refine psq_cons _ rfl (core0 (AOp.load1 Try.isAgg22 rfl rfl (reads_im _ _) rfl ⟨rfl, rfl⟩)) ?_
      | refine psq_cons _ rfl (core0 (AOp.load1 Try.isAgg22 rfl rfl (reads_box _ (.head _)) rfl ⟨rfl, rfl⟩)) ?_
      | refine psq_cons _ rfl (core0 (AOp.load1 Try.isAgg22 rfl rfl (reads_box _ (.tail _ (.head _))) rfl ⟨rfl, rfl⟩)) ?_
      | refine psq_cons _ rfl (core0 (AOp.load1 Try.isAgg22 rfl rfl (reads_row _ (.head _) (idx_nat (by first | first | omega | (simp <;> omega) | (simp at * <;> omega) | (have := UInt8.toNat_lt (l[(↑n + 1 - 1 : Int).toNat]'(by omega)); omega))) (by first | first | omega | (simp <;> omega) | (simp at * <;> omega) | (have := UInt8.toNat_lt (l[(↑n + 1 - 1 : Int).toNat]'(by omega)); omega))) rfl ⟨rfl, rfl⟩)) ?_
      | refine psq_cons _ rfl (core0 (AOp.load1 Try.isAgg22 rfl rfl (reads_row _ (.head _) (idx_map (by first | first | omega | (simp <;> omega) | (simp at * <;> omega) | (have := UInt8.toNat_lt (l[(↑n + 1 - 1 : Int).toNat]'(by omega)); omega))) (by first | first | omega | (simp <;> omega) | (simp at * <;> omega) | (have := UInt8.toNat_lt (l[(↑n + 1 - 1 : Int).toNat]'(by omega)); omega))) rfl ⟨rfl, rfl⟩)) ?_
      | refine psq_cons _ rfl (core0 (AOp.load1 Try.isAgg22 rfl rfl (reads_row _ (.head _) (by assumption) (by first | first | omega | (simp <;> omega) | (simp at * <;> omega) | (have := UInt8.toNat_lt (l[(↑n + 1 - 1 : Int).toNat]'(by omega)); omega))) rfl ⟨rfl, rfl⟩)) ?_
      | refine psq_cons _ rfl (core0 (AOp.load1 Try.isAgg22 rfl rfl (reads_row _ (.tail _ (.head _)) (idx_nat (by first | first | omega | (simp <;> omega) | (simp at * <;> omega) | (have := UInt8.toNat_lt (l[(↑n + 1 - 1 : Int).toNat]'(by omega)); omega))) (by first | first | omega | (simp <;> omega) | (simp at * <;> omega) | (have := UInt8.toNat_lt (l[(↑n + 1 - 1 : Int).toNat]'(by omega)); omega))) rfl ⟨rfl, rfl⟩)) ?_
      | refine psq_cons _ rfl (core0 (AOp.load1 Try.isAgg22 rfl rfl (reads_row _ (.tail _ (.head _)) (idx_map (by first | first | omega | (simp <;> omega) | (simp at * <;> omega) | (have := UInt8.toNat_lt (l[(↑n + 1 - 1 : Int).toNat]'(by omega)); omega))) (by first | first | omega | (simp <;> omega) | (simp at * <;> omega) | (have := UInt8.toNat_lt (l[(↑n + 1 - 1 : Int).toNat]'(by omega)); omega))) rfl ⟨rfl, rfl⟩)) ?_
      | refine psq_cons _ rfl (core0 (AOp.load1 Try.isAgg22 rfl rfl (reads_row _ (.tail _ (.head _)) (by assumption) (by first | first | omega | (simp <;> omega) | (simp at * <;> omega) | (have := UInt8.toNat_lt (l[(↑n + 1 - 1 : Int).toNat]'(by omega)); omega))) rfl ⟨rfl, rfl⟩)) ?_
      refine psq_cons _ rfl (core0 (AOp.move rfl rfl ⟨rfl, rfl⟩)) ?_
      first
      | refine psq_cons _ rfl (core0 (AOp.nilCheck rfl rfl nil_im ⟨rfl, rfl⟩)) ?_
      | refine psq_cons _ rfl (core0 (AOp.nilCheck rfl rfl nil_sc ⟨rfl, rfl⟩)) ?_
      first
      | refine psq_cons _ rfl (core0 (AOp.fieldI Try.underlying93 rfl Try.sizeOf3 (by decide) rfl rfl rfl ⟨rfl, rfl⟩)) ?_
      | refine psq_cons _ rfl (core0 (AOp.fieldB Try.underlying93 rfl Try.sizeOf3 (by decide) rfl rfl rfl ⟨rfl, rfl⟩)) ?_
      | refine psq_cons _ rfl (core0 (AOp.fieldR Try.underlying93 rfl Try.sizeOf3 (by decide) rfl rfl rfl ⟨rfl, rfl⟩)) ?_
      first
      | refine psq_cons _ rfl (core0 (AOp.load1 Try.isAgg3 rfl rfl (reads_im _ _) rfl ⟨rfl, rfl⟩)) ?_
      | refine psq_cons _ rfl (core0 (AOp.load1 Try.isAgg3 rfl rfl (reads_box _ (.head _)) rfl ⟨rfl, rfl⟩)) ?_
      | refine psq_cons _ rfl (core0 (AOp.load1 Try.isAgg3 rfl rfl (reads_box _ (.tail _ (.head _))) rfl ⟨rfl, rfl⟩)) ?_
      | refine psq_cons _ rfl (core0 (AOp.load1 Try.isAgg3 rfl rfl (reads_row _ (.head _) (idx_nat (by first | first | omega | (simp <;> omega) | (simp at * <;> omega) | (have := UInt8.toNat_lt (l[(↑n + 1 - 1 : Int).toNat]'(by omega)); omega))) (by first | first | omega | (simp <;> omega) | (simp at * <;> omega) | (have := UInt8.toNat_lt (l[(↑n + 1 - 1 : Int).toNat]'(by omega)); omega))) rfl ⟨rfl, rfl⟩)) ?_
      | refine psq_cons _ rfl (core0 (AOp.load1 Try.isAgg3 rfl rfl (reads_row _ (.head _) (idx_map (by first | first | omega | (simp <;> omega) | (simp at * <;> omega) | (have := UInt8.toNat_lt (l[(↑n + 1 - 1 : Int).toNat]'(by omega)); omega))) (by first | first | omega | (simp <;> omega) | (simp at * <;> omega) | (have := UInt8.toNat_lt (l[(↑n + 1 - 1 : Int).toNat]'(by omega)); omega))) rfl ⟨rfl, rfl⟩)) ?_
      | refine psq_cons _ rfl (core0 (AOp.load1 Try.isAgg3 rfl rfl (reads_row _ (.head _) (by assumption) (by first | first | omega | (simp <;> omega) | (simp at * <;> omega) | (have := UInt8.toNat_lt (l[(↑n + 1 - 1 : Int).toNat]'(by omega)); omega))) rfl ⟨rfl, rfl⟩)) ?_
      | refine psq_cons _ rfl (core0 (AOp.load1 Try.isAgg3 rfl rfl (reads_row _ (.tail _ (.head _)) (idx_nat (by first | first | omega | (simp <;> omega) | (simp at * <;> omega) | (have := UInt8.toNat_lt (l[(↑n + 1 - 1 : Int).toNat]'(by omega)); omega))) (by first | first | omega | (simp <;> omega) | (simp at * <;> omega) | (have := UInt8.toNat_lt (l[(↑n + 1 - 1 : Int).toNat]'(by omega)); omega))) rfl ⟨rfl, rfl⟩)) ?_
      | refine psq_cons _ rfl (core0 (AOp.load1 Try.isAgg3 rfl rfl (reads_row _ (.tail _ (.head _)) (idx_map (by first | first | omega | (simp <;> omega) | (simp at * <;> omega) | (have := UInt8.toNat_lt (l[(↑n + 1 - 1 : Int).toNat]'(by omega)); omega))) (by first | first | omega | (simp <;> omega) | (simp at * <;> omega) | (have := UInt8.toNat_lt (l[(↑n + 1 - 1 : Int).toNat]'(by omega)); omega))) rfl ⟨rfl, rfl⟩)) ?_
      | refine psq_cons _ rfl (core0 (AOp.load1 Try.isAgg3 rfl rfl (reads_row _ (.tail _ (.head _)) (by assumption) (by first | first | omega | (simp <;> omega) | (simp at * <;> omega) | (have := UInt8.toNat_lt (l[(↑n + 1 - 1 : Int).toNat]'(by omega)); omega))) rfl ⟨rfl, rfl⟩)) ?_
      first
      | refine psq_cons _ rfl (core0 (AOp.subE rfl rfl rfl (by first | first | omega | (simp <;> omega) | (simp at * <;> omega) | (have := UInt8.toNat_lt (l[(↑n + 1 - 1 : Int).toNat]'(by omega)); omega)) (by first | first | omega | (simp <;> omega) | (simp at * <;> omega) | (have := UInt8.toNat_lt (l[(↑n + 1 - 1 : Int).toNat]'(by omega)); omega)) ⟨rfl, rfl⟩)) ?_
      | refine psq_cons _ rfl (core0 (AOp.sub rfl rfl rfl rfl ⟨rfl, rfl⟩)) ?_
      first
      | refine psq_cons _ rfl (core0 (AOp.indexLN Try.underlying22 Try.sizeOf5 rfl rfl rfl (by first | first | omega | (simp <;> omega) | (simp at * <;> omega) | (have := UInt8.toNat_lt (l[(↑n + 1 - 1 : Int).toNat]'(by omega)); omega)) (fun _ => rfl) ⟨rfl, rfl⟩)) ?_
      | refine psq_cons _ rfl (core0 (AOp.indexLI Try.underlying22 Try.sizeOf5 rfl rfl rfl (by first | first | omega | (simp <;> omega) | (simp at * <;> omega) | (have := UInt8.toNat_lt (l[(↑n + 1 - 1 : Int).toNat]'(by omega)); omega)) (by first | first | omega | (simp <;> omega) | (simp at * <;> omega) | (have := UInt8.toNat_lt (l[(↑n + 1 - 1 : Int).toNat]'(by omega)); omega)) (fun _ => rfl) ⟨rfl, rfl⟩)) ?_
      | refine psq_cons _ rfl (core0 (AOp.indexS Try.underlying22 Try.sizeOf5 (by assumption) rfl rfl rfl (by first | first | omega | (simp <;> omega) | (simp at * <;> omega) | (have := UInt8.toNat_lt (l[(↑n + 1 - 1 : Int).toNat]'(by omega)); omega)) (by assumption) ⟨rfl, rfl⟩)) ?_
      | refine psq_cons _ rfl (core0 (AOp.indexS Try.underlying22 Try.sizeOf5 (by assumption) rfl rfl rfl (by first | first | omega | (simp <;> omega) | (simp at * <;> omega) | (have := UInt8.toNat_lt (l[(↑n + 1 - 1 : Int).toNat]'(by omega)); omega)) (List.getElem?_eq_getElem (by first | first | omega | (simp <;> omega) | (simp at * <;> omega) | (have := UInt8.toNat_lt (l[(↑n + 1 - 1 : Int).toNat]'(by omega)); omega))) ⟨rfl, rfl⟩)) ?_
      | refine psq_cons _ rfl (core0 (AOp.indexS Try.underlying22 Try.sizeOf5 (by exact all_len rfl) rfl rfl rfl (by first | first | omega | (simp <;> omega) | (simp at * <;> omega) | (have := UInt8.toNat_lt (l[(↑n + 1 - 1 : Int).toNat]'(by omega)); omega)) rfl ⟨rfl, rfl⟩)) ?_
      | refine psq_cons _ rfl (core0 (AOp.indexR Try.underlying22 Try.sizeOf5 (.head _) rfl rfl rfl (by first | first | omega | (simp <;> omega) | (simp at * <;> omega) | (have := UInt8.toNat_lt (l[(↑n + 1 - 1 : Int).toNat]'(by omega)); omega)) (by first | first | omega | (simp <;> omega) | (simp at * <;> omega) | (have := UInt8.toNat_lt (l[(↑n + 1 - 1 : Int).toNat]'(by omega)); omega)) ⟨rfl, rfl⟩)) ?_
      | refine psq_cons _ rfl (core0 (AOp.indexR Try.underlying22 Try.sizeOf5 (.tail _ (.head _)) rfl rfl rfl (by first | first | omega | (simp <;> omega) | (simp at * <;> omega) | (have := UInt8.toNat_lt (l[(↑n + 1 - 1 : Int).toNat]'(by omega)); omega)) (by first | first | omega | (simp <;> omega) | (simp at * <;> omega) | (have := UInt8.toNat_lt (l[(↑n + 1 - 1 : Int).toNat]'(by omega)); omega)) ⟨rfl, rfl⟩)) ?_
      first
      | refine psq_cons _ rfl (core0 (AOp.load1 Try.isAgg5 rfl rfl (reads_im _ _) rfl ⟨rfl, rfl⟩)) ?_
      | refine psq_cons _ rfl (core0 (AOp.load1 Try.isAgg5 rfl rfl (reads_box _ (.head _)) rfl ⟨rfl, rfl⟩)) ?_
      | refine psq_cons _ rfl (core0 (AOp.load1 Try.isAgg5 rfl rfl (reads_box _ (.tail _ (.head _))) rfl ⟨rfl, rfl⟩)) ?_
      | refine psq_cons _ rfl (core0 (AOp.load1 Try.isAgg5 rfl rfl (reads_row _ (.head _) (idx_nat (by first | first | omega | (simp <;> omega) | (simp at * <;> omega) | (have := UInt8.toNat_lt (l[(↑n + 1 - 1 : Int).toNat]'(by omega)); omega))) (by first | first | omega | (simp <;> omega) | (simp at * <;> omega) | (have := UInt8.toNat_lt (l[(↑n + 1 - 1 : Int).toNat]'(by omega)); omega))) rfl ⟨rfl, rfl⟩)) ?_
      | refine psq_cons _ rfl (core0 (AOp.load1 Try.isAgg5 rfl rfl (reads_row _ (.head _) (idx_map (by first | first | omega | (simp <;> omega) | (simp at * <;> omega) | (have := UInt8.toNat_lt (l[(↑n + 1 - 1 : Int).toNat]'(by omega)); omega))) (by first | first | omega | (simp <;> omega) | (simp at * <;> omega) | (have := UInt8.toNat_lt (l[(↑n + 1 - 1 : Int).toNat]'(by omega)); omega))) rfl ⟨rfl, rfl⟩)) ?_
      | refine psq_cons _ rfl (core0 (AOp.load1 Try.isAgg5 rfl rfl (reads_row _ (.head _) (by assumption) (by first | first | omega | (simp <;> omega) | (simp at * <;> omega) | (have := UInt8.toNat_lt (l[(↑n + 1 - 1 : Int).toNat]'(by omega)); omega))) rfl ⟨rfl, rfl⟩)) ?_
      | refine psq_cons _ rfl (core0 (AOp.load1 Try.isAgg5 rfl rfl (reads_row _ (.tail _ (.head _)) (idx_nat (by first | first | omega | (simp <;> omega) | (simp at * <;> omega) | (have := UInt8.toNat_lt (l[(↑n + 1 - 1 : Int).toNat]'(by omega)); omega))) (by first | first | omega | (simp <;> omega) | (simp at * <;> omega) | (have := UInt8.toNat_lt (l[(↑n + 1 - 1 : Int).toNat]'(by omega)); omega))) rfl ⟨rfl, rfl⟩)) ?_
      | refine psq_cons _ rfl (core0 (AOp.load1 Try.isAgg5 rfl rfl (reads_row _ (.tail _ (.head _)) (idx_map (by first | first | omega | (simp <;> omega) | (simp at * <;> omega) | (have := UInt8.toNat_lt (l[(↑n + 1 - 1 : Int).toNat]'(by omega)); omega))) (by first | first | omega | (simp <;> omega) | (simp at * <;> omega) | (have := UInt8.toNat_lt (l[(↑n + 1 - 1 : Int).toNat]'(by omega)); omega))) rfl ⟨rfl, rfl⟩)) ?_
      | refine psq_cons _ rfl (core0 (AOp.load1 Try.isAgg5 rfl rfl (reads_row _ (.tail _ (.head _)) (by assumption) (by first | first | omega | (simp <;> omega) | (simp at * <;> omega) | (have := UInt8.toNat_lt (l[(↑n + 1 - 1 : Int).toNat]'(by omega)); omega))) rfl ⟨rfl, rfl⟩)) ?_
      first
      | refine psq_cons _ rfl (core0 (AOp.conviI Try.underlying5 Try.underlying3 rfl rfl (by first | first | omega | (simp <;> omega) | (simp at * <;> omega) | (have := UInt8.toNat_lt (l[(↑n + 1 - 1 : Int).toNat]'(by omega)); omega)) (by first | first | omega | (simp <;> omega) | (simp at * <;> omega) | (have := UInt8.toNat_lt (l[(↑n + 1 - 1 : Int).toNat]'(by omega)); omega)) ⟨rfl, rfl⟩)) ?_
      | refine psq_cons _ rfl (core0 (AOp.convi Try.underlying5 Try.underlying3 rfl rfl rfl ⟨rfl, rfl⟩)) ?_
      refine psq_cons _ rfl (core0 (AOp.move rfl rfl ⟨rfl, rfl⟩)) ?_
      refine psq_nil ?_
      refine aops_cons rfl rfl (AOp.rem rfl rfl rfl (by first | decide | omega) rfl ?_)
      refine aops_cons rfl rfl (AOp.assign rfl rfl ?_)
      refine aops_nil ?_
      refine aw_ret ?_
      refine ⟨_, (res1 Try.results51 rfl), ?_⟩
      have hyes : n < l.length ∧ 1 ≤ m := by omega
      unfold numV numN
      rw [dif_pos hyes, if_pos hyes]
      refine ⟨?_, rfl⟩
      rw [Int.tmod_eq_emod_of_nonneg (by omega)]
      have e : ((n : Int) + 1 - 1).toNat = n := by omega
      simp only [e]


theorem numV_lt (l : List UInt8) (n : Nat) (m : Int) (h : 1 ≤ m) : 0 ≤ numV l n m ∧ numV l n m < m := by
  unfold numV
  split
  · exact ⟨Int.emod_nonneg _ (by omega), Int.emod_lt_of_pos _ (by omega)⟩
  · omega
theorem numN_le (l : List UInt8) (n : Nat) (m : Int) (h : n ≤ l.length) : numN l n m ≤ l.length := by
  unfold numN
  split
  · omega
  · exact h
/-- Leases made of numbers. -/
def leaf1 (l : List UInt8) (n : Nat) : L := ⟨1 + numV l n 3, 1 + numV l (numN l n 3) 3, 1 + numV l (numN l (numN l n 3) 3) 2, numV l (numN l (numN l (numN l n 3) 3) 2) 200⟩
def leafN (l : List UInt8) (n : Nat) : Nat := numN l (numN l (numN l (numN l n 3) 3) 2) 200
def goodL (x : List L) (k : Nat) : Prop := srt x ∧ x.length ≤ k ∧ ∀ y ∈ x, 1 ≤ y.c ∧ y.c ≤ 3 ∧ 1 ≤ y.f ∧ y.f ≤ 3 ∧ 1 ≤ y.m ∧ y.m ≤ 2 ∧ 0 ≤ y.u ∧ y.u < 200
theorem goodL_step {x : List L} {k n : Nat} (l : List UInt8) (h : goodL x k) : goodL (gr2 x (leaf1 l n)) (k + 1) := by
  obtain ⟨h1, h2, h3⟩ := h
  have hx : 1 ≤ (leaf1 l n).c ∧ (leaf1 l n).c ≤ 3 ∧ 1 ≤ (leaf1 l n).f ∧ (leaf1 l n).f ≤ 3 ∧ 1 ≤ (leaf1 l n).m ∧ (leaf1 l n).m ≤ 2 ∧ 0 ≤ (leaf1 l n).u ∧ (leaf1 l n).u < 200 := by
    have a1 := numV_lt l n 3 (by decide)
    have a2 := numV_lt l (numN l n 3) 3 (by decide)
    have a3 := numV_lt l (numN l (numN l n 3) 3) 2 (by decide)
    have a4 := numV_lt l (numN l (numN l (numN l n 3) 3) 2) 200 (by decide)
    unfold leaf1; simp only; omega
  refine ⟨srt_gr2 h1, by have := (len_gr2 x (leaf1 l n)).2; omega, fun y hy => ?_⟩
  rcases mem_gr2 hy with h | rfl | ⟨a, ha, _, rfl⟩
  · exact h3 y h
  · exact hx
  · have := h3 a ha
    unfold up; simp only; omega

theorem leases (l : List UInt8) (n : Nat) (b : Nat) (hn : n ≤ l.length) (hl : l.length ≤ 1000000) : ACalls Try.prog 21 [ptr b] [picksB b l n] (fun r A' => ∃ x n', r = ls x ∧ goodL x 7 ∧ n' ≤ l.length ∧ A' = [picksB b l n']) (fun _ _ => False) := by
  unfold ptr
  refine acallsN Try.func21 rfl Try.ntmps21 rfl ?_
  refine aw_seq ?_
  refine aw_region ?_
  refine aops_cons rfl rfl (AOp.assign rfl rfl ?_)
  refine aops_nil ?_
  refine aw_seq ?_
  refine aw_region ?_
  refine aops_cons rfl rfl (AOp.assign rfl rfl ?_)
  refine aops_nil ?_
  refine aw_seq ?_
  refine aw_seq ?_
  refine aw_region ?_
  refine aops_cons rfl rfl (AOp.move rfl rfl ?_)
  refine aops_cons rfl rfl (AOp.callN (Af := []) Try.call51 rfl rfl rfl (List.Perm.refl _) (by exact num l n 8 b hn hl (by decide)) (fun r' A'' hr => ?_))
  obtain ⟨rfl, rfl⟩ := hr
  unfold picksB
  refine aops_cons rfl rfl (AOp.assign rfl rfl ?_)
  refine aops_nil ?_
  refine aw_block ?_
  have hv := numV_lt l n 8 (by decide)
  have hc : numV l n 8 = ((numV l n 8).toNat : Int) := by omega
  rw [hc]
  refine aw_loop (β := Nat × Nat × List L) (S := (fun (z0 : Nat × Nat × List L) => match z0 with | (i, n', x) => [(0, ptr b), (3, ls x), (4, .sc (.int .i64 (i : Int)))])) (B := (fun (z0 : Nat × Nat × List L) => match z0 with | (i, n', x) => [picksB b l n'])) (pre := (fun (z0 : Nat × Nat × List L) => match z0 with | (i, n', x) => i ≤ 7 ∧ n' ≤ l.length ∧ goodL x (7 - i))) (μ := (fun (z0 : Nat × Nat × List L) => match z0 with | (i, n', x) => i)) ((numV l n 8).toNat, numN l n 8, []) (wk_subw (subw_cons rfl (subw_sl rfl (subw_cons rfl (subw_nil _))))) ?_ ?_
  · exact ⟨by omega, numN_le _ _ _ hn, List.Pairwise.nil, Nat.zero_le _, fun y hy => by cases hy⟩
  · rintro ⟨i, n', x⟩ ⟨hi, k1, hg⟩
    change AW _ _ _ ([(0, ptr b), (3, ls x), (4, .sc (.int .i64 (i : Int)))] : Env) ([picksB b l n'] : List Blk) _
    have k2 := numN_le l n' 3 k1
    have k3 := numN_le l _ 3 k2
    have k4 := numN_le l _ 2 k3
    have k5 := numN_le l _ 200 k4
    have a1 := numV_lt l n' 3 (by decide)
    have a2 := numV_lt l (numN l n' 3) 3 (by decide)
    have a3 := numV_lt l (numN l (numN l n' 3) 3) 2 (by decide)
    refine aw_seq ?_
    refine aw_seq ?_
    refine aw_region ?_
    refine aops_cons rfl rfl (AOp.move rfl rfl ?_)
    refine aops_cons rfl rfl (AOp.gtr rfl rfl rfl ?_)
    refine aops_nil ?_
    refine aw_cond _ rfl (fun h1 => ?_) (fun h1 => ?_)
    focus
      have h1_ := h1
      try simp only [List.length_map, List.length_cons, List.length_nil, nrm] at h1
      all_goals try (exfalso; first | (simp at h1_; done) | omega)
      all_goals
        refine aw_skip ?_
        skip
    rotate_right
    focus
      have h1_ := h1
      try simp only [List.length_map, List.length_cons, List.length_nil, nrm] at h1
      all_goals try (exfalso; first | (simp at h1_; done) | omega)
      all_goals
        refine aw_exit ?_
        refine aw_seq ?_
        refine aw_region ?_
        refine aops_cons rfl rfl (AOp.move rfl rfl ?_)
        refine aops_cons rfl rfl (AOp.assign rfl rfl ?_)
        refine aops_nil ?_
        refine aw_ret ?_
        refine ⟨_, (res1 Try.results21 rfl), ?_⟩
        exact ⟨x, n', rfl, ⟨hg.1, by have := hg.2.1; omega, hg.2.2⟩, k1, rfl⟩
    all_goals
      refine aw_seq ?_
      refine aw_block ?_
      refine aw_region ?_
      refine aops_cons rfl rfl (AOp.move rfl rfl ?_)
      refine aops_cons rfl rfl (AOp.move rfl rfl ?_)
      refine aops_cons rfl rfl (AOp.callN (Af := []) Try.call51 rfl rfl rfl (List.Perm.refl _) (by exact num l n' 3 b k1 hl (by decide)) (fun r' A'' hr => ?_))
      obtain ⟨rfl, rfl⟩ := hr
      first
      | refine aops_cons rfl rfl (AOp.addE rfl rfl rfl (by first | omega | (simp <;> omega) | (simp at * <;> omega)) (by first | omega | (simp <;> omega) | (simp at * <;> omega)) ?_)
      | refine aops_cons rfl rfl (AOp.add rfl rfl rfl rfl ?_)
      refine aops_cons rfl rfl (AOp.move rfl rfl ?_)
      refine aops_cons rfl rfl (AOp.callN (Af := []) Try.call51 rfl rfl rfl (List.Perm.refl _) (by exact num l _ 3 b k2 hl (by decide)) (fun r' A'' hr => ?_))
      obtain ⟨rfl, rfl⟩ := hr
      first
      | refine aops_cons rfl rfl (AOp.addE rfl rfl rfl (by first | omega | (simp <;> omega) | (simp at * <;> omega)) (by first | omega | (simp <;> omega) | (simp at * <;> omega)) ?_)
      | refine aops_cons rfl rfl (AOp.add rfl rfl rfl rfl ?_)
      refine aops_cons rfl rfl (AOp.move rfl rfl ?_)
      refine aops_cons rfl rfl (AOp.callN (Af := []) Try.call51 rfl rfl rfl (List.Perm.refl _) (by exact num l _ 2 b k3 hl (by decide)) (fun r' A'' hr => ?_))
      obtain ⟨rfl, rfl⟩ := hr
      first
      | refine aops_cons rfl rfl (AOp.addE rfl rfl rfl (by first | omega | (simp <;> omega) | (simp at * <;> omega)) (by first | omega | (simp <;> omega) | (simp at * <;> omega)) ?_)
      | refine aops_cons rfl rfl (AOp.add rfl rfl rfl rfl ?_)
      refine aops_cons rfl rfl (AOp.move rfl rfl ?_)
      refine aops_cons rfl rfl (AOp.callN (Af := []) Try.call51 rfl rfl rfl (List.Perm.refl _) (by exact num l _ 200 b k4 hl (by decide)) (fun r' A'' hr => ?_))
      obtain ⟨rfl, rfl⟩ := hr
      refine aops_cons rfl rfl (AOp.build' (places := [(0, 1), (1, 1), (2, 1), (3, 1)]) Try.zeroValue58 (by kernel_rfl) (by kernel_rfl) Try.underlying58 (by kernel_rfl) rfl rfl rfl rfl ?_)
      refine aops_cons rfl rfl (AOp.callP Try.call33 rfl rfl rfl (by exact refGrant x (leaf1 l n') (by have := hg.2.1; omega)) ?_)
      refine aops_cons rfl rfl (AOp.assign rfl rfl ?_)
      refine aops_nil ?_
      refine aw_region ?_
      refine aops_cons rfl rfl (AOp.move rfl rfl ?_)
      first
      | refine aops_cons rfl rfl (AOp.subE rfl rfl rfl (by first | omega | (simp <;> omega) | (simp at * <;> omega)) (by first | omega | (simp <;> omega) | (simp at * <;> omega)) ?_)
      | refine aops_cons rfl rfl (AOp.sub rfl rfl rfl rfl ?_)
      refine aops_cons rfl rfl (AOp.assign rfl rfl ?_)
      refine aops_nil ?_
      obtain ⟨j, rfl⟩ : ∃ j, i = j + 1 := ⟨i - 1, by omega⟩
      have e : ((j + 1 : Nat) : Int) - 1 = (j : Int) := by omega
      rw [rgr_eq hg.1, e]
      refine ⟨(j, leafN l n', gr2 x (leaf1 l n')), ⟨by omega, k5, ?_⟩, by dsimp only; omega, (wk_env (sube_cons rfl (sube_cons rfl (sube_cons rfl (sube_nil _)))))⟩
      have := goodL_step (n := n') l hg
      rwa [show 7 - (j + 1) + 1 = 7 - j by omega] at this

end Go.Proofs.Ytdlkmimgdghgcaa
