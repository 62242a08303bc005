/- Own text: leases are deleted. -/
import Derived.Test.YtdacnebhlgibhaaLd
set_option linter.unusedVariables false
set_option linter.unusedSimpArgs false
set_option linter.all false
set_option maxRecDepth 100000
set_option maxHeartbeats 2000000
namespace Go.Proofs.Ytdacnebhlgibhaa
open Go Go.Aw

def rowL (w : Value) (l : List L) : Blk := .row w 111 4 (l.map L.e)
def idx (p : L → Bool) (l : List L) : Int := match l.findIdx? p with | some i => i | none => -1
theorem idx_none {p : L → Bool} {l : List L} (h : ∀ j (hj : j < l.length), p l[j] = false) : idx p l = -1 := by
  unfold idx
  rw [List.findIdx?_eq_none_iff.2]
  intro x hx
  obtain ⟨j, hj, rfl⟩ := List.getElem_of_mem hx
  exact h j hj
theorem idx_some {p : L → Bool} {l : List L} {i : Nat} (hi : i < l.length) (h : ∀ j (hj : j < l.length), j < i → p l[j] = false) (hp : p l[i] = true) : idx p l = (i : Int) := by
  unfold idx
  rw [List.findIdx?_eq_some_iff_getElem.2 ⟨hi, hp, fun j hj => by simpa using h j (by omega) hj⟩]
theorem idx_cases (p : L → Bool) (l : List L) : (idx p l = -1 ∧ l.filter (fun x => !p x) = l) ∨ ∃ n : Nat, idx p l = (n : Int) ∧ n < l.length ∧ l.take n = (l.take (n + 1)).filter (fun x => !p x) := by
  cases h : l.findIdx? p with
  | none =>
    refine .inl ⟨by unfold idx; rw [h], ?_⟩
    rw [List.findIdx?_eq_none_iff] at h
    rw [List.filter_eq_self]
    intro x hx; simpa using h x hx
  | some n =>
    have h' := List.findIdx?_eq_some_iff_getElem.1 h
    obtain ⟨hn, hp, hb⟩ := h'
    refine .inr ⟨n, by unfold idx; rw [h], hn, ?_⟩
    rw [take_filter hn]
    simp only [hp, Bool.not_true, Bool.false_eq_true, if_false, List.append_nil]
    symm
    rw [List.filter_eq_self]
    intro x hx
    obtain ⟨j, hj, rfl⟩ := List.getElem_of_mem hx
    have := hb j (by simp at hj; omega)
    simpa using this
theorem drop_get {m l : List L} {j : Nat} (h : m.drop j = l.drop j) (hm : j < m.length) (hl : j < l.length) : m[j] = l[j] ∧ m.drop (j + 1) = l.drop (j + 1) := by
  rw [List.drop_eq_getElem_cons hm, List.drop_eq_getElem_cons hl] at h
  exact ⟨(List.cons.inj h).1, (List.cons.inj h).2⟩
theorem del_keep {m l : List L} {q : L → Bool} {i j : Nat} (hij : i ≤ j) (hj : j < l.length) (hml : m.length = l.length) (h1 : m.take i = (l.take j).filter q) (h2 : m.drop j = l.drop j) (hq : q (m[j]'(by omega)) = true) (hlt : i < j) :
    (m.set i (m[j]'(by omega))).take (i + 1) = (l.take (j + 1)).filter q ∧ (m.set i (m[j]'(by omega))).drop (j + 1) = l.drop (j + 1) := by
  obtain ⟨e1, e2⟩ := drop_get h2 (by omega) hj
  rw [take_filter hj, ← e1, if_pos hq, ← h1]
  constructor
  · rw [List.take_add_one, List.take_set_of_le (Nat.le_refl _)]
    simp [show i < m.length by omega]
  · rw [List.drop_set_of_lt (by omega), e2]
theorem del_skip {m l : List L} {q : L → Bool} {i j : Nat} (hj : j < l.length) (hml : m.length = l.length) (h1 : m.take i = (l.take j).filter q) (h2 : m.drop j = l.drop j) (hq : q (m[j]'(by omega)) = false) :
    m.take i = (l.take (j + 1)).filter q ∧ m.drop (j + 1) = l.drop (j + 1) := by
  obtain ⟨e1, e2⟩ := drop_get h2 (by omega) hj
  rw [take_filter hj, ← e1, hq, h1]
  simp [e2]

theorem clone (l : List L) (hl : l.length ≤ 1000000) : ACalls Try.prog 100 [ls l] [] (fun r A' => ∃ w, r = .sc w ∧ A' = [rowL w l]) (fun _ _ => False) := by
  refine acallsN Try.func100 rfl Try.ntmps100 rfl ?_
  refine aw_seq ?_
  refine aw_region ?_
  refine aops_cons rfl rfl (AOp.assign rfl rfl ?_)
  refine aops_nil ?_
  refine aw_seq ?_
  refine aw_seq ?_
  refine aw_region ?_
  refine aops_cons rfl rfl (AOp.move rfl rfl ?_)
  (refine aops_cons rfl rfl (AOp.eqNilS Try.underlying27 rfl rfl rfl ?_); intro t1 ht1)
  refine aops_nil ?_
  refine aw_cond _ rfl (fun h2 => ?_) (fun h2 => ?_)
  focus
    have h2_ := h2
    try simp only [List.length_map, List.length_cons, List.length_nil, nrm] at h2
    all_goals try (exfalso; first | (simp at h2_; done) | omega)
    all_goals
      refine aw_seq ?_
      refine aw_region ?_
      refine aops_cons rfl rfl (AOp.assign rfl rfl ?_)
      refine aops_nil ?_
      refine aw_weak (wk_nil 111 4) ?_
      refine aw_ret ?_
      refine ⟨_, (res1 Try.results100 rfl), ?_⟩
      have h0 : l = [] := List.map_eq_nil_iff.1 (ht1 (by assumption))
      subst h0
      exact ⟨_, rfl, rfl⟩
  rotate_right
  focus
    have h2_ := h2
    try simp only [List.length_map, List.length_cons, List.length_nil, nrm] at h2
    all_goals try (exfalso; first | (simp at h2_; done) | omega)
    all_goals
      refine aw_skip ?_
      skip
  all_goals
    refine aw_seq ?_
    refine aw_region ?_
    refine aops_cons rfl rfl (AOp.buildR' Try.underlying27 Try.sizeOf111 Try.zeroValue111 rfl rfl rfl rfl rfl rfl rfl rfl rfl rfl rfl ?_); intro b1
    refine aops_cons rfl rfl (AOp.move rfl rfl ?_)
    (refine aops_cons rfl rfl (AOp.append' (bytes := 32) Try.zeroValue111 Try.sizeOf111 Try.underlying27 (by kernel_rfl) rfl rfl rfl (pull_here _ _) rfl (src_sl Try.underlying27 (by exact len_map (fun _ => rfl))) (by first | omega | (simp <;> omega) | (simp at * <;> omega)) (by decide) ?_); intro b2)
    refine aops_cons rfl rfl (AOp.assign rfl rfl ?_)
    refine aops_nil ?_
    refine aw_ret ?_
    refine ⟨_, (res1 Try.results100 rfl), ?_⟩
    exact ⟨_, rfl, rfl⟩

theorem isOf (x : L) (c f : Int) : Pur Try.prog 101 [.ag x.e, .im [.sc (.int .i64 c)], .im [.sc (.int .i64 f)]] (.sc (.bool (decide (x.c = c ∧ x.f = f)))) := by
  refine acallsN Try.func101 rfl Try.ntmps101 rfl ?_
  refine aw_seq ?_
  refine aw_region ?_
  refine aops_cons rfl rfl (AOp.boxI rfl rfl rfl ?_)
  refine aops_cons rfl rfl (AOp.assign rfl rfl ?_)
  refine aops_nil ?_
  refine aw_seq ?_
  refine aw_region ?_
  refine aops_cons rfl rfl (AOp.fieldI Try.underlying111 rfl Try.sizeOf3 (by decide) rfl rfl rfl ?_)
  refine aops_cons rfl rfl (AOp.load1 Try.isAgg3 rfl rfl (reads_im _ _) rfl ?_)
  refine aops_cons rfl rfl (AOp.load1 Try.isAgg3 rfl rfl (reads_im _ _) rfl ?_)
  refine aops_cons rfl rfl (AOp.eql rfl rfl rfl ?_)
  refine aops_cons rfl rfl (AOp.move rfl rfl ?_)
  refine aops_guard 4 true 9 _ rfl rfl rfl rfl rfl (fun g1 => ?_) (fun g1 => ?_)
  focus
    have g1_ := g1
    try simp only [List.length_map, List.length_cons, List.length_nil, nrm] at g1
    all_goals try (exfalso; first | (simp at g1_; done) | omega)
    all_goals
      refine AOp.fieldI Try.underlying111 rfl Try.sizeOf3 (by decide) rfl rfl rfl ?_
      refine aops_guard 4 true 9 _ rfl rfl rfl rfl rfl (fun _ => ?_) (fun hh => by exfalso; first | (rw [g1_] at hh; exact absurd hh (by decide)) | (revert hh; simp [g1_]))
      refine AOp.load1 Try.isAgg3 rfl rfl (reads_im _ _) rfl ?_
      refine aops_guard 4 true 9 _ rfl rfl rfl rfl rfl (fun _ => ?_) (fun hh => by exfalso; first | (rw [g1_] at hh; exact absurd hh (by decide)) | (revert hh; simp [g1_]))
      refine AOp.load1 Try.isAgg3 rfl rfl (reads_im _ _) rfl ?_
      refine aops_guard 4 true 9 _ rfl rfl rfl rfl rfl (fun _ => ?_) (fun hh => by exfalso; first | (rw [g1_] at hh; exact absurd hh (by decide)) | (revert hh; simp [g1_]))
      refine AOp.eql rfl rfl rfl ?_
  rotate_right
  focus
    have g1_ := g1
    try simp only [List.length_map, List.length_cons, List.length_nil, nrm] at g1
    all_goals try (exfalso; first | (simp at g1_; done) | omega)
    all_goals
      refine aops_guard 4 true 9 _ rfl rfl rfl rfl rfl (fun hh => by exfalso; first | (rw [g1_] at hh; exact absurd hh (by decide)) | (revert hh; simp [g1_])) (fun _ => ?_)
      refine aops_guard 4 true 9 _ rfl rfl rfl rfl rfl (fun hh => by exfalso; first | (rw [g1_] at hh; exact absurd hh (by decide)) | (revert hh; simp [g1_])) (fun _ => ?_)
      refine aops_guard 4 true 9 _ rfl rfl rfl rfl rfl (fun hh => by exfalso; first | (rw [g1_] at hh; exact absurd hh (by decide)) | (revert hh; simp [g1_])) (fun _ => ?_)
  all_goals
    first
    | refine aops_cons rfl rfl (AOp.pick_t rfl rfl (by first | assumption | rfl) rfl ?_)
    | refine aops_cons rfl rfl (AOp.pick_f rfl rfl (by first | assumption | rfl) rfl ?_)
    refine aops_cons rfl rfl (AOp.assign rfl rfl ?_)
    refine aops_nil ?_
    refine aw_weak (wk_drop (List.nil_sublist _)) ?_
    refine aw_ret ?_
    refine ⟨_, (res1 Try.results101 rfl), ?_⟩
    refine ⟨?_, rfl⟩
    simp [ofV, *]

theorem isOver (x : L) (now : Int) : Pur Try.prog 125 [.ag x.e, .im [.sc (.int .i64 now)]] (.sc (.bool (decide (x.u ≤ now)))) := by
  refine acallsN Try.func125 rfl Try.ntmps125 rfl ?_
  refine aw_seq ?_
  refine aw_region ?_
  refine aops_cons rfl rfl (AOp.boxI rfl rfl rfl ?_)
  refine aops_cons rfl rfl (AOp.assign rfl rfl ?_)
  refine aops_nil ?_
  refine aw_seq ?_
  refine aw_region ?_
  refine aops_cons rfl rfl (AOp.fieldI Try.underlying111 rfl Try.sizeOf3 (by decide) rfl rfl rfl ?_)
  refine aops_cons rfl rfl (AOp.load1 Try.isAgg3 rfl rfl (reads_im _ _) rfl ?_)
  refine aops_cons rfl rfl (AOp.load1 Try.isAgg3 rfl rfl (reads_im _ _) rfl ?_)
  refine aops_cons rfl rfl (AOp.leq rfl rfl rfl ?_)
  refine aops_cons rfl rfl (AOp.assign rfl rfl ?_)
  refine aops_nil ?_
  refine aw_weak (wk_drop (List.nil_sublist _)) ?_
  refine aw_ret ?_
  refine ⟨_, (res1 Try.results125 rfl), ?_⟩
  exact ⟨rfl, rfl⟩

theorem index (l : List L) (hl : l.length ≤ 1000000) (p : L → Bool) (k : FuncId) (caps : List AV) (w : Value) (hk : ∀ (args : Array Value) (w : World), (callFunc k args).run Try.prog w = .ok (.enter k args) w) (hp : ∀ x : L, Pur Try.prog k ([.ag x.e] ++ caps) (.sc (.bool (p x)))) : ACalls Try.prog 124 [.sc w, .fn (.func k) caps] [rowL w l] (fun r A' => r = .sc (.int .i64 (idx p l)) ∧ A' = [rowL w l]) (fun _ _ => False) := by
  unfold rowL
  refine acallsN Try.func124 rfl Try.ntmps124 rfl ?_
  refine aw_seq ?_
  refine aw_region ?_
  refine aops_cons rfl rfl (AOp.assign rfl rfl ?_)
  refine aops_nil ?_
  refine aw_seq ?_
  refine aw_seq ?_
  refine aw_region ?_
  refine aops_cons rfl rfl (AOp.move rfl rfl ?_)
  refine aops_cons rfl rfl (AOp.lenR (by first | exact List.length_map _ | rfl) Try.underlying27 (.head _) rfl rfl ?_)
  refine aops_cons rfl rfl (AOp.move rfl rfl ?_)
  refine aops_nil ?_
  refine aw_block ?_
  refine aw_loop (β := Nat) (S := (fun (z0 : Nat) => match z0 with | i => [(0, .sc w), (1, .fn (.func k) caps), (6, .sc w), (7, .sc (.int .i64 (l.length : Nat))), (8, .sc (.int .i64 (i : Int)))])) (B := (fun (z0 : Nat) => match z0 with | i => [.row w 111 4 (l.map L.e)])) (pre := (fun (z0 : Nat) => match z0 with | i => i ≤ l.length ∧ ∀ j (h : j < l.length), j < i → p l[j] = false)) (μ := (fun (z0 : Nat) => match z0 with | i => l.length - i)) 0 (wk_env (sube_cons rfl (sube_cons rfl (sube_cons rfl (sube_cons rfl (sube_cons rfl (sube_nil _))))))) ?_ ?_
  · exact ⟨Nat.zero_le _, fun k h h0 => by omega⟩
  · rintro i ⟨hi, ha⟩
    change AW _ _ _ ([(0, .sc w), (1, .fn (.func k) caps), (6, .sc w), (7, .sc (.int .i64 (l.length : Nat))), (8, .sc (.int .i64 (i : Int)))] : Env) ([.row w 111 4 (l.map L.e)] : List Blk) _
    refine aw_seq ?_
    refine aw_region ?_
    refine aops_cons rfl rfl (AOp.lss rfl rfl rfl ?_)
    refine aops_nil ?_
    refine aw_seq ?_
    refine aw_cond _ rfl (fun h1 => ?_) (fun h1 => ?_)
    focus
      have h1_ := h1
      try simp only [List.length_map, List.length_cons, List.length_nil, nrm] at h1
      all_goals try (exfalso; first | (simp at h1_; done) | omega)
      all_goals
        refine aw_skip ?_
        skip
    rotate_right
    focus
      have h1_ := h1
      try simp only [List.length_map, List.length_cons, List.length_nil, nrm] at h1
      all_goals try (exfalso; first | (simp at h1_; done) | omega)
      all_goals
        refine aw_exit ?_
        refine aw_seq ?_
        refine aw_region ?_
        refine aops_cons rfl rfl (AOp.assign rfl rfl ?_)
        refine aops_nil ?_
        refine aw_ret ?_
        refine ⟨_, (res1 Try.results124 rfl), ?_⟩
        refine ⟨?_, rfl⟩
        rw [idx_none (fun j h => ha j h (by omega))]; rfl
    all_goals
      refine aw_seq ?_
      refine aw_block ?_
      refine aw_seq ?_
      refine aw_region ?_
      refine aops_cons rfl rfl (AOp.move rfl rfl ?_)
      refine aops_cons rfl rfl (AOp.assign rfl rfl ?_)
      refine aops_nil ?_
      refine aw_seq ?_
      refine aw_region ?_
      refine aops_cons rfl rfl (AOp.move rfl rfl ?_)
      refine aops_cons rfl rfl (AOp.move rfl rfl ?_)
      refine aops_cons rfl rfl (AOp.move rfl rfl ?_)
      refine aops_cons rfl rfl (AOp.indexR Try.underlying27 Try.sizeOf111 (.head _) rfl rfl rfl (by first | omega | (simp <;> omega) | (simp at * <;> omega)) (by first | omega | (simp <;> omega) | (simp at * <;> omega)) ?_)
      refine aops_cons rfl rfl (AOp.loadN Try.isAgg111 Try.sizeOf111 rfl rfl (reads_row _ (.head _) (idx_nat (by first | omega | (simp <;> omega) | (simp at * <;> omega))) (by first | omega | (simp <;> omega) | (simp at * <;> omega))) rfl rfl ?_)
      refine aops_cons rfl rfl (AOp.callP hk rfl rfl rfl (by exact hp _) ?_)
      refine aops_nil ?_
      refine aw_cond _ rfl (fun h2 => ?_) (fun h2 => ?_)
      focus
        have h2_ := h2
        try simp only [List.length_map, List.length_cons, List.length_nil, nrm] at h2
        all_goals try (exfalso; first | (simp at h2_; done) | omega)
        all_goals
          refine aw_seq ?_
          refine aw_region ?_
          refine aops_cons rfl rfl (AOp.move rfl rfl ?_)
          refine aops_cons rfl rfl (AOp.assign rfl rfl ?_)
          refine aops_nil ?_
          refine aw_ret ?_
          refine ⟨_, (res1 Try.results124 rfl), ?_⟩
          refine ⟨?_, rfl⟩
          rw [idx_some (by omega) ha (by assumption)]
      rotate_right
      focus
        have h2_ := h2
        try simp only [List.length_map, List.length_cons, List.length_nil, nrm] at h2
        all_goals try (exfalso; first | (simp at h2_; done) | omega)
        all_goals
          refine aw_skip ?_
          skip
      all_goals
        refine aw_region ?_
        refine aops_cons rfl rfl (AOp.addE rfl rfl rfl (by first | omega | (simp <;> omega) | (simp at * <;> omega)) (by first | omega | (simp <;> omega) | (simp at * <;> omega)) ?_)
        refine aops_cons rfl rfl (AOp.move rfl rfl ?_)
        refine aops_nil ?_
        refine ⟨i + 1, ⟨by omega, fun j h hj => ?_⟩, by dsimp only; omega, (wk_env (sube_cons rfl (sube_cons rfl (sube_cons rfl (sube_cons rfl (sube_cons rfl (sube_nil _)))))))⟩
        rcases Nat.lt_or_ge j i with h0 | h0
        · exact ha j h h0
        · have e : j = i := by omega
          subst e; assumption

theorem delete (l : List L) (hl : l.length ≤ 1000000) (p : L → Bool) (k : FuncId) (caps : List AV) (w : Value) (hk : ∀ (args : Array Value) (w : World), (callFunc k args).run Try.prog w = .ok (.enter k args) w) (hp : ∀ x : L, Pur Try.prog k ([.ag x.e] ++ caps) (.sc (.bool (p x)))) : ACalls Try.prog 99 [.sc w, .fn (.func k) caps] [rowL w l] (fun r A' => ∃ w', r = .sc w' ∧ A' = [rowL w' (l.filter (fun x => !p x))]) (fun _ _ => False) := by
  unfold rowL
  refine acallsN Try.func99 rfl Try.ntmps99 rfl ?_
  refine aw_seq ?_
  refine aw_region ?_
  refine aops_cons rfl rfl (AOp.assign rfl rfl ?_)
  refine aops_nil ?_
  refine aw_seq ?_
  refine aw_region ?_
  refine aops_cons rfl rfl (AOp.move rfl rfl ?_)
  refine aops_cons rfl rfl (AOp.move rfl rfl ?_)
  refine aops_cons rfl rfl (AOp.callN (Af := []) Try.call124 rfl rfl rfl (List.Perm.refl _) (by exact index l hl p k caps w hk hp) (fun r' A'' hr => ?_))
  obtain ⟨rfl, rfl⟩ := hr
  refine aops_cons rfl rfl (AOp.assign rfl rfl ?_)
  refine aops_nil ?_
  refine aw_seq ?_
  refine aw_seq ?_
  refine aw_region ?_
  refine aops_cons rfl rfl (AOp.move rfl rfl ?_)
  refine aops_cons rfl rfl (AOp.eql rfl rfl rfl ?_)
  refine aops_nil ?_
  refine aw_cond _ rfl (fun h1 => ?_) (fun h1 => ?_)
  focus
    have h1_ := h1
    try simp only [List.length_map, List.length_cons, List.length_nil, nrm] at h1
    all_goals try (exfalso; first | (simp at h1_; done) | omega)
    all_goals
      refine aw_seq ?_
      refine aw_region ?_
      refine aops_cons rfl rfl (AOp.move rfl rfl ?_)
      refine aops_cons rfl rfl (AOp.assign rfl rfl ?_)
      refine aops_nil ?_
      refine aw_ret ?_
      refine ⟨_, (res1 Try.results99 rfl), ?_⟩
      refine ⟨w, rfl, ?_⟩
      rcases idx_cases p l with ⟨_, e⟩ | ⟨n, e, _⟩
      · rw [e]; rfl
      · rw [h1] at e; exfalso; omega
  rotate_right
  focus
    have h1_ := h1
    try simp only [List.length_map, List.length_cons, List.length_nil, nrm] at h1
    all_goals try (exfalso; first | (simp at h1_; done) | omega)
    all_goals
      refine aw_skip ?_
      skip
  all_goals
    refine aw_seq ?_
    refine aw_seq ?_
    rcases idx_cases p l with ⟨e, _⟩ | ⟨n, e, hn, ht⟩
    · exact absurd e (by assumption)
    rw [e]
    refine aw_region ?_
    refine aops_cons rfl rfl (AOp.move rfl rfl ?_)
    refine aops_cons rfl rfl (AOp.addE rfl rfl rfl (by first | omega | (simp <;> omega) | (simp at * <;> omega)) (by first | omega | (simp <;> omega) | (simp at * <;> omega)) ?_)
    refine aops_cons rfl rfl (AOp.assign rfl rfl ?_)
    refine aops_nil ?_
    refine aw_block ?_
    refine aw_loop (β := Nat × Nat × List L) (S := (fun (z0 : Nat × Nat × List L) => match z0 with | (i, j, m) => [(0, .sc w), (1, .fn (.func k) caps), (5, .sc (.int .i64 (i : Int))), (6, .sc (.int .i64 (j : Int)))])) (B := (fun (z0 : Nat × Nat × List L) => match z0 with | (i, j, m) => [.row w 111 4 (m.map L.e)])) (pre := (fun (z0 : Nat × Nat × List L) => match z0 with | (i, j, m) => i < j ∧ j ≤ l.length ∧ m.length = l.length ∧ m.take i = (l.take j).filter (fun x => !p x) ∧ m.drop j = l.drop j)) (μ := (fun (z0 : Nat × Nat × List L) => match z0 with | (i, j, m) => l.length - j)) (n, n + 1, l) (wk_env (sube_cons rfl (sube_cons rfl (sube_cons rfl (sube_cons rfl (sube_nil _)))))) ?_ ?_
    · exact ⟨by omega, by omega, rfl, ht, rfl⟩
    · rintro ⟨i, j, m⟩ ⟨hij, hj, hml, hA, hB⟩
      change AW _ _ _ ([(0, .sc w), (1, .fn (.func k) caps), (5, .sc (.int .i64 (i : Int))), (6, .sc (.int .i64 (j : Int)))] : Env) ([.row w 111 4 (m.map L.e)] : List Blk) _
      refine aw_seq ?_
      refine aw_seq ?_
      refine aw_region ?_
      refine aops_cons rfl rfl (AOp.move rfl rfl ?_)
      refine aops_cons rfl rfl (AOp.move rfl rfl ?_)
      refine aops_cons rfl rfl (AOp.lenR (by first | exact List.length_map _ | rfl) Try.underlying27 (.head _) rfl rfl ?_)
      refine aops_cons rfl rfl (AOp.lss rfl rfl rfl ?_)
      refine aops_nil ?_
      refine aw_cond _ rfl (fun h2 => ?_) (fun h2 => ?_)
      focus
        have h2_ := h2
        try simp only [List.length_map, List.length_cons, List.length_nil, nrm] at h2
        all_goals try (exfalso; first | (simp at h2_; done) | omega)
        all_goals
          refine aw_skip ?_
          skip
      rotate_right
      focus
        have h2_ := h2
        try simp only [List.length_map, List.length_cons, List.length_nil, nrm] at h2
        all_goals try (exfalso; first | (simp at h2_; done) | omega)
        all_goals
          refine aw_exit ?_
          refine aw_seq ?_
          refine aw_region ?_
          refine aops_cons rfl rfl (AOp.move rfl rfl ?_)
          refine aops_cons rfl rfl (AOp.move rfl rfl ?_)
          refine aops_cons rfl rfl (AOp.cutR Try.underlying27 Try.sizeOf111 (.head _) rfl rfl (bd_some rfl (by first | omega | (simp <;> omega) | (simp at * <;> omega)) rfl) bd_none (by first | omega | (simp <;> omega) | (simp at * <;> omega)) (by first | omega | (simp <;> omega) | (simp at * <;> omega)) rfl ?_)
          refine aops_cons rfl rfl (AOp.clearO Try.underlying27 Try.zeroValue111 rfl (by kernel_rfl) (by decide) rfl rfl (pull_here _ _) (by first | omega | (simp <;> omega) | (simp at * <;> omega)) rfl ?_)
          refine aops_nil ?_
          refine aw_seq ?_
          refine aw_region ?_
          refine aops_cons rfl rfl (AOp.move rfl rfl ?_)
          refine aops_cons rfl rfl (AOp.move rfl rfl ?_)
          refine aops_cons rfl rfl (AOp.cutR Try.underlying27 Try.sizeOf111 (.head _) rfl rfl bd_none (bd_some rfl (by first | omega | (simp <;> omega) | (simp at * <;> omega)) rfl) (by first | omega | (simp <;> omega) | (simp at * <;> omega)) (by first | omega | (simp <;> omega) | (simp at * <;> omega)) rfl ?_)
          refine aops_cons rfl rfl (AOp.assign rfl rfl ?_)
          refine aops_nil ?_
          refine wk_front (sz := 4) (q := 4) (m := i) (pull_here _ _) rfl (by simp; omega) (fun w' => ?_)
          refine aw_ret ?_
          refine ⟨_, (res1 Try.results99 rfl), ?_⟩
          refine ⟨w', rfl, ?_⟩
          have e : j = l.length := by omega
          subst e
          rw [List.take_of_length_le (Nat.le_refl _)] at hA
          rw [← hA]
          show [Blk.row w' 111 4 _] = [Blk.row w' 111 4 _]
          congr 2
          rw [List.take_append_of_le_length (by simp; omega), List.take_take, List.map_take, show min i (↑i : Int).toNat = i by omega]
      all_goals
        refine aw_seq ?_
        refine aw_block ?_
        refine aw_seq ?_
        refine aw_region ?_
        refine aops_cons rfl rfl (AOp.move rfl rfl ?_)
        refine aops_cons rfl rfl (AOp.move rfl rfl ?_)
        refine aops_cons rfl rfl (AOp.indexR Try.underlying27 Try.sizeOf111 (.head _) rfl rfl rfl (by first | omega | (simp <;> omega) | (simp at * <;> omega)) (by first | omega | (simp <;> omega) | (simp at * <;> omega)) ?_)
        refine aops_cons rfl rfl (AOp.loadN Try.isAgg111 Try.sizeOf111 rfl rfl (reads_row _ (.head _) (idx_nat (by first | omega | (simp <;> omega) | (simp at * <;> omega))) (by first | omega | (simp <;> omega) | (simp at * <;> omega))) rfl rfl ?_)
        refine aops_cons rfl rfl (AOp.alloc Try.zeroValue111 (by kernel_rfl) rfl rfl ?_); intro b1
        refine aops_cons rfl rfl (AOp.storeB' Try.sizeOf111 rfl rfl rfl rfl rfl (pull_here _ _) rfl rfl ?_)
        refine aops_nil ?_
        refine aw_seq ?_
        refine aw_region ?_
        refine aops_cons rfl rfl (AOp.move rfl rfl ?_)
        refine aops_cons rfl rfl (AOp.loadN Try.isAgg111 Try.sizeOf111 rfl rfl (reads_box _ (.head _)) rfl rfl ?_)
        refine aops_cons rfl rfl (AOp.callP hk rfl rfl rfl (by exact hp _) ?_)
        refine aops_cons rfl rfl (AOp.not rfl rfl ?_)
        refine aops_nil ?_
        refine aw_cond _ rfl (fun h3 => ?_) (fun h3 => ?_)
        focus
          have h3_ := h3
          try simp only [List.length_map, List.length_cons, List.length_nil, nrm] at h3
          all_goals try (exfalso; first | (simp at h3_; done) | omega)
          all_goals
            refine aw_seq ?_
            refine aw_region ?_
            refine aops_cons rfl rfl (AOp.move rfl rfl ?_)
            refine aops_cons rfl rfl (AOp.move rfl rfl ?_)
            refine aops_cons rfl rfl (AOp.loadN Try.isAgg111 Try.sizeOf111 rfl rfl (reads_box _ (.head _)) rfl rfl ?_)
            refine aops_cons rfl rfl (AOp.indexR Try.underlying27 Try.sizeOf111 (.tail _ (.head _)) rfl rfl rfl (by first | omega | (simp <;> omega) | (simp at * <;> omega)) (by first | omega | (simp <;> omega) | (simp at * <;> omega)) ?_)
            refine aops_cons rfl rfl (AOp.storeR' Try.sizeOf111 rfl rfl rfl rfl rfl (pull_there (pull_here _ _)) (by first | exact idx_nat (by first | omega | (simp <;> omega) | (simp at * <;> omega)) | exact idx_map (by first | omega | (simp <;> omega) | (simp at * <;> omega)) | assumption) rfl rfl rfl ?_)
            refine aops_nil ?_
            refine aw_region ?_
            refine aops_cons rfl rfl (AOp.move rfl rfl ?_)
            refine aops_cons rfl rfl (AOp.addE rfl rfl rfl (by first | omega | (simp <;> omega) | (simp at * <;> omega)) (by first | omega | (simp <;> omega) | (simp at * <;> omega)) ?_)
            refine aops_cons rfl rfl (AOp.assign rfl rfl ?_)
            refine aops_nil ?_
            skip
        rotate_right
        focus
          have h3_ := h3
          try simp only [List.length_map, List.length_cons, List.length_nil, nrm] at h3
          all_goals try (exfalso; first | (simp at h3_; done) | omega)
          all_goals
            refine aw_skip ?_
            skip
        all_goals
          refine aw_region ?_
          refine aops_cons rfl rfl (AOp.move rfl rfl ?_)
          refine aops_cons rfl rfl (AOp.addE rfl rfl rfl (by first | omega | (simp <;> omega) | (simp at * <;> omega)) (by first | omega | (simp <;> omega) | (simp at * <;> omega)) ?_)
          refine aops_cons rfl rfl (AOp.assign rfl rfl ?_)
          refine aops_nil ?_
          first
          | (obtain ⟨e1, e2⟩ := del_keep (q := fun x => !p x) (by omega) (by omega) hml hA hB h3_ hij; refine ⟨(i + 1, j + 1, m.set i m[j]), ⟨by omega, by omega, by simpa using hml, e1, e2⟩, by dsimp only; omega, (wk_drop (A' := [.row w 111 4 ((m.map L.e).set i (L.e m[j]))]) ?_).trans ((wk_roweq (A := []) (List.map_set).symm).trans (wk_env (sube_cons rfl (sube_cons rfl (sube_cons rfl (sube_cons rfl (sube_nil _)))))))⟩; (focus ((repeat (first | exact List.Sublist.slnil | apply List.Sublist.cons_cons | apply List.Sublist.cons)); done)))
          | (obtain ⟨e1, e2⟩ := del_skip (q := fun x => !p x) (by omega) hml hA hB h3_; refine ⟨(i, j + 1, m), ⟨by omega, by omega, hml, e1, e2⟩, by dsimp only; omega, (wk_drop ?_).trans (wk_env (sube_cons rfl (sube_cons rfl (sube_cons rfl (sube_cons rfl (sube_nil _))))))⟩; (focus ((repeat (first | exact List.Sublist.slnil | apply List.Sublist.cons_cons | apply List.Sublist.cons)); done)))


def drp (l : List L) (c f : Int) : List L := l.filter fun x => !decide (x.c = c ∧ x.f = f)
def prn (l : List L) (now : Int) : List L := l.filter fun x => !decide (x.u ≤ now)

theorem drop (l : List L) (c f : Int) (hl : l.length ≤ 1000000) : Pur Try.prog 50 [ls l, .sc (.int .i64 c), .sc (.int .i64 f)] (ls (drp l c f)) := by
  refine acallsN Try.func50 rfl Try.ntmps50 rfl ?_
  refine aw_seq ?_
  refine aw_region ?_
  refine aops_cons rfl rfl (AOp.boxI rfl rfl rfl ?_)
  refine aops_cons rfl rfl (AOp.boxI rfl rfl rfl ?_)
  refine aops_cons rfl rfl (AOp.assign rfl rfl ?_)
  refine aops_nil ?_
  refine aw_seq ?_
  refine aw_region ?_
  refine aops_cons rfl rfl (AOp.move rfl rfl ?_)
  refine aops_cons rfl rfl (AOp.callN (Af := []) Try.call100 rfl rfl rfl (List.Perm.refl _) (by exact clone l hl) (fun r' A'' hr => ?_))
  obtain ⟨w, rfl, rfl⟩ := hr
  refine aops_cons rfl rfl (AOp.makeFuncE rfl rfl ?_)
  refine aops_cons rfl rfl (AOp.callN (Af := []) Try.call99 rfl rfl rfl (List.Perm.refl _) (by exact delete l hl (fun x => decide (x.c = c ∧ x.f = f)) 101 [.im [.sc (.int .i64 c)], .im [.sc (.int .i64 f)]] w Try.call101 (fun x => isOf x c f)) (fun r' A'' hr => ?_))
  obtain ⟨w', rfl, rfl⟩ := hr
  refine aops_cons rfl rfl (AOp.assign rfl rfl ?_)
  refine aops_nil ?_
  refine aw_weak (wk_freeze (pull_here _ _) (subf_new (s := 6) rfl (subf_nil _ _ _))) ?_
  refine aw_weak (wk_drop (List.nil_sublist _)) ?_
  refine aw_ret ?_
  refine ⟨_, (res1 Try.results50 rfl), ?_⟩
  exact ⟨rfl, rfl⟩

theorem prune (l : List L) (now : Int) (hl : l.length ≤ 1000000) : Pur Try.prog 102 [ls l, .sc (.int .i64 now)] (ls (prn l now)) := by
  refine acallsN Try.func102 rfl Try.ntmps102 rfl ?_
  refine aw_seq ?_
  refine aw_region ?_
  refine aops_cons rfl rfl (AOp.boxI rfl rfl rfl ?_)
  refine aops_cons rfl rfl (AOp.assign rfl rfl ?_)
  refine aops_nil ?_
  refine aw_seq ?_
  refine aw_region ?_
  refine aops_cons rfl rfl (AOp.move rfl rfl ?_)
  refine aops_cons rfl rfl (AOp.callN (Af := []) Try.call100 rfl rfl rfl (List.Perm.refl _) (by exact clone l hl) (fun r' A'' hr => ?_))
  obtain ⟨w, rfl, rfl⟩ := hr
  refine aops_cons rfl rfl (AOp.makeFuncE rfl rfl ?_)
  refine aops_cons rfl rfl (AOp.callN (Af := []) Try.call99 rfl rfl rfl (List.Perm.refl _) (by exact delete l hl (fun x => decide (x.u ≤ now)) 125 [.im [.sc (.int .i64 now)]] w Try.call125 (fun x => isOver x now)) (fun r' A'' hr => ?_))
  obtain ⟨w', rfl, rfl⟩ := hr
  refine aops_cons rfl rfl (AOp.assign rfl rfl ?_)
  refine aops_nil ?_
  refine aw_weak (wk_freeze (pull_here _ _) (subf_new (s := 4) rfl (subf_nil _ _ _))) ?_
  refine aw_weak (wk_drop (List.nil_sublist _)) ?_
  refine aw_ret ?_
  refine ⟨_, (res1 Try.results102 rfl), ?_⟩
  exact ⟨rfl, rfl⟩

end Go.Proofs.Ytdacnebhlgibhaa
