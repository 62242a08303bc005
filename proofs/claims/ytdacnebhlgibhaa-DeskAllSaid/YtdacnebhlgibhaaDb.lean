/- Own text: lines are searched and made shorter. -/
import Derived.Test.YtdacnebhlgibhaaDa
set_option linter.unusedVariables false
set_option linter.unusedSimpArgs false
set_option linter.all false
set_option maxRecDepth 100000
set_option maxHeartbeats 2000000
namespace Go.Proofs.Ytdacnebhlgibhaa
open Go Go.Aw

def rowW (w : Value) (l : List Wt) : Blk := .row w 25 4 (l.map Wt.e)
/-- The first place where something is so, or -1. -/
def idg {α : Type} (p : α → Bool) (l : List α) : Int := match l.findIdx? p with | some i => i | none => -1
theorem idg_none {α : Type} {p : α → Bool} {l : List α} (h : ∀ j (hj : j < l.length), p l[j] = false) : idg p l = -1 := by
  unfold idg
  rw [List.findIdx?_eq_none_iff.2]
  intro x hx
  obtain ⟨j, hj, rfl⟩ := List.getElem_of_mem hx
  exact h j hj
theorem idg_some {α : Type} {p : α → Bool} {l : List α} {i : Nat} (hi : i < l.length) (h : ∀ j (hj : j < l.length), j < i → p l[j] = false) (hp : p l[i] = true) : idg p l = (i : Int) := by
  unfold idg
  rw [List.findIdx?_eq_some_iff_getElem.2 ⟨hi, hp, fun j hj => by simpa using h j (by omega) hj⟩]
theorem idg_is {α : Type} (p : α → Bool) (l : List α) : (idg p l = -1 ∧ ∀ x ∈ l, p x = false) ∨ ∃ n : Nat, ∃ h : n < l.length, idg p l = (n : Int) ∧ p l[n] = true ∧ l.find? p = some l[n] := by
  cases h : l.findIdx? p with
  | none =>
    refine .inl ⟨by unfold idg; rw [h], ?_⟩
    rw [List.findIdx?_eq_none_iff] at h
    exact h
  | some n =>
    obtain ⟨hn, hp, hb⟩ := List.findIdx?_eq_some_iff_getElem.1 h
    refine .inr ⟨n, hn, by unfold idg; rw [h], hp, ?_⟩
    rw [List.find?_eq_some_iff_getElem]
    exact ⟨hp, n, hn, rfl, fun j hj => by simpa using hb j hj⟩
theorem idg_cases {α : Type} (p : α → Bool) (l : List α) : (idg p l = -1 ∧ l.filter (fun x => !p x) = l) ∨ ∃ n : Nat, idg p l = (n : Int) ∧ n < l.length ∧ l.take n = (l.take (n + 1)).filter (fun x => !p x) := by
  cases h : l.findIdx? p with
  | none =>
    refine .inl ⟨by unfold idg; rw [h], ?_⟩
    rw [List.findIdx?_eq_none_iff] at h
    rw [List.filter_eq_self]
    intro x hx; simpa using h x hx
  | some n =>
    have h' := List.findIdx?_eq_some_iff_getElem.1 h
    obtain ⟨hn, hp, hb⟩ := h'
    refine .inr ⟨n, by unfold idg; rw [h], hn, ?_⟩
    rw [take_filter hn]
    simp only [hp, Bool.not_true, Bool.false_eq_true, if_false, List.append_nil]
    symm
    rw [List.filter_eq_self]
    intro x hx
    obtain ⟨j, hj, rfl⟩ := List.getElem_of_mem hx
    have := hb j (by simp at hj; omega)
    simpa using this
theorem gdrop_get {α : Type} {m l : List α} {j : Nat} (h : m.drop j = l.drop j) (hm : j < m.length) (hl : j < l.length) : m[j] = l[j] ∧ m.drop (j + 1) = l.drop (j + 1) := by
  rw [List.drop_eq_getElem_cons hm, List.drop_eq_getElem_cons hl] at h
  exact ⟨(List.cons.inj h).1, (List.cons.inj h).2⟩
theorem gdel_keep {α : Type} {m l : List α} {q : α → Bool} {i j : Nat} (hij : i ≤ j) (hj : j < l.length) (hml : m.length = l.length) (h1 : m.take i = (l.take j).filter q) (h2 : m.drop j = l.drop j) (hq : q (m[j]'(by omega)) = true) (hlt : i < j) :
    (m.set i (m[j]'(by omega))).take (i + 1) = (l.take (j + 1)).filter q ∧ (m.set i (m[j]'(by omega))).drop (j + 1) = l.drop (j + 1) := by
  obtain ⟨e1, e2⟩ := gdrop_get h2 (by omega) hj
  rw [take_filter hj, ← e1, if_pos hq, ← h1]
  constructor
  · rw [List.take_add_one, List.take_set_of_le (Nat.le_refl _)]
    simp [show i < m.length by omega]
  · rw [List.drop_set_of_lt (by omega), e2]
theorem gdel_skip {α : Type} {m l : List α} {q : α → Bool} {i j : Nat} (hj : j < l.length) (hml : m.length = l.length) (h1 : m.take i = (l.take j).filter q) (h2 : m.drop j = l.drop j) (hq : q (m[j]'(by omega)) = false) :
    m.take i = (l.take (j + 1)).filter q ∧ m.drop (j + 1) = l.drop (j + 1) := by
  obtain ⟨e1, e2⟩ := gdrop_get h2 (by omega) hj
  rw [take_filter hj, ← e1, hq, h1]
  simp [e2]

theorem add (a b : Int) (h1 : 0 ≤ a) (h2 : a ≤ 1000000) (h3 : 0 ≤ b) (h4 : b ≤ 1000) : Pur Try.prog 104 [.sc (.int .i64 a), .sc (.int .i64 b)] (.sc (.int .i64 (a + b))) := by
  refine acallsN Try.func104 rfl Try.ntmps104 rfl ?_
  refine aw_seq ?_
  refine aw_region ?_
  refine aops_cons rfl rfl (AOp.assign rfl rfl ?_)
  refine aops_nil ?_
  refine aw_seq ?_
  refine aw_seq ?_
  refine aw_region ?_
  refine aops_cons rfl rfl (AOp.move rfl rfl ?_)
  refine aops_cons rfl rfl (AOp.gtr rfl rfl rfl ?_)
  refine aops_cons rfl rfl (AOp.move rfl rfl ?_)
  refine aops_guard 2 true 7 _ rfl rfl rfl rfl rfl (fun g1 => ?_) (fun g1 => ?_)
  focus
    have g1_ := g1
    try simp only [List.length_map, List.length_cons, List.length_nil, nrm] at g1
    all_goals try (exfalso; first | (simp at g1_; done) | omega)
    all_goals
      refine AOp.move rfl rfl ?_
      refine aops_guard 2 true 7 _ rfl rfl rfl rfl rfl (fun _ => ?_) (fun hh => by exfalso; first | (rw [g1_] at hh; exact absurd hh (by decide)) | (revert hh; simp [g1_]))
      refine AOp.move rfl rfl ?_
      refine aops_guard 2 true 7 _ rfl rfl rfl rfl rfl (fun _ => ?_) (fun hh => by exfalso; first | (rw [g1_] at hh; exact absurd hh (by decide)) | (revert hh; simp [g1_]))
      refine AOp.subE rfl rfl rfl (by first | omega | (simp <;> omega) | (simp at * <;> omega)) (by first | omega | (simp <;> omega) | (simp at * <;> omega)) ?_
      refine aops_guard 2 true 7 _ rfl rfl rfl rfl rfl (fun _ => ?_) (fun hh => by exfalso; first | (rw [g1_] at hh; exact absurd hh (by decide)) | (revert hh; simp [g1_]))
      refine AOp.gtr rfl rfl rfl ?_
  rotate_right
  focus
    have g1_ := g1
    try simp only [List.length_map, List.length_cons, List.length_nil, nrm] at g1
    all_goals try (exfalso; first | (simp at g1_; done) | omega)
    all_goals
      refine aops_guard 2 true 7 _ rfl rfl rfl rfl rfl (fun hh => by exfalso; first | (rw [g1_] at hh; exact absurd hh (by decide)) | (revert hh; simp [g1_])) (fun _ => ?_)
      refine aops_guard 2 true 7 _ rfl rfl rfl rfl rfl (fun hh => by exfalso; first | (rw [g1_] at hh; exact absurd hh (by decide)) | (revert hh; simp [g1_])) (fun _ => ?_)
      refine aops_guard 2 true 7 _ rfl rfl rfl rfl rfl (fun hh => by exfalso; first | (rw [g1_] at hh; exact absurd hh (by decide)) | (revert hh; simp [g1_])) (fun _ => ?_)
  all_goals
    first
    | refine aops_cons rfl rfl (AOp.pick_t rfl rfl (by first | assumption | rfl) rfl ?_)
    | refine aops_cons rfl rfl (AOp.pick_f rfl rfl (by first | assumption | rfl) rfl ?_)
    refine aops_nil ?_
    refine aw_cond _ rfl (fun h2 => ?_) (fun h2 => ?_)
    focus
      have h2_ := h2
      try simp only [List.length_map, List.length_cons, List.length_nil, nrm] at h2
      all_goals try (exfalso; first | (simp at h2_; done) | omega)
    rotate_right
    focus
      have h2_ := h2
      try simp only [List.length_map, List.length_cons, List.length_nil, nrm] at h2
      all_goals try (exfalso; first | (simp at h2_; done) | omega)
      all_goals
        refine aw_skip ?_
        skip
    all_goals
      refine aw_seq ?_
      refine aw_region ?_
      refine aops_cons rfl rfl (AOp.move rfl rfl ?_)
      refine aops_cons rfl rfl (AOp.move rfl rfl ?_)
      refine aops_cons rfl rfl (AOp.addE rfl rfl rfl (by first | omega | (simp <;> omega) | (simp at * <;> omega)) (by first | omega | (simp <;> omega) | (simp at * <;> omega)) ?_)
      refine aops_cons rfl rfl (AOp.assign rfl rfl ?_)
      refine aops_nil ?_
      refine aw_weak (wk_drop (List.nil_sublist _)) ?_
      refine aw_ret ?_
      refine ⟨_, (res1 Try.results104 rfl), ?_⟩
      exact ⟨rfl, rfl⟩

theorem rAdd (a b : Int) (h1 : 0 ≤ a) (h2 : a ≤ 1000000) (h3 : 0 ≤ b) (h4 : b ≤ 1000) : Pur Try.prog 110 [.sc (.int .i64 a), .sc (.int .i64 b)] (.sc (.int .i64 (a + b))) := by
  refine acallsN Try.func110 rfl Try.ntmps110 rfl ?_
  refine aw_seq ?_
  refine aw_region ?_
  refine aops_cons rfl rfl (AOp.assign rfl rfl ?_)
  refine aops_nil ?_
  refine aw_seq ?_
  refine aw_seq ?_
  refine aw_region ?_
  refine aops_cons rfl rfl (AOp.move rfl rfl ?_)
  refine aops_cons rfl rfl (AOp.move rfl rfl ?_)
  refine aops_cons rfl rfl (AOp.subE rfl rfl rfl (by first | omega | (simp <;> omega) | (simp at * <;> omega)) (by first | omega | (simp <;> omega) | (simp at * <;> omega)) ?_)
  refine aops_cons rfl rfl (AOp.gtr rfl rfl rfl ?_)
  refine aops_nil ?_
  refine aw_cond _ rfl (fun h1 => ?_) (fun h1 => ?_)
  focus
    have h1_ := h1
    try simp only [List.length_map, List.length_cons, List.length_nil, nrm] at h1
    all_goals try (exfalso; first | (simp at h1_; done) | omega)
  rotate_right
  focus
    have h1_ := h1
    try simp only [List.length_map, List.length_cons, List.length_nil, nrm] at h1
    all_goals try (exfalso; first | (simp at h1_; done) | omega)
    all_goals
      refine aw_skip ?_
      skip
  all_goals
    refine aw_seq ?_
    refine aw_region ?_
    refine aops_cons rfl rfl (AOp.move rfl rfl ?_)
    refine aops_cons rfl rfl (AOp.move rfl rfl ?_)
    refine aops_cons rfl rfl (AOp.addE rfl rfl rfl (by first | omega | (simp <;> omega) | (simp at * <;> omega)) (by first | omega | (simp <;> omega) | (simp at * <;> omega)) ?_)
    refine aops_cons rfl rfl (AOp.assign rfl rfl ?_)
    refine aops_nil ?_
    refine aw_weak (wk_drop (List.nil_sublist _)) ?_
    refine aw_ret ?_
    refine ⟨_, (res1 Try.results110 rfl), ?_⟩
    exact ⟨rfl, rfl⟩

theorem cloneW (l : List Wt) (hl : l.length ≤ 1000000) : ACalls Try.prog 51 [ws l] [] (fun r A' => ∃ w, r = .sc w ∧ A' = [rowW w l]) (fun _ _ => False) := by
  refine acallsN Try.func51 rfl Try.ntmps51 rfl ?_
  refine aw_seq ?_
  refine aw_region ?_
  refine aops_cons rfl rfl (AOp.assign rfl rfl ?_)
  refine aops_nil ?_
  refine aw_seq ?_
  refine aw_seq ?_
  refine aw_region ?_
  refine aops_cons rfl rfl (AOp.move rfl rfl ?_)
  (refine aops_cons rfl rfl (AOp.eqNilS Try.underlying28 rfl rfl rfl ?_); intro t1 ht1)
  refine aops_nil ?_
  refine aw_cond _ rfl (fun h2 => ?_) (fun h2 => ?_)
  focus
    have h2_ := h2
    try simp only [List.length_map, List.length_cons, List.length_nil, nrm] at h2
    all_goals try (exfalso; first | (simp at h2_; done) | omega)
    all_goals
      refine aw_seq ?_
      refine aw_region ?_
      refine aops_cons rfl rfl (AOp.assign rfl rfl ?_)
      refine aops_nil ?_
      refine aw_weak (wk_nil 25 4) ?_
      refine aw_ret ?_
      refine ⟨_, (res1 Try.results51 rfl), ?_⟩
      have h0 : l = [] := List.map_eq_nil_iff.1 (ht1 (by assumption))
      subst h0
      exact ⟨_, rfl, rfl⟩
  rotate_right
  focus
    have h2_ := h2
    try simp only [List.length_map, List.length_cons, List.length_nil, nrm] at h2
    all_goals try (exfalso; first | (simp at h2_; done) | omega)
    all_goals
      refine aw_skip ?_
      skip
  all_goals
    refine aw_seq ?_
    refine aw_region ?_
    refine aops_cons rfl rfl (AOp.buildR' Try.underlying28 Try.sizeOf25 Try.zeroValue25 rfl rfl rfl rfl rfl rfl rfl rfl rfl rfl rfl ?_); intro b1
    refine aops_cons rfl rfl (AOp.move rfl rfl ?_)
    (refine aops_cons rfl rfl (AOp.append' (bytes := 32) Try.zeroValue25 Try.sizeOf25 Try.underlying28 (by kernel_rfl) rfl rfl rfl (pull_here _ _) rfl (src_sl Try.underlying28 (by exact len_map (fun _ => rfl))) (by first | omega | (simp <;> omega) | (simp at * <;> omega)) (by decide) ?_); intro b2)
    refine aops_cons rfl rfl (AOp.assign rfl rfl ?_)
    refine aops_nil ?_
    refine aw_ret ?_
    refine ⟨_, (res1 Try.results51 rfl), ?_⟩
    exact ⟨_, rfl, rfl⟩

theorem placeIs (x : Wt) (c : Int) : Pur Try.prog 132 [.ag x.e, .im [.sc (.int .i64 c)]] (.sc (.bool (decide (x.c = c)))) := by
  refine acallsN Try.func132 rfl Try.ntmps132 rfl ?_
  refine aw_seq ?_
  refine aw_region ?_
  refine aops_cons rfl rfl (AOp.boxI rfl rfl rfl ?_)
  refine aops_cons rfl rfl (AOp.assign rfl rfl ?_)
  refine aops_nil ?_
  refine aw_seq ?_
  refine aw_region ?_
  refine aops_cons rfl rfl (AOp.fieldI Try.underlying25 rfl Try.sizeOf3 (by decide) rfl rfl rfl ?_)
  refine aops_cons rfl rfl (AOp.load1 Try.isAgg3 rfl rfl (reads_im _ _) rfl ?_)
  refine aops_cons rfl rfl (AOp.load1 Try.isAgg3 rfl rfl (reads_im _ _) rfl ?_)
  refine aops_cons rfl rfl (AOp.eql rfl rfl rfl ?_)
  refine aops_cons rfl rfl (AOp.assign rfl rfl ?_)
  refine aops_nil ?_
  refine aw_weak (wk_drop (List.nil_sublist _)) ?_
  refine aw_ret ?_
  refine ⟨_, (res1 Try.results132 rfl), ?_⟩
  exact ⟨rfl, rfl⟩

theorem dropIs (x : Wt) (c : Int) : Pur Try.prog 130 [.ag x.e, .im [.sc (.int .i64 c)]] (.sc (.bool (decide (x.c = c)))) := by
  refine acallsN Try.func130 rfl Try.ntmps130 rfl ?_
  refine aw_seq ?_
  refine aw_region ?_
  refine aops_cons rfl rfl (AOp.boxI rfl rfl rfl ?_)
  refine aops_cons rfl rfl (AOp.assign rfl rfl ?_)
  refine aops_nil ?_
  refine aw_seq ?_
  refine aw_region ?_
  refine aops_cons rfl rfl (AOp.fieldI Try.underlying25 rfl Try.sizeOf3 (by decide) rfl rfl rfl ?_)
  refine aops_cons rfl rfl (AOp.load1 Try.isAgg3 rfl rfl (reads_im _ _) rfl ?_)
  refine aops_cons rfl rfl (AOp.load1 Try.isAgg3 rfl rfl (reads_im _ _) rfl ?_)
  refine aops_cons rfl rfl (AOp.eql rfl rfl rfl ?_)
  refine aops_cons rfl rfl (AOp.assign rfl rfl ?_)
  refine aops_nil ?_
  refine aw_weak (wk_drop (List.nil_sublist _)) ?_
  refine aw_ret ?_
  refine ⟨_, (res1 Try.results130 rfl), ?_⟩
  exact ⟨rfl, rfl⟩

theorem indexW (l : List Wt) (hl : l.length ≤ 1000000) (p : Wt → Bool) (k : FuncId) (caps : List AV) (A0 : List Blk) (hk : ∀ (args : Array Value) (w : World), (callFunc k args).run Try.prog w = .ok (.enter k args) w) (hp : ∀ x : Wt, ACalls Try.prog k ([.ag x.e] ++ caps) A0 (fun r' A' => r' = .sc (.bool (p x)) ∧ A' = A0) (fun _ _ => False)) : ACalls Try.prog 54 [ws l, .fn (.func k) caps] A0 (fun r A' => r = .sc (.int .i64 (idg p l)) ∧ A' = A0) (fun _ _ => False) := by
  refine acallsN Try.func54 rfl Try.ntmps54 rfl ?_
  refine aw_seq ?_
  refine aw_region ?_
  refine aops_cons rfl rfl (AOp.assign rfl rfl ?_)
  refine aops_nil ?_
  refine aw_seq ?_
  refine aw_seq ?_
  refine aw_region ?_
  refine aops_cons rfl rfl (AOp.move rfl rfl ?_)
  refine aops_cons rfl rfl (AOp.lenS (by first | exact List.length_map _ | rfl) Try.underlying28 rfl rfl ?_)
  refine aops_cons rfl rfl (AOp.move rfl rfl ?_)
  refine aops_nil ?_
  refine aw_block ?_
  refine aw_loop (β := Nat) (S := (fun (z0 : Nat) => match z0 with | i => [(0, ws l), (1, .fn (.func k) caps), (7, .sc (.int .i64 (l.length : Nat))), (8, .sc (.int .i64 (i : Int)))])) (B := (fun (z0 : Nat) => match z0 with | i => A0)) (pre := (fun (z0 : Nat) => match z0 with | i => i ≤ l.length ∧ ∀ j (h : j < l.length), j < i → p l[j] = false)) (μ := (fun (z0 : Nat) => match z0 with | i => l.length - i)) 0 (wk_env (sube_cons rfl (sube_cons rfl (sube_cons rfl (sube_cons rfl (sube_nil _)))))) ?_ ?_
  · exact ⟨Nat.zero_le _, fun k h h0 => by omega⟩
  · rintro i ⟨hi, ha⟩
    change AW _ _ _ ([(0, ws l), (1, .fn (.func k) caps), (7, .sc (.int .i64 (l.length : Nat))), (8, .sc (.int .i64 (i : Int)))] : Env) (A0 : List Blk) _
    refine aw_seq ?_
    refine aw_region ?_
    refine aops_cons rfl rfl (AOp.lss rfl rfl rfl ?_)
    refine aops_nil ?_
    refine aw_seq ?_
    refine aw_cond _ rfl (fun h1 => ?_) (fun h1 => ?_)
    focus
      have h1_ := h1
      try simp only [List.length_map, List.length_cons, List.length_nil, nrm] at h1
      all_goals try (exfalso; first | (simp at h1_; done) | omega)
      all_goals
        refine aw_skip ?_
        skip
    rotate_right
    focus
      have h1_ := h1
      try simp only [List.length_map, List.length_cons, List.length_nil, nrm] at h1
      all_goals try (exfalso; first | (simp at h1_; done) | omega)
      all_goals
        refine aw_exit ?_
        refine aw_seq ?_
        refine aw_region ?_
        refine aops_cons rfl rfl (AOp.assign rfl rfl ?_)
        refine aops_nil ?_
        refine aw_ret ?_
        refine ⟨_, (res1 Try.results54 rfl), ?_⟩
        refine ⟨?_, rfl⟩
        rw [idg_none (fun j h => ha j h (by omega))]; rfl
    all_goals
      refine aw_seq ?_
      refine aw_block ?_
      refine aw_seq ?_
      refine aw_region ?_
      refine aops_cons rfl rfl (AOp.move rfl rfl ?_)
      refine aops_cons rfl rfl (AOp.assign rfl rfl ?_)
      refine aops_nil ?_
      refine aw_seq ?_
      refine aw_region ?_
      refine aops_cons rfl rfl (AOp.move rfl rfl ?_)
      refine aops_cons rfl rfl (AOp.move rfl rfl ?_)
      refine aops_cons rfl rfl (AOp.move rfl rfl ?_)
      refine aops_cons rfl rfl (AOp.indexLN Try.underlying28 Try.sizeOf25 rfl rfl rfl (by first | omega | (simp <;> omega) | (simp at * <;> omega)) (fun _ => rfl) ?_)
      refine aops_cons rfl rfl (AOp.loadN Try.isAgg25 Try.sizeOf25 rfl rfl (reads_im _ _) rfl rfl ?_)
      refine aops_cons rfl rfl (AOp.callN (Af := []) hk rfl rfl rfl (by rw [List.append_nil]) (by exact hp _) (fun r' A'' hr => ?_))
      obtain ⟨rfl, rfl⟩ := hr
      rw [List.append_nil]
      refine aops_nil ?_
      refine aw_cond _ rfl (fun h2 => ?_) (fun h2 => ?_)
      focus
        have h2_ := h2
        try simp only [List.length_map, List.length_cons, List.length_nil, nrm] at h2
        all_goals try (exfalso; first | (simp at h2_; done) | omega)
        all_goals
          refine aw_seq ?_
          refine aw_region ?_
          refine aops_cons rfl rfl (AOp.move rfl rfl ?_)
          refine aops_cons rfl rfl (AOp.assign rfl rfl ?_)
          refine aops_nil ?_
          refine aw_ret ?_
          refine ⟨_, (res1 Try.results54 rfl), ?_⟩
          refine ⟨?_, rfl⟩
          rw [idg_some (by omega) ha (by assumption)]
      rotate_right
      focus
        have h2_ := h2
        try simp only [List.length_map, List.length_cons, List.length_nil, nrm] at h2
        all_goals try (exfalso; first | (simp at h2_; done) | omega)
        all_goals
          refine aw_skip ?_
          skip
      all_goals
        refine aw_region ?_
        refine aops_cons rfl rfl (AOp.addE rfl rfl rfl (by first | omega | (simp <;> omega) | (simp at * <;> omega)) (by first | omega | (simp <;> omega) | (simp at * <;> omega)) ?_)
        refine aops_cons rfl rfl (AOp.move rfl rfl ?_)
        refine aops_nil ?_
        refine ⟨i + 1, ⟨by omega, fun j h hj => ?_⟩, by dsimp only; omega, (wk_env (sube_cons rfl (sube_cons rfl (sube_cons rfl (sube_cons rfl (sube_nil _))))))⟩
        rcases Nat.lt_or_ge j i with h0 | h0
        · exact ha j h h0
        · have e : j = i := by omega
          subst e; assumption

theorem indexR (l : List Wt) (hl : l.length ≤ 1000000) (p : Wt → Bool) (k : FuncId) (caps : List AV) (w : Value) (hk : ∀ (args : Array Value) (w : World), (callFunc k args).run Try.prog w = .ok (.enter k args) w) (hp : ∀ x : Wt, Pur Try.prog k ([.ag x.e] ++ caps) (.sc (.bool (p x)))) :
    ACalls Try.prog 54 [.sc w, .fn (.func k) caps] [rowW w l] (fun r A' => r = .sc (.int .i64 (idg p l)) ∧ A' = [rowW w l]) (fun _ _ => False) :=
  acalls_borrow (pre := []) (flat_sc _) (indexW l hl p k caps [] hk hp)

theorem deleteW (l : List Wt) (hl : l.length ≤ 1000000) (p : Wt → Bool) (k : FuncId) (caps : List AV) (w : Value) (hk : ∀ (args : Array Value) (w : World), (callFunc k args).run Try.prog w = .ok (.enter k args) w) (hp : ∀ x : Wt, Pur Try.prog k ([.ag x.e] ++ caps) (.sc (.bool (p x)))) : ACalls Try.prog 129 [.sc w, .fn (.func k) caps] [rowW w l] (fun r A' => ∃ w', r = .sc w' ∧ A' = [rowW w' (l.filter (fun x => !p x))]) (fun _ _ => False) := by
  unfold rowW
  refine acallsN Try.func129 rfl Try.ntmps129 rfl ?_
  refine aw_seq ?_
  refine aw_region ?_
  refine aops_cons rfl rfl (AOp.assign rfl rfl ?_)
  refine aops_nil ?_
  refine aw_seq ?_
  refine aw_region ?_
  refine aops_cons rfl rfl (AOp.move rfl rfl ?_)
  refine aops_cons rfl rfl (AOp.move rfl rfl ?_)
  refine aops_cons rfl rfl (AOp.callN (Af := []) Try.call54 rfl rfl rfl (List.Perm.refl _) (by exact indexR l hl p k caps w hk hp) (fun r' A'' hr => ?_))
  obtain ⟨rfl, rfl⟩ := hr
  refine aops_cons rfl rfl (AOp.assign rfl rfl ?_)
  refine aops_nil ?_
  refine aw_seq ?_
  refine aw_seq ?_
  refine aw_region ?_
  refine aops_cons rfl rfl (AOp.move rfl rfl ?_)
  refine aops_cons rfl rfl (AOp.eql rfl rfl rfl ?_)
  refine aops_nil ?_
  refine aw_cond _ rfl (fun h1 => ?_) (fun h1 => ?_)
  focus
    have h1_ := h1
    try simp only [List.length_map, List.length_cons, List.length_nil, nrm] at h1
    all_goals try (exfalso; first | (simp at h1_; done) | omega)
    all_goals
      refine aw_seq ?_
      refine aw_region ?_
      refine aops_cons rfl rfl (AOp.move rfl rfl ?_)
      refine aops_cons rfl rfl (AOp.assign rfl rfl ?_)
      refine aops_nil ?_
      refine aw_ret ?_
      refine ⟨_, (res1 Try.results129 rfl), ?_⟩
      refine ⟨w, rfl, ?_⟩
      rcases idg_cases p l with ⟨_, e⟩ | ⟨n, e, _⟩
      · rw [e]; rfl
      · rw [h1] at e; exfalso; omega
  rotate_right
  focus
    have h1_ := h1
    try simp only [List.length_map, List.length_cons, List.length_nil, nrm] at h1
    all_goals try (exfalso; first | (simp at h1_; done) | omega)
    all_goals
      refine aw_skip ?_
      skip
  all_goals
    refine aw_seq ?_
    refine aw_seq ?_
    rcases idg_cases p l with ⟨e, _⟩ | ⟨n, e, hn, ht⟩
    · exact absurd e (by assumption)
    rw [e]
    refine aw_region ?_
    refine aops_cons rfl rfl (AOp.move rfl rfl ?_)
    refine aops_cons rfl rfl (AOp.addE rfl rfl rfl (by first | omega | (simp <;> omega) | (simp at * <;> omega)) (by first | omega | (simp <;> omega) | (simp at * <;> omega)) ?_)
    refine aops_cons rfl rfl (AOp.assign rfl rfl ?_)
    refine aops_nil ?_
    refine aw_block ?_
    refine aw_loop (β := Nat × Nat × List Wt) (S := (fun (z0 : Nat × Nat × List Wt) => match z0 with | (i, j, m) => [(0, .sc w), (1, .fn (.func k) caps), (5, .sc (.int .i64 (i : Int))), (6, .sc (.int .i64 (j : Int)))])) (B := (fun (z0 : Nat × Nat × List Wt) => match z0 with | (i, j, m) => [.row w 25 4 (m.map Wt.e)])) (pre := (fun (z0 : Nat × Nat × List Wt) => match z0 with | (i, j, m) => i < j ∧ j ≤ l.length ∧ m.length = l.length ∧ m.take i = (l.take j).filter (fun x => !p x) ∧ m.drop j = l.drop j)) (μ := (fun (z0 : Nat × Nat × List Wt) => match z0 with | (i, j, m) => l.length - j)) (n, n + 1, l) (wk_env (sube_cons rfl (sube_cons rfl (sube_cons rfl (sube_cons rfl (sube_nil _)))))) ?_ ?_
    · exact ⟨by omega, by omega, rfl, ht, rfl⟩
    · rintro ⟨i, j, m⟩ ⟨hij, hj, hml, hA, hB⟩
      change AW _ _ _ ([(0, .sc w), (1, .fn (.func k) caps), (5, .sc (.int .i64 (i : Int))), (6, .sc (.int .i64 (j : Int)))] : Env) ([.row w 25 4 (m.map Wt.e)] : List Blk) _
      refine aw_seq ?_
      refine aw_seq ?_
      refine aw_region ?_
      refine aops_cons rfl rfl (AOp.move rfl rfl ?_)
      refine aops_cons rfl rfl (AOp.move rfl rfl ?_)
      refine aops_cons rfl rfl (AOp.lenR (by first | exact List.length_map _ | rfl) Try.underlying28 (.head _) rfl rfl ?_)
      refine aops_cons rfl rfl (AOp.lss rfl rfl rfl ?_)
      refine aops_nil ?_
      refine aw_cond _ rfl (fun h2 => ?_) (fun h2 => ?_)
      focus
        have h2_ := h2
        try simp only [List.length_map, List.length_cons, List.length_nil, nrm] at h2
        all_goals try (exfalso; first | (simp at h2_; done) | omega)
        all_goals
          refine aw_skip ?_
          skip
      rotate_right
      focus
        have h2_ := h2
        try simp only [List.length_map, List.length_cons, List.length_nil, nrm] at h2
        all_goals try (exfalso; first | (simp at h2_; done) | omega)
        all_goals
          refine aw_exit ?_
          refine aw_seq ?_
          refine aw_region ?_
          refine aops_cons rfl rfl (AOp.move rfl rfl ?_)
          refine aops_cons rfl rfl (AOp.move rfl rfl ?_)
          refine aops_cons rfl rfl (AOp.cutR Try.underlying28 Try.sizeOf25 (.head _) rfl rfl (bd_some rfl (by first | omega | (simp <;> omega) | (simp at * <;> omega)) rfl) bd_none (by first | omega | (simp <;> omega) | (simp at * <;> omega)) (by first | omega | (simp <;> omega) | (simp at * <;> omega)) rfl ?_)
          refine aops_cons rfl rfl (AOp.clearO Try.underlying28 Try.zeroValue25 rfl (by kernel_rfl) (by decide) rfl rfl (pull_here _ _) (by first | omega | (simp <;> omega) | (simp at * <;> omega)) rfl ?_)
          refine aops_nil ?_
          refine aw_seq ?_
          refine aw_region ?_
          refine aops_cons rfl rfl (AOp.move rfl rfl ?_)
          refine aops_cons rfl rfl (AOp.move rfl rfl ?_)
          refine aops_cons rfl rfl (AOp.cutR Try.underlying28 Try.sizeOf25 (.head _) rfl rfl bd_none (bd_some rfl (by first | omega | (simp <;> omega) | (simp at * <;> omega)) rfl) (by first | omega | (simp <;> omega) | (simp at * <;> omega)) (by first | omega | (simp <;> omega) | (simp at * <;> omega)) rfl ?_)
          refine aops_cons rfl rfl (AOp.assign rfl rfl ?_)
          refine aops_nil ?_
          refine wk_front (sz := 4) (q := 4) (m := i) (pull_here _ _) rfl (by simp; omega) (fun w' => ?_)
          refine aw_ret ?_
          refine ⟨_, (res1 Try.results129 rfl), ?_⟩
          refine ⟨w', rfl, ?_⟩
          have e : j = l.length := by omega
          subst e
          rw [List.take_of_length_le (Nat.le_refl _)] at hA
          rw [← hA]
          show [Blk.row w' 25 4 _] = [Blk.row w' 25 4 _]
          congr 2
          rw [List.take_append_of_le_length (by simp; omega), List.take_take, List.map_take, show min i (↑i : Int).toNat = i by omega]
      all_goals
        refine aw_seq ?_
        refine aw_block ?_
        refine aw_seq ?_
        refine aw_region ?_
        refine aops_cons rfl rfl (AOp.move rfl rfl ?_)
        refine aops_cons rfl rfl (AOp.move rfl rfl ?_)
        refine aops_cons rfl rfl (AOp.indexR Try.underlying28 Try.sizeOf25 (.head _) rfl rfl rfl (by first | omega | (simp <;> omega) | (simp at * <;> omega)) (by first | omega | (simp <;> omega) | (simp at * <;> omega)) ?_)
        refine aops_cons rfl rfl (AOp.loadN Try.isAgg25 Try.sizeOf25 rfl rfl (reads_row _ (.head _) (idx_nat (by first | omega | (simp <;> omega) | (simp at * <;> omega))) (by first | omega | (simp <;> omega) | (simp at * <;> omega))) rfl rfl ?_)
        refine aops_cons rfl rfl (AOp.alloc Try.zeroValue25 (by kernel_rfl) rfl rfl ?_); intro b1
        refine aops_cons rfl rfl (AOp.storeB' Try.sizeOf25 rfl rfl rfl rfl rfl (pull_here _ _) rfl rfl ?_)
        refine aops_nil ?_
        refine aw_seq ?_
        refine aw_region ?_
        refine aops_cons rfl rfl (AOp.move rfl rfl ?_)
        refine aops_cons rfl rfl (AOp.loadN Try.isAgg25 Try.sizeOf25 rfl rfl (reads_box _ (.head _)) rfl rfl ?_)
        refine aops_cons rfl rfl (AOp.callP hk rfl rfl rfl (by exact hp _) ?_)
        refine aops_cons rfl rfl (AOp.not rfl rfl ?_)
        refine aops_nil ?_
        refine aw_cond _ rfl (fun h3 => ?_) (fun h3 => ?_)
        focus
          have h3_ := h3
          try simp only [List.length_map, List.length_cons, List.length_nil, nrm] at h3
          all_goals try (exfalso; first | (simp at h3_; done) | omega)
          all_goals
            refine aw_seq ?_
            refine aw_region ?_
            refine aops_cons rfl rfl (AOp.move rfl rfl ?_)
            refine aops_cons rfl rfl (AOp.move rfl rfl ?_)
            refine aops_cons rfl rfl (AOp.loadN Try.isAgg25 Try.sizeOf25 rfl rfl (reads_box _ (.head _)) rfl rfl ?_)
            refine aops_cons rfl rfl (AOp.indexR Try.underlying28 Try.sizeOf25 (.tail _ (.head _)) rfl rfl rfl (by first | omega | (simp <;> omega) | (simp at * <;> omega)) (by first | omega | (simp <;> omega) | (simp at * <;> omega)) ?_)
            refine aops_cons rfl rfl (AOp.storeR' Try.sizeOf25 rfl rfl rfl rfl rfl (pull_there (pull_here _ _)) (by first | exact idx_nat (by first | omega | (simp <;> omega) | (simp at * <;> omega)) | exact idx_map (by first | omega | (simp <;> omega) | (simp at * <;> omega)) | assumption) rfl rfl rfl ?_)
            refine aops_nil ?_
            refine aw_region ?_
            refine aops_cons rfl rfl (AOp.move rfl rfl ?_)
            refine aops_cons rfl rfl (AOp.addE rfl rfl rfl (by first | omega | (simp <;> omega) | (simp at * <;> omega)) (by first | omega | (simp <;> omega) | (simp at * <;> omega)) ?_)
            refine aops_cons rfl rfl (AOp.assign rfl rfl ?_)
            refine aops_nil ?_
            skip
        rotate_right
        focus
          have h3_ := h3
          try simp only [List.length_map, List.length_cons, List.length_nil, nrm] at h3
          all_goals try (exfalso; first | (simp at h3_; done) | omega)
          all_goals
            refine aw_skip ?_
            skip
        all_goals
          refine aw_region ?_
          refine aops_cons rfl rfl (AOp.move rfl rfl ?_)
          refine aops_cons rfl rfl (AOp.addE rfl rfl rfl (by first | omega | (simp <;> omega) | (simp at * <;> omega)) (by first | omega | (simp <;> omega) | (simp at * <;> omega)) ?_)
          refine aops_cons rfl rfl (AOp.assign rfl rfl ?_)
          refine aops_nil ?_
          first
          | (obtain ⟨e1, e2⟩ := gdel_keep (q := fun x => !p x) (by omega) (by omega) hml hA hB h3_ hij; refine ⟨(i + 1, j + 1, m.set i m[j]), ⟨by omega, by omega, by simpa using hml, e1, e2⟩, by dsimp only; omega, (wk_drop (A' := [.row w 25 4 ((m.map Wt.e).set i (Wt.e m[j]))]) ?_).trans ((wk_roweq (A := []) (List.map_set).symm).trans (wk_env (sube_cons rfl (sube_cons rfl (sube_cons rfl (sube_cons rfl (sube_nil _)))))))⟩; (focus ((repeat (first | exact List.Sublist.slnil | apply List.Sublist.cons_cons | apply List.Sublist.cons)); done)))
          | (obtain ⟨e1, e2⟩ := gdel_skip (q := fun x => !p x) (by omega) hml hA hB h3_; refine ⟨(i, j + 1, m), ⟨by omega, by omega, hml, e1, e2⟩, by dsimp only; omega, (wk_drop ?_).trans (wk_env (sube_cons rfl (sube_cons rfl (sube_cons rfl (sube_cons rfl (sube_nil _))))))⟩; (focus ((repeat (first | exact List.Sublist.slnil | apply List.Sublist.cons_cons | apply List.Sublist.cons)); done)))

theorem place (l : List Wt) (c : Int) (hl : l.length ≤ 1000000) : Pur Try.prog 112 [ws l, .sc (.int .i64 c)] (.sc (.int .i64 (idg (fun (x : Wt) => decide (x.c = c)) l))) := by
  refine acallsN Try.func112 rfl Try.ntmps112 rfl ?_
  refine aw_seq ?_
  refine aw_region ?_
  refine aops_cons rfl rfl (AOp.boxI rfl rfl rfl ?_)
  refine aops_cons rfl rfl (AOp.assign rfl rfl ?_)
  refine aops_nil ?_
  refine aw_seq ?_
  refine aw_region ?_
  refine aops_cons rfl rfl (AOp.move rfl rfl ?_)
  refine aops_cons rfl rfl (AOp.makeFuncE rfl rfl ?_)
  refine aops_cons rfl rfl (AOp.callP Try.call54 rfl rfl rfl (by exact indexW l hl (fun x => decide (x.c = c)) 132 [.im [.sc (.int .i64 c)]] [] Try.call132 (fun x => placeIs x c)) ?_)
  refine aops_cons rfl rfl (AOp.assign rfl rfl ?_)
  refine aops_nil ?_
  refine aw_weak (wk_drop (List.nil_sublist _)) ?_
  refine aw_ret ?_
  refine ⟨_, (res1 Try.results112 rfl), ?_⟩
  exact ⟨rfl, rfl⟩

theorem dropL (l : List Wt) (c : Int) (hl : l.length ≤ 1000000) : ACalls Try.prog 106 [ws l, .sc (.int .i64 c)] [] (fun r A' => ∃ w, r = .sc w ∧ A' = [rowW w (dropW l c)]) (fun _ _ => False) := by
  refine acallsN Try.func106 rfl Try.ntmps106 rfl ?_
  refine aw_seq ?_
  refine aw_region ?_
  refine aops_cons rfl rfl (AOp.boxI rfl rfl rfl ?_)
  refine aops_cons rfl rfl (AOp.assign rfl rfl ?_)
  refine aops_nil ?_
  refine aw_seq ?_
  refine aw_region ?_
  refine aops_cons rfl rfl (AOp.move rfl rfl ?_)
  refine aops_cons rfl rfl (AOp.callN (Af := []) Try.call51 rfl rfl rfl (List.Perm.refl _) (by exact cloneW l hl) (fun r' A'' hr => ?_))
  obtain ⟨w, rfl, rfl⟩ := hr
  refine aops_cons rfl rfl (AOp.makeFuncE rfl rfl ?_)
  refine aops_cons rfl rfl (AOp.callN (Af := []) Try.call129 rfl rfl rfl (List.Perm.refl _) (by exact deleteW l hl (fun x => decide (x.c = c)) 130 [.im [.sc (.int .i64 c)]] w Try.call130 (fun x => dropIs x c)) (fun r' A'' hr => ?_))
  obtain ⟨w', rfl, rfl⟩ := hr
  refine aops_cons rfl rfl (AOp.assign rfl rfl ?_)
  refine aops_nil ?_
  refine aw_ret ?_
  refine ⟨_, (res1 Try.results106 rfl), ?_⟩
  exact ⟨w', rfl, rfl⟩

theorem dropLP (l : List Wt) (c : Int) (hl : l.length ≤ 1000000) : Pur Try.prog 106 [ws l, .sc (.int .i64 c)] (ws (dropW l c)) := acalls_frz (dropL l c hl)
theorem cloneWP (l : List Wt) (hl : l.length ≤ 1000000) : Pur Try.prog 51 [ws l] (ws l) := acalls_frz (cloneW l hl)

end Go.Proofs.Ytdacnebhlgibhaa
