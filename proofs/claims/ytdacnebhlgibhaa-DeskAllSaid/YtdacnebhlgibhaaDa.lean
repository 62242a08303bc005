/- Own text: the desk's plain model and its laws. -/
import Derived.Test.YtdacnebhlgibhaaLp
import Derived.Test.YtdacnebhlgibhaaAwO
set_option linter.unusedVariables false
set_option linter.unusedSimpArgs false
set_option linter.all false
set_option maxRecDepth 100000
set_option maxHeartbeats 2000000
namespace Go.Proofs.Ytdacnebhlgibhaa
open Go Go.Aw

/-- One that waits. -/
structure Wt where
  c : Int
  s : Int
  f : Int
  m : Int
deriving DecidableEq
def Wt.e (x : Wt) : List AV := [.sc (.int .i64 x.c), .sc (.int .i64 x.s), .sc (.int .i64 x.f), .sc (.int .i64 x.m)]
def ws (l : List Wt) : AV := .sl (l.map Wt.e)
/-- Who holds and who waits. -/
structure Dk where
  l : List L
  w : List Wt
def Dk.e (d : Dk) : List AV := [ls d.l, ws d.w]
def ahead (l : List Wt) (c f : Int) : Bool := match l.find? (fun w => decide (w.f = f)) with
  | some w => !decide (w.c = c)
  | none => false
def dropW (l : List Wt) (c : Int) : List Wt := l.filter fun w => !decide (w.c = c)
def uniq (l : List Wt) : Prop := l.Pairwise fun a b => a.c ≠ b.c
/-- A line with one more. -/
def putW (l : List Wt) (w : Wt) : List Wt × Bool := match l.findIdx? (fun y => decide (y.c = w.c ∧ y.f = w.f)) with
  | some i => (l.set i w, true)
  | none => if 4 ≤ (dropW l w.c).length then (l, false) else (dropW l w.c ++ [w], true)
def lets (d : Dk) (now : Int) (w : Wt) : Dk := ⟨gr2 d.l ⟨w.c, w.f, w.m, now + 60⟩, dropW d.w w.c⟩
def free (d : Dk) (now : Int) (w : Wt) : Bool := decide (cls d.l now w.c w.f w.m = []) && !ahead d.w w.c w.f
def runD (now : Int) : Nat → Dk → List Wt → Dk × List Wt
  | 0, d, a => (d, a)
  | n + 1, d, a => match d.w.find? (free d now) with
    | some w => runD now n (lets d now w) (a ++ [w])
    | none => (d, a)
def okWt (k : Int) (w : Wt) : Prop := 1 ≤ w.c ∧ w.c ≤ 3 ∧ 1 ≤ w.f ∧ w.f ≤ k ∧ 1 ≤ w.m ∧ w.m ≤ 2
/-- What a desk is at a time. -/
structure GD (k : Int) (d : Dk) (now : Int) : Prop where
  s : srt d.l
  ok : ∀ y ∈ d.l, 1 ≤ y.c ∧ y.c ≤ 3 ∧ 1 ≤ y.f ∧ y.f ≤ k ∧ 1 ≤ y.m ∧ y.m ≤ 2 ∧ 0 ≤ y.u
  live : ∀ y ∈ d.l, now < y.u ∧ y.u ≤ now + 60
  one : ∀ f c1 c2, c1 ≠ c2 → hld d.l now c1 f = 2 → hld d.l now c2 f = 0
  u : uniq d.w
  okw : ∀ w ∈ d.w, okWt k w
theorem gd_nil (k now : Int) : GD k ⟨[], []⟩ now := ⟨List.Pairwise.nil, fun y hy => (by cases hy), fun y hy => (by cases hy), fun _ _ _ _ _ => rfl, List.Pairwise.nil, fun y hy => (by cases hy)⟩
/-! ### lengths -/
theorem len_up {a b : Int} : ∀ {l : List Int}, l.Pairwise (· < ·) → (∀ x ∈ l, a ≤ x ∧ x < b) → (l.length : Int) ≤ max 0 (b - a) := by
  intro l
  induction l generalizing a with
  | nil => intro _ _; simp; omega
  | cons x l ih =>
    intro hp hb
    have h1 := (List.pairwise_cons.1 hp).1
    have hx := hb x (List.mem_cons_self ..)
    have := ih (a := x + 1) (List.pairwise_cons.1 hp).2 (fun y hy => ⟨by have := h1 y hy; omega, (hb y (List.mem_cons_of_mem _ hy)).2⟩)
    simp only [List.length_cons]
    omega
theorem len_l {l : List L} {k : Int} (hk : k ≤ 6) (hs : srt l) (h : ∀ y ∈ l, 1 ≤ y.c ∧ y.c ≤ 3 ∧ 1 ≤ y.f ∧ y.f ≤ k) : l.length ≤ 30 := by
  have hp : (l.map fun y => y.f * 4 + y.c).Pairwise (· < ·) := by
    rw [List.pairwise_map]
    refine List.Pairwise.imp_of_mem ?_ hs
    intro a b ha hb hab
    rw [ordI_lt] at hab
    have := h a ha
    have := h b hb
    omega
  have := len_up (a := 0) (b := 30) hp (fun x hx => by
    obtain ⟨y, hy, rfl⟩ := List.mem_map.1 hx
    have := h y hy
    omega)
  rw [List.length_map] at this
  omega
theorem len_w {l : List Wt} (hu : uniq l) (h : ∀ y ∈ l, 1 ≤ y.c ∧ y.c ≤ 3) : l.length ≤ 3 := by
  have h1 : ∀ c : Int, (l.filter fun y => decide (y.c = c)).length ≤ 1 := fun c => by
    have hp : (l.filter fun y => decide (y.c = c)).Pairwise (fun a b => a.c ≠ b.c) := List.Pairwise.filter _ hu
    match hq : l.filter fun y => decide (y.c = c) with
    | [] => rw [hq]; simp
    | [_] => rw [hq]; simp
    | a :: b :: r =>
      rw [hq] at hp
      have ha : a.c = c := by have : a ∈ l.filter fun y => decide (y.c = c) := by rw [hq]; simp
                              simpa using (List.mem_filter.1 this).2
      have hb : b.c = c := by have : b ∈ l.filter fun y => decide (y.c = c) := by rw [hq]; simp
                              simpa using (List.mem_filter.1 this).2
      exact absurd (ha.trans hb.symm) ((List.pairwise_cons.1 hp).1 b (by simp))
  have key : ∀ l : List Wt, (∀ y ∈ l, 1 ≤ y.c ∧ y.c ≤ 3) → l.length = (l.filter fun y => decide (y.c = 1)).length + (l.filter fun y => decide (y.c = 2)).length + (l.filter fun y => decide (y.c = 3)).length := by
    intro l
    induction l with
    | nil => intro _; rfl
    | cons a l ih =>
      intro h
      have ha := h a (by simp)
      have := ih (fun y hy => h y (by simp [hy]))
      rcases (show a.c = 1 ∨ a.c = 2 ∨ a.c = 3 by omega) with e | e | e <;> simp [List.filter_cons, e] <;> omega
  have := key l h
  have := h1 1
  have := h1 2
  have := h1 3
  omega
theorem GD.lenl {k : Int} {d : Dk} {now : Int} (h : GD k d now) (hk : k ≤ 6) : d.l.length ≤ 30 := len_l hk h.s (fun y hy => by have := h.ok y hy; omega)
theorem GD.lenw {k : Int} {d : Dk} {now : Int} (h : GD k d now) : d.w.length ≤ 3 := len_w h.u (fun y hy => by have := h.okw y hy; unfold okWt at this; omega)
/-! ### lines -/
theorem uniq_drop {l : List Wt} (h : uniq l) (c : Int) : uniq (dropW l c) := List.Pairwise.filter _ h
theorem mem_drop {l : List Wt} {c : Int} {w : Wt} : w ∈ dropW l c ↔ w ∈ l ∧ w.c ≠ c := by unfold dropW; rw [List.mem_filter]; simp
theorem uniq_eq {l : List Wt} (h : uniq l) {a b : Wt} (ha : a ∈ l) (hb : b ∈ l) (e : a.c = b.c) : a = b := by
  induction l with
  | nil => cases ha
  | cons x l ih =>
    have h1 := List.pairwise_cons.1 h
    rcases List.mem_cons.1 ha with ea | ha'
    · rcases List.mem_cons.1 hb with eb | hb'
      · rw [ea, eb]
      · exact absurd (ea ▸ e) (h1.1 b hb')
    · rcases List.mem_cons.1 hb with eb | hb'
      · exact absurd (eb ▸ e.symm) (h1.1 a ha')
      · exact ih h1.2 ha' hb'
theorem drop_len {l : List Wt} {w : Wt} (hw : w ∈ l) : (dropW l w.c).length < l.length := by
  unfold dropW
  rcases Nat.lt_or_ge (l.filter fun y => !decide (y.c = w.c)).length l.length with h | h
  · exact h
  · have := List.length_filter_le (fun y : Wt => !decide (y.c = w.c)) l
    have e : (l.filter fun y => !decide (y.c = w.c)).length = l.length := by omega
    rw [List.length_filter_eq_length_iff] at e
    have := e w hw
    simp at this
theorem mem_put {l : List Wt} {w y : Wt} (h : y ∈ (putW l w).1) : y ∈ l ∨ y = w := by
  unfold putW at h
  split at h
  · rcases List.mem_or_eq_of_mem_set h with h | h
    · exact .inl h
    · exact .inr h
  · split at h
    · exact .inl h
    · rcases List.mem_append.1 h with h | h
      · exact .inl (mem_drop.1 h).1
      · simp at h; exact .inr h
theorem uniq_put {l : List Wt} {w : Wt} (h : uniq l) : uniq (putW l w).1 := by
  unfold putW
  split
  · rename_i i hi
    rw [List.findIdx?_eq_some_iff_getElem] at hi
    obtain ⟨hi, hp, _⟩ := hi
    simp only [decide_eq_true_eq] at hp
    unfold uniq at h ⊢
    rw [List.pairwise_iff_getElem] at h ⊢
    intro a b ha hb hab
    simp only [List.length_set] at ha hb
    rw [List.getElem_set, List.getElem_set]
    split
    · split
      · omega
      · rename_i e1 e2; subst e1; rw [← hp.1]; exact h _ _ ha hb hab
    · split
      · rename_i e1 e2; subst e2; rw [← hp.1]; exact h _ _ ha hb hab
      · exact h _ _ ha hb hab
  · split
    · exact h
    · unfold uniq
      rw [List.pairwise_append]
      refine ⟨uniq_drop h _, List.pairwise_singleton _ _, fun a ha b hb => ?_⟩
      simp at hb; subst hb
      exact (mem_drop.1 ha).2
theorem ahead_no {l : List Wt} {w : Wt} (hu : uniq l) (hw : w ∈ l) (h : ahead l w.c w.f = false) : l.find? (fun y => decide (y.f = w.f)) = some w := by
  unfold ahead at h
  split at h
  · rename_i y hy
    simp at h
    have h1 := List.mem_of_find?_eq_some hy
    rw [hy, uniq_eq hu h1 hw h]
  · rename_i hy
    rw [List.find?_eq_none] at hy
    exact absurd (show decide (w.f = w.f) = true by simp) (hy w hw)
/-! ### steps -/
theorem gd_prn {k : Int} {d : Dk} {a b : Int} (h : GD k d a) (hab : a ≤ b) : GD k ⟨prn d.l b, d.w⟩ b := by
  refine ⟨srt_filter h.s, fun y hy => h.ok y (List.mem_filter.1 hy).1, fun y hy => ?_, fun f c1 c2 hc h1 => ?_, h.u, h.okw⟩
  · have h1 := (List.mem_filter.1 hy)
    have h2 := h.live y h1.1
    have h3 := h1.2
    simp at h3; omega
  · dsimp only at *
    rw [hld_prn h.s (Int.le_refl b)] at *
    have e1 : hld d.l a c1 f = 2 := by rcases hld_later (l := d.l) (c := c1) (f := f) hab with e | e <;> omega
    have := h.one f c1 c2 hc e1
    rcases hld_later (l := d.l) (c := c2) (f := f) hab with e | e <;> omega
theorem prn_same {l : List L} {b : Int} (h : ∀ y ∈ l, b < y.u) : prn l b = l := by
  unfold prn
  rw [List.filter_eq_self]
  intro y hy
  have := h y hy
  simp; omega
theorem gd_give {k : Int} {d : Dk} {a c f : Int} (h : GD k d a) : GD k ⟨drp d.l c f, d.w⟩ a := by
  refine ⟨srt_filter h.s, fun y hy => h.ok y (List.mem_filter.1 hy).1, fun y hy => h.live y (List.mem_filter.1 hy).1, fun f' c1 c2 hc h1 => ?_, h.u, h.okw⟩
  dsimp only at *
  rw [hld_drp] at *
  split
  · rfl
  · split at h1
    · omega
    · exact h.one f' c1 c2 hc h1
theorem gd_lets {k : Int} {d : Dk} {a : Int} {w : Wt} (h : GD k d a) (ha : 0 ≤ a) (hw : okWt k w) (hn : cls d.l a w.c w.f w.m = []) : GD k (lets d a w) a ∧ hld (lets d a w).l a w.c w.f = max (hld d.l a w.c w.f) w.m := by
  obtain ⟨w1, w2, w3, w4, w5, w6⟩ := hw
  have key := hld_gr2_eq (x := ⟨w.c, w.f, w.m, a + 60⟩) a h.s (show 0 ≤ w.m by omega) (fun y hy => by have := h.ok y hy; omega)
  have k3 := key.2.2 (fun y hy => (h.live y hy).1) (show a < a + 60 by omega)
  dsimp only at k3 key
  refine ⟨⟨srt_gr2 h.s, fun y hy => ?_, fun y hy => ?_, fun f' c1 c2 hne h1 => ?_, uniq_drop h.u _, fun y hy => h.okw y (mem_drop.1 hy).1⟩, k3⟩
  · rcases mem_gr2 hy with h' | rfl | ⟨b, hb, _, rfl⟩
    · exact h.ok y h'
    · dsimp only; omega
    · have := h.ok b hb; unfold up; dsimp only; omega
  · rcases mem_gr2 hy with h' | rfl | ⟨b, hb, _, rfl⟩
    · exact h.live y h'
    · dsimp only; omega
    · have := h.live b hb; unfold up; dsimp only; omega
  · unfold lets at *
    dsimp only at *
    by_cases e1 : c1 = w.c ∧ f' = w.f
    · obtain ⟨rfl, rfl⟩ := e1
      rw [k3] at h1
      rw [hld_gr2_ne (by dsimp only; omega)]
      rcases cls_nil hn (c' := c2) (by omega) with e | ⟨e, e'⟩
      · exact e
      · have : hld d.l a w.c w.f = 2 := by omega
        exact h.one _ _ _ hne this
    · rw [hld_gr2_ne (by dsimp only; exact e1)] at h1
      by_cases e2 : c2 = w.c ∧ f' = w.f
      · obtain ⟨rfl, rfl⟩ := e2
        rcases cls_nil hn (c' := c1) (by omega) with e | ⟨e, e'⟩ <;> omega
      · rw [hld_gr2_ne (by dsimp only; exact e2)]
        exact h.one _ _ _ hne h1
theorem free_cls {d : Dk} {a : Int} {w : Wt} (h : free d a w = true) : cls d.l a w.c w.f w.m = [] ∧ ahead d.w w.c w.f = false := by
  unfold free at h
  simpa using h
theorem gd_put {k : Int} {d : Dk} {a : Int} {w : Wt} (h : GD k d a) (hw : okWt k w) : GD k ⟨d.l, (putW d.w w).1⟩ a := by
  refine ⟨h.s, h.ok, h.live, h.one, uniq_put h.u, fun y hy => ?_⟩
  rcases mem_put hy with h' | h'
  · exact h.okw y h'
  · rw [h']; exact hw
theorem gd_run {k : Int} {now : Int} (h0 : 0 ≤ now) : ∀ (n : Nat) (d : Dk) (acc : List Wt), GD k d now → GD k (runD now n d acc).1 now := by
  intro n
  induction n with
  | zero => intro d acc h; exact h
  | succ n ih =>
    intro d acc h
    unfold runD
    split
    · rename_i w hw
      have h1 := List.mem_of_find?_eq_some hw
      have h2 := free_cls (List.find?_some hw)
      exact ih _ _ (gd_lets h h0 (h.okw w h1) h2.1).1
    · exact h
/-- Asking. -/
def askD (d : Dk) (now : Int) (w : Wt) : Dk × Bool × List Int × Int :=
  if free ⟨prn d.l now, d.w⟩ now w = true then (lets ⟨prn d.l now, d.w⟩ now w, true, [], 0)
  else if (putW d.w w).2 = true then (⟨prn d.l now, (putW d.w w).1⟩, false, cls (prn d.l now) now w.c w.f w.m, 0) else (⟨prn d.l now, d.w⟩, false, [], 3)
theorem gd_ask {k : Int} {d : Dk} {a b : Int} {w : Wt} (h : GD k d a) (hab : a ≤ b) (h0 : 0 ≤ b) (hw : okWt k w) : GD k (askD d b w).1 b := by
  have h1 := gd_prn h hab
  unfold askD
  split
  · rename_i hf
    exact (gd_lets h1 h0 hw (free_cls hf).1).1
  · split
    · exact gd_put h1 hw
    · exact h1

/-! ### lines, more -/
theorem putW_yes {l : List Wt} {w : Wt} (hu : uniq l) {i : Nat} (hi : i < l.length) (hc : l[i].c = w.c) (hf : l[i].f = w.f) : putW l w = (l.set i w, true) := by
  have h : l.findIdx? (fun y => decide (y.c = w.c ∧ y.f = w.f)) = some i := by
    rw [List.findIdx?_eq_some_iff_getElem]
    refine ⟨hi, by simp [hc, hf], fun j hj => ?_⟩
    have := List.pairwise_iff_getElem.1 hu j i (by omega) hi hj
    simp only [decide_eq_true_eq]
    intro e; exact this (e.1.trans hc.symm)
  unfold putW
  rw [h]
theorem putW_no {l : List Wt} {w : Wt} (h : ∀ y ∈ l, ¬ (y.c = w.c ∧ y.f = w.f)) : putW l w = if 4 ≤ (dropW l w.c).length then (l, false) else (dropW l w.c ++ [w], true) := by
  have h' : l.findIdx? (fun y => decide (y.c = w.c ∧ y.f = w.f)) = none := by
    rw [List.findIdx?_eq_none_iff]
    intro y hy
    simpa using h y hy
  unfold putW
  rw [h']
theorem putW_len (l : List Wt) (w : Wt) : (putW l w).1.length ≤ l.length + 1 := by
  unfold putW
  split
  · simp
  · split
    · simp
    · have : (dropW l w.c).length ≤ l.length := List.length_filter_le _ _
      simp; omega
theorem drop_one {l : List Wt} {w : Wt} (hu : uniq l) (hw : w ∈ l) : (dropW l w.c).length + 1 = l.length := by
  induction l with
  | nil => cases hw
  | cons a l ih =>
    have h1 := List.pairwise_cons.1 hu
    by_cases e : a.c = w.c
    · have h2 : dropW (a :: l) w.c = l := by
        unfold dropW
        rw [List.filter_cons_of_neg (by simpa using e), List.filter_eq_self]
        intro y hy
        have := h1.1 y hy
        simp; intro e'; exact this (e.trans e'.symm)
      rw [h2]; rfl
    · have hw' : w ∈ l := by
        rcases List.mem_cons.1 hw with e' | h
        · exact absurd (by rw [e']) e
        · exact h
      have h2 : dropW (a :: l) w.c = a :: dropW l w.c := by unfold dropW; rw [List.filter_cons_of_pos (by simpa using e)]
      rw [h2]
      have := ih h1.2 hw'
      simp only [List.length_cons]; omega
theorem filter_head {l : List Wt} {w : Wt} (hu : uniq l) (h : l.find? (fun y => decide (y.f = w.f)) = some w) : l.filter (fun y => decide (y.f = w.f)) = w :: (dropW l w.c).filter (fun y => decide (y.f = w.f)) := by
  induction l with
  | nil => cases h
  | cons a l ih =>
    have h1 := List.pairwise_cons.1 hu
    by_cases e : a.f = w.f
    · rw [List.find?_cons_of_pos (by simpa using e)] at h
      cases h
      have h2 : dropW (w :: l) w.c = l := by
        unfold dropW
        rw [List.filter_cons_of_neg (by simp), List.filter_eq_self]
        intro y hy
        have := h1.1 y hy
        simp; intro e'; exact this e'.symm
      rw [h2, List.filter_cons_of_pos (by simp)]
    · rw [List.find?_cons_of_neg (by simpa using e)] at h
      have hw := List.mem_of_find?_eq_some h
      have h2 : dropW (a :: l) w.c = a :: dropW l w.c := by unfold dropW; rw [List.filter_cons_of_pos (by simpa using h1.1 w hw)]
      rw [h2, List.filter_cons_of_neg (by simpa using e), List.filter_cons_of_neg (by simpa using e)]
      exact ih h1.2 h
theorem filter_other {l : List Wt} {w : Wt} {g : Int} (hu : uniq l) (hw : w ∈ l) (hg : w.f ≠ g) : (dropW l w.c).filter (fun y => decide (y.f = g)) = l.filter (fun y => decide (y.f = g)) := by
  unfold dropW
  rw [List.filter_filter]
  apply List.filter_congr
  intro y hy
  by_cases e : y.c = w.c
  · have := uniq_eq hu hy hw e
    subst this
    simp [hg]
  · simp [e]
/-! ### running -/
theorem runD_stop {now : Int} {d : Dk} (n : Nat) (acc : List Wt) (h : d.w.find? (free d now) = none) : runD now n d acc = (d, acc) := by
  cases n with
  | zero => rfl
  | succ n => unfold runD; rw [h]
theorem runD_go {now : Int} {d : Dk} {n : Nat} (acc : List Wt) {w : Wt} (hn : d.w.length ≤ n) (h : d.w.find? (free d now) = some w) : ∃ m, n = m + 1 ∧ (lets d now w).w.length ≤ m ∧ (lets d now w).w.length < d.w.length ∧ runD now n d acc = runD now m (lets d now w) (acc ++ [w]) := by
  have hw := List.mem_of_find?_eq_some h
  have h1 := drop_len hw
  cases n with
  | zero => have := List.length_pos_of_mem hw; omega
  | succ n =>
    refine ⟨n, rfl, by show (dropW d.w w.c).length ≤ n; omega, h1, ?_⟩
    rw [runD.eq_2, h]
theorem run_len (now : Int) : ∀ (n : Nat) (d : Dk) (acc : List Wt), (runD now n d acc).1.w.length ≤ d.w.length := by
  intro n
  induction n with
  | zero => intro d acc; exact Nat.le_refl _
  | succ n ih =>
    intro d acc
    rw [runD.eq_2]
    split
    · rename_i w hw
      have := ih (lets d now w) (acc ++ [w])
      have := drop_len (List.mem_of_find?_eq_some hw)
      have e : (lets d now w).w.length = (dropW d.w w.c).length := rfl
      omega
    · exact Nat.le_refl _
theorem run_keep (now : Int) : ∀ (n : Nat) (d : Dk) (acc : List Wt), uniq d.w →
    (∀ g, (runD now n d acc).2.filter (fun y => decide (y.f = g)) ++ (runD now n d acc).1.w.filter (fun y => decide (y.f = g)) = acc.filter (fun y => decide (y.f = g)) ++ d.w.filter (fun y => decide (y.f = g))) ∧
    (runD now n d acc).2.length + (runD now n d acc).1.w.length = acc.length + d.w.length := by
  intro n
  induction n with
  | zero => intro d acc _; exact ⟨fun g => rfl, rfl⟩
  | succ n ih =>
    intro d acc hu
    rw [runD.eq_2]
    split
    · rename_i w hw
      have hm := List.mem_of_find?_eq_some hw
      have hf := ahead_no hu hm (free_cls (List.find?_some hw)).2
      obtain ⟨i1, i2⟩ := ih (lets d now w) (acc ++ [w]) (uniq_drop hu _)
      refine ⟨fun g => ?_, ?_⟩
      · rw [i1 g]
        show (acc ++ [w]).filter _ ++ (dropW d.w w.c).filter _ = _
        rw [List.filter_append, List.append_assoc]
        congr 1
        by_cases e : w.f = g
        · subst e
          rw [filter_head hu hf]; simp
        · rw [filter_other hu hm e]; simp [e]
      · rw [i2]
        have := drop_one hu hm
        have e : (lets d now w).w.length = (dropW d.w w.c).length := rfl
        rw [List.length_append, e]
        simp; omega
    · exact ⟨fun g => rfl, rfl⟩
theorem free_head {now : Int} {a : Wt} {r : List Wt} : free ⟨[], a :: r⟩ now a = true := by
  unfold free
  have h1 : cls [] now a.c a.f a.m = [] := rfl
  have h2 : ahead (a :: r) a.c a.f = false := by unfold ahead; rw [List.find?_cons_of_pos (by simp)]; simp
  simp [h1, h2]
theorem run_less {now : Int} {n : Nat} {d : Dk} {acc : List Wt} (hl : d.l = []) (hn : d.w.length ≤ n) : (runD now n d acc).1.w.length ≤ d.w.length - 1 := by
  obtain ⟨l, w⟩ := d
  dsimp only at hl; subst hl
  cases w with
  | nil =>
    have := run_len now n ⟨[], []⟩ acc
    simpa using this
  | cons a r =>
    have h : (⟨[], a :: r⟩ : Dk).w.find? (free ⟨[], a :: r⟩ now) = some a := List.find?_cons_of_pos free_head
    obtain ⟨m, rfl, h1, h2, h3⟩ := runD_go acc hn h
    rw [h3]
    have := run_len now m (lets ⟨[], a :: r⟩ now a) (acc ++ [a])
    show _ ≤ (a :: r).length - 1
    have h2' : (lets ⟨[], a :: r⟩ now a).w.length < (a :: r).length := h2
    omega
/-! ### who waits first -/
def Frst (d : Dk) (w : Wt) : Prop := d.w.find? (fun y => decide (y.f = w.f)) = some w
def Clr (d : Dk) (w : Wt) (T : Int) : Prop := ∀ y ∈ d.l, y.f = w.f → y.u ≤ T
theorem frst_mem {d : Dk} {w : Wt} (h : Frst d w) : w ∈ d.w := List.mem_of_find?_eq_some h
theorem frst_ahead {d : Dk} {w : Wt} {c : Int} (h : Frst d w) (hc : c ≠ w.c) : ahead d.w c w.f = true := by
  unfold ahead; rw [show d.w.find? (fun y => decide (y.f = w.f)) = some w from h]
  simp; exact fun e => hc e.symm
theorem find_drop {l : List Wt} {w : Wt} {c : Int} (hc : w.c ≠ c) (h : l.find? (fun y => decide (y.f = w.f)) = some w) : (dropW l c).find? (fun y => decide (y.f = w.f)) = some w := by
  induction l with
  | nil => cases h
  | cons a l ih =>
    by_cases e : a.f = w.f
    · rw [List.find?_cons_of_pos (by simpa using e)] at h
      cases h
      have : dropW (w :: l) c = w :: dropW l c := by unfold dropW; rw [List.filter_cons_of_pos (by simpa using hc)]
      rw [this, List.find?_cons_of_pos (by simp)]
    · rw [List.find?_cons_of_neg (by simpa using e)] at h
      by_cases e2 : a.c = c
      · have : dropW (a :: l) c = dropW l c := by unfold dropW; rw [List.filter_cons_of_neg (by simpa using e2)]
        rw [this]; exact ih h
      · have : dropW (a :: l) c = a :: dropW l c := by unfold dropW; rw [List.filter_cons_of_pos (by simpa using e2)]
        rw [this, List.find?_cons_of_neg (by simpa using e)]; exact ih h
theorem find_set {l : List Wt} {w o : Wt} {i : Nat} (hi : i < l.length) (hc : l[i].c ≠ w.c) (hf : l[i].f = o.f) (h : l.find? (fun y => decide (y.f = w.f)) = some w) : (l.set i o).find? (fun y => decide (y.f = w.f)) = some w := by
  induction l generalizing i with
  | nil => cases h
  | cons a l ih =>
    cases i with
    | zero =>
      simp only [List.getElem_cons_zero] at hc hf
      rw [List.set_cons_zero]
      by_cases e : a.f = w.f
      · rw [List.find?_cons_of_pos (by simpa using e)] at h
        cases h; exact absurd rfl hc
      · rw [List.find?_cons_of_neg (by simpa using e)] at h
        rw [List.find?_cons_of_neg (by simpa [← hf] using e)]; exact h
    | succ i =>
      rw [List.set_cons_succ]
      simp only [List.getElem_cons_succ] at hc hf
      by_cases e : a.f = w.f
      · rw [List.find?_cons_of_pos (by simpa using e)] at h ⊢; exact h
      · rw [List.find?_cons_of_neg (by simpa using e)] at h ⊢; exact ih (by simpa using hi) hc hf h
theorem frst_put {d : Dk} {w o : Wt} (h : Frst d w) (hc : o.c ≠ w.c) : (putW d.w o).1.find? (fun y => decide (y.f = w.f)) = some w := by
  unfold putW
  split
  · rename_i i hi
    rw [List.findIdx?_eq_some_iff_getElem] at hi
    obtain ⟨hi, hp, _⟩ := hi
    simp only [decide_eq_true_eq] at hp
    exact find_set hi (fun e => hc (hp.1.symm.trans e)) hp.2 h
  · split
    · exact h
    · dsimp only
      rw [List.find?_append, find_drop (fun e => hc e.symm) h]; rfl
theorem time_ask {k : Int} {d : Dk} {w o : Wt} {t T : Int} (h : Frst d w) (hc : o.c ≠ w.c) (hk : Clr d w T) : Frst (askD d t o).1 w ∧ Clr (askD d t o).1 w T := by
  have hp : Clr ⟨prn d.l t, d.w⟩ w T := fun y hy => hk y (List.mem_filter.1 hy).1
  unfold askD
  split
  · rename_i hf
    have h2 := (free_cls hf).2
    have hne : o.f ≠ w.f := fun e => by
      rw [e] at h2
      rw [frst_ahead (d := ⟨prn d.l t, d.w⟩) h hc] at h2; cases h2
    refine ⟨find_drop (fun e => hc e.symm) h, fun y hy hyf => ?_⟩
    rcases mem_gr2 hy with h' | rfl | ⟨b, hb, hq, rfl⟩
    · exact hp y h' hyf
    · exact absurd hyf hne
    · rw [ordI_eq] at hq
      exact absurd (hq.1.symm.trans hyf) hne
  · split
    · exact ⟨frst_put h hc, hp⟩
    · exact ⟨h, hp⟩
theorem free_frst {d : Dk} {w : Wt} {T : Int} (h : Frst d w) (hn : ∀ y ∈ d.l, y.f ≠ w.f) : free d T w = true := by
  unfold free
  have h1 : cls d.l T w.c w.f w.m = [] := by
    unfold cls
    rw [List.map_eq_nil_iff, List.filter_eq_nil_iff]
    intro y hy
    unfold clp
    simp [hn y hy]
  have h2 : ahead d.w w.c w.f = false := by unfold ahead; rw [show d.w.find? (fun y => decide (y.f = w.f)) = some w from h]; simp
  simp [h1, h2]
theorem served_keep {w : Wt} {T : Int} : ∀ (n : Nat) (d : Dk) (acc : List Wt), w ∈ acc → w.m ≤ hld d.l T w.c w.f → (∀ y ∈ d.w, y.c ≠ w.c) →
    w ∈ (runD T n d acc).2 ∧ w.m ≤ hld (runD T n d acc).1.l T w.c w.f := by
  intro n
  induction n with
  | zero => intro d acc h1 h2 _; exact ⟨h1, h2⟩
  | succ n ih =>
    intro d acc h1 h2 h3
    rw [runD.eq_2]
    split
    · rename_i o ho
      have hm := List.mem_of_find?_eq_some ho
      refine ih _ _ (List.mem_append_left _ h1) ?_ (fun y hy => h3 y (mem_drop.1 hy).1)
      show w.m ≤ hld (gr2 d.l _) T w.c w.f
      rw [hld_gr2_ne (by dsimp only; exact fun e => h3 o hm e.1.symm)]
      exact h2
    · exact ⟨h1, h2⟩
theorem time_run {k : Int} {w : Wt} {T : Int} (hT : 0 ≤ T) : ∀ (n : Nat) (d : Dk) (acc : List Wt), GD k d T → Frst d w → (∀ y ∈ d.l, y.f ≠ w.f) → d.w.length ≤ n →
    w ∈ (runD T n d acc).2 ∧ w.m ≤ hld (runD T n d acc).1.l T w.c w.f := by
  intro n
  induction n with
  | zero => intro d acc _ h _ hn; have := List.length_pos_of_mem (frst_mem h); omega
  | succ n ih =>
    intro d acc hg h hcl hn
    have hw := frst_mem h
    have hfree := free_frst (T := T) h hcl
    cases hq : d.w.find? (free d T) with
    | none => rw [List.find?_eq_none] at hq; exact absurd hfree (hq w hw)
    | some o =>
      have hm := List.mem_of_find?_eq_some hq
      have hof := free_cls (List.find?_some hq)
      have hg' := gd_lets hg hT (hg.okw o hm) hof.1
      rw [runD.eq_2, hq]
      dsimp only
      by_cases e : o.c = w.c
      · have := uniq_eq hg.u hm hw e
        subst this
        refine served_keep n _ _ (by simp) ?_ (fun y hy => (mem_drop.1 hy).2)
        have := hg'.2
        omega
      · have hne : o.f ≠ w.f := fun e' => by
          have := hof.2
          rw [e'] at this
          rw [frst_ahead h e] at this; cases this
        refine ih _ _ hg'.1 (find_drop (fun e' => e e'.symm) h) (fun y hy => ?_) (by have := drop_len hm; show (dropW d.w o.c).length ≤ n; omega)
        rcases mem_gr2 hy with h' | rfl | ⟨b, hb, hq', rfl⟩
        · exact hcl y h'
        · exact hne
        · rw [ordI_eq] at hq'
          show b.f ≠ w.f
          rw [hq'.1]; exact hne
theorem clr_prn {d : Dk} {w : Wt} {T : Int} (h : Clr d w T) : ∀ y ∈ prn d.l T, y.f ≠ w.f := fun y hy e => by
  have h1 := List.mem_filter.1 hy
  have := h y h1.1 e
  have h2 := h1.2
  simp at h2; omega
/-! ### calls -/
def addC (f : Int) : List Int → List (Int × Int) → List (Int × Int)
  | [], acc => acc
  | c :: r, acc => addC f r (if (f, c) ∈ acc then acc else acc ++ [(f, c)])
def callsF (d : Dk) (now : Int) : List Wt → List (Int × Int) → List (Int × Int)
  | [], acc => acc
  | w :: r, acc => callsF d now r (addC w.f (cls d.l now w.c w.f w.m) acc)
def callsOf (d : Dk) (now : Int) : List (Int × Int) := callsF d now d.w []
theorem addC_len (f : Int) : ∀ (l : List Int) (acc : List (Int × Int)), (addC f l acc).length ≤ acc.length + l.length
  | [], acc => by simp [addC]
  | c :: r, acc => by
    have := addC_len f r (if (f, c) ∈ acc then acc else acc ++ [(f, c)])
    unfold addC
    split at this <;> rename_i h <;> simp only [h, if_true, if_false] <;> simp at this ⊢ <;> omega
theorem addC_append (f : Int) : ∀ (l m : List Int) (acc : List (Int × Int)), addC f (l ++ m) acc = addC f m (addC f l acc)
  | [], m, acc => rfl
  | c :: r, m, acc => by simp only [List.cons_append, addC]; exact addC_append f r m _
theorem callsF_append (d : Dk) (now : Int) : ∀ (l m : List Wt) (acc : List (Int × Int)), callsF d now (l ++ m) acc = callsF d now m (callsF d now l acc)
  | [], m, acc => rfl
  | c :: r, m, acc => by simp only [List.cons_append, callsF]; exact callsF_append d now r m _

end Go.Proofs.Ytdacnebhlgibhaa
