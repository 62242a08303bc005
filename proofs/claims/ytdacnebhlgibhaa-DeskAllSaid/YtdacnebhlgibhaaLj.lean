/- Own text: plain laws of leases. -/
import Derived.Test.YtdacnebhlgibhaaLi
set_option linter.unusedVariables false
set_option linter.unusedSimpArgs false
set_option linter.all false
set_option maxRecDepth 100000
set_option maxHeartbeats 2000000
namespace Go.Proofs.Ytdacnebhlgibhaa
open Go Go.Aw

def sltP (a b : L) : Prop := a.f < b.f ∨ a.f = b.f ∧ a.c < b.c
theorem srt_iff {l : List L} : srt l ↔ l.Pairwise sltP := by unfold srt sltP; simp only [ordI_lt]
theorem pos_cons {a : L} {l : List L} {x : L} : pos (a :: l) x = if ordI a x < 0 then pos l x + 1 else pos l x := by
  unfold pos; rw [List.countP_cons]; by_cases h : ordI a x < 0 <;> simp [h]
theorem pos_zero {a : L} {l : List L} {x : L} (hs : srt (a :: l)) (h : ¬ ordI a x < 0) : pos (a :: l) x = 0 := by
  unfold pos
  rw [List.countP_eq_zero]
  intro y hy
  rcases List.mem_cons.1 hy with rfl | hy
  · simpa using h
  · have := (List.pairwise_cons.1 hs).1 y hy
    rw [ordI_lt] at *; simp; rw [← Int.not_lt, ordI_lt]; omega
/-- Granting, by recursion. -/
def gr2 : List L → L → List L
  | [], x => [x]
  | a :: l, x => if ordI a x < 0 then a :: gr2 l x else if ordI a x = 0 then up a x :: l else x :: a :: l
theorem gr_eq {l : List L} {x : L} (hs : srt l) : gr l x = gr2 l x := by
  induction l with
  | nil => simp [gr, gr2, has, insL, pos]
  | cons a l ih =>
    have hs' := (List.pairwise_cons.1 hs).2
    unfold gr2
    by_cases h : ordI a x < 0
    · rw [if_pos h, ← ih hs']
      have hne : ¬ ordI a x = 0 := by omega
      unfold gr
      have e1 : has (a :: l) x = has l x := by unfold has; simp [hne]
      rw [e1, pos_cons, if_pos h]
      split
      · simp
      · simp [insL]
    · rw [if_neg h]
      by_cases h0 : ordI a x = 0
      · rw [if_pos h0]
        unfold gr
        have e1 : has (a :: l) x = true := by unfold has; simp [h0]
        rw [if_pos e1, pos_zero hs h]; simp
      · rw [if_neg h0]
        unfold gr
        have e1 : has (a :: l) x = false := by
          unfold has
          rw [List.any_eq_false]
          intro y hy
          rcases List.mem_cons.1 hy with rfl | hy
          · simpa using h0
          · have := (List.pairwise_cons.1 hs).1 y hy
            rw [ordI_lt] at *; rw [ordI_eq] at h0; simp [ordI_eq]; omega
        rw [if_neg (by rw [e1]; decide), pos_zero hs h]; simp [insL]
theorem acc_none {l : List L} {x : L} (h : ∀ y ∈ l, ¬ (y.c = x.c ∧ y.f = x.f)) : acc l x = x := by
  unfold acc
  induction l with
  | nil => rfl
  | cons y l ih =>
    rw [List.foldl_cons]
    have : stp x y = x := by unfold stp; rw [if_neg (h y (List.mem_cons_self ..))]
    rw [this]; exact ih (fun z hz => h z (List.mem_cons_of_mem _ hz))
theorem rput_cons_no {a : L} {r : List L} {x : L} (h : ¬ bey x a) : rput (a :: r) x = a :: rput r x := by
  unfold rput
  rw [List.findIdx?_cons]
  simp only [h, decide_false, Bool.false_eq_true, if_false]
  cases r.findIdx? (fun y => decide (bey x y)) <;> simp [insL]
theorem rput_cons_yes {a : L} {r : List L} {x : L} (h : bey x a) : rput (a :: r) x = x :: a :: r := by
  unfold rput
  rw [List.findIdx?_cons]
  simp [h, insL]
theorem rput_front {r : List L} {x : L} (h : ∀ y ∈ r, bey x y) : rput r x = x :: r := by
  cases r with
  | nil => rfl
  | cons a r => exact rput_cons_yes (h a (List.mem_cons_self ..))
theorem rgr_eq {l : List L} {x : L} (hs : srt l) : rgr l x = gr2 l x := by
  induction l generalizing x with
  | nil => rfl
  | cons a l ih =>
    have hs' := (List.pairwise_cons.1 hs).2
    have ha := (List.pairwise_cons.1 hs).1
    unfold gr2
    by_cases h : ordI a x < 0
    · rw [if_pos h, ← ih hs']
      have h' := ordI_lt.1 h
      have e1 : acc (a :: l) x = acc l x := by
        unfold acc; rw [List.foldl_cons]; congr 1; unfold stp; rw [if_neg (by omega)]
      obtain ⟨k1, k2⟩ := acc_key l x
      unfold rgr
      rw [e1]
      have e2 : drp (a :: l) (acc l x).c (acc l x).f = a :: drp l (acc l x).c (acc l x).f := by
        unfold drp; rw [List.filter_cons_of_pos]; rw [k1, k2]; simp; omega
      rw [e2, rput_cons_no (by unfold bey; omega)]
    · rw [if_neg h]
      have h' : ¬ (a.f < x.f ∨ a.f = x.f ∧ a.c < x.c) := fun e => h (ordI_lt.2 e)
      have hno : ∀ y ∈ l, ¬ (y.c = x.c ∧ y.f = x.f) := fun y hy => by have := ordI_lt.1 (ha y hy); omega
      by_cases h0 : ordI a x = 0
      · rw [if_pos h0]
        have h0' := ordI_eq.1 h0
        have e1 : acc (a :: l) x = ⟨x.c, x.f, max x.m a.m, max x.u a.u⟩ := by
          have : acc (a :: l) x = acc l (stp x a) := rfl
          rw [this]
          have e : stp x a = ⟨x.c, x.f, max x.m a.m, max x.u a.u⟩ := by unfold stp; rw [if_pos (by omega)]
          rw [e, acc_none (by simpa using hno)]
        unfold rgr
        rw [e1]
        have e2 : drp (a :: l) x.c x.f = l := by
          unfold drp
          rw [List.filter_cons_of_neg (by simp; omega), List.filter_eq_self]
          intro y hy; have := hno y hy; simp; omega
        show rput (drp (a :: l) x.c x.f) _ = _
        rw [e2, rput_front (fun y hy => by have := ordI_lt.1 (ha y hy); unfold bey; simp only; omega)]
        congr 1
        unfold up
        rw [L.mk.injEq]; omega
      · rw [if_neg h0]
        have h0' : ¬ (a.f = x.f ∧ a.c = x.c) := fun e => h0 (ordI_eq.2 e)
        have e1 : acc (a :: l) x = x := acc_none (fun y hy => by
          rcases List.mem_cons.1 hy with rfl | hy
          · omega
          · exact hno y hy)
        unfold rgr
        rw [e1]
        have e2 : drp (a :: l) x.c x.f = a :: l := by
          unfold drp
          rw [List.filter_eq_self]
          intro y hy
          rcases List.mem_cons.1 hy with rfl | hy
          · simp; omega
          · have := hno y hy; simp; omega
        rw [e2, rput_front (fun y hy => by
          rcases List.mem_cons.1 hy with rfl | hy
          · unfold bey; omega
          · have := ordI_lt.1 (ha y hy); unfold bey; omega)]
theorem mem_gr2 {l : List L} {x y : L} (h : y ∈ gr2 l x) : y ∈ l ∨ y = x ∨ ∃ a ∈ l, ordI a x = 0 ∧ y = up a x := by
  induction l with
  | nil => simp [gr2] at h; exact .inr (.inl h)
  | cons a l ih =>
    unfold gr2 at h
    split at h
    · rcases List.mem_cons.1 h with rfl | h
      · exact .inl (List.mem_cons_self ..)
      · rcases ih h with h | h | ⟨b, hb, h⟩
        · exact .inl (List.mem_cons_of_mem _ h)
        · exact .inr (.inl h)
        · exact .inr (.inr ⟨b, List.mem_cons_of_mem _ hb, h⟩)
    · split at h
      · rename_i h0
        rcases List.mem_cons.1 h with rfl | h
        · exact .inr (.inr ⟨a, List.mem_cons_self .., h0, rfl⟩)
        · exact .inl (List.mem_cons_of_mem _ h)
      · rcases List.mem_cons.1 h with rfl | h
        · exact .inr (.inl rfl)
        · exact .inl h
theorem srt_gr2 {l : List L} {x : L} (hs : srt l) : srt (gr2 l x) := by
  induction l with
  | nil => simp [gr2, srt]
  | cons a l ih =>
    have hs' := (List.pairwise_cons.1 hs).2
    have ha := (List.pairwise_cons.1 hs).1
    unfold gr2
    split
    · rename_i h
      refine List.pairwise_cons.2 ⟨fun y hy => ?_, ih hs'⟩
      rcases mem_gr2 hy with h1 | rfl | ⟨b, hb, h0, rfl⟩
      · exact ha y h1
      · exact h
      · have := ha b hb; rw [ordI_lt] at *; exact this
    · rename_i h
      split
      · rename_i h0
        refine List.pairwise_cons.2 ⟨fun y hy => ?_, hs'⟩
        have := ha y hy; rw [ordI_lt] at *; exact this
      · rename_i h0
        refine List.pairwise_cons.2 ⟨fun y hy => ?_, hs⟩
        have h1 : ordI x a < 0 := by rw [ordI_lt] at *; rw [ordI_eq] at h0; omega
        rcases List.mem_cons.1 hy with rfl | hy
        · exact h1
        · have := ha y hy; rw [ordI_lt] at *; omega
theorem len_gr2 (l : List L) (x : L) : l.length ≤ (gr2 l x).length ∧ (gr2 l x).length ≤ l.length + 1 := by
  induction l with
  | nil => simp [gr2]
  | cons a l ih =>
    unfold gr2
    split
    · simp; omega
    · split <;> simp
theorem srt_filter {l : List L} {p : L → Bool} (hs : srt l) : srt (l.filter p) := List.Pairwise.filter _ hs

end Go.Proofs.Ytdacnebhlgibhaa
