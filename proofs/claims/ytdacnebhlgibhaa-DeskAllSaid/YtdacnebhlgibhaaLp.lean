/- Own text: plain laws of leases: who is granted one, who holds one alone, and that the document says the same. -/
import Derived.Test.YtdacnebhlgibhaaLm
set_option linter.unusedVariables false
set_option linter.unusedSimpArgs false
set_option linter.all false
set_option maxRecDepth 100000
set_option maxHeartbeats 2000000
namespace Go.Proofs.Ytdacnebhlgibhaa
open Go Go.Aw

/-- Four numbers. -/
structure Q where
  a : UInt8
  b : UInt8
  c : UInt8
  d : UInt8
def Q.e (q : Q) : List AV := [.sc (.int .u8 (q.a.toNat : Int)), .sc (.int .u8 (q.b.toNat : Int)), .sc (.int .u8 (q.c.toNat : Int)), .sc (.int .u8 (q.d.toNat : Int))]
theorem hld_cons (a : L) (l : List L) (t c f : Int) : hld (a :: l) t c f = if a.f = f ∧ a.c = c then (if a.u ≤ t then 0 else a.m) else hld l t c f := by
  unfold hld
  by_cases h : a.f = f ∧ a.c = c
  · rw [List.find?_cons_of_pos (by simpa using h), if_pos h]
  · rw [List.find?_cons_of_neg (by simpa using h), if_neg h]
theorem hld_nil (t c f : Int) : hld [] t c f = 0 := rfl
theorem hld_far {l : List L} {t c f : Int} (h : ∀ y ∈ l, ¬ (y.f = f ∧ y.c = c)) : hld l t c f = 0 := by
  unfold hld; rw [List.find?_eq_none.2 (fun y hy => by simpa using h y hy)]
theorem hld_gr2_ne {l : List L} {x : L} {t c f : Int} (h : ¬ (c = x.c ∧ f = x.f)) : hld (gr2 l x) t c f = hld l t c f := by
  induction l with
  | nil => simp only [gr2]; rw [hld_cons, if_neg (by omega)]
  | cons a l ih =>
    unfold gr2
    split
    · rw [hld_cons, hld_cons, ih]
    · split
      · rename_i h0
        rw [ordI_eq] at h0
        rw [hld_cons, hld_cons]
        unfold up; dsimp only
        rw [if_neg (by omega), if_neg (by omega)]
      · rw [hld_cons, if_neg (by omega)]
/-- Who is granted it holds it. -/
theorem hld_gr2_eq {l : List L} {x : L} (t : Int) (hs : srt l) (hx : 0 ≤ x.m) (hm : ∀ y ∈ l, 0 ≤ y.m) : hld l t x.c x.f ≤ hld (gr2 l x) t x.c x.f ∧ (t < x.u → x.m ≤ hld (gr2 l x) t x.c x.f) ∧
    ((∀ y ∈ l, t < y.u) → t < x.u → hld (gr2 l x) t x.c x.f = max (hld l t x.c x.f) x.m) := by
  induction l with
  | nil =>
    simp only [gr2]; rw [hld_cons, if_pos ⟨rfl, rfl⟩, hld_nil]
    refine ⟨?_, fun h => ?_, fun _ h => ?_⟩
    · split <;> omega
    · rw [if_neg (by omega)]; omega
    · rw [if_neg (by omega)]; omega
  | cons a l ih =>
    have hs' := (List.pairwise_cons.1 hs).2
    have ha := (List.pairwise_cons.1 hs).1
    have hm0 := hm a (List.mem_cons_self ..)
    have ih' := ih hs' (fun y hy => hm y (List.mem_cons_of_mem _ hy))
    unfold gr2
    split
    · rename_i h
      rw [ordI_lt] at h
      rw [hld_cons, hld_cons, if_neg (by omega), if_neg (by omega)]
      exact ⟨ih'.1, ih'.2.1, fun h1 h2 => ih'.2.2 (fun y hy => h1 y (List.mem_cons_of_mem _ hy)) h2⟩
    · split
      · rename_i h0
        rw [ordI_eq] at h0
        rw [hld_cons, hld_cons]
        unfold up; dsimp only
        rw [if_pos h0, if_pos h0]
        refine ⟨?_, fun h => ?_, fun h1 h2 => ?_⟩
        · split <;> split <;> omega
        · rw [if_neg (by omega)]; omega
        · have := h1 a (List.mem_cons_self ..)
          rw [if_neg (show ¬ a.u ≤ t by omega), if_neg (show ¬ max a.u x.u ≤ t by omega)]
      · rename_i h h0
        have hf : hld (a :: l) t x.c x.f = 0 := hld_far (fun y hy => by
          rw [ordI_lt] at h; rw [ordI_eq] at h0
          rcases List.mem_cons.1 hy with rfl | hy
          · omega
          · have := ordI_lt.1 (ha y hy); omega)
        rw [hf, hld_cons, if_pos ⟨rfl, rfl⟩]
        refine ⟨?_, fun h => ?_, fun _ h => ?_⟩
        · split <;> omega
        · rw [if_neg (by omega)]; omega
        · rw [if_neg (by omega)]; omega
theorem hld_drp (l : List L) (t c f c' f' : Int) : hld (drp l c f) t c' f' = if c' = c ∧ f' = f then 0 else hld l t c' f' := by
  induction l with
  | nil => simp [drp, hld]
  | cons a l ih =>
    by_cases h : a.c = c ∧ a.f = f
    · have e : drp (a :: l) c f = drp l c f := by unfold drp; rw [List.filter_cons_of_neg (by simpa using h)]
      rw [e, ih, hld_cons]
      split
      · rfl
      · rw [if_neg (by omega)]
    · have e : drp (a :: l) c f = a :: drp l c f := by unfold drp; rw [List.filter_cons_of_pos (by simp only [Bool.not_eq_true', decide_eq_false_iff_not]; exact h)]
      rw [e, hld_cons, hld_cons, ih]
      by_cases h2 : a.f = f' ∧ a.c = c'
      · have h3 : ¬ (c' = c ∧ f' = f) := fun e => h ⟨h2.2.trans e.1, h2.1.trans e.2⟩
        rw [if_pos h2, if_neg h3, if_pos h2]
      · rw [if_neg h2, if_neg h2]
theorem hld_later {l : List L} {a b c f : Int} (hab : a ≤ b) : hld l b c f = hld l a c f ∨ hld l b c f = 0 := by
  unfold hld
  cases l.find? (fun a => decide (a.f = f ∧ a.c = c)) with
  | none => exact .inl rfl
  | some y =>
    dsimp only
    by_cases h : y.u ≤ b
    · rw [if_pos h]; exact .inr rfl
    · rw [if_neg h, if_neg (by omega)]; exact .inl rfl
theorem hld_mem {l : List L} {t c f : Int} (h : hld l t c f ≠ 0) : ∃ y ∈ l, y.f = f ∧ y.c = c ∧ t < y.u ∧ hld l t c f = y.m := by
  unfold hld at *
  cases hf : l.find? (fun a => decide (a.f = f ∧ a.c = c)) with
  | none => rw [hf] at h; exact absurd rfl h
  | some y =>
    rw [hf] at h
    dsimp only at *
    have h1 := List.find?_some hf
    simp only [decide_eq_true_eq] at h1
    by_cases hu : y.u ≤ t
    · rw [if_pos hu] at h; exact absurd rfl h
    · rw [if_neg hu]; exact ⟨y, List.mem_of_find?_eq_some hf, h1.1, h1.2, by omega, rfl⟩
theorem cls_nil {l : List L} {t c f m c' : Int} (h : cls l t c f m = []) (hc : c' ≠ c) : hld l t c' f = 0 ∨ m ≠ 2 ∧ hld l t c' f ≠ 2 := by
  by_cases h0 : hld l t c' f = 0
  · exact .inl h0
  · obtain ⟨y, hy, hf, hyc, _, _⟩ := hld_mem h0
    subst hyc
    unfold cls at h
    rw [List.map_eq_nil_iff, List.filter_eq_nil_iff] at h
    have := h y hy
    unfold clp at this
    simp at this
    have := this hf hc h0
    exact .inr this
/-! ### by the document -/
theorem rhld_cons (a : L) (l : List L) (t c f : Int) : rhld (a :: l) t c f = if a.c = c ∧ a.f = f ∧ t < a.u then a.m else rhld l t c f := by
  unfold rhld
  by_cases h : a.c = c ∧ a.f = f ∧ t < a.u
  · rw [List.find?_cons_of_pos (by unfold rhp; simpa using h), if_pos h]
  · rw [List.find?_cons_of_neg (by unfold rhp; simpa using h), if_neg h]
theorem rhld_far {l : List L} {t c f : Int} (h : ∀ y ∈ l, ¬ (y.f = f ∧ y.c = c)) : rhld l t c f = 0 := by
  unfold rhld; rw [List.find?_eq_none.2 (fun y hy => by have := h y hy; unfold rhp; simp; omega)]
theorem rhld_eq {l : List L} (hs : srt l) (t c f : Int) : rhld l t c f = hld l t c f := by
  induction l with
  | nil => rfl
  | cons a l ih =>
    have hs' := (List.pairwise_cons.1 hs).2
    have ha := (List.pairwise_cons.1 hs).1
    rw [rhld_cons, hld_cons, ih hs']
    by_cases h : a.f = f ∧ a.c = c
    · rw [if_pos h]
      by_cases hu : a.u ≤ t
      · rw [if_pos hu, if_neg (by omega)]
        exact hld_far (fun y hy => by have := ordI_lt.1 (ha y hy); omega)
      · rw [if_neg hu, if_pos (by omega)]
    · rw [if_neg h, if_neg (by omega)]
theorem eq_of_up {a b : List Int} (ha : a.Pairwise (· < ·)) (hb : b.Pairwise (· < ·)) (h : ∀ x, x ∈ a ↔ x ∈ b) : a = b := by
  induction a generalizing b with
  | nil => cases b with
    | nil => rfl
    | cons y b => have := (h y).2 (List.mem_cons_self ..); cases this
  | cons x a ih =>
    cases b with
    | nil => have := (h x).1 (List.mem_cons_self ..); cases this
    | cons y b =>
      have a1 := (List.pairwise_cons.1 ha).1
      have b1 := (List.pairwise_cons.1 hb).1
      have e : x = y := by
        have h1 := (h x).1 (List.mem_cons_self ..)
        have h2 := (h y).2 (List.mem_cons_self ..)
        rcases List.mem_cons.1 h1 with e | h1
        · exact e
        · rcases List.mem_cons.1 h2 with e | h2
          · exact e.symm
          · have := a1 y h2; have := b1 x h1; omega
      subst e
      rw [ih (List.pairwise_cons.1 ha).2 (List.pairwise_cons.1 hb).2 (fun z => ?_)]
      have hz := h z
      constructor
      · intro hm
        have := a1 z hm
        rcases List.mem_cons.1 (hz.1 (List.mem_cons_of_mem _ hm)) with e | hm'
        · omega
        · exact hm'
      · intro hm
        have := b1 z hm
        rcases List.mem_cons.1 (hz.2 (List.mem_cons_of_mem _ hm)) with e | hm'
        · omega
        · exact hm'
theorem rcl_eq {l : List L} (hs : srt l) (hc : ∀ y ∈ l, 1 ≤ y.c ∧ y.c ≤ 3) (t c f m : Int) : rcl l t c f m = cls l t c f m := by
  refine eq_of_up ?_ ?_ ?_
  · unfold rcl
    rw [List.pairwise_map]
    refine List.Pairwise.filter _ ?_
    refine List.Pairwise.imp ?_ (List.pairwise_lt_range (n := 3))
    intro a b h; omega
  · unfold cls
    rw [List.pairwise_map]
    have hs2 : (l.filter (clp l t c f m)).Pairwise fun a b => ordI a b < 0 := List.Pairwise.filter _ hs
    refine List.Pairwise.imp_of_mem ?_ hs2
    intro a b h1 h2 h
    have e1 := (List.mem_filter.1 h1).2
    have e2 := (List.mem_filter.1 h2).2
    unfold clp at e1 e2
    simp at e1 e2
    rw [ordI_lt] at h
    omega
  · intro z
    unfold rcl cls
    simp only [List.mem_map, List.mem_filter, List.mem_range]
    constructor
    · rintro ⟨j, ⟨hj, hq⟩, rfl⟩
      unfold rcq at hq
      simp only [decide_eq_true_eq] at hq
      rw [rhld_eq hs] at hq
      obtain ⟨y, hy, hf, hyc, _, _⟩ := hld_mem hq.2.1
      refine ⟨y, ⟨hy, ?_⟩, hyc⟩
      unfold clp
      rw [hyc]
      simp
      refine ⟨⟨hf, hq.1⟩, hq.2.1, hq.2.2.symm⟩
    · rintro ⟨y, ⟨hy, hq⟩, rfl⟩
      have := hc y hy
      unfold clp at hq
      simp at hq
      refine ⟨(y.c - 1).toNat, ⟨by omega, ?_⟩, by omega⟩
      have e : (((y.c - 1).toNat : Nat) : Int) + 1 = y.c := by omega
      unfold rcq
      rw [e, rhld_eq hs]
      simp
      exact ⟨hq.1.2, hq.2.1, hq.2.2.symm⟩
/-! ### alone -/
/-- What stands at a time: in order, none over, who holds it to write holds it alone. -/
structure Alone (x : List L) (now : Int) : Prop where
  s : srt x
  ok : ∀ y ∈ x, 1 ≤ y.c ∧ y.c ≤ 3 ∧ 1 ≤ y.f ∧ y.f ≤ 3 ∧ 1 ≤ y.m ∧ y.m ≤ 2 ∧ 0 ≤ y.u
  live : ∀ y ∈ x, now < y.u
  one : ∀ f c1 c2, c1 ≠ c2 → hld x now c1 f = 2 → hld x now c2 f = 0
theorem alone_nil (now : Int) : Alone [] now := ⟨List.Pairwise.nil, fun y hy => (by cases hy), fun y hy => (by cases hy), fun f c1 c2 _ _ => rfl⟩
theorem alone_prn {x : List L} {a b : Int} (h : Alone x a) (hab : a ≤ b) : Alone (prn x b) b := by
  refine ⟨srt_filter h.s, fun y hy => h.ok y (List.mem_filter.1 hy).1, fun y hy => ?_, fun f c1 c2 hc h1 => ?_⟩
  · have := (List.mem_filter.1 hy).2
    simp at this; omega
  · rw [hld_prn h.s (Int.le_refl b)] at *
    have e1 : hld x a c1 f = 2 := by rcases hld_later (l := x) (c := c1) (f := f) hab with e | e <;> omega
    have := h.one f c1 c2 hc e1
    rcases hld_later (l := x) (c := c2) (f := f) hab with e | e <;> omega
theorem alone_drp {x : List L} {a c f : Int} (h : Alone x a) : Alone (drp x c f) a := by
  refine ⟨srt_filter h.s, fun y hy => h.ok y (List.mem_filter.1 hy).1, fun y hy => h.live y (List.mem_filter.1 hy).1, fun f' c1 c2 hc h1 => ?_⟩
  rw [hld_drp] at *
  split
  · rfl
  · split at h1
    · omega
    · exact h.one f' c1 c2 hc h1
theorem alone_gr {x : List L} {a c f m u : Int} (h : Alone x a) (hc : 1 ≤ c ∧ c ≤ 3) (hf : 1 ≤ f ∧ f ≤ 3) (hm : 1 ≤ m ∧ m ≤ 2) (hu : a < u) (h0 : 0 ≤ u) (hn : cls x a c f m = []) : Alone (gr2 x ⟨c, f, m, u⟩) a ∧ m ≤ hld (gr2 x ⟨c, f, m, u⟩) a c f := by
  have key := hld_gr2_eq (x := ⟨c, f, m, u⟩) a h.s (show 0 ≤ m by omega) (fun y hy => by have := h.ok y hy; omega)
  have k3 := key.2.2 h.live hu
  dsimp only at k3 key
  refine ⟨⟨srt_gr2 h.s, fun y hy => ?_, fun y hy => ?_, fun f' c1 c2 hne h1 => ?_⟩, by omega⟩
  · rcases mem_gr2 hy with h' | rfl | ⟨b, hb, _, rfl⟩
    · exact h.ok y h'
    · dsimp only; omega
    · have := h.ok b hb; unfold up; dsimp only; omega
  · rcases mem_gr2 hy with h' | rfl | ⟨b, hb, _, rfl⟩
    · exact h.live y h'
    · exact hu
    · have := h.live b hb; unfold up; dsimp only; omega
  · by_cases e1 : c1 = c ∧ f' = f
    · obtain ⟨rfl, rfl⟩ := e1
      rw [k3] at h1
      rw [hld_gr2_ne (by dsimp only; omega)]
      rcases cls_nil hn (c' := c2) (by omega) with e | ⟨e, e'⟩
      · exact e
      · have : hld x a c1 f' = 2 := by omega
        exact h.one _ _ _ hne this
    · rw [hld_gr2_ne (by dsimp only; exact e1)] at h1
      by_cases e2 : c2 = c ∧ f' = f
      · obtain ⟨rfl, rfl⟩ := e2
        rcases cls_nil hn (c' := c1) (by omega) with e | ⟨e, e'⟩ <;> omega
      · rw [hld_gr2_ne (by dsimp only; exact e2)]
        exact h.one _ _ _ hne h1
/-- How many of the first three hold it so. -/
def cnt (p : Int → Bool) : Nat → Nat
  | 0 => 0
  | n + 1 => cnt p n + if p ((n : Int) + 1) then 1 else 0
theorem alone_cnt {x : List L} {a f : Int} (h : Alone x a) : ¬ (0 < cnt (fun c => decide (hld x a c f = 2)) 3 ∧ 1 < cnt (fun c => decide (hld x a c f ≠ 0)) 3) := by
  have h12 := h.one f 1 2 (by decide)
  have h13 := h.one f 1 3 (by decide)
  have h21 := h.one f 2 1 (by decide)
  have h23 := h.one f 2 3 (by decide)
  have h31 := h.one f 3 1 (by decide)
  have h32 := h.one f 3 2 (by decide)
  simp only [cnt, decide_eq_true_eq]
  rw [show ((0 : Nat) : Int) + 1 = 1 by decide, show ((1 : Nat) : Int) + 1 = 2 by decide, show ((2 : Nat) : Int) + 1 = 3 by decide]
  generalize hld x a 1 f = p at *
  generalize hld x a 2 f = q at *
  generalize hld x a 3 f = r at *
  split <;> split <;> split <;> split <;> split <;> split <;> omega
theorem alone_may {x : List L} {a : Int} (h : Alone x a) : may x = true := may_of h.s (fun y hy => by have := h.ok y hy; unfold okL; omega)
theorem goodL_gr {x : List L} {k : Nat} {y : L} (h : goodL x k) (hy : 1 ≤ y.c ∧ y.c ≤ 3 ∧ 1 ≤ y.f ∧ y.f ≤ 3 ∧ 1 ≤ y.m ∧ y.m ≤ 2 ∧ 0 ≤ y.u) : may (gr2 x y) = true := by
  refine may_of (srt_gr2 h.1) (fun z hz => ?_)
  rcases mem_gr2 hz with h' | rfl | ⟨b, hb, _, rfl⟩
  · exact h.ok z h'
  · unfold okL; omega
  · have := h.2.2 b hb; unfold okL up; dsimp only; omega
theorem gran (l : List L) (x : L) (hs : srt l) (hl : l.length ≤ 1000000) : Pur Try.prog 105 [ls l, .ag x.e] (ls (gr2 l x)) := by
  have h := grant l x hs hl
  rwa [gr_eq hs] at h

end Go.Proofs.Ytdacnebhlgibhaa
