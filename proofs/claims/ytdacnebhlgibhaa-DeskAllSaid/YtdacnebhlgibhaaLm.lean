/- Own text: what was pruned holds what held. -/
import Derived.Test.YtdacnebhlgibhaaLl
set_option linter.unusedVariables false
set_option linter.unusedSimpArgs false
set_option linter.all false
set_option maxRecDepth 100000
set_option maxHeartbeats 2000000
namespace Go.Proofs.Ytdacnebhlgibhaa
open Go Go.Aw

theorem hld_prn {l : List L} {a b c f : Int} (hs : srt l) (hab : a ≤ b) : hld (prn l a) b c f = hld l b c f := by
  unfold hld
  induction l with
  | nil => rfl
  | cons y l ih =>
    have hs' := (List.pairwise_cons.1 hs).2
    have hy := (List.pairwise_cons.1 hs).1
    by_cases hu : y.u ≤ a
    · have e : prn (y :: l) a = prn l a := by unfold prn; rw [List.filter_cons_of_neg (by simpa using hu)]
      rw [e, ih hs']
      by_cases hk : y.f = f ∧ y.c = c
      · rw [List.find?_cons_of_pos (by simpa using hk)]
        have : l.find? (fun a => decide (a.f = f ∧ a.c = c)) = none := by
          rw [List.find?_eq_none]
          intro z hz
          have := ordI_lt.1 (hy z hz)
          simp; omega
        rw [this]
        simp only
        rw [if_pos (by omega)]
      · rw [List.find?_cons_of_neg (by simpa using hk)]
    · have e : prn (y :: l) a = y :: prn l a := by unfold prn; rw [List.filter_cons_of_pos (by simpa using hu)]
      rw [e]
      by_cases hk : y.f = f ∧ y.c = c
      · rw [List.find?_cons_of_pos (by simpa using hk), List.find?_cons_of_pos (by simpa using hk)]
      · rw [List.find?_cons_of_neg (by simpa using hk), List.find?_cons_of_neg (by simpa using hk)]
        exact ih hs'
theorem hld_over {l : List L} {b : Int} {y : L} (hs : srt l) (hy : y ∈ l) (hu : y.u ≤ b) : hld l b y.c y.f = 0 := by
  unfold hld
  cases h : l.find? (fun a => decide (a.f = y.f ∧ a.c = y.c)) with
  | none => rfl
  | some z =>
    have h1 := List.find?_some h
    have h2 := List.mem_of_find?_eq_some h
    obtain ⟨i, hi, rfl⟩ := List.getElem_of_mem hy
    obtain ⟨j, hj, rfl⟩ := List.getElem_of_mem h2
    simp only [decide_eq_true_eq] at h1
    have e : i = j := by
      rcases Nat.lt_trichotomy i j with e | e | e
      · have := ordI_lt.1 (srt_get hs hi hj e); omega
      · exact e
      · have := ordI_lt.1 (srt_get hs hj hi e); omega
    subst e
    simp only
    rw [if_pos hu]
theorem cls_prn {l : List L} {a b c f m : Int} (hs : srt l) (hab : a ≤ b) : cls (prn l a) b c f m = cls l b c f m := by
  unfold cls
  congr 1
  have e : ∀ y, clp (prn l a) b c f m y = clp l b c f m y := fun y => by unfold clp; rw [hld_prn hs hab]
  rw [show clp (prn l a) b c f m = clp l b c f m from funext e]
  unfold prn
  rw [List.filter_filter]
  apply List.filter_congr
  intro y hy
  by_cases hu : y.u ≤ a
  · by_cases hf : y.f = f
    · have h0 : hld l b y.c f = 0 := by rw [← hf]; exact hld_over hs hy (by omega)
      unfold clp; simp [h0]
    · unfold clp; simp [hf]
  · simp [hu]
theorem prn_prn {l : List L} {a b : Int} (hab : a ≤ b) : prn (prn l a) b = prn l b := by
  unfold prn
  rw [List.filter_filter]
  apply List.filter_congr
  intro y hy
  by_cases h : y.u ≤ b
  · simp [h]
  · have : ¬ y.u ≤ a := by omega
    simp [h, this]
theorem may_of {x : List L} (hs : srt x) (h : ∀ y ∈ x, okL y) : may x = true :=
  may_yes (fun i hi => ⟨h _ (List.getElem_mem _), fun h0 => srt_get hs (by omega) hi (by omega)⟩)
theorem goodL.ok {x : List L} {k : Nat} (h : goodL x k) : ∀ y ∈ x, okL y := fun y hy => by
  have := h.2.2 y hy
  unfold okL; omega
theorem len_cls (l : List L) (now c f m : Int) : (cls l now c f m).length ≤ l.length := by unfold cls; rw [List.length_map]; exact List.length_filter_le _ _
theorem len_prn (l : List L) (a : Int) : (prn l a).length ≤ l.length := List.length_filter_le _ _
theorem len_drp (l : List L) (c f : Int) : (drp l c f).length ≤ l.length := List.length_filter_le _ _
theorem sameLeasesT {a b : List L} (h : a = b) (ha : a.length ≤ 1000000) : Pur Try.prog 66 [ls a, ls b] (.sc (.bool true)) := by
  have k := sameLeases a b ha (by rw [← h]; exact ha)
  rwa [decide_eq_true h] at k
theorem sameIntsT {a b : List Int} (h : a = b) (ha : a.length ≤ 1000000) : Pur Try.prog 23 [ints a, ints b] (.sc (.bool true)) := by
  have k := sameInts a b ha (by rw [← h]; exact ha)
  rwa [decide_eq_true h] at k
def i8 (a : UInt8) : AV := .sc (.int .u8 (a.toNat : Int))

end Go.Proofs.Ytdacnebhlgibhaa
