/- Own text: from a contract of this logic to what a row asks (part L). -/
import Derived.Test.YtdacnebhlgibhaaAwK
import Derived.ProofKit
import Derived.OpenShut
import Derived.ChangeOld
set_option linter.unusedVariables false
set_option linter.unusedSimpArgs false
namespace Go.Aw
open Go Go.RowKit

/-- All that is there, told as what stays. -/
def whole (W : World) : Hp := fun b => W.heap[b]?
theorem whole_sim (W : World) : Sim (whole W) (fun _ => none) [] W :=
  ⟨fun b o h => h, fun b o h => (by cases h), fun b o h => rfl, fun x hx => (List.not_mem_nil hx).elim, fun x hx => (List.not_mem_nil hx).elim, List.Pairwise.nil⟩
theorem below_of {P : Program} {f : FuncId} {args : List AV} {vs : Array Value} {W : World} (h : ACalls P f args [] (fun r A' => r = .sc (.bool true)) (fun _ _ => False)) (ha : RelA (whole W) args vs) :
    Calls P f vs W (fun e W' => e = .returned (.bool true) ∧ Below W.heap.size W W') := by
  refine (h (whole W) (fun _ => none) W vs (whole_sim W) ha).mono ?_
  rintro e W' ⟨H', A', h1, h2, h3, h4⟩
  have hb : Below W.heap.size W W' := by
    obtain ⟨k1, k2, k3, k4⟩ := h2
    refine ⟨k1, k2, k3, k4, fun k hk => ?_⟩
    have e1 : whole W k = some W.heap[k] := Array.getElem?_eq_getElem hk
    rw [h3.h k _ (h1 k _ e1), Array.getElem?_eq_getElem hk]
  rcases h4 with ⟨u, r, rfl, hr, rfl⟩ | ⟨u, r, _, _, hf⟩
  · rw [rel_sc hr]; exact ⟨rfl, hb⟩
  · exact hf.elim
theorem relA_nil (H : Hp) : RelA H [] #[] := ⟨rfl, fun j x hx => by simp at hx⟩
theorem relA_cons {H : Hp} {l : List AV} {vs : List Value} {x : AV} {u : Value} (h : Rel H x u) (k : RelA H l vs.toArray) : RelA H (x :: l) (u :: vs).toArray := by
  refine ⟨by simpa using k.1, fun j y hy => ?_⟩
  cases j with
  | zero => simp at hy; subst hy; exact ⟨_, by simp, h⟩
  | succ j =>
    obtain ⟨u, h1, h2⟩ := k.2 j y (by simpa using hy)
    exact ⟨u, by simpa using h1, h2⟩
end Go.Aw
