/- Own text: which leases may be. -/
import Derived.Test.YtdacnebhlgibhaaLc
set_option linter.unusedVariables false
set_option linter.unusedSimpArgs false
set_option linter.all false
set_option maxRecDepth 100000
set_option maxHeartbeats 2000000
namespace Go.Proofs.Ytdacnebhlgibhaa
open Go Go.Aw

def okL (x : L) : Prop := 1 ≤ x.c ∧ x.c ≤ 3 ∧ 1 ≤ x.f ∧ x.f ≤ 6 ∧ 1 ≤ x.m ∧ x.m ≤ 2 ∧ 0 ≤ x.u
def mayP (l : List L) : Prop := ∀ i (h : i < l.length), okL l[i] ∧ (0 < i → ordI (l[i - 1]'(by omega)) l[i] < 0)
noncomputable def may (l : List L) : Bool := @decide (mayP l) (Classical.propDecidable _)
theorem may_yes {l : List L} (h : mayP l) : may l = true := by unfold may; simpa using h
theorem may_no {l : List L} (h : ¬ mayP l) : may l = false := by unfold may; simpa using h

end Go.Proofs.Ytdacnebhlgibhaa
