/- For any greatest number and any list: sat.Add and sat.Mul answer as the document does. No condition. -/
import Derived.Test.YtijhdhgfchodaaaF6
import Derived.Test.YtijhdhgfchodaaaSL
set_option linter.unusedVariables false
set_option linter.unusedSimpArgs false
namespace Go.Proofs.Ytijhdhgfchodaaa.Pure
open Go.RowKit Go.Proofs.Ytijhdhgfchodaaa.P Go.Proofs.YtijhdhgfchodaaaW.PrintWords Go.Proofs.YtijhdhgfchodaaaW.PrintLast
theorem SatSums : tallymanlaw02_SatSums.Pure := by
  intro m l hm _ _ hl
  have hm := wf_i64ok hm
  have hl : ∀ x ∈ l, i64ok x := fun x hx => wf_i64ok (hl x hx)
  refine Ev.rounds ?_
  unfold tallymanlaw02_SatSums.f
  by_cases h : (l.length : Int) > 100
  · simp only [if_pos h, alive_ok, Option.bind_some]
    exact Ev.now true
  · simp only [if_neg h, alive_ok, add_code m l hm hl (by omega), mul_code m l hm hl (by omega), Option.bind_some]
    refine Ev.bind (add_ref m l hm hl (by omega)) ?_
    simp only [if_true]
    refine Ev.bind (mul_ref m l hm hl (by omega)) ?_
    unfold mulV
    simp only [if_true]
    exact Ev.now true
end Go.Proofs.Ytijhdhgfchodaaa.Pure
