/- For any numbers: sat.Clip, sat.Less and sat.Over answer as the document does. No condition. -/
import Derived.Test.YtijhdhgfchodaaaF5
import Derived.Test.YtijhdhgfchodaaaSL
set_option linter.unusedVariables false
set_option linter.unusedSimpArgs false
namespace Go.Proofs.Ytijhdhgfchodaaa.Pure
open Go.RowKit Go.Proofs.Ytijhdhgfchodaaa.P Go.Proofs.YtijhdhgfchodaaaW.PrintWords Go.Proofs.YtijhdhgfchodaaaW.PrintLast
theorem SatTells : tallymanlaw02_SatTells.Pure := by
  intro a b c ha hb hc
  have ha := wf_i64ok ha
  have hb := wf_i64ok hb
  unfold tallymanlaw02_SatTells.f
  obtain ⟨v, hv⟩ := clip_some a b c
  rw [clip_ref, hv, Option.bind_some, Option.bind_some, if_pos rfl, less_code a b ha hb, less_ref a b ha hb, Option.bind_some, Option.bind_some, if_pos rfl, over_code a b ha hb, over_ref a b ha hb, Option.bind_some, Option.bind_some, if_pos rfl, alive_ok]
  rfl
end Go.Proofs.Ytijhdhgfchodaaa.Pure
