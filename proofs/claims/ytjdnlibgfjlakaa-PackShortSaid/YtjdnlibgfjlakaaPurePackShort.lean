/- For any bytes and any number: pack.Var and pack.Unvar answer as the document's Var and Unvar do. No condition. -/
import Derived.Test.YtjdnlibgfjlakaaF9
import Derived.Test.YtjdnlibgfjlakaaPS
namespace Go.Proofs.Ytjdnlibgfjlakaa.Pure
open Go.RowKit Go.Proofs.Ytjdnlibgfjlakaa.P Go.Proofs.YtjdnlibgfjlakaaW.PrintWords Go.Proofs.YtjdnlibgfjlakaaW.PrintLast Go.Proofs.Ytjdnlibgfjlakaa.B
theorem PackShort : tallymanlaw08_PackShort.Pure := by
  intro l w _ _ hb hw
  have hb := bytes_of hb
  obtain ⟨w0, w1⟩ := wf_u64 hw
  refine Ev.rounds ?_
  unfold tallymanlaw08_PackShort.f
  by_cases h : (l.length : Int) > 300
  · simp only [if_pos h]
    exact Ev.now true
  · simp only [if_neg h]
    have hl : l.length ≤ 300 := by omega
    have hu : ∀ k, pack_Unvar.f k l = some (unv l 0 0) := fun k => by unfold pack_Unvar.f; rw [if_pos hb]
    have hv : ∀ k, pack_Var.f k l w = some (l ++ varL 9 w) := fun k => by unfold pack_Var.f; rw [if_pos ⟨by omega, by omega, by omega⟩]
    simp only [hu, hv, Option.bind_some]
    refine Ev.bind (unvar_ref l hb (by omega)) (Ev.bind (var_ref l w w0 w1 (by omega)) ?_)
    rw [same_self, same_self]
    simp only [Option.bind_some, if_true]
    exact Ev.now true
end Go.Proofs.Ytjdnlibgfjlakaa.Pure
