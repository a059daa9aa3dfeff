/- For any bytes, any number and any count: pack.Put and pack.Take answer as the document's Put and Take do. No condition. -/
import Derived.Test.YtjdnlibgfjlakaaF8
import Derived.Test.YtjdnlibgfjlakaaPL
namespace Go.Proofs.Ytjdnlibgfjlakaa.Pure
open Go.RowKit Go.Proofs.Ytjdnlibgfjlakaa.P Go.Proofs.YtjdnlibgfjlakaaW.PrintWords Go.Proofs.YtjdnlibgfjlakaaW.PrintLast Go.Proofs.Ytjdnlibgfjlakaa.B
theorem PackPuts : tallymanlaw08_PackPuts.Pure := by
  intro l w n _ _ hb hw hn
  have hb := bytes_of hb
  obtain ⟨w0, w1⟩ := wf_u64 hw
  refine Ev.rounds ?_
  unfold tallymanlaw08_PackPuts.f
  by_cases h : (l.length : Int) > 300
  · simp only [if_pos h]
    exact Ev.now true
  · simp only [if_neg h]
    refine Ev.bind (take_code l n hb) (Ev.bind (take_ref l n hb (by omega)) ?_)
    have hp : pack_Put.f l w n = some (l ++ putList w (kOf n)) := by unfold pack_Put.f; rw [if_pos ⟨by omega, by omega, by omega⟩]
    rw [hp]
    simp only [Option.bind_some]
    refine Ev.bind (put_ref l w n w0 w1 (by omega)) ?_
    rw [same_self, same_self]
    simp only [Option.bind_some, if_true]
    exact Ev.now true
end Go.Proofs.Ytjdnlibgfjlakaa.Pure
