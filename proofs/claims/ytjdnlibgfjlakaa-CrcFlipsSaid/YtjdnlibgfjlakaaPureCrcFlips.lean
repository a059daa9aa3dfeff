/- For any bytes, place and bits: crc.Flip answers as the document's Flip does. No condition. -/
import Derived.Test.YtjdnlibgfjlakaaF5
import Derived.Test.YtjdnlibgfjlakaaCF
namespace Go.Proofs.Ytjdnlibgfjlakaa.Pure
open Go.RowKit Go.Proofs.Ytjdnlibgfjlakaa.P Go.Proofs.YtjdnlibgfjlakaaW.PrintWords Go.Proofs.YtjdnlibgfjlakaaW.PrintLast Go.Proofs.Ytjdnlibgfjlakaa.B
theorem CrcFlips : tallymanlaw09_CrcFlips.Pure := by
  intro l a b _ _ hx ha hb
  have hx := bytes_of hx
  clear ha
  obtain ⟨b0, b1⟩ := wf_u32 hb
  refine Ev.rounds ?_
  unfold tallymanlaw09_CrcFlips.f
  by_cases h : (l.length : Int) > 60
  · simp only [if_pos h]
    exact Ev.now true
  · simp only [if_neg h, flip_code l a b b0 b1 hx (by omega), Option.bind_some]
    refine Ev.bind (flip_ref l a b b0 b1 (by omega) hx) ?_
    rw [same_self]
    simp only [Option.bind_some, if_true]
    exact Ev.now true
end Go.Proofs.Ytjdnlibgfjlakaa.Pure
