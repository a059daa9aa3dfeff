import Derived.Test.YtaidjgnkefpclaaF4
import Derived.Test.YtaidjgnkefpclaaNR
import Derived.Test.YtaidjgnkefpclaaNU
namespace Go.Proofs.Ytaidjgnkefpclaa.Pure
open Go.Proofs.Ytaidjgnkefpclaa.B Go.RowKit Go.Proofs.Ytaidjgnkefpclaa.P Go.Proofs.YtaidjgnkefpclaaW.PrintWords Go.Proofs.YtaidjgnkefpclaaW.PrintLast
/-- The program's Hex and Unhex answer as the document's do. -/
theorem NumHexes : tallymanlaw01_NumHexes.Pure := by
  intro a0 a1 h0 h1
  obtain ⟨l, rfl⟩ := bytes_list a1
  obtain ⟨b0, b1⟩ := wf_u64 h0
  obtain ⟨n, rfl⟩ := Int.eq_ofNat_of_zero_le b0
  rw [size_l] at h1
  refine Ev.rounds ?_
  unfold tallymanlaw01_NumHexes.f
  rw [size_l]
  by_cases hg : (l.length : Int) > 100
  · exact Ev.congr (fun k => if_pos hg) (Ev.now _)
  · refine Ev.congr (fun k => if_neg hg) ?_
    rw [unhex_code l (by omega), hex_code n (by omega)]
    refine Ev.congr (fun k => Option.bind_some _ _) (Ev.bind (unhex_ref l (by omega)) (Ev.congr (fun k => Option.bind_some _ _) (Ev.bind (hex_ref 63 n (by omega) (by omega)) ?_)))
    refine Ev.congr (fun k => (if_pos rfl).trans ((if_pos rfl).trans (if_pos (by simp)))) (Ev.now _)
end Go.Proofs.Ytaidjgnkefpclaa.Pure
