import Derived.Test.YtaidjgnkefpclaaF3
import Derived.Test.YtaidjgnkefpclaaNR
import Derived.Test.YtaidjgnkefpclaaNQ
namespace Go.Proofs.Ytaidjgnkefpclaa.Pure
open Go.Proofs.Ytaidjgnkefpclaa.B Go.RowKit Go.Proofs.Ytaidjgnkefpclaa.P Go.Proofs.YtaidjgnkefpclaaW.PrintWords Go.Proofs.YtaidjgnkefpclaaW.PrintLast
/-- The program's Print and Parse answer as the document's do. -/
theorem NumPrints : tallymanlaw01_NumPrints.Pure := by
  intro a0 a1 h0 h1
  obtain ⟨l, rfl⟩ := bytes_list a1
  obtain ⟨b0, b1⟩ := wf_i64 h0
  rw [size_l] at h1
  refine Ev.rounds ?_
  unfold tallymanlaw01_NumPrints.f
  rw [size_l]
  by_cases hg : (l.length : Int) > 100
  · exact Ev.congr (fun k => if_pos hg) (Ev.now _)
  · refine Ev.congr (fun k => if_neg hg) ?_
    rw [parse_code l (by omega), print_code a0 b0 b1]
    refine Ev.congr (fun k => Option.bind_some _ _) (Ev.bind (parse_ref l (by omega)) (Ev.congr (fun k => Option.bind_some _ _) (Ev.bind (print_ref a0 b0 b1) ?_)))
    refine Ev.congr (fun k => (if_pos rfl).trans ((if_pos rfl).trans (if_pos (by simp)))) (Ev.now _)
end Go.Proofs.Ytaidjgnkefpclaa.Pure
