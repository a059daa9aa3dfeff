/- For any bytes and any sum: crc.Sum and crc.More answer as the document's Sum and More do. No condition. -/
import Derived.Test.YtjdnlibgfjlakaaF4
import Derived.Test.YtjdnlibgfjlakaaCL
namespace Go.Proofs.Ytjdnlibgfjlakaa.Pure
open Go.RowKit Go.Proofs.Ytjdnlibgfjlakaa.P Go.Proofs.YtjdnlibgfjlakaaW.PrintWords Go.Proofs.YtjdnlibgfjlakaaW.PrintLast Go.Proofs.Ytjdnlibgfjlakaa.B
theorem CrcSums : tallymanlaw09_CrcSums.Pure := by
  intro l s _ _ hb hs
  obtain ⟨m, rfl, hm, hlen⟩ := nats_of hb
  obtain ⟨s0, s1⟩ := wf_u32 hs
  obtain ⟨s, rfl⟩ := Int.eq_ofNat_of_zero_le s0
  rw [List.length_map] at hlen
  refine Ev.rounds ?_
  unfold tallymanlaw09_CrcSums.f
  by_cases h : ((m.map (fun (x : Nat) => (x : Int))).length : Int) > 300
  · simp only [if_pos h]
    exact Ev.now true
  · simp only [if_neg h]
    have hl : m.length ≤ 1000000 := by rw [List.length_map] at h; omega
    have hc : crc_Sum.f (m.map (fun (x : Nat) => (x : Int))) = some ((crcN 0 m : Nat) : Int) := by
      unfold crc_Sum.f
      have := more_code 0 m (by decide) hm
      rw [show ((0 : Nat) : Int) = 0 from rfl] at this
      rw [this]; rfl
    have hr : Ev (fun k => tallymanref09_Sum.f k (m.map (fun (x : Nat) => (x : Int)))) ((crcN 0 m : Nat) : Int) := by
      unfold tallymanref09_Sum.f
      exact Ev.bind (more_ref 0 m (by decide) hm hl) (Ev.now _)
    simp only [hc, more_code s m (by omega) hm, Option.bind_some]
    refine Ev.bind hr ?_
    simp only [if_true]
    refine Ev.bind (more_ref s m (by omega) hm hl) ?_
    simp only [if_true]
    exact Ev.now true
end Go.Proofs.Ytjdnlibgfjlakaa.Pure
