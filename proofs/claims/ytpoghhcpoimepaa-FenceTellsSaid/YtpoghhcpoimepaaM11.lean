/- Several texts of this proof in one: what the law's functions come to, and the lemmas (some as the kit's print.sh printed them, what is not used struck). -/
import Derived.Test.YtpoghhcpoimepaaM7
import Derived.Test.YtpoghhcpoimepaaM10
import Derived.Test.YtpoghhcpoimepaaM9
section
/- The law FenceMeasures, for any points. -/
namespace Go.Proofs.Ytpoghhcpoimepaa.P
open Go.Proofs.Ytpoghhcpoimepaa.B Go.RowKit Go.Proofs.YtpoghhcpoimepaaW.PrintWords Go.Proofs.YtpoghhcpoimepaaW.PrintLast Go.Proofs.YtpoghhcpoimepaaW.PrintMore
set_option linter.unusedVariables false
set_option linter.unusedSimpArgs false
theorem i64_of {x : Int} (h : (Lit.int .i64 x).wf = true) : -9223372036854775808 ≤ x ∧ x ≤ 9223372036854775807 := by
  have h1 : (decide ((-9223372036854775808 : Int) ≤ x) && decide (x ≤ 9223372036854775807)) = true := h
  rw [Bool.and_eq_true, decide_eq_true_iff, decide_eq_true_iff] at h1
  exact h1
set_option maxRecDepth 100000 in
theorem Tr22 : TR.Tr Try.prog 22 (Kd.slice 24 k24) (fun l => ∀ p ∈ l, rangeP p) := by
  have h := TR.Tr_slice (P := Try.prog) Try.underlying22 (by kernel_rfl) (TR.Tr_iso (fun x : S24 => (x.f0, x.f1)) (fun p => ⟨p.1, p.2⟩) (fun _ => rfl) (TR.Tr_struct (s := 2) Try.underlying24 (by kernel_rfl) (TR.Fs_cons (s := 1) rfl (by kernel_rfl) (TR.Tr_int Try.underlying3) (TR.Fs_one (s := 1) rfl (by kernel_rfl) (TR.Tr_int Try.underlying3)))))
  intro H enc w n cs x hv
  obtain ⟨l, h1, h2⟩ := h _ _ _ _ _ _ hv
  exact ⟨l, h1, fun p hp => by have := h2 p hp; exact ⟨i64_of this.1, i64_of this.2⟩⟩
end Go.Proofs.Ytpoghhcpoimepaa.P
end
section
/- The law FenceTells. -/
namespace Go.Proofs.Ytpoghhcpoimepaa.P
open Go.Proofs.Ytpoghhcpoimepaa.B Go.RowKit Go.Proofs.YtpoghhcpoimepaaW.PrintWords Go.Proofs.YtpoghhcpoimepaaW.PrintLast Go.Proofs.YtpoghhcpoimepaaW.PrintMore Go.Proofs.Ytpoghhcpoimepaa.FX Go.Proofs.Ytpoghhcpoimepaa.H
set_option linter.unusedVariables false
set_option linter.unusedSimpArgs false
theorem tells06 (n x y : Int) (l : List S24) (p0 p1 q0 q1 : Int) (hr : ∀ p ∈ l, rangeP p) : ∃ k, tallymanlaw06_FenceTells.f k n x y l p0 p1 q0 q1 = some true := by
  refine Ev.rounds ?_
  unfold tallymanlaw06_FenceTells.f
  by_cases hg : (l.length : Int) > 300
  · refine Ev.congr (fun k => if_pos hg) ?_
    rw [alive06]; exact Ev.now _
  refine Ev.congr (fun k => if_neg hg) ?_
  have hq : fence_Right.f l = some (decide (RightP l)) := if_pos hr
  have hbx : fence_Box.f l = some ((bxT l l.length).1.f0, (bxT l l.length).1.f1, (bxT l l.length).2.f0, (bxT l l.length).2.f1) := rfl
  rw [hbx]
  refine Ev.congr (fun k => Option.bind_some _ _) (Ev.bind (box_ref l (by omega)) ?_)
  rw [hq]
  refine Ev.congr (fun k => Option.bind_some _ _) (Ev.bind (right_ref l) ?_)
  refine Ev.congr (fun k => if_pos (by simp)) ?_
  refine Ev.congr (fun k => if_pos (by simp)) ?_
  refine Ev.congr (fun k => if_pos (by simp)) ?_
  refine Ev.bind (move_ev n x y l (by omega)) (Ev.bind (rmove_ev n x y l (by omega)) (Ev.bind (points_same _ (by rw [List.length_map]; omega)) (Ev.congr (fun k => if_pos rfl) ?_)))
  unfold fence_Ring.f tallymanref06_Ring.f
  refine Ev.congr (fun k => Option.bind_some _ _) (Ev.congr (fun k => Option.bind_some _ _) (Ev.bind (points_same _ (show (4 : Nat) ≤ 1000 by omega)) (Ev.congr (fun k => if_pos rfl) ?_)))
  rw [alive06]
  exact Ev.now _
def tallymanlaw06_FenceTells.Pure : Prop := True
theorem tallymanlaw06_FenceTells.walk (P : tallymanlaw06_FenceTells.Pure) (a0_0 a0_1 a0_2 : Int) (a1 : Option Addr) (len1 cap1 : Nat) (a2_0 a2_1 a3_0 a3_1 : Int) (w : World) (w0_0 : (Lit.int .i64 a0_0).wf = true) (w0_1 : (Lit.int .i64 a0_1).wf = true) (w0_2 : (Lit.int .i64 a0_2).wf = true) {H : Type} {enc : TypeId × Value → H} {d : DataW H} {p : List MemPlace} (h1 : DataW.Trod enc Try.prog w 0 (fun _ => true) true 22 (.slice a1 len1 cap1) d p) (w2_0 : (Lit.int .i64 a2_0).wf = true) (w2_1 : (Lit.int .i64 a2_1).wf = true) (w3_0 : (Lit.int .i64 a3_0).wf = true) (w3_1 : (Lit.int .i64 a3_1).wf = true) :
    Calls Try.prog 6 #[.agg #[.int .i64 a0_0, .int .i64 a0_1, .int .i64 a0_2], .slice a1 len1 cap1, .agg #[.int .i64 a2_0, .int .i64 a2_1], .agg #[.int .i64 a3_0, .int .i64 a3_1]] w fun e w' => e = .returned (.bool true) ∧ Below w.heap.size w w' := by
  obtain ⟨fuel, hf⟩ := h1
  obtain ⟨l, ⟨A, c, e, hc, hC⟩, hw⟩ := Tr22 _ _ _ _ _ _ hf
  simp [Value.cells] at e
  obtain ⟨rfl, rfl, rfl⟩ := e
  obtain ⟨k, hk⟩ := tells06 a0_0 a0_1 a0_2 l a2_0 a2_1 a3_0 a3_1 hw
  exact tallymanlaw06_FenceTells.calls k _ _ _ _ _ l _ _ _ _ true w hC hc hk rfl
end Go.Proofs.Ytpoghhcpoimepaa.P
end
section
/- FenceTells: nothing is left to show. -/
namespace Go.Proofs.Ytpoghhcpoimepaa.Pure
theorem FenceTells : P.tallymanlaw06_FenceTells.Pure := trivial
end Go.Proofs.Ytpoghhcpoimepaa.Pure
end
