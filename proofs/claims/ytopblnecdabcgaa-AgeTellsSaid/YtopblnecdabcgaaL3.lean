/- AgeTells: aged priorities are the document's. -/
import Derived.Test.YtopblnecdabcgaaAP
import Derived.Test.YtopblnecdabcgaaF3
namespace Go.Proofs.Ytopblnecdabcgaa.P
open Go.Proofs.Ytopblnecdabcgaa.B Go.RowKit Go.Proofs.YtopblnecdabcgaaW.PrintWords Go.Proofs.YtopblnecdabcgaaW.PrintLast Go.Proofs.YtopblnecdabcgaaW.PrintMore
set_option linter.unusedVariables false
set_option linter.unusedSimpArgs false
theorem tells14 (a0 a1 a2 a3 b0 b1 b2 b3 now r : Int) : tallymanlaw14_AgeTells.f 9 a0 a1 a2 a3 b0 b1 b2 b3 now r = some true := by
  unfold tallymanlaw14_AgeTells.f tallymanref14_Full.f
  rw [of_code, of_ref, full_code, ahead_code 9 (by decide), ahead_ref, alive14 9 (by decide)]
  simp
def tallymanlaw14_AgeTells.Pure : Prop := True
theorem tallymanlaw14_AgeTells.walk (P : tallymanlaw14_AgeTells.Pure) (a0_0 a0_1 a0_2 a0_3 a1_0 a1_1 a1_2 a1_3 a2 a3 : Int) (w : World) (w0_0 : (Lit.int .i64 a0_0).wf = true) (w0_1 : (Lit.int .i64 a0_1).wf = true) (w0_2 : (Lit.int .i64 a0_2).wf = true) (w0_3 : (Lit.int .i64 a0_3).wf = true) (w1_0 : (Lit.int .i64 a1_0).wf = true) (w1_1 : (Lit.int .i64 a1_1).wf = true) (w1_2 : (Lit.int .i64 a1_2).wf = true) (w1_3 : (Lit.int .i64 a1_3).wf = true) (w2 : (Lit.int .i64 a2).wf = true) (w3 : (Lit.int .i64 a3).wf = true) :
    Calls Try.prog 3 #[.agg #[.int .i64 a0_0, .int .i64 a0_1, .int .i64 a0_2, .int .i64 a0_3], .agg #[.int .i64 a1_0, .int .i64 a1_1, .int .i64 a1_2, .int .i64 a1_3], .int .i64 a2, .int .i64 a3] w fun e w' => e = .returned (.bool true) ∧ Below w.heap.size w w' :=
  tallymanlaw14_AgeTells.calls 9 a0_0 a0_1 a0_2 a0_3 a1_0 a1_1 a1_2 a1_3 a2 a3 true w (tells14 ..)
end Go.Proofs.Ytopblnecdabcgaa.P
