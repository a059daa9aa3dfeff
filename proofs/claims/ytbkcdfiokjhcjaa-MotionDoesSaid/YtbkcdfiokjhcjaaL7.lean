/- MotionDoes: motions are the document's. -/
import Derived.Test.YtbkcdfiokjhcjaaMQ
import Derived.Test.YtbkcdfiokjhcjaaF7
namespace Go.Proofs.Ytbkcdfiokjhcjaa.P
open Go.Proofs.Ytbkcdfiokjhcjaa.B Go.RowKit Go.Proofs.YtbkcdfiokjhcjaaW.PrintWords Go.Proofs.YtbkcdfiokjhcjaaW.PrintLast Go.Proofs.YtbkcdfiokjhcjaaW.PrintMore
set_option linter.unusedVariables false
set_option linter.unusedSimpArgs false
theorem tmod4 (a : Int) (h : 0 ≤ a) : Int.tmod a 4 = a % 4 := Int.tmod_eq_emod_of_nonneg h
theorem then4 (n x y n' x' y' : Int) : tallymanref04_Then.f n x y n' x' y' = some ((((qt n + qt n') % 4 : Nat) : Int), thenBy x y n' x' y') := by
  unfold tallymanref04_Then.f
  have h1 := qt_lt n
  have h2 := qt_lt n'
  rw [fix4, fix4, Option.bind_some, Option.bind_some, do4, Option.bind_some]
  simp only []
  rw [n64 (by omega) (by omega), tmod4 _ (by omega)]
  unfold doBy thenBy
  rw [fx_fx, fx_fx, fx_fx, fx_fx, qt_qt _ h2]
  rfl
theorem back4 (n x y : Int) : tallymanref04_Back.f n x y = some (((ipBack (qt n) : Nat) : Int), backBy n x y) := by
  unfold tallymanref04_Back.f
  have h1 := qt_lt n
  have f1 := fx_le x
  have f2 := fx_le y
  rw [fix4, Option.bind_some]
  simp only []
  rw [n64 (x := -fx x) (by omega) (by omega), n64 (x := -fx y) (by omega) (by omega), n64 (x := 4 - (qt n : Int)) (by omega) (by omega), tmod4 _ (by omega), turn4, Option.bind_some, fx_near (n := -fx x) (by omega), fx_near (n := -fx y) (by omega)]
  have e : (4 - (qt n : Int)) % 4 = ((ipBack (qt n) : Nat) : Int) := by unfold ipBack; omega
  rw [e, qt_qt _ (by unfold ipBack; omega)]
  rfl
theorem does_true (n x y n' x' y' u v : Int) : tallymanlaw04_MotionDoes.f n x y n' x' y' u v = some true := by
  unfold tallymanlaw04_MotionDoes.f motion_Fix.f motion_Do.f motion_Then.f motion_Back.f tallymanlaw04_alive.f
  rw [fix4, do4, then4, back4]
  simp
def tallymanlaw04_MotionDoes.Pure : Prop := True
theorem tallymanlaw04_MotionDoes.walk (P : tallymanlaw04_MotionDoes.Pure) (a0_0 a0_1 a0_2 a1_0 a1_1 a1_2 a2_0 a2_1 : Int) (w : World) (w0_0 : (Lit.int .i64 a0_0).wf = true) (w0_1 : (Lit.int .i64 a0_1).wf = true) (w0_2 : (Lit.int .i64 a0_2).wf = true) (w1_0 : (Lit.int .i64 a1_0).wf = true) (w1_1 : (Lit.int .i64 a1_1).wf = true) (w1_2 : (Lit.int .i64 a1_2).wf = true) (w2_0 : (Lit.int .i64 a2_0).wf = true) (w2_1 : (Lit.int .i64 a2_1).wf = true) :
    Calls Try.prog 7 #[.agg #[.int .i64 a0_0, .int .i64 a0_1, .int .i64 a0_2], .agg #[.int .i64 a1_0, .int .i64 a1_1, .int .i64 a1_2], .agg #[.int .i64 a2_0, .int .i64 a2_1]] w fun e w' => e = .returned (.bool true) ∧ Below w.heap.size w w' :=
  tallymanlaw04_MotionDoes.calls a0_0 a0_1 a0_2 a1_0 a1_1 a1_2 a2_0 a2_1 true w (does_true ..)
end Go.Proofs.Ytbkcdfiokjhcjaa.P
