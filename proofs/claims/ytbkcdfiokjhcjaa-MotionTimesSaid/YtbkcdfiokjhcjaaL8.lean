/- MotionTimes: a motion done any number of times is the document's. -/
import Derived.Test.YtbkcdfiokjhcjaaMQ
import Derived.Test.YtbkcdfiokjhcjaaF8
namespace Go.Proofs.Ytbkcdfiokjhcjaa.P
open Go.Proofs.Ytbkcdfiokjhcjaa.B Go.RowKit Go.Proofs.YtbkcdfiokjhcjaaW.PrintWords Go.Proofs.YtbkcdfiokjhcjaaW.PrintLast Go.Proofs.YtbkcdfiokjhcjaaW.PrintMore
set_option linter.unusedVariables false
set_option linter.unusedSimpArgs false
theorem then4t (n x y n' x' y' : Int) : tallymanref04_Then.f n x y n' x' y' = some (mstep (n, x, y) (n', x', y')) := by
  unfold tallymanref04_Then.f mstep
  have h1 := qt_lt n
  have h2 := qt_lt n'
  rw [fix4, fix4, Option.bind_some, Option.bind_some, do4, Option.bind_some]
  simp only []
  rw [n64 (by omega) (by omega), Int.tmod_eq_emod_of_nonneg (by omega)]
  unfold doBy thenBy
  rw [fx_fx, fx_fx, fx_fx, fx_fx, qt_qt _ h2]
  rfl
theorem times_loop (m : Int × Int × Int) (n : Int) : ∀ (d i k : Nat), i + d = tcount n → d < k → tallymanref04_Times.l0 k n (i : Int) m.1 m.2.1 m.2.2 (mtimes m i).1 (mtimes m i).2.1 (mtimes m i).2.2 = some (mtimes m (tcount n)) := by
  intro d
  induction d with
  | zero =>
    intro i k hi hk
    obtain ⟨k, rfl⟩ : ∃ j, k = j + 1 := ⟨k - 1, by omega⟩
    obtain rfl : i = tcount n := by omega
    rw [tallymanref04_Times.l0]
    unfold tcount
    by_cases h1 : (((min (max n 0) 1000).toNat : Nat) : Int) < n
    · rw [if_pos h1, if_neg (by omega)]
    · rw [if_neg h1]
  | succ d ih =>
    intro i k hi hk
    obtain ⟨k, rfl⟩ : ∃ j, k = j + 1 := ⟨k - 1, by omega⟩
    have hc : tcount n = (min (max n 0) 1000).toNat := rfl
    rw [tallymanref04_Times.l0, if_pos (by omega), if_pos (by omega), then4t, Option.bind_some, n64 (by omega) (by omega)]
    exact ih (i + 1) k (by omega) (by omega)
theorem times_true (n x y c : Int) : ∃ k, tallymanlaw04_MotionTimes.f k n x y c = some true := by
  refine ⟨tcount c + 1, ?_⟩
  have h := times_loop (n, x, y) c (tcount c) 0 (tcount c + 1) (by omega) (by omega)
  unfold tallymanlaw04_MotionTimes.f motion_Times.f tallymanref04_Times.f tallymanlaw04_alive.f
  rw [show tallymanref04_Times.l0 (tcount c + 1) c 0 n x y 0 0 0 = some (mtimes (n, x, y) (tcount c)) from h]
  simp
def tallymanlaw04_MotionTimes.Pure : Prop := True
theorem tallymanlaw04_MotionTimes.walk (P : tallymanlaw04_MotionTimes.Pure) (a0_0 a0_1 a0_2 a1 : Int) (w : World) (w0_0 : (Lit.int .i64 a0_0).wf = true) (w0_1 : (Lit.int .i64 a0_1).wf = true) (w0_2 : (Lit.int .i64 a0_2).wf = true) (w1 : (Lit.int .i64 a1).wf = true) :
    Calls Try.prog 8 #[.agg #[.int .i64 a0_0, .int .i64 a0_1, .int .i64 a0_2], .int .i64 a1] w fun e w' => e = .returned (.bool true) ∧ Below w.heap.size w w' := by
  obtain ⟨k, h⟩ := times_true a0_0 a0_1 a0_2 a1
  exact tallymanlaw04_MotionTimes.calls k a0_0 a0_1 a0_2 a1 true w h
end Go.Proofs.Ytbkcdfiokjhcjaa.P
