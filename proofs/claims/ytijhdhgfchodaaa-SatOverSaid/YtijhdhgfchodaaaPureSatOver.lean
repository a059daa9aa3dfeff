/- For any two numbers: what sat.Over tells, times the other one, is enough, and no less is; a difference that is added again comes back. No condition. -/
import Derived.Test.YtijhdhgfchodaaaF8
import Derived.Test.YtijhdhgfchodaaaSL
set_option linter.unusedVariables false
set_option linter.unusedSimpArgs false
namespace Go.Proofs.Ytijhdhgfchodaaa.Pure
open Go.RowKit Go.Proofs.Ytijhdhgfchodaaa.P Go.Proofs.YtijhdhgfchodaaaW.PrintWords Go.Proofs.YtijhdhgfchodaaaW.PrintLast Go.Proofs.YtijhdhgfchodaaaW.PrintMore Go.Proofs.Ytijhdhgfchodaaa.B
theorem over_facts (X Y : Int) (hX : 0 ≤ X) (hY : 1 ≤ Y) (q : Int) (hq : q = if X % Y = 0 then X / Y else X / Y + 1) : 0 ≤ q ∧ q ≤ X ∧ X ≤ q * Y ∧ (0 < q → q - 1 = (X - 1) / Y) ∧ (0 < q → 1 ≤ X) := by
  obtain ⟨q0, q1, q2, q3, q4, q5⟩ := div_facts X Y hX hY
  have h1 := Int.mul_ediv_add_emod X Y
  have h2 := Int.emod_nonneg X (b := Y) (by omega)
  have h3 := Int.emod_lt_of_pos X (b := Y) (by omega)
  have h5 : X / Y * Y = Y * (X / Y) := Int.mul_comm _ _
  by_cases h : X % Y = 0
  · rw [if_pos h] at hq
    subst hq
    refine ⟨q0, q1, by omega, ?_, by omega⟩
    intro hp
    symm
    have : X - 1 = (Y - 1) + Y * (X / Y - 1) := by rw [Int.mul_sub]; omega
    rw [this, Int.add_mul_ediv_left _ _ (by omega), Int.ediv_eq_zero_of_lt (by omega) (by omega)]
    omega
  · rw [if_neg h] at hq
    have := q5 h
    subst hq
    refine ⟨by omega, this, ?_, ?_, by omega⟩
    · rw [Int.add_mul]; omega
    · intro _
      symm
      have : X - 1 = (X % Y - 1) + Y * (X / Y) := by omega
      rw [this, Int.add_mul_ediv_left _ _ (by omega), Int.ediv_eq_zero_of_lt (by omega) (by omega)]
      omega
theorem SatOver : tallymanlaw02_SatOver.Pure := by
  intro a b ha hb
  have ha := wf_i64ok ha
  have hb := wf_i64ok hb
  have hq := over_code a b ha hb
  have hA := mx0 a 0
  have hB := mx0 b 1
  have hB0 := mx0 b 0
  obtain ⟨f1, f2, f3, f4, f5⟩ := over_facts (mx a 0) (mx b 1) (by omega) (by omega) (overV a b) rfl
  generalize overV a b = q at *
  unfold i64ok at ha hb
  have hX : 0 ≤ mx a 0 ∧ mx a 0 < 9223372036854775808 := by omega
  have hY : 1 ≤ mx b 1 ∧ mx b 1 < 9223372036854775808 := by omega
  have hm : sat_Mul.f 9223372036854775807 [q, mx b 1] = some (if q ≤ 0 then 0 else mn (q * mx b 1) 9223372036854775807) := by
    rw [mul_code _ _ (by decide) (by simp [i64ok]; omega) (by simp)]
    congr 1
    by_cases h : q ≤ 0
    · rw [if_pos h, if_pos ⟨q, by simp, h⟩]
    · rw [if_neg h, if_neg (by simp; omega)]
      rw [show mx 9223372036854775807 0 = 9223372036854775807 from rfl, show mn 1 9223372036854775807 = 1 from rfl]
      have e1 : mx q 0 = q := by unfold mx; split <;> omega
      have e2 : mx (mx b 1) 0 = mx b 1 := by unfold mx; split <;> omega
      simp only [foldG, Int.one_mul, e1, e2]
      rw [if_pos (by omega)]
      have e3 := mn0 (q * mx b 1) 9223372036854775807
      split <;> omega
  have hs : sat_Add.f 9223372036854775807 [lessV a b, mn (mx a 0) (mx b 0)] = some (mx a 0) := by
    have h1 := mx0 (mx a 0 - mx b 0) 0
    have h2 := mn0 (mx a 0) (mx b 0)
    rw [add_code _ _ (by decide) (by simp [i64ok, lessV]; omega) (by simp)]
    congr 1
    rw [show mx 9223372036854775807 0 = 9223372036854775807 from rfl]
    have e1 : mx (lessV a b) 0 = lessV a b := by unfold lessV at *; unfold mx; split <;> split <;> omega
    have e2 : mx (mn (mx a 0) (mx b 0)) 0 = mn (mx a 0) (mx b 0) := by
      generalize mn (mx a 0) (mx b 0) = z at *
      unfold mx; split <;> omega
    simp only [foldG, Int.zero_add, e1, e2]
    unfold lessV
    rw [if_pos (by omega), if_pos (by omega)]
    omega
  have hl := less_code a b (by unfold i64ok; omega) (by unfold i64ok; omega)
  have hj : Ev (fun k => tallymanlaw02_SatOver.j0 k a b (mx a 0) false) true := by
    refine Ev.step (fun k => ?_) (Ev.now true)
    rw [tallymanlaw02_SatOver.j0, if_neg (by decide), hl, Option.bind_some, hs, Option.bind_some, if_pos rfl, alive_ok]
    rfl
  refine Ev.rounds ?_
  unfold tallymanlaw02_SatOver.f
  refine Ev.congr (fun k => ?_) hj
  rw [hq, Option.bind_some, if_neg (by omega), hm, Option.bind_some]
  have e3 := mn0 (q * mx b 1) 9223372036854775807
  by_cases h : q ≤ 0
  · have h0 : q = 0 := by omega
    subst h0
    rw [if_pos h, if_neg (by omega), if_neg (by omega)]
  · rw [if_neg h, if_neg (by omega), if_pos (by omega), if_neg (by omega)]
    have g4 := f4 (by omega)
    have g5 := f5 (by omega)
    have e4 : wrap64 (mx a 0 - 1) = mx a 0 - 1 := w64 _ (by omega) (by omega)
    rw [e4, Int.tdiv_eq_ediv_of_nonneg (by omega), ← g4, w64 (q - 1) (by omega) (by omega)]
    simp
end Go.Proofs.Ytijhdhgfchodaaa.Pure
