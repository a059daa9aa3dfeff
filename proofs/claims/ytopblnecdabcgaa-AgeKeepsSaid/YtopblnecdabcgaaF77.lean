-- printed by the session's own call of print.py. Not trusted: Lean checks it.
import Derived.Test.YtopblnecdabcgaaP0
namespace Go.Proofs.Ytopblnecdabcgaa.P
open Go.RowKit Go.Proofs.YtopblnecdabcgaaW.PrintWords Go.Proofs.YtopblnecdabcgaaW.PrintLast Go.Proofs.YtopblnecdabcgaaW.PrintMore
attribute [local go_sem] max2_int min2_int max_two min_two max_three min_three max_four min_four
set_option linter.unusedVariables false
set_option linter.unusedSimpArgs false

/-! ### tallymanref02_Over: function 77 -/
def tallymanref02_Over.f (a0 : Int) (a1 : Int) : Option (Int) := if (mx a1 1) = 0 then (none) else (if ((mx a0 0) % (mx a1 1)) = 0 then (some (wrap64 ((mx a0 0) / (mx a1 1)))) else (some (wrap64 ((wrap64 ((mx a0 0) / (mx a1 1))) + 1))))
set_option maxHeartbeats 8000000 in
set_option maxRecDepth 100000 in
theorem tallymanref02_Over.calls (a0 : Int) (a1 : Int) (r : Int) (w : World) (h : tallymanref02_Over.f a0 a1 = some r) :
    Calls Try.prog 77 #[.int .i64 a0, .int .i64 a1] w fun e w' => e = .returned (.int .i64 r) ∧ Below w.heap.size w w' := by
  have HB := Aside0.mk (Below.refl w.heap.size w)
  have H : (if (mx a1 1) = 0 then (none) else (if ((mx a0 0) % (mx a1 1)) = 0 then (some (wrap64 ((mx a0 0) / (mx a1 1)))) else (some (wrap64 ((wrap64 ((mx a0 0) / (mx a1 1))) + 1))))) = some r := h
  clear h
  obtain ⟨ji3, hji3⟩ : ∃ j_ : Int, (mx a0 0) = j_ := ⟨_, rfl⟩
  replace H : (if (mx a1 1) = 0 then (none) else (if ((ji3) % (mx a1 1)) = 0 then (some (wrap64 ((ji3) / (mx a1 1)))) else (some (wrap64 ((wrap64 ((ji3) / (mx a1 1))) + 1))))) = some r := by first | (rw [hji3] at H; exact H) | (simp only [hji3] at H ⊢; exact H)
  (try (have hji3l : 0 ≤ ji3 := by (rw [← hji3]; unfold mx; (repeat' split) <;> omega)))
  (try (have hji3m : 0 ≤ ji3 := by omega))
  have hji3_ : (if a0 < 0 then 0 else a0) = ji3 := hji3
  obtain ⟨ji4, hji4⟩ : ∃ j_ : Int, (mx a1 1) = j_ := ⟨_, rfl⟩
  replace H : (if (ji4) = 0 then (none) else (if ((ji3) % (ji4)) = 0 then (some (wrap64 ((ji3) / (ji4)))) else (some (wrap64 ((wrap64 ((ji3) / (ji4))) + 1))))) = some r := by first | (rw [hji4] at H; exact H) | (simp only [hji4] at H ⊢; exact H)
  (try (have hji4l : 1 ≤ ji4 := by (rw [← hji4]; unfold mx; (repeat' split) <;> omega)))
  (try (have hji4m : 0 ≤ ji4 := by omega))
  have hji4_ : (if a1 < 1 then 1 else a1) = ji4 := hji4
  by_cases c5 : (ji4) = 0
  · rw [if_pos c5] at H
    exact absurd H (by simp)
  · rw [if_neg c5] at H
    have c5b0 : ((ji4) == 0) = false := beq_eq_false_iff_ne.mpr c5
    have c5b1 : ((ji4) != 0) = true := bne_iff_ne.mpr c5
    by_cases c6 : ((ji3) % (ji4)) = 0
    · rw [if_pos c6] at H
      have c6b0 : (((ji3) % (ji4)) == 0) = true := beq_iff_eq.mpr c6
      have c6b1 : (((ji3) % (ji4)) != 0) = false := bne_eq_false_iff_eq.mpr c6
      clear c6
      obtain rfl := Option.some.inj H
      go_enter Try.func77, Try.ntmps77
      go_wp2
      go_ret
      exact ⟨by first | rfl | ((repeat first | rw [Int.tdiv_eq_ediv_of_nonneg (by omega)] | rw [Int.tmod_eq_emod_of_nonneg (by omega)]); rfl) | (simp [errW_none, errW_some] <;> rfl) | (simp only [← hji3, ← hji4]; first | rfl | (simp [errW_none, errW_some] <;> rfl)) | (simp [*, errW_none, errW_some] <;> rfl), by repeat (first | (with_reducible first | exact HB.out | apply below_alloc | apply pw_below_drewN | apply below_drew1) | exact HB.out)⟩
    · rw [if_neg c6] at H
      have c6b0 : (((ji3) % (ji4)) == 0) = false := beq_eq_false_iff_ne.mpr c6
      have c6b1 : (((ji3) % (ji4)) != 0) = true := bne_iff_ne.mpr c6
      obtain rfl := Option.some.inj H
      go_enter Try.func77, Try.ntmps77
      go_wp2
      go_ret
      exact ⟨by first | rfl | ((repeat first | rw [Int.tdiv_eq_ediv_of_nonneg (by omega)] | rw [Int.tmod_eq_emod_of_nonneg (by omega)]); rfl) | (simp [errW_none, errW_some] <;> rfl) | (simp only [← hji3, ← hji4]; first | rfl | (simp [errW_none, errW_some] <;> rfl)) | (simp [*, errW_none, errW_some] <;> rfl), by repeat (first | (with_reducible first | exact HB.out | apply below_alloc | apply pw_below_drewN | apply below_drew1) | exact HB.out)⟩

end Go.Proofs.Ytopblnecdabcgaa.P
