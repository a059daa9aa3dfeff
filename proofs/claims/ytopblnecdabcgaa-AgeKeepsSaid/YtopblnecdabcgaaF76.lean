-- printed by the session's own call of print.py. Not trusted: Lean checks it.
import Derived.Test.YtopblnecdabcgaaP0
import Derived.Test.YtopblnecdabcgaaF101
namespace Go.Proofs.Ytopblnecdabcgaa.P
open Go.RowKit Go.Proofs.YtopblnecdabcgaaW.PrintWords Go.Proofs.YtopblnecdabcgaaW.PrintLast Go.Proofs.YtopblnecdabcgaaW.PrintMore
attribute [local go_sem] max2_int min2_int max_two min_two max_three min_three max_four min_four
set_option linter.unusedVariables false
set_option linter.unusedSimpArgs false

/-! ### sat_Over: function 76 -/
def sat_Over.f (a0 : Int) (a1 : Int) : Option (Int) := (sat_high.f a0).bind fun t101 => (if (IntKind.u64.wrap (mx a1 1)) = 0 then (none) else (if t101 > (IntKind.u64.wrap ((IntKind.u64.wrap (Int.tdiv t101 (IntKind.u64.wrap (mx a1 1)))) * (IntKind.u64.wrap (mx a1 1)))) then (some (wrap64 (IntKind.u64.wrap ((IntKind.u64.wrap (Int.tdiv t101 (IntKind.u64.wrap (mx a1 1)))) + 1)))) else (some (wrap64 (IntKind.u64.wrap (Int.tdiv t101 (IntKind.u64.wrap (mx a1 1))))))))
set_option maxHeartbeats 8000000 in
set_option maxRecDepth 100000 in
theorem sat_Over.calls (a0 : Int) (a1 : Int) (r : Int) (w : World) (h : sat_Over.f a0 a1 = some r) :
    Calls Try.prog 76 #[.int .i64 a0, .int .i64 a1] w fun e w' => e = .returned (.int .i64 r) ∧ Below w.heap.size w w' := by
  have HB := Aside0.mk (Below.refl w.heap.size w)
  have H : ((sat_high.f a0).bind fun t101 => (if (IntKind.u64.wrap (mx a1 1)) = 0 then (none) else (if t101 > (IntKind.u64.wrap ((IntKind.u64.wrap (Int.tdiv t101 (IntKind.u64.wrap (mx a1 1)))) * (IntKind.u64.wrap (mx a1 1)))) then (some (wrap64 (IntKind.u64.wrap ((IntKind.u64.wrap (Int.tdiv t101 (IntKind.u64.wrap (mx a1 1)))) + 1)))) else (some (wrap64 (IntKind.u64.wrap (Int.tdiv t101 (IntKind.u64.wrap (mx a1 1))))))))) = some r := h
  clear h
  replace H := Option.bind_eq_some_iff.mp H
  obtain ⟨t101, A30, H⟩ := H
  replace H : (if (IntKind.u64.wrap (mx a1 1)) = 0 then (none) else (if t101 > (IntKind.u64.wrap ((IntKind.u64.wrap (Int.tdiv t101 (IntKind.u64.wrap (mx a1 1)))) * (IntKind.u64.wrap (mx a1 1)))) then (some (wrap64 (IntKind.u64.wrap ((IntKind.u64.wrap (Int.tdiv t101 (IntKind.u64.wrap (mx a1 1)))) + 1)))) else (some (wrap64 (IntKind.u64.wrap (Int.tdiv t101 (IntKind.u64.wrap (mx a1 1)))))))) = some r := H
  have A3 := Aside0.mk A30
  clear A30
  obtain ⟨ji4, hji4⟩ : ∃ j_ : Int, (mx a1 1) = j_ := ⟨_, rfl⟩
  replace H : (if (IntKind.u64.wrap (ji4)) = 0 then (none) else (if t101 > (IntKind.u64.wrap ((IntKind.u64.wrap (Int.tdiv t101 (IntKind.u64.wrap (ji4)))) * (IntKind.u64.wrap (ji4)))) then (some (wrap64 (IntKind.u64.wrap ((IntKind.u64.wrap (Int.tdiv t101 (IntKind.u64.wrap (ji4)))) + 1)))) else (some (wrap64 (IntKind.u64.wrap (Int.tdiv t101 (IntKind.u64.wrap (ji4)))))))) = some r := by first | (rw [hji4] at H; exact H) | (simp only [hji4] at H ⊢; exact H)
  (try rw [hji4] at A3)
  (try (have hji4l : 1 ≤ ji4 := by (rw [← hji4]; unfold mx; (repeat' split) <;> omega)))
  (try (have hji4m : 0 ≤ ji4 := by omega))
  have hji4_ : (if a1 < 1 then 1 else a1) = ji4 := hji4
  by_cases c5 : (IntKind.u64.wrap (ji4)) = 0
  · rw [if_pos c5] at H
    exact absurd H (by simp)
  · rw [if_neg c5] at H
    have c5b0 : ((IntKind.u64.wrap (ji4)) == 0) = false := beq_eq_false_iff_ne.mpr c5
    have c5b1 : ((IntKind.u64.wrap (ji4)) != 0) = true := bne_iff_ne.mpr c5
    by_cases c6 : t101 > (IntKind.u64.wrap ((IntKind.u64.wrap (Int.tdiv t101 (IntKind.u64.wrap (ji4)))) * (IntKind.u64.wrap (ji4))))
    · rw [if_pos c6] at H
      have c6b0 : decide ((IntKind.u64.wrap ((IntKind.u64.wrap (Int.tdiv t101 (IntKind.u64.wrap (ji4)))) * (IntKind.u64.wrap (ji4)))) < t101) = true := decide_eq_true c6
      clear c6
      obtain rfl := Option.some.inj H
      go_enter Try.func76, Try.ntmps76
      go_wp2_with (first | ((with_reducible refine gate_callee (f := 101) rfl ?_); refine goesL_ (some 9) rfl rfl Try.func101 (by kernel_rfl) rfl #[.int .i64 a0] rfl (by (try simp only [List.map_toArray, List.map_cons, List.map_nil]); first | done | rfl | (simp only [List.length_drop, List.length_take]; rfl)) ?_; (with_reducible refine (sat_high.calls a0 t101 _ A3.out).mono ?_); rintro e w7 ⟨rfl, hb⟩; refine ⟨_, rfl, ?_⟩; have n0_ := Aside0.mk (below_step (by repeat (first | (with_reducible first | exact HB.out | apply below_alloc | apply pw_below_drewN | apply below_drew1) | exact HB.out)) hb); clear HB; have HB := n0_; clear n0_; (try clear hb); (try clear hb2); (try clear hk); (try clear hi)))
      go_ret
      exact ⟨by first | rfl | ((repeat first | rw [Int.tdiv_eq_ediv_of_nonneg (by omega)] | rw [Int.tmod_eq_emod_of_nonneg (by omega)]); rfl) | (simp [errW_none, errW_some] <;> rfl) | (simp only [← hji4]; first | rfl | (simp [errW_none, errW_some] <;> rfl)) | (simp [*, errW_none, errW_some] <;> rfl), by repeat (first | (with_reducible first | exact HB.out | apply below_alloc | apply pw_below_drewN | apply below_drew1) | exact HB.out)⟩
    · rw [if_neg c6] at H
      have c6b0 : decide ((IntKind.u64.wrap ((IntKind.u64.wrap (Int.tdiv t101 (IntKind.u64.wrap (ji4)))) * (IntKind.u64.wrap (ji4)))) < t101) = false := decide_eq_false c6
      clear c6
      obtain rfl := Option.some.inj H
      go_enter Try.func76, Try.ntmps76
      go_wp2_with (first | ((with_reducible refine gate_callee (f := 101) rfl ?_); refine goesL_ (some 9) rfl rfl Try.func101 (by kernel_rfl) rfl #[.int .i64 a0] rfl (by (try simp only [List.map_toArray, List.map_cons, List.map_nil]); first | done | rfl | (simp only [List.length_drop, List.length_take]; rfl)) ?_; (with_reducible refine (sat_high.calls a0 t101 _ A3.out).mono ?_); rintro e w8 ⟨rfl, hb⟩; refine ⟨_, rfl, ?_⟩; have n0_ := Aside0.mk (below_step (by repeat (first | (with_reducible first | exact HB.out | apply below_alloc | apply pw_below_drewN | apply below_drew1) | exact HB.out)) hb); clear HB; have HB := n0_; clear n0_; (try clear hb); (try clear hb2); (try clear hk); (try clear hi)))
      go_ret
      exact ⟨by first | rfl | ((repeat first | rw [Int.tdiv_eq_ediv_of_nonneg (by omega)] | rw [Int.tmod_eq_emod_of_nonneg (by omega)]); rfl) | (simp [errW_none, errW_some] <;> rfl) | (simp only [← hji4]; first | rfl | (simp [errW_none, errW_some] <;> rfl)) | (simp [*, errW_none, errW_some] <;> rfl), by repeat (first | (with_reducible first | exact HB.out | apply below_alloc | apply pw_below_drewN | apply below_drew1) | exact HB.out)⟩

end Go.Proofs.Ytopblnecdabcgaa.P
