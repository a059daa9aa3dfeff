/- AgeRises: an aged priority rises, and an item is full just from when that is told. -/
import Derived.Test.YtopblnecdabcgaaAP
import Derived.Test.YtopblnecdabcgaaF4
namespace Go.Proofs.Ytopblnecdabcgaa.P
open Go.Proofs.Ytopblnecdabcgaa.B Go.RowKit Go.Proofs.YtopblnecdabcgaaW.PrintWords Go.Proofs.YtopblnecdabcgaaW.PrintLast Go.Proofs.YtopblnecdabcgaaW.PrintMore
set_option linter.unusedVariables false
set_option linter.unusedSimpArgs false
theorem ofV_in (p s now r : Int) : 0 ≤ ofV p s now r ∧ ofV p s now r ≤ 1048575 := by
  have h3 := clp_in p 1048575 (by decide); have h4 := clp_in r 1048576 (by decide); have h5 := ageV_in s now
  have h6 := prod_in _ _ h4 h5
  unfold ofV mn; split <;> omega
theorem clp_mono (a b m : Int) (hm : 0 ≤ m) (h : a ≤ b) : clp a m ≤ clp b m := by unfold clp; split <;> split <;> (try split) <;> (try split) <;> omega
theorem ageV_mono (s a b : Int) (h : a ≤ b) : ageV s a ≤ ageV s b := by
  have := clp_mono a b 2147483647 (by decide) h
  unfold ageV mx; split <;> split <;> omega
theorem ofV_mono (p s a b r : Int) (h : a ≤ b) : ofV p s a r ≤ ofV p s b r := by
  have h4 := clp_in r 1048576 (by decide)
  have := Int.mul_le_mul_of_nonneg_left (ageV_mono s a b h) h4.1
  unfold ofV
  generalize clp r 1048576 * ageV s a = x at *
  generalize clp r 1048576 * ageV s b = y at *
  unfold mn; split <;> split <;> omega
theorem clp_id (n m : Int) (h : 0 ≤ n ∧ n ≤ m) : clp n m = n := by unfold clp; rw [if_neg (by omega), if_neg (by omega)]
theorem clp_mm (n : Int) : mn (mx n 0) 2147483647 = clp n 2147483647 := by unfold clp mn mx; split <;> split <;> (try split) <;> (try split) <;> omega
/-- When an item is full. -/
theorem full_says (p s r : Int) : (fullV p s r > 2147483647 → fullV p s r = 2147483648 ∧ ofV p s 2147483647 r < 1048575) ∧
    (fullV p s r ≤ 2147483647 → clp s 2147483647 ≤ fullV p s r ∧ ofV p s (fullV p s r) r = 1048575 ∧ (fullV p s r ≠ clp s 2147483647 → ofV p s (fullV p s r - 1) r < 1048575)) := by
  have hp := clp_in p 1048575 (by decide); have hs := clp_in s 2147483647 (by decide); have hr := clp_in r 1048576 (by decide)
  unfold fullV
  by_cases c1 : 1048575 - clp p 1048575 = 0
  · rw [if_pos c1]
    refine ⟨fun h => by omega, fun _ => ⟨Int.le_refl _, ?_, fun h => absurd rfl h⟩⟩
    have h6 := prod_in _ _ hr (ageV_in s (clp s 2147483647))
    unfold ofV mn; split <;> omega
  · rw [if_neg c1]
    by_cases c2 : clp r 1048576 = 0
    · rw [if_pos c2]
      refine ⟨fun _ => ⟨rfl, ?_⟩, fun h => by omega⟩
      unfold ofV
      rw [c2, Int.zero_mul]
      unfold mn; split <;> omega
    · rw [if_neg c2]
      obtain ⟨o1, o2, o3, o4⟩ := ovr_in (1048575 - clp p 1048575) (clp r 1048576) (by omega) (by omega)
      have o4 := o4 (by omega)
      obtain ⟨O, hO⟩ : ∃ O, ovr (1048575 - clp p 1048575) (clp r 1048576) = O := ⟨_, rfl⟩
      rw [hO] at o1 o2 o3 o4 ⊢
      clear hO
      unfold ofV
      generalize clp p 1048575 = P at *
      generalize clp r 1048576 = R at *
      have ag : ∀ t : Int, clp s 2147483647 ≤ t → t ≤ 2147483647 → ageV s t = t - clp s 2147483647 := fun t h1 h2 => by
        unfold ageV
        rw [clp_id t _ ⟨by omega, h2⟩]
        unfold mx; rw [if_neg (by omega)]
      by_cases c3 : clp s 2147483647 + O ≤ 2147483647
      · have e : mn (clp s 2147483647 + O) 2147483648 = clp s 2147483647 + O := by unfold mn; rw [if_neg (by omega)]
        rw [e]
        refine ⟨fun h => by omega, fun _ => ⟨by omega, ?_, fun h => ?_⟩⟩
        · rw [ag _ (by omega) c3, show clp s 2147483647 + O - clp s 2147483647 = O by omega]
          unfold mn; split <;> omega
        · rw [ag _ (by omega) (by omega), show clp s 2147483647 + O - 1 - clp s 2147483647 = O - 1 by omega]
          unfold mn; split <;> omega
      · have e : mn (clp s 2147483647 + O) 2147483648 = 2147483648 := by unfold mn; split <;> omega
        rw [e]
        refine ⟨fun _ => ⟨rfl, ?_⟩, fun h => by omega⟩
        rw [ag _ (by omega) (by omega)]
        have h7 := Int.mul_le_mul_of_nonneg_left (show 2147483647 - clp s 2147483647 ≤ O - 1 by omega) hr.1
        unfold mn; split <;> omega
theorem rises14 (a0 a1 a2 a3 now later r : Int) : tallymanlaw14_AgeRises.f 9 a0 a1 a2 a3 now later r = some true := by
  unfold tallymanlaw14_AgeRises.f
  rw [of_code, of_code]
  simp only [Option.bind_some]
  have m1 : mn now later ≤ mx now later := by unfold mn mx; split <;> split <;> omega
  have h1 := ofV_in a1 a2 (mn now later) r
  have h2 := ofV_in a1 a2 (mx now later) r
  have h3 := ofV_mono a1 a2 _ _ r m1
  rw [if_neg (by omega), if_neg (by omega), show decide (ofV a1 a2 (mx now later) r > 1048575) = false from decide_eq_false (by omega), tallymanlaw14_AgeRises.j0, if_neg Bool.false_ne_true, full_code, Option.bind_some]
  obtain ⟨f1, f2⟩ := full_says a1 a2 r
  have hs := clp_in a2 2147483647 (by decide)
  by_cases c : fullV a1 a2 r > 2147483647
  · obtain ⟨g1, g2⟩ := f1 c
    rw [if_pos c, if_pos g1, of_code, Option.bind_some, if_pos g2, alive14 8 (by decide)]; rfl
  · obtain ⟨g1, g2, g3⟩ := f2 (by omega)
    rw [if_neg c, clp_mm, if_pos g1, of_code, Option.bind_some, if_pos g2]
    by_cases c4 : fullV a1 a2 r = clp a2 2147483647
    · rw [if_pos c4, alive14 8 (by decide)]; rfl
    · rw [if_neg c4, n64 (by omega) (by omega), of_code, Option.bind_some, if_pos (g3 c4), alive14 8 (by decide)]; rfl
def tallymanlaw14_AgeRises.Pure : Prop := True
theorem tallymanlaw14_AgeRises.walk (P : tallymanlaw14_AgeRises.Pure) (a0_0 a0_1 a0_2 a0_3 a1 a2 a3 : Int) (w : World) (w0_0 : (Lit.int .i64 a0_0).wf = true) (w0_1 : (Lit.int .i64 a0_1).wf = true) (w0_2 : (Lit.int .i64 a0_2).wf = true) (w0_3 : (Lit.int .i64 a0_3).wf = true) (w1 : (Lit.int .i64 a1).wf = true) (w2 : (Lit.int .i64 a2).wf = true) (w3 : (Lit.int .i64 a3).wf = true) :
    Calls Try.prog 4 #[.agg #[.int .i64 a0_0, .int .i64 a0_1, .int .i64 a0_2, .int .i64 a0_3], .int .i64 a1, .int .i64 a2, .int .i64 a3] w fun e w' => e = .returned (.bool true) ∧ Below w.heap.size w w' :=
  tallymanlaw14_AgeRises.calls 9 a0_0 a0_1 a0_2 a0_3 a1 a2 a3 true w (rises14 ..)
end Go.Proofs.Ytopblnecdabcgaa.P
