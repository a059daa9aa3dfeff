/- AgeKeeps: who is ahead stays ahead till the other one is full. -/
import Derived.Test.YtopblnecdabcgaaAP
import Derived.Test.YtopblnecdabcgaaF5
namespace Go.Proofs.Ytopblnecdabcgaa.P
open Go.Proofs.Ytopblnecdabcgaa.B Go.RowKit Go.Proofs.YtopblnecdabcgaaW.PrintWords Go.Proofs.YtopblnecdabcgaaW.PrintLast Go.Proofs.YtopblnecdabcgaaW.PrintMore
set_option linter.unusedVariables false
set_option linter.unusedSimpArgs false
theorem clp_id (n m : Int) (h : 0 ≤ n ∧ n ≤ m) : clp n m = n := by unfold clp; rw [if_neg (by omega), if_neg (by omega)]
/-- An item that waits already: its aged priority is a key that stays, and what the time adds. -/
theorem ofV_key (p s r : Int) : ∃ K : Int, ∀ t : Int, s ≤ t → 0 ≤ t → t ≤ 2147483647 → ofV p s t r = mn (K + clp r 1048576 * t) 1048575 := by
  refine ⟨clp p 1048575 - clp r 1048576 * clp s 2147483647, fun t h1 h2 h3 => ?_⟩
  have hs : clp s 2147483647 ≤ t := by unfold clp; split <;> (try split) <;> omega
  unfold ofV ageV
  rw [clp_id t _ ⟨h2, h3⟩, show mx (t - clp s 2147483647) 0 = t - clp s 2147483647 from by unfold mx; rw [if_neg (by omega)], Int.mul_sub]
  congr 1
  omega
theorem keeps14 (a0 a1 a2 a3 b0 b1 b2 b3 now later r : Int) (hn : 0 ≤ now ∧ now ≤ 4294967295) (hl : 0 ≤ later ∧ later ≤ 4294967295) : tallymanlaw14_AgeKeeps.f 9 a0 a1 a2 a3 b0 b1 b2 b3 now later r = some true := by
  unfold tallymanlaw14_AgeKeeps.f
  rw [n64 (x := now / 2) (by omega) (by omega), n64 (x := later / 2) (by omega) (by omega)]
  obtain ⟨x, hx⟩ : ∃ x, now / 2 = x := ⟨_, rfl⟩
  obtain ⟨y, hy⟩ : ∃ y, mx x (later / 2) = y := ⟨_, rfl⟩
  have hx1 : 0 ≤ x ∧ x ≤ 2147483647 := by omega
  have hy1 : x ≤ y ∧ y ≤ 2147483647 := by rw [← hy]; unfold mx; split <;> omega
  rw [hx, hy]
  clear hx hy
  have j0t : ∀ z, z = true → tallymanlaw14_AgeKeeps.j0 9 r x y z a0 a1 a2 a3 b0 b1 b2 b3 = some true := fun z hz => by
    rw [tallymanlaw14_AgeKeeps.j0, if_pos hz, alive14 8 (by decide)]; rfl
  by_cases c1 : a2 > x
  · rw [if_pos c1]; exact j0t _ rfl
  rw [if_neg c1]
  by_cases c2 : b2 > x
  · rw [if_pos c2]; exact j0t _ rfl
  rw [if_neg c2]
  have main : ¬ (a0 = b0 ∧ a3 = b3) → tallymanlaw14_AgeKeeps.j0 9 r x y false a0 a1 a2 a3 b0 b1 b2 b3 = some true := by
    intro hne
    obtain ⟨K, hK⟩ := ofV_key a1 a2 r
    obtain ⟨M, hM⟩ := ofV_key b1 b2 r
    have hr := clp_in r 1048576 (by decide)
    have hxy := Int.mul_le_mul_of_nonneg_left hy1.1 hr.1
    have kx := hK x (by omega) (by omega) (by omega); have ky := hK y (by omega) (by omega) (by omega)
    have mx_ := hM x (by omega) (by omega) (by omega); have my := hM y (by omega) (by omega) (by omega)
    clear hK hM hr
    rw [tallymanlaw14_AgeKeeps.j0, if_neg Bool.false_ne_true, ahead_code 8 (by decide), ahead_code 8 (by decide)]
    simp only [Option.bind_some]
    rw [of_code, ahead_code 8 (by decide)]
    simp only [Option.bind_some]
    generalize clp r 1048576 * x = X at *
    generalize clp r 1048576 * y = Y at *
    have e1 : aheadV a0 a1 a2 a3 b0 b1 b2 b3 x r = ! aheadV b0 b1 b2 b3 a0 a1 a2 a3 x r := by
      unfold aheadV
      rw [kx, mx_]
      generalize mn (K + X) 1048575 = u
      generalize mn (M + X) 1048575 = v
      by_cases h1 : u = v
      · rw [if_pos h1, if_pos h1.symm]
        by_cases h2 : a3 = b3
        · rw [if_pos h2, if_pos h2.symm]
          rw [Bool.eq_iff_iff]; simp; omega
        · rw [if_neg h2, if_neg (fun e => h2 e.symm)]
          rw [Bool.eq_iff_iff]; simp; omega
      · rw [if_neg h1, if_neg (fun e => h1 e.symm)]
        rw [Bool.eq_iff_iff]; simp; omega
    have j2t : ∀ k z, 4 ≤ k → (z = true → aheadV a0 a1 a2 a3 b0 b1 b2 b3 y r = decide (a3 < b3)) → tallymanlaw14_AgeKeeps.j2 (k + 1) r y z a0 a1 a2 a3 b0 b1 b2 b3 = some true := fun k z hk hz => by
      rw [tallymanlaw14_AgeKeeps.j2, ahead_code k hk, alive14 k hk]
      cases z
      · rw [if_neg Bool.false_ne_true]; rfl
      · rw [if_pos rfl, hz rfl]; simp
    have j1f : tallymanlaw14_AgeKeeps.j1 8 r x y false a0 a1 a2 a3 b0 b1 b2 b3 = some true := by
      rw [tallymanlaw14_AgeKeeps.j1, if_neg Bool.false_ne_true, of_code, of_code]
      simp only [Option.bind_some]
      split
      · rename_i h1
        split
        · rename_i h2
          refine j2t 6 _ (by decide) (fun hz => ?_)
          have hz : a3 ≠ b3 := by simpa using hz
          unfold aheadV
          rw [ky, my]
          have u1 : mn (K + Y) 1048575 = 1048575 := by rw [kx] at h1; unfold mn at h1 ⊢; split at h1 <;> split <;> omega
          have u2 : mn (M + Y) 1048575 = 1048575 := by rw [mx_] at h2; unfold mn at h2 ⊢; split at h2 <;> split <;> omega
          rw [u1, u2, if_pos rfl, if_neg hz]
        · exact j2t 6 _ (by decide) (fun h => by cases h)
      · exact j2t 6 _ (by decide) (fun h => by cases h)
    rw [e1]
    cases hA : aheadV b0 b1 b2 b3 a0 a1 a2 a3 x r
    · simp only [Bool.not_false]
      rw [if_neg (by decide), if_pos trivial]
      split
      · rename_i hlt
        have hAy : aheadV a0 a1 a2 a3 b0 b1 b2 b3 y r = true := by
          rw [hA] at e1
          simp only [Bool.not_false] at e1
          unfold aheadV at e1 ⊢
          rw [kx, mx_] at e1
          rw [my] at hlt
          rw [ky, my]
          have v1 : mn (M + Y) 1048575 = M + Y := by unfold mn at hlt ⊢; split at hlt <;> omega
          have v2 : mn (M + X) 1048575 = M + X := by unfold mn at v1 ⊢; split at v1 <;> split <;> omega
          rw [v1] at hlt ⊢
          rw [v2] at e1
          by_cases q : mn (K + X) 1048575 = M + X
          · rw [if_pos q] at e1
            have : K = M := by unfold mn at q; split at q <;> omega
            rw [this, v1, if_pos rfl]
            exact e1
          · rw [if_neg q] at e1
            have e1 := of_decide_eq_true e1
            have : M < K := by unfold mn at e1; split at e1 <;> omega
            have : M + Y < mn (K + Y) 1048575 := by unfold mn; split <;> omega
            rw [if_neg (by omega)]
            exact decide_eq_true this
        rw [hAy]
        exact j1f
      · exact j1f
    · simp only [Bool.not_true]
      rw [if_neg (by decide), if_neg Bool.false_ne_true]
      exact j1f
  by_cases c3 : a0 = b0
  · rw [if_pos c3]
    by_cases c4 : a3 = b3
    · exact j0t _ (by simp [c4])
    · rw [show (a3 == b3) = false from by simp [c4]]
      exact main (fun h => c4 h.2)
  · rw [if_neg c3]
    exact main (fun h => c3 h.1)
theorem u32_in {x : Int} (h : (Lit.int .u32 x).wf = true) : 0 ≤ x ∧ x ≤ 4294967295 := by
  have := h
  simp [Lit.wf] at this
  have h1 : IntKind.u32.min = 0 := rfl
  have h2 : IntKind.u32.max = 4294967295 := rfl
  omega
def tallymanlaw14_AgeKeeps.Pure : Prop := True
theorem tallymanlaw14_AgeKeeps.walk (P : tallymanlaw14_AgeKeeps.Pure) (a0_0 a0_1 a0_2 a0_3 a1_0 a1_1 a1_2 a1_3 a2 a3 a4 : Int) (w : World) (w0_0 : (Lit.int .i64 a0_0).wf = true) (w0_1 : (Lit.int .i64 a0_1).wf = true) (w0_2 : (Lit.int .i64 a0_2).wf = true) (w0_3 : (Lit.int .i64 a0_3).wf = true) (w1_0 : (Lit.int .i64 a1_0).wf = true) (w1_1 : (Lit.int .i64 a1_1).wf = true) (w1_2 : (Lit.int .i64 a1_2).wf = true) (w1_3 : (Lit.int .i64 a1_3).wf = true) (w2 : (Lit.int .u32 a2).wf = true) (w3 : (Lit.int .u32 a3).wf = true) (w4 : (Lit.int .i64 a4).wf = true) :
    Calls Try.prog 5 #[.agg #[.int .i64 a0_0, .int .i64 a0_1, .int .i64 a0_2, .int .i64 a0_3], .agg #[.int .i64 a1_0, .int .i64 a1_1, .int .i64 a1_2, .int .i64 a1_3], .int .u32 a2, .int .u32 a3, .int .i64 a4] w fun e w' => e = .returned (.bool true) ∧ Below w.heap.size w w' :=
  tallymanlaw14_AgeKeeps.calls 9 a0_0 a0_1 a0_2 a0_3 a1_0 a1_1 a1_2 a1_3 a2 a3 a4 true w (keeps14 _ _ _ _ _ _ _ _ _ _ _ (u32_in w2) (u32_in w3))
end Go.Proofs.Ytopblnecdabcgaa.P
