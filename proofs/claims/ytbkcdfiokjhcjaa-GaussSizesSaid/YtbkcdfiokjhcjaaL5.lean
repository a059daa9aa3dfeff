/- GaussSizes: turns and sizes are the document's. -/
import Derived.Test.YtbkcdfiokjhcjaaGP
import Derived.Test.YtbkcdfiokjhcjaaF5
set_option linter.unusedVariables false
set_option linter.unusedSimpArgs false
namespace Go.Proofs.Ytbkcdfiokjhcjaa.P
open Go.Proofs.Ytbkcdfiokjhcjaa.B Go.RowKit Go.Proofs.Ytbkcdfiokjhcjaa.Pure Go.Proofs.YtbkcdfiokjhcjaaW.PrintWords Go.Proofs.YtbkcdfiokjhcjaaW.PrintLast Go.Proofs.YtbkcdfiokjhcjaaW.PrintMore
theorem quarter_ref (n : Int) : tallymanref03_Quarter.f n = some (n % 4) := by
  unfold tallymanref03_Quarter.f
  have h := Int.tmod_add_mul_tdiv n 4
  by_cases hn : 0 ≤ n
  · rw [Int.tmod_eq_emod_of_nonneg hn, if_neg (by omega)]
  · obtain ⟨m, rfl⟩ : ∃ m : Nat, n = -(m : Int) := ⟨n.natAbs, by omega⟩
    rw [Int.neg_tmod, Int.tmod_eq_emod_of_nonneg (by omega)]
    by_cases hz : -((m : Int) % 4) < 0
    · rw [if_pos hz, w64 (by omega) (by omega)]; congr 1; omega
    · rw [if_neg hz]; congr 1; omega
theorem turn_ref (x y n : Int) : tallymanref03_Turn.f x y n = some (rot (n % 4).toNat (fx x) (fx y)) := by
  unfold tallymanref03_Turn.f
  rw [fix_ref, quarter_ref]
  have h1 := fx_le x
  have h2 := fx_le y
  simp only [Option.bind_some]
  rw [w64 (x := -fx y) (by omega) (by omega), w64 (x := -fx x) (by omega) (by omega)]
  have hq : n % 4 = 0 ∨ n % 4 = 1 ∨ n % 4 = 2 ∨ n % 4 = 3 := by omega
  rcases hq with h | h | h | h <;> rw [h] <;> simp [rot]
theorem norm_ref (x y : Int) : tallymanref03_Norm.f x y = some (fx x * fx x + fx y * fx y) := by
  unfold tallymanref03_Norm.f
  have h1 := mul_le x x
  have h2 := mul_le y y
  rw [fix_ref, Option.bind_some]
  simp only []
  rw [w64 (x := fx x * fx x) (by omega) (by omega), w64 (x := fx y * fx y) (by omega) (by omega), w64 (by omega) (by omega)]
def ab (n : Int) : Int := mx n (-n)
theorem ab_le (n : Int) (h : -1048576 ≤ n ∧ n ≤ 1048576) : 0 ≤ ab n ∧ ab n ≤ 1048576 := by unfold ab mx; split <;> omega
theorem steps_ref (x y : Int) : tallymanref03_Steps.f x y = some (ab (fx x) + ab (fx y)) := by
  unfold tallymanref03_Steps.f tallymanref03_size.f
  have h1 := fx_le x
  have h2 := fx_le y
  have a1 := ab_le _ h1
  have a2 := ab_le _ h2
  rw [fix_ref, Option.bind_some]
  simp only [Option.bind_some]
  rw [w64 (x := -fx x) (by omega) (by omega), w64 (x := -fx y) (by omega) (by omega)]
  rw [show mx (fx x) (-fx x) = ab (fx x) from rfl, show mx (fx y) (-fx y) = ab (fx y) from rfl, w64 (by omega) (by omega)]
theorem big_ref (x y : Int) : tallymanref03_Big.f x y = some (mx (ab (fx x)) (ab (fx y))) := by
  unfold tallymanref03_Big.f tallymanref03_size.f
  have h1 := fx_le x
  have h2 := fx_le y
  rw [fix_ref, Option.bind_some]
  simp only [Option.bind_some]
  rw [w64 (x := -fx x) (by omega) (by omega), w64 (x := -fx y) (by omega) (by omega)]; rfl
theorem sizes_code (x y : Int) : gauss_sizes.f x y = some (ab (fx x), ab (fx y)) := by
  unfold gauss_sizes.f gauss_Fix.f
  have h1 := fx_le x
  have h2 := fx_le y
  simp only [Option.bind_some]
  rw [w64 (x := -fx x) (by omega) (by omega), w64 (x := -fx y) (by omega) (by omega)]; rfl
theorem steps_code (x y : Int) : gauss_Steps.f x y = some (ab (fx x) + ab (fx y)) := by
  unfold gauss_Steps.f
  have a1 := ab_le _ (fx_le x)
  have a2 := ab_le _ (fx_le y)
  rw [sizes_code, Option.bind_some]
  simp only []
  rw [w64 (by omega) (by omega)]
theorem big_code (x y : Int) : gauss_Big.f x y = some (mx (ab (fx x)) (ab (fx y))) := by
  unfold gauss_Big.f
  rw [sizes_code, Option.bind_some]
theorem sizes_true (a b n : Int) : tallymanlaw03_GaussSizes.f a b n = some true := by
  unfold tallymanlaw03_GaussSizes.f
  rw [turn_ref, norm_ref, steps_ref, big_ref, steps_code, big_code, alive3]
  unfold gauss_Turn.f gauss_Norm.f
  simp
def tallymanlaw03_GaussSizes.Pure : Prop := True
theorem tallymanlaw03_GaussSizes.walk (P : tallymanlaw03_GaussSizes.Pure) (a0_0 a0_1 a1 : Int) (w : World) (w0_0 : (Lit.int .i64 a0_0).wf = true) (w0_1 : (Lit.int .i64 a0_1).wf = true) (w1 : (Lit.int .i64 a1).wf = true) :
    Calls Try.prog 5 #[.agg #[.int .i64 a0_0, .int .i64 a0_1], .int .i64 a1] w fun e w' => e = .returned (.bool true) ∧ Below w.heap.size w w' :=
  tallymanlaw03_GaussSizes.calls a0_0 a0_1 a1 true w (sizes_true _ _ _)
end Go.Proofs.Ytbkcdfiokjhcjaa.P
