/- Motions: the document's answers come to the same plain functions. -/
import Derived.Test.YtbkcdfiokjhcjaaMC
import Derived.Test.YtbkcdfiokjhcjaaF20
import Derived.Test.YtbkcdfiokjhcjaaF33
import Derived.Test.YtbkcdfiokjhcjaaF35
namespace Go.Proofs.Ytbkcdfiokjhcjaa.P
open Go.Proofs.Ytbkcdfiokjhcjaa.B Go.RowKit Go.Proofs.YtbkcdfiokjhcjaaW.PrintWords Go.Proofs.YtbkcdfiokjhcjaaW.PrintLast Go.Proofs.YtbkcdfiokjhcjaaW.PrintMore
set_option linter.unusedVariables false
set_option linter.unusedSimpArgs false
theorem n64 {x : Int} (h0 : -9223372036854775808 ≤ x) (h1 : x ≤ 9223372036854775807) : wrap64 x = x := by unfold wrap64; omega
theorem clip4 (n : Int) : tallymanref02_Clip.f n (-1048576) 1048576 = some (fx n) := by
  unfold tallymanref02_Clip.f fx
  by_cases h1 : n < -1048576
  · rw [if_pos h1, if_neg (show ¬ 1048576 < n by omega), if_pos h1]
  · rw [if_neg h1]
    by_cases h2 : n > 1048576
    · rw [if_pos h2, if_pos (show 1048576 < n from h2), if_neg (by omega)]
    · rw [if_neg h2, if_neg (show ¬ 1048576 < n from h2), if_neg h1]
theorem fixr4 (x y : Int) : tallymanref03_Fix.f x y = some (fx x, fx y) := by
  unfold tallymanref03_Fix.f tallymanref03_part.f
  rw [clip4, clip4]; rfl
theorem quarter4 (n : Int) : tallymanref03_Quarter.f n = some ((qt n : Nat) : Int) := by
  unfold tallymanref03_Quarter.f qt
  have h := Int.tmod_add_mul_tdiv n 4
  rw [show (((n % 4).toNat : Nat) : Int) = n % 4 from by omega]
  by_cases hn : 0 ≤ n
  · rw [Int.tmod_eq_emod_of_nonneg hn, if_neg (by omega)]
  · obtain ⟨m, rfl⟩ : ∃ m : Nat, n = -(m : Int) := ⟨n.natAbs, by omega⟩
    rw [Int.neg_tmod, Int.tmod_eq_emod_of_nonneg (by omega)]
    by_cases hz : -((m : Int) % 4) < 0
    · rw [if_pos hz, n64 (by omega) (by omega)]; congr 1; omega
    · rw [if_neg hz]; congr 1; omega
theorem add4 (a b c d : Int) : tallymanref03_Add.f a b c d = some (fx a + fx c, fx b + fx d) := by
  unfold tallymanref03_Add.f
  have h1 := fx_le a; have h2 := fx_le b; have h3 := fx_le c; have h4 := fx_le d
  rw [fixr4, fixr4, Option.bind_some, Option.bind_some, n64 (by simp only []; omega) (by simp only []; omega), n64 (by simp only []; omega) (by simp only []; omega)]
theorem fx_near {n : Int} (h : -1048576 ≤ n ∧ n ≤ 1048576) : fx n = n := by
  unfold fx; rw [if_neg (by omega), if_neg (by omega)]
theorem fx_fx (n : Int) : fx (fx n) = fx n := fx_near (fx_le n)
theorem turn4 (x y n : Int) : tallymanref03_Turn.f x y n = some (cm (fx x, fx y) (ip (qt n))) := by
  unfold tallymanref03_Turn.f
  rw [fixr4, quarter4]
  have h1 := fx_le x
  have h2 := fx_le y
  have hq := qt_lt n
  simp only [Option.bind_some]
  rw [n64 (x := -fx y) (by omega) (by omega), n64 (x := -fx x) (by omega) (by omega)]
  generalize qt n = q at hq ⊢
  have hq : q = 0 ∨ q = 1 ∨ q = 2 ∨ q = 3 := by omega
  rcases hq with h | h | h | h <;> subst h <;> simp [cm, ip]
theorem cm_near {x y : Int} (q : Nat) (hq : q < 4) (hx : -1048576 ≤ x ∧ x ≤ 1048576) (hy : -1048576 ≤ y ∧ y ≤ 1048576) : (-1048576 ≤ (cm (x, y) (ip q)).1 ∧ (cm (x, y) (ip q)).1 ≤ 1048576) ∧ (-1048576 ≤ (cm (x, y) (ip q)).2 ∧ (cm (x, y) (ip q)).2 ≤ 1048576) := by
  have hq : q = 0 ∨ q = 1 ∨ q = 2 ∨ q = 3 := by omega
  rcases hq with h | h | h | h <;> subst h <;> simp [cm, ip] <;> omega
theorem fix4 (n x y : Int) : tallymanref04_Fix.f n x y = some (((qt n : Nat) : Int), fx x, fx y) := by
  unfold tallymanref04_Fix.f
  rw [quarter4, fixr4]; rfl
theorem do4 (n x y u v : Int) : tallymanref04_Do.f n x y u v = some (doBy n x y u v) := by
  unfold tallymanref04_Do.f
  have h := cm_near (qt n) (qt_lt n) (fx_le u) (fx_le v)
  rw [turn4, Option.bind_some, add4, Option.bind_some, fx_near h.1, fx_near h.2]
  rfl
theorem qt_qt (q : Nat) (h : q < 4) : qt (q : Int) = q := by unfold qt; omega
end Go.Proofs.Ytbkcdfiokjhcjaa.P
