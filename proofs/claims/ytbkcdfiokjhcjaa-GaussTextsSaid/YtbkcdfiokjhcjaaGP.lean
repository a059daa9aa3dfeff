/- Plain lemmas: what the document's answers on points come to. -/
import Derived.Test.YtbkcdfiokjhcjaaS3
import Derived.Test.YtbkcdfiokjhcjaaB
import Derived.Test.YtbkcdfiokjhcjaaF13
import Derived.Test.YtbkcdfiokjhcjaaF20
namespace Go.Proofs.Ytbkcdfiokjhcjaa.Pure
open Go.Proofs.Ytbkcdfiokjhcjaa.B Go.RowKit Go.Proofs.Ytbkcdfiokjhcjaa.P Go.Proofs.YtbkcdfiokjhcjaaW.PrintWords Go.Proofs.YtbkcdfiokjhcjaaW.PrintLast Go.Proofs.YtbkcdfiokjhcjaaW.PrintMore
set_option linter.unusedVariables false
set_option linter.unusedSimpArgs false
theorem w64 {x : Int} (h0 : -9223372036854775808 ≤ x) (h1 : x ≤ 9223372036854775807) : wrap64 x = x := by unfold wrap64; omega
theorem clip_fx (n : Int) : tallymanref02_Clip.f n (-1048576) 1048576 = some (fx n) := by
  unfold tallymanref02_Clip.f fx
  by_cases h1 : n < -1048576
  · rw [if_pos h1, if_neg (show ¬ 1048576 < n by omega), if_pos h1]
  · rw [if_neg h1]
    by_cases h2 : n > 1048576
    · rw [if_pos h2, if_pos (show 1048576 < n from h2), if_neg (by omega)]
    · rw [if_neg h2, if_neg (show ¬ 1048576 < n from h2), if_neg h1]
theorem fix_ref (x y : Int) : tallymanref03_Fix.f x y = some (fx x, fx y) := by
  unfold tallymanref03_Fix.f tallymanref03_part.f
  rw [clip_fx, clip_fx]; rfl
theorem toList_loop (bs : ByteArray) : ∀ (k i : Nat) (r : List UInt8), bs.size - i = k → ByteArray.toList.loop bs i r = r.reverse ++ bs.data.toList.drop i := by
  intro k
  induction k with
  | zero =>
    intro i r h
    unfold ByteArray.toList.loop
    have : ¬ i < bs.size := by omega
    rw [if_neg this, List.drop_eq_nil_of_le (by rw [Array.length_toList]; exact Nat.le_of_not_lt this), List.append_nil]
  | succ k ih =>
    intro i r h
    unfold ByteArray.toList.loop
    have hi : i < bs.size := by omega
    rw [if_pos hi, ih (i + 1) _ (by omega), List.reverse_cons, List.append_assoc]
    have hi2 : i < bs.data.toList.length := by rw [Array.length_toList]; exact hi
    rw [List.drop_eq_getElem_cons hi2]
    congr 2
    show [bs.data[i]!] ++ _ = _
    rw [getElem!_pos bs.data i (by exact hi)]
    rfl
theorem toList_data (bs : ByteArray) : bs.toList = bs.data.toList := by
  rw [ByteArray.toList, toList_loop bs bs.size 0 [] (by omega)]; rfl
theorem alive3 : tallymanlaw03_alive.f = some true := by
  have ht : gauss_Text.f (-3) 4 = some ⟨#[45, 51, 44, 52]⟩ := by kernel_rfl
  have e : (⟨#[45, 51, 44, 52]⟩ : ByteArray).toList = [45, 51, 44, 52] := toList_data _
  have h1 : gauss_Mul.f 0 1 0 1 = some (-1, 0) := by kernel_rfl
  have h2 : gauss_Turn.f 1 0 1 = some (0, 1) := by kernel_rfl
  have h3 : gauss_Norm.f 3 4 = some 25 := by kernel_rfl
  unfold tallymanlaw03_alive.f
  rw [h1, h2, ht, h3]
  simp only [Option.bind_some]
  rw [e]
  rfl
end Go.Proofs.Ytbkcdfiokjhcjaa.Pure
