import Derived.Test.YtijhdhgfchodaaaB
import Derived.Test.YtijhdhgfchodaaaF17
import Derived.Test.YtijhdhgfchodaaaF18
import Derived.Test.YtijhdhgfchodaaaF19
import Derived.Test.YtijhdhgfchodaaaF20
import Derived.Test.YtijhdhgfchodaaaF21
import Derived.Test.YtijhdhgfchodaaaF22
import Derived.Test.YtijhdhgfchodaaaF23
import Derived.Test.YtijhdhgfchodaaaF25
import Derived.Test.YtijhdhgfchodaaaF27
set_option linter.unusedVariables false
set_option linter.unusedSimpArgs false
namespace Go.Proofs.Ytijhdhgfchodaaa.Pure
open Go.RowKit Go.Proofs.Ytijhdhgfchodaaa.P Go.Proofs.YtijhdhgfchodaaaW.PrintWords Go.Proofs.YtijhdhgfchodaaaW.PrintLast Go.Proofs.YtijhdhgfchodaaaW.PrintMore Go.Proofs.Ytijhdhgfchodaaa.B
theorem wf_i64ok {x : Int} (h : (Lit.int .i64 x).wf = true) : i64ok x := by have := wf_i64 h; unfold i64ok; omega
theorem mx0 (a b : Int) : a ≤ mx a b ∧ b ≤ mx a b ∧ (mx a b = a ∨ mx a b = b) := by unfold mx; split <;> omega
theorem mn0 (a b : Int) : mn a b ≤ a ∧ mn a b ≤ b ∧ (mn a b = a ∨ mn a b = b) := by unfold mn; split <;> omega
theorem w64 (x : Int) (h0 : -9223372036854775808 ≤ x) (h1 : x < 9223372036854775808) : wrap64 x = x := by unfold wrap64; omega
def lessV (a b : Int) : Int := mx (mx a 0 - mx b 0) 0
theorem less_code (a b : Int) (ha : i64ok a) (hb : i64ok b) : sat_Less.f a b = some (lessV a b) := by
  unfold sat_Less.f lessV
  unfold i64ok at ha hb
  have h1 := mx0 a 0; have h2 := mx0 b 0
  have h3 := mn0 (mx a 0) (mx b 0)
  have h4 := mx0 (mx a 0 - mx b 0) 0
  generalize mx a 0 = X at *
  generalize mx b 0 = Y at *
  rw [w64 _ (by omega) (by omega)]
  congr 1
  omega
theorem less_ref (a b : Int) (ha : i64ok a) (hb : i64ok b) : tallymanref02_Less.f a b = some (lessV a b) := by
  unfold tallymanref02_Less.f lessV
  unfold i64ok at ha hb
  have h1 := mx0 a 0; have h2 := mx0 b 0
  have h4 := mx0 (mx a 0 - mx b 0) 0
  generalize mx a 0 = X at *
  generalize mx b 0 = Y at *
  split
  · congr 1; omega
  · rw [w64 _ (by omega) (by omega)]
    congr 1
    omega
/-- How often the second number goes into the first one, rounded up. -/
def overV (a b : Int) : Int := if mx a 0 % mx b 1 = 0 then mx a 0 / mx b 1 else mx a 0 / mx b 1 + 1
theorem div_facts (X Y : Int) (hX : 0 ≤ X) (hY : 1 ≤ Y) : 0 ≤ X / Y ∧ X / Y ≤ X ∧ X / Y * Y ≤ X ∧ 0 ≤ X / Y * Y ∧ (X % Y = 0 ↔ ¬ X > X / Y * Y) ∧ (X % Y ≠ 0 → X / Y + 1 ≤ X) := by
  have h1 := Int.mul_ediv_add_emod X Y
  have h2 := Int.emod_nonneg X (b := Y) (by omega)
  have h3 := Int.emod_lt_of_pos X (b := Y) (by omega)
  have h4 : 0 ≤ X / Y := Int.ediv_nonneg hX (by omega)
  have h5 : X / Y * Y = Y * (X / Y) := Int.mul_comm _ _
  have h6 : 0 ≤ X / Y * Y := Int.mul_nonneg h4 (by omega)
  have h7 : X / Y * 1 ≤ X / Y * Y := Int.mul_le_mul_of_nonneg_left hY h4
  refine ⟨h4, by omega, by omega, h6, by omega, ?_⟩
  intro hn
  have h8 : Y ≠ 1 := by rintro rfl; simp at hn
  have h9 : X / Y * 2 ≤ X / Y * Y := Int.mul_le_mul_of_nonneg_left (by omega) h4
  rcases Int.lt_or_eq_of_le h4 with h | h
  · omega
  · rw [← h] at h1; omega
theorem over_code (a b : Int) (ha : i64ok a) (hb : i64ok b) : sat_Over.f a b = some (overV a b) := by
  unfold sat_Over.f overV sat_high.f
  unfold i64ok at ha hb
  have h1 := mx0 a 0; have h2 := mx0 b 1
  generalize mx a 0 = X at *
  generalize mx b 1 = Y at *
  obtain ⟨q0, q1, q2, q3, q4, q5⟩ := div_facts X Y (by omega) (by omega)
  rw [Option.bind_some]
  have e1 : IntKind.u64.wrap X = X := by rw [wrap_u64]; omega
  have e2 : IntKind.u64.wrap Y = Y := by rw [wrap_u64]; omega
  rw [e1, e2, Int.tdiv_eq_ediv_of_nonneg (by omega)]
  generalize X / Y = q at *
  have e3 : IntKind.u64.wrap q = q := by rw [wrap_u64]; omega
  rw [e3]
  generalize q * Y = p at *
  have e4 : IntKind.u64.wrap p = p := by rw [wrap_u64]; omega
  rw [e4, if_neg (by omega)]
  by_cases h : X % Y = 0
  · rw [if_neg (q4.1 h), if_pos h, w64 _ (by omega) (by omega)]
  · rw [if_pos (by have := mt q4.2 h; omega), if_neg h]
    have := q5 h
    rw [wrap_u64, show (q + 1) % 18446744073709551616 = q + 1 by omega, w64 _ (by omega) (by omega)]
theorem over_ref (a b : Int) (ha : i64ok a) (hb : i64ok b) : tallymanref02_Over.f a b = some (overV a b) := by
  unfold tallymanref02_Over.f overV
  unfold i64ok at ha hb
  have h1 := mx0 a 0; have h2 := mx0 b 1
  generalize mx a 0 = X at *
  generalize mx b 1 = Y at *
  obtain ⟨q0, q1, q2, q3, q4, q5⟩ := div_facts X Y (by omega) (by omega)
  rw [if_neg (by omega)]
  generalize X / Y = q at *
  have e3 : wrap64 q = q := w64 _ (by omega) (by omega)
  rw [e3]
  by_cases h : X % Y = 0
  · rw [if_pos h, if_pos h]
  · have := q5 h
    rw [if_neg h, if_neg h, w64 _ (by omega) (by omega)]
theorem alive_ok : tallymanlaw02_alive.f = some true := by decide +kernel
theorem clip_ref (a b c : Int) : sat_Clip.f a b c = tallymanref02_Clip.f a b c := by
  unfold sat_Clip.f tallymanref02_Clip.f mn
  split
  · rfl
  · split
    · rfl
    · rfl
theorem clip_some (a b c : Int) : ∃ v, tallymanref02_Clip.f a b c = some v := by
  unfold tallymanref02_Clip.f
  split
  · exact ⟨_, rfl⟩
  · split <;> exact ⟨_, rfl⟩
theorem add_code (m : Int) (l : List Int) (hm : i64ok m) (hl : ∀ x ∈ l, i64ok x) (hn : l.length < 9223372036854775807) : sat_Add.f m l = some (foldG (· + ·) (mx m 0) 0 l) := by
  unfold sat_Add.f
  rw [if_pos ⟨hm, hl, hn⟩]
theorem mul_code (m : Int) (l : List Int) (hm : i64ok m) (hl : ∀ x ∈ l, i64ok x) (hn : l.length < 9223372036854775807) : sat_Mul.f m l = some (if (∃ x ∈ l, x ≤ 0) then 0 else foldG (· * ·) (mx m 0) (mn 1 (mx m 0)) l) := by
  unfold sat_Mul.f
  rw [if_pos ⟨hm, hl, hn⟩]
theorem rd_get (l : List Int) (i : Nat) (h : i < l.length) : rd l (i : Int) = l[i] := by
  rw [rd, List.getD_eq_getElem?_getD, Int.toNat_natCast, List.getElem?_eq_getElem h]; rfl
theorem add_ref_l (l : List Int) (m : Int) (hm0 : 0 ≤ m) (hm : m < 9223372036854775808) (hl : ∀ x ∈ l, i64ok x) (hn : l.length < 9223372036854775807) :
    ∀ (n i : Nat) (s : Int), n = l.length - i → i ≤ l.length → 0 ≤ s → s ≤ m → Ev (fun k => tallymanref02_Add.l0 k l s m (i : Int)) (foldG (· + ·) m s (l.drop i)) := by
  intro n
  induction n with
  | zero =>
    intro i s h1 h2 h3 h4
    obtain rfl : i = l.length := by omega
    rw [List.drop_length, foldG]
    refine Ev.step (fun k => ?_) (Ev.now s)
    rw [tallymanref02_Add.l0, if_neg (by omega)]
  | succ n ih =>
    intro i s h1 h2 h3 h4
    have hlt : i < l.length := by omega
    rw [List.drop_eq_getElem_cons hlt, foldG]
    have hx := hl l[i] (List.getElem_mem hlt)
    generalize hxe : l[i] = x at *
    have hr : rd l (i : Int) = x := by rw [rd_get l i hlt, hxe]
    unfold i64ok at hx
    have hmx := mx0 x 0
    by_cases h : s + mx x 0 ≤ m
    · rw [if_pos h]
      refine Ev.step (fun k => ?_) (ih (i + 1) (s + mx x 0) (by omega) (by omega) (by omega) h)
      rw [tallymanref02_Add.l0, if_pos (by omega), if_pos (by omega), hr, w64 (m - s) (by omega) (by omega), if_neg (by omega), w64 _ (by omega) (by omega), w64 _ (by omega) (by omega)]
      rfl
    · rw [if_neg h]
      refine Ev.step (fun k => ?_) (Ev.now m)
      rw [tallymanref02_Add.l0, if_pos (by omega), if_pos (by omega), hr, w64 (m - s) (by omega) (by omega), if_pos (by omega)]
theorem add_ref (m : Int) (l : List Int) (hm : i64ok m) (hl : ∀ x ∈ l, i64ok x) (hn : l.length < 9223372036854775807) : Ev (fun k => tallymanref02_Add.f k m l) (foldG (· + ·) (mx m 0) 0 l) := by
  unfold tallymanref02_Add.f
  have := mx0 m 0
  unfold i64ok at hm
  exact add_ref_l l (mx m 0) (by omega) (by omega) hl hn l.length 0 0 (by omega) (by omega) (by omega) (by omega)
theorem mul_fit (m s x : Int) (hs : 1 ≤ s) (hx : 0 ≤ x) (hm : 0 ≤ m) : (x > m / s) ↔ ¬ (s * x ≤ m) := by
  have h1 := Int.mul_ediv_add_emod m s
  have h2 := Int.emod_nonneg m (b := s) (by omega)
  have h3 := Int.emod_lt_of_pos m (b := s) (by omega)
  constructor
  · intro h h4
    have h5 : s * (m / s + 1) ≤ s * x := Int.mul_le_mul_of_nonneg_left (by omega) (by omega)
    rw [Int.mul_add] at h5
    omega
  · intro h
    apply Int.lt_of_not_ge
    intro h4
    have h5 : s * x ≤ s * (m / s) := Int.mul_le_mul_of_nonneg_left h4 (by omega)
    omega
theorem mul_ref_l1 (l : List Int) (m : Int) (hm0 : 0 ≤ m) (hm : m < 9223372036854775808) (hl : ∀ x ∈ l, i64ok x) (hp : ∀ x ∈ l, 0 < x) (hn : l.length < 9223372036854775807) :
    ∀ (n i : Nat) (s : Int), n = l.length - i → i ≤ l.length → 1 ≤ s → s ≤ m → Ev (fun k => tallymanref02_Mul.l1 k l m s (i : Int)) (foldG (· * ·) m s (l.drop i)) := by
  intro n
  induction n with
  | zero =>
    intro i s h1 h2 h3 h4
    obtain rfl : i = l.length := by omega
    rw [List.drop_length, foldG]
    refine Ev.step (fun k => ?_) (Ev.now s)
    rw [tallymanref02_Mul.l1, if_neg (by omega)]
  | succ n ih =>
    intro i s h1 h2 h3 h4
    have hlt : i < l.length := by omega
    rw [List.drop_eq_getElem_cons hlt, foldG]
    have hx := hl l[i] (List.getElem_mem hlt)
    have hx1 := hp l[i] (List.getElem_mem hlt)
    generalize hxe : l[i] = x at *
    have hr : rd l (i : Int) = x := by rw [rd_get l i hlt, hxe]
    unfold i64ok at hx
    have hmx : mx x 0 = x := by unfold mx; split <;> omega
    rw [hmx]
    have hf := mul_fit m s x h3 (by omega) hm0
    have hq0 : 0 ≤ m / s := Int.ediv_nonneg hm0 (by omega)
    have hq1 : m / s ≤ m := Int.ediv_le_self _ hm0
    have hdiv : wrap64 (Int.tdiv m s) = m / s := by rw [Int.tdiv_eq_ediv_of_nonneg hm0]; exact w64 _ (by omega) (by omega)
    have hsx : s ≤ s * x := by have := Int.mul_le_mul_of_nonneg_left (a := 1) (b := x) (c := s) (by omega) (by omega); omega
    by_cases h : s * x ≤ m
    · rw [if_pos h]
      refine Ev.step (fun k => ?_) (ih (i + 1) (s * x) (by omega) (by omega) (by omega) h)
      rw [tallymanref02_Mul.l1, if_pos (by omega), if_pos (by omega), hr, if_neg (by omega), hdiv, if_neg (fun h' => hf.1 h' h), w64 _ (by omega) (by omega), w64 _ (by omega) (by omega)]
      rfl
    · rw [if_neg h]
      refine Ev.step (fun k => ?_) (Ev.now m)
      rw [tallymanref02_Mul.l1, if_pos (by omega), if_pos (by omega), hr, if_neg (by omega), hdiv, if_pos (hf.2 h)]
def mulV (m : Int) (l : List Int) : Int := if (∃ x ∈ l, x ≤ 0) then 0 else foldG (· * ·) (mx m 0) (mn 1 (mx m 0)) l
theorem foldG_zero (l : List Int) : foldG (· * ·) 0 0 l = 0 := by
  induction l with
  | nil => rfl
  | cons x l ih => rw [foldG]; simp only [Int.zero_mul, Int.le_refl, if_true]; exact ih
theorem mul_ref (m : Int) (l : List Int) (hm : i64ok m) (hl : ∀ x ∈ l, i64ok x) (hn : l.length < 9223372036854775807) : Ev (fun k => tallymanref02_Mul.f k m l) (mulV m l) := by
  unfold tallymanref02_Mul.f mulV
  have hM := mx0 m 0
  unfold i64ok at hm
  generalize mx m 0 = M at *
  have key : ∀ (n i : Nat), n = l.length - i → i ≤ l.length → (∀ x ∈ l.take i, 0 < x) → Ev (fun k => tallymanref02_Mul.l0 k l M (i : Int)) (if (∃ x ∈ l, x ≤ 0) then 0 else foldG (· * ·) M (mn 1 M) l) := by
    intro n
    induction n with
    | zero =>
      intro i h1 h2 h3
      obtain rfl : i = l.length := by omega
      rw [List.take_length] at h3
      rw [if_neg (by rintro ⟨x, hx, h⟩; have := h3 x hx; omega)]
      by_cases h0 : M = 0
      · subst h0
        rw [show mn 1 0 = 0 from rfl, foldG_zero]
        refine Ev.step (fun k => ?_) (Ev.now 0)
        rw [tallymanref02_Mul.l0, if_neg (by omega), if_pos rfl]
      · have h1 : mn 1 M = 1 := by unfold mn; split <;> omega
        rw [h1]
        refine Ev.step (fun k => ?_) (mul_ref_l1 l M (by omega) (by omega) hl h3 hn l.length 0 1 (by omega) (by omega) (by omega) (by omega))
        rw [tallymanref02_Mul.l0, if_neg (by omega), if_neg h0]
        rfl
    | succ n ih =>
      intro i h1 h2 h3
      have hlt : i < l.length := by omega
      have hr := rd_get l i hlt
      have hmem := List.getElem_mem hlt
      generalize hxe : l[i] = x at *
      by_cases hx : x ≤ 0
      · rw [if_pos ⟨x, hmem, hx⟩]
        refine Ev.step (fun k => ?_) (Ev.now 0)
        rw [tallymanref02_Mul.l0, if_pos (by omega), if_pos (by omega), hr, if_pos hx]
      · refine Ev.step (fun k => ?_) (ih (i + 1) (by omega) (by omega) ?_)
        · rw [tallymanref02_Mul.l0, if_pos (by omega), if_pos (by omega), hr, if_neg hx, w64 _ (by omega) (by omega)]
          rfl
        · intro y hy
          rw [List.take_succ_eq_append_getElem hlt, List.mem_append, List.mem_singleton, hxe] at hy
          rcases hy with hy | rfl
          · exact h3 y hy
          · omega
  exact key l.length 0 (by omega) (by omega) (by simp)
end Go.Proofs.Ytijhdhgfchodaaa.Pure
