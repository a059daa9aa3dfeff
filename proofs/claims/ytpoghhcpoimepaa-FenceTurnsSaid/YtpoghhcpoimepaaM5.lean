/- Several texts of this proof in one: what the law's functions come to, and the lemmas (some as the kit's print.sh printed them, what is not used struck). -/
import Derived.Test.YtpoghhcpoimepaaM3
import Derived.Test.YtpoghhcpoimepaaM4
import Derived.Test.YtpoghhcpoimepaaM2
import Derived.Scope
section
/- Fences: what the document's answers come to, and that they are the code's. -/
namespace Go.Proofs.Ytpoghhcpoimepaa.P
open Go.Proofs.Ytpoghhcpoimepaa.B Go.RowKit Go.Proofs.YtpoghhcpoimepaaW.PrintWords Go.Proofs.YtpoghhcpoimepaaW.PrintLast Go.Proofs.YtpoghhcpoimepaaW.PrintMore Go.Proofs.Ytpoghhcpoimepaa.FX Go.Proofs.Ytpoghhcpoimepaa.H
set_option linter.unusedVariables false
set_option linter.unusedSimpArgs false
theorem small_ref (p : S24) : tallymanref03_Small.f p.f0 p.f1 1048576 = some (decide (smallP p)) := by
  have e : ∀ n : Int, fx n = n ↔ -1048576 ≤ n ∧ n ≤ 1048576 := fun n => by unfold fx; split <;> split <;> omega
  have es : smallP p ↔ (-1048576 ≤ p.f0 ∧ p.f0 ≤ 1048576) ∧ (-1048576 ≤ p.f1 ∧ p.f1 ≤ 1048576) := by unfold smallP; rw [e, e]
  unfold tallymanref03_Small.f
  rw [show wrap64 (-1048576) = -1048576 from by unfold wrap64; omega]
  by_cases h1 : p.f0 ≥ -1048576
  · rw [if_pos h1]
    by_cases h2 : p.f0 ≤ 1048576
    · rw [if_pos h2]
      by_cases h3 : p.f1 ≥ -1048576
      · rw [if_pos h3]; exact congrArg some (decide_eq_decide.2 (by rw [es]; omega))
      · rw [if_neg h3]; exact congrArg some (decide_eq_false (by rw [es]; omega)).symm
    · rw [if_neg h2]; exact congrArg some (decide_eq_false (by rw [es]; omega)).symm
  · rw [if_neg h1]; exact congrArg some (decide_eq_false (by rw [es]; omega)).symm
theorem modnat (i n : Nat) : Int.tmod ((i : Int) + 1) (n : Int) = (((i + 1) % n : Nat) : Int) := by
  rw [Int.tmod_eq_emod_of_nonneg (by omega)]; rfl
theorem rdP (l : List S24) (i : Nat) (h : i < l.length) : rd_T24 l (i : Int) = atP l i := by unfold atP; rw [Nat.mod_eq_of_lt h]
theorem next_ref (l : List S24) (hl : l.length ≤ 1000) (i : Nat) (h : i < l.length) : tallymanref06_next.f l (i : Int) = some ((atP l (i + 1)).f0, (atP l (i + 1)).f1) := by
  unfold tallymanref06_next.f
  have := Nat.mod_lt (i + 1) (show 0 < l.length by omega)
  rw [n64 (by omega) (by omega), modnat, if_neg (by omega), if_pos (by omega), if_pos (by omega)]
  rfl
def levelP (a b : S24) : Prop := a.f1 = b.f1 ∧ a.f0 ≠ b.f0
def steepP (a b : S24) : Prop := a.f0 = b.f0 ∧ a.f1 ≠ b.f1
instance (a b : S24) : Decidable (levelP a b) := by unfold levelP; infer_instance
instance (a b : S24) : Decidable (steepP a b) := by unfold steepP; infer_instance
theorem steep_ref (l : List S24) (hl : l.length ≤ 1000) (i : Nat) (h : i < l.length) : tallymanref06_steep.f l (i : Int) = some (decide (steepP (atP l i) (atP l (i + 1)))) := by
  unfold tallymanref06_steep.f steepP
  rw [if_pos (by omega), if_pos (by omega), next_ref l hl i h, rdP l i h]
  simp only [Option.bind_some]
  by_cases h1 : (atP l i).f0 = (atP l (i + 1)).f0
  · rw [if_pos h1]; congr 1; rw [Bool.eq_iff_iff]; simp [h1]
  · rw [if_neg h1]; congr 1; symm; exact decide_eq_false (fun h => h1 h.1)
theorem level_ref (l : List S24) (hl : l.length ≤ 1000) (i : Nat) (h : i < l.length) : tallymanref06_level.f l (i : Int) = some (decide (levelP (atP l i) (atP l (i + 1)))) := by
  unfold tallymanref06_level.f levelP
  rw [if_pos (by omega), if_pos (by omega), next_ref l hl i h, rdP l i h]
  simp only [Option.bind_some]
  by_cases h1 : (atP l i).f1 = (atP l (i + 1)).f1
  · rw [if_pos h1]; congr 1; rw [Bool.eq_iff_iff]; simp [h1]
  · rw [if_neg h1]; congr 1; symm; exact decide_eq_false (fun h => h1 h.1)
/-- The document's two edges. -/
def turnP (o a b : S24) : Prop := (levelP o a ∧ steepP a b) ∨ (steepP o a ∧ levelP a b)
instance (o a b : S24) : Decidable (turnP o a b) := by unfold turnP; infer_instance
theorem turn_step (o a b : S24) : stepP o a b ↔ turnP o a b := by
  unfold stepP turnP levelP steepP
  constructor
  · rintro ⟨h1, h2, h3, h4⟩
    rcases Int.mul_eq_zero.1 h3 with h | h
    · rw [h, Int.zero_mul] at h4
      have h5 : (a.f1 - o.f1) * (b.f1 - a.f1) = 0 := by omega
      rcases Int.mul_eq_zero.1 h5 with h6 | h6 <;> omega
    · rw [h, Int.zero_mul] at h4
      have h5 : (a.f0 - o.f0) * (b.f0 - a.f0) = 0 := by omega
      rcases Int.mul_eq_zero.1 h5 with h6 | h6 <;> omega
  · rintro (⟨⟨h1, h2⟩, h3, h4⟩ | ⟨⟨h1, h2⟩, h3, h4⟩)
    · refine ⟨by omega, by omega, ?_, ?_⟩
      · rw [show a.f1 - o.f1 = 0 by omega, Int.mul_zero]
      · rw [show a.f1 - o.f1 = 0 by omega, show b.f0 - a.f0 = 0 by omega, Int.mul_zero, Int.zero_mul]; rfl
    · refine ⟨by omega, by omega, ?_, ?_⟩
      · rw [show a.f0 - o.f0 = 0 by omega, Int.zero_mul]
      · rw [show a.f0 - o.f0 = 0 by omega, show b.f1 - a.f1 = 0 by omega, Int.mul_zero, Int.zero_mul]; rfl
theorem atP_add (l : List S24) (j : Nat) : atP l (j + l.length) = atP l j := by unfold atP; rw [Nat.add_mod_right]
/-- The document's fence. -/
def RefP (l : List S24) : Prop := (4 ≤ l.length ∧ l.length ≤ 256) ∧ (∀ j, j < l.length → smallP (atP l j)) ∧ ∀ j, j < l.length → turnP (atP l j) (atP l (j + 1)) (atP l (j + 2))
theorem ref_right (l : List S24) : RefP l ↔ RightP l := by
  constructor
  · rintro ⟨hn, h1, h2⟩
    refine ⟨hn, fun j hj => ⟨h1 j hj, (turn_step _ _ _).2 ?_⟩⟩
    rcases Nat.eq_zero_or_pos j with rfl | h0
    · have := h2 (l.length - 1) (by omega)
      rw [show l.length - 1 + 1 = 0 + l.length by omega, show l.length - 1 + 2 = 0 + 1 + l.length by omega, atP_add, atP_add] at this
      rw [show 0 + l.length - 1 = l.length - 1 by omega]
      exact this
    · have := h2 (j - 1) (by omega)
      rw [show j - 1 + 1 = j by omega, show j - 1 + 2 = j + 1 by omega] at this
      rw [show j + l.length - 1 = j - 1 + l.length by omega, atP_add]
      exact this
  · rintro ⟨hn, h⟩
    refine ⟨hn, fun j hj => (h j hj).1, fun j hj => ?_⟩
    have hs : ∀ j, stepP (atP l (j % l.length + l.length - 1)) (atP l (j % l.length)) (atP l (j % l.length + 1)) := fun j => (h (j % l.length) (Nat.mod_lt _ (by omega))).2
    have := (turn_step _ _ _).1 (hs (j + 1))
    rcases Nat.lt_or_ge (j + 1) l.length with hlt | hge
    · rw [Nat.mod_eq_of_lt hlt, show j + 1 + l.length - 1 = j + l.length by omega, atP_add] at this
      exact this
    · obtain rfl : j = l.length - 1 := by omega
      rw [show l.length - 1 + 1 = l.length by omega, Nat.mod_self] at this
      rw [show l.length - 1 + 1 = 0 + l.length by omega, show l.length - 1 + 2 = 0 + 1 + l.length by omega, atP_add, atP_add, show l.length - 1 = 0 + l.length - 1 by omega]
      exact this
theorem all_from (l : List S24) (P : Nat → Prop) (n i : Nat) (hi : i < n) : (∀ j, i ≤ j → j < n → P j) ↔ P i ∧ ∀ j, i + 1 ≤ j → j < n → P j := by
  constructor
  · intro h; exact ⟨h i (Nat.le_refl _) hi, fun j h1 h2 => h j (by omega) h2⟩
  · rintro ⟨h0, h⟩ j h1 h2
    rcases Nat.eq_or_lt_of_le h1 with rfl | h3
    · exact h0
    · exact h j h3 h2
open Classical in
theorem l1_ref (l : List S24) (hl : l.length ≤ 256) (h4 : 4 ≤ l.length) : ∀ (d i : Nat), i + d = l.length → Ev (fun k => tallymanref06_Right.l1 k l (i : Int)) (decide (∀ j, i ≤ j → j < l.length → turnP (atP l j) (atP l (j + 1)) (atP l (j + 2)))) := by
  intro d
  induction d with
  | zero =>
    intro i hi
    rw [decide_eq_true (fun j h1 h2 => by omega)]
    exact Ev.step (fun k => by rw [tallymanref06_Right.l1, if_neg (by omega)]) (Ev.now _)
  | succ d ih =>
    intro i hi
    have hlt : i < l.length := by omega
    have hm := Nat.mod_lt (i + 1) (show 0 < l.length by omega)
    have m1 : atP l ((i + 1) % l.length) = atP l (i + 1) := atP_mod l _
    have m2 : atP l ((i + 1) % l.length + 1) = atP l (i + 2) := by
      unfold atP; rw [Nat.mod_add_mod]
    have e1 : decide (∀ j, i ≤ j → j < l.length → turnP (atP l j) (atP l (j + 1)) (atP l (j + 2))) = (decide (turnP (atP l i) (atP l (i + 1)) (atP l (i + 2))) && decide (∀ j, i + 1 ≤ j → j < l.length → turnP (atP l j) (atP l (j + 1)) (atP l (j + 2)))) := by
      rw [Bool.eq_iff_iff, Bool.and_eq_true, decide_eq_true_iff, decide_eq_true_iff, decide_eq_true_iff]
      exact all_from l _ _ i hlt
    rw [e1]
    have ih' := ih (i + 1) (by omega)
    generalize decide (∀ j, i + 1 ≤ j → j < l.length → turnP (atP l j) (atP l (j + 1)) (atP l (j + 2))) = r at ih' ⊢
    have hs : ∀ k, tallymanref06_Right.l1 (k + 1) l (i : Int) = if decide (turnP (atP l i) (atP l (i + 1)) (atP l (i + 2))) = true then tallymanref06_Right.l1 k l ((i + 1 : Nat) : Int) else some false := by
      intro k
      rw [tallymanref06_Right.l1, if_pos (by omega), if_neg (by omega), n64 (by omega) (by omega), modnat, level_ref l (by omega) i hlt, steep_ref l (by omega) i hlt, level_ref l (by omega) _ hm, steep_ref l (by omega) _ hm, m1, m2]
      simp only [Option.bind_some]
      unfold turnP
      by_cases a1 : levelP (atP l i) (atP l (i + 1)) <;> by_cases a2 : steepP (atP l i) (atP l (i + 1)) <;> by_cases a3 : levelP (atP l (i + 1)) (atP l (i + 2)) <;> by_cases a4 : steepP (atP l (i + 1)) (atP l (i + 2)) <;> simp [a1, a2, a3, a4]
    by_cases ht : turnP (atP l i) (atP l (i + 1)) (atP l (i + 2))
    · rw [decide_eq_true ht, Bool.true_and]
      exact Ev.step (fun k => by rw [hs k, decide_eq_true ht, if_pos rfl]) ih'
    · rw [decide_eq_false ht, Bool.false_and]
      exact Ev.step (fun k => by rw [hs k, decide_eq_false ht, if_neg Bool.false_ne_true]) (Ev.now _)
open Classical in
theorem l0_ref (l : List S24) (hl : l.length ≤ 256) (h4 : 4 ≤ l.length) : ∀ (d i : Nat), i + d = l.length → Ev (fun k => tallymanref06_Right.l0 k l (i : Int)) (decide ((∀ j, i ≤ j → j < l.length → smallP (atP l j)) ∧ ∀ j, 0 ≤ j → j < l.length → turnP (atP l j) (atP l (j + 1)) (atP l (j + 2)))) := by
  intro d
  induction d with
  | zero =>
    intro i hi
    have := l1_ref l hl h4 l.length 0 (by omega)
    have e : decide ((∀ j, i ≤ j → j < l.length → smallP (atP l j)) ∧ ∀ j, 0 ≤ j → j < l.length → turnP (atP l j) (atP l (j + 1)) (atP l (j + 2))) = decide (∀ j, 0 ≤ j → j < l.length → turnP (atP l j) (atP l (j + 1)) (atP l (j + 2))) := by
      rw [Bool.eq_iff_iff, decide_eq_true_iff, decide_eq_true_iff]
      exact ⟨fun h => h.2, fun h => ⟨fun j h1 h2 => by omega, h⟩⟩
    rw [e]
    exact Ev.step (fun k => by rw [tallymanref06_Right.l0, if_neg (by omega)]; rfl) this
  | succ d ih =>
    intro i hi
    have hlt : i < l.length := by omega
    have ih' := ih (i + 1) (by omega)
    by_cases hs : smallP (atP l i)
    · have e : decide ((∀ j, i ≤ j → j < l.length → smallP (atP l j)) ∧ ∀ j, 0 ≤ j → j < l.length → turnP (atP l j) (atP l (j + 1)) (atP l (j + 2))) = decide ((∀ j, i + 1 ≤ j → j < l.length → smallP (atP l j)) ∧ ∀ j, 0 ≤ j → j < l.length → turnP (atP l j) (atP l (j + 1)) (atP l (j + 2))) := by
        rw [Bool.eq_iff_iff, decide_eq_true_iff, decide_eq_true_iff, all_from l (fun j => smallP (atP l j)) _ i hlt]
        exact ⟨fun h => ⟨h.1.2, h.2⟩, fun h => ⟨⟨hs, h.1⟩, h.2⟩⟩
      rw [e]
      refine Ev.step (fun k => ?_) ih'
      rw [tallymanref06_Right.l0, if_pos (by omega), if_pos (by omega), rdP l i hlt, small_ref, decide_eq_true hs, Option.bind_some, if_pos rfl, n64 (by omega) (by omega)]
      rfl
    · rw [decide_eq_false (fun h => hs (h.1 i (Nat.le_refl _) hlt))]
      refine Ev.step (fun k => ?_) (Ev.now _)
      rw [tallymanref06_Right.l0, if_pos (by omega), if_pos (by omega), rdP l i hlt, small_ref, decide_eq_false hs, Option.bind_some, if_neg Bool.false_ne_true]
open Classical in
theorem right_ref (l : List S24) : Ev (fun k => tallymanref06_Right.f k l) (decide (RightP l)) := by
  unfold tallymanref06_Right.f
  by_cases h4 : (l.length : Int) < 4
  · have e : decide (RightP l) = false := decide_eq_false (fun h => by have := h.1; omega)
    rw [e]
    refine Ev.congr (fun k => if_pos h4) ?_
    exact Ev.step (fun k => by rw [tallymanref06_Right.j0, if_pos rfl]) (Ev.now _)
  · refine Ev.congr (fun k => if_neg h4) ?_
    by_cases h5 : (l.length : Int) > 256
    · have e : decide (RightP l) = false := decide_eq_false (fun h => by have := h.1; omega)
      rw [e]
      exact Ev.step (fun k => by rw [tallymanref06_Right.j0, if_pos (decide_eq_true h5)]) (Ev.now _)
    · have h0 := l0_ref l (by omega) (by omega) l.length 0 (by omega)
      have e : decide (RightP l) = decide ((∀ j, 0 ≤ j → j < l.length → smallP (atP l j)) ∧ ∀ j, 0 ≤ j → j < l.length → turnP (atP l j) (atP l (j + 1)) (atP l (j + 2))) := by
        rw [Bool.eq_iff_iff, decide_eq_true_iff, decide_eq_true_iff, ← ref_right]
        exact ⟨fun h => ⟨fun j _ => h.2.1 j, fun j _ => h.2.2 j⟩, fun h => ⟨by omega, fun j hj => h.1 j (by omega) hj, fun j hj => h.2 j (by omega) hj⟩⟩
      rw [e]
      refine Ev.step (fun k => ?_) h0
      rw [tallymanref06_Right.j0, if_neg (fun h => h5 (of_decide_eq_true h))]
      rfl
end Go.Proofs.Ytpoghhcpoimepaa.P
end
section
-- printed by the session's own call of print.py. Not trusted: Lean checks it.
namespace Go.Proofs.Ytpoghhcpoimepaa.P
open Go.RowKit Go.Proofs.YtpoghhcpoimepaaW.PrintWords Go.Proofs.YtpoghhcpoimepaaW.PrintLast Go.Proofs.YtpoghhcpoimepaaW.PrintMore
attribute [local go_sem] max2_int min2_int max_two min_two max_three min_three max_four min_four
set_option linter.unusedVariables false
set_option linter.unusedSimpArgs false
/-! ### tallymanlaw06_FenceMeasures: function 3 -/
def tallymanlaw06_FenceMeasures.f (k : Nat) (l0 : List (S24)) (a1_0 : Int) (a1_1 : Int) : Option (Bool) := if (l0.length : Int) > 300 then ((tallymanlaw06_alive.f).bind fun t102 => (some t102)) else ((fence_Area.f l0).bind fun t103 => ((tallymanref06_Area.f k l0).bind fun t104 => (if t103 = t104 then ((fence_Cell.f l0 a1_0 a1_1).bind fun t105 => ((tallymanref06_Cell.f k l0 a1_0 a1_1).bind fun t106 => (if t105 = t106 then ((tallymanlaw06_alive.f).bind fun t107 => (some t107)) else (some false)))) else (some false))))
theorem tallymanlaw06_FenceMeasures.mono : ∀ a0 a1 a2 k, LeO (tallymanlaw06_FenceMeasures.f k a0 a1 a2) (tallymanlaw06_FenceMeasures.f (k + 1) a0 a1 a2) := by
  intro a0 a1 a2 k
  unfold tallymanlaw06_FenceMeasures.f
  repeat' first
      | (with_reducible exact tallymanref06_Area.mono _ _)
      | (with_reducible exact tallymanref06_Cell.mono _ _ _ _)
      | (with_reducible exact LeO.refl _)
      | (with_reducible exact LeO.none _)
      | (with_reducible refine LeO.ite ?_ ?_)
      | (with_reducible refine LeO.bind ?_ (fun _ => ?_))
      | exact tallymanref06_Area.mono _ _
      | exact tallymanref06_Cell.mono _ _ _ _
      | exact LeO.none _
      | refine LeO.ite ?_ ?_
      | refine LeO.bind ?_ (fun _ => ?_)
end Go.Proofs.Ytpoghhcpoimepaa.P
end
section
/- Fences: areas and cells; the law FenceMeasures. -/
namespace Go.Proofs.Ytpoghhcpoimepaa.P
open Go.Proofs.Ytpoghhcpoimepaa.B Go.RowKit Go.Proofs.YtpoghhcpoimepaaW.PrintWords Go.Proofs.YtpoghhcpoimepaaW.PrintLast Go.Proofs.YtpoghhcpoimepaaW.PrintMore Go.Proofs.Ytpoghhcpoimepaa.FX Go.Proofs.Ytpoghhcpoimepaa.H
set_option linter.unusedVariables false
set_option linter.unusedSimpArgs false
set_option maxRecDepth 100000 in
theorem alive06 : tallymanlaw06_alive.f = some true := by decide +kernel
end Go.Proofs.Ytpoghhcpoimepaa.P
end
section
/- fence.Box. -/
namespace Go.Proofs.Ytpoghhcpoimepaa.P
open Go.Proofs.Ytpoghhcpoimepaa.B Go.RowKit Go.Proofs.YtpoghhcpoimepaaW.PrintWords Go.Proofs.YtpoghhcpoimepaaW.PrintLast Go.Proofs.YtpoghhcpoimepaaW.PrintMore Go.Proofs.Ytpoghhcpoimepaa.FX Go.Proofs.Ytpoghhcpoimepaa.H
set_option linter.unusedVariables false
set_option linter.unusedSimpArgs false
attribute [local go_sem] max2_int min2_int max_two min_two
/-- The least and the greatest parts of the first points. -/
def bxT (l : List S24) : Nat → S24 × S24
  | 0 => (⟨0, 0⟩, ⟨0, 0⟩)
  | 1 => (atP l 0, atP l 0)
  | i + 2 => (⟨mn (bxT l (i + 1)).1.f0 (atP l (i + 1)).f0, mn (bxT l (i + 1)).1.f1 (atP l (i + 1)).f1⟩, ⟨mx (bxT l (i + 1)).2.f0 (atP l (i + 1)).f0, mx (bxT l (i + 1)).2.f1 (atP l (i + 1)).f1⟩)
theorem bxT_succ (l : List S24) (i : Nat) (h : 1 ≤ i) : bxT l (i + 1) = (⟨mn (bxT l i).1.f0 (atP l i).f0, mn (bxT l i).1.f1 (atP l i).f1⟩, ⟨mx (bxT l i).2.f0 (atP l i).f0, mx (bxT l i).2.f1 (atP l i).f1⟩) := by
  obtain ⟨k, rfl⟩ : ∃ k, i = k + 1 := ⟨i - 1, by omega⟩
  rfl
structure BxQ (w0 : World) (g4 g5 : Nat) (lx ly hx hy : Int) (w' : World) : Prop where
  r1 : w'.heap[w0.heap.size]? = some (.cells #[.int .i64 0, .int .i64 0] 24 (0, 0))
  r2 : w'.heap[w0.heap.size + 1]? = some (.cells #[.int .i64 0, .int .i64 0] 24 (0, 0))
  b4 : w'.heap[g4]? = some (.cells #[.int .i64 lx, .int .i64 ly] 24 (0, 0))
  b5 : w'.heap[g5]? = some (.cells #[.int .i64 hx, .int .i64 hy] 24 (0, 0))
  hB : Below w0.heap.size w0 w'
  n4 : w0.heap.size + 1 < g4
  n5 : w0.heap.size + 1 < g5
  ne : g4 ≠ g5
theorem BxQ.drew {w0 : World} {g4 g5 : Nat} {lx ly hx hy : Int} {w' : World} (h : BxQ w0 g4 g5 lx ly hx hy w') : BxQ w0 g4 g5 lx ly hx hy w'.drew := ⟨h.r1, h.r2, h.b4, h.b5, below_drew h.hB, h.n4, h.n5, h.ne⟩
abbrev BxS (w0 : World) (ad : Addr) (x y : Int) (w' : World) : Prop := Aside0 (w'.heap[w0.heap.size]? = some (.cells #[.int .i64 0, .int .i64 0] 24 (0, 0))) ∧ Aside0 (w'.heap[w0.heap.size + 1]? = some (.cells #[.int .i64 0, .int .i64 0] 24 (0, 0))) ∧ Aside0 (Below w0.heap.size w0 w') ∧ Aside0 (ad.block < w0.heap.size) ∧ w'.cell? ad = some (.int .i64 x) ∧ w'.cell? ⟨ad.block, ad.off + 1, none⟩ = some (.int .i64 y)
theorem BxS.mk {w0 : World} {ad : Addr} {x y : Int} {w' : World} (h0 : w'.heap[w0.heap.size]? = some (.cells #[.int .i64 0, .int .i64 0] 24 (0, 0))) (h1 : w'.heap[w0.heap.size + 1]? = some (.cells #[.int .i64 0, .int .i64 0] 24 (0, 0))) (hB : Below w0.heap.size w0 w') (x0 : w0.cell? ad = some (.int .i64 x)) (x1 : w0.cell? ⟨ad.block, ad.off + 1, none⟩ = some (.int .i64 y)) : BxS w0 ad x y w' :=
  ⟨⟨h0⟩, ⟨h1⟩, ⟨hB⟩, ⟨World.block_lt_of_cell? _ _ x0⟩, (hB.cell (World.block_lt_of_cell? _ _ x0)).trans x0, (hB.cell (World.block_lt_of_cell? _ _ x1)).trans x1⟩
theorem BxS.keep {w0 : World} {ad : Addr} {x y : Int} {w1 w2 : World} (h : BxS w0 ad x y w1) (hb : Below w1.heap.size w1 w2) : BxS w0 ad x y w2 :=
  ⟨⟨blk_keep h.1.out hb⟩, ⟨blk_keep h.2.1.out hb⟩, ⟨below_step h.2.2.1.out hb⟩, h.2.2.2.1, (hb.cell (World.block_lt_of_cell? _ _ h.2.2.2.2.1)).trans h.2.2.2.2.1, (hb.cell (World.block_lt_of_cell? _ _ h.2.2.2.2.2)).trans h.2.2.2.2.2⟩
theorem BxS.drew {w0 : World} {ad : Addr} {x y : Int} {w1 : World} (h : BxS w0 ad x y w1) : BxS w0 ad x y w1.drew := BxS.keep h (below_drew (Below.refl _ _))
theorem cell_far10 {W : World} {a p : Addr} (h : p.block ≠ a.block) (v : Value) : (W.setCell a v).cell? p = W.cell? p := World.cell?_of_block (w := W) (Below.heap_setCell W a v p.block h)
theorem BxS.set {w0 : World} {ad : Addr} {x y : Int} {w1 : World} (h : BxS w0 ad x y w1) {g : Nat} (hg : w0.heap.size + 1 < g) (i : Nat) (v : Value) : BxS w0 ad x y (w1.setCell ⟨g, i, none⟩ v) :=
  ⟨⟨far1 h.1.out (by omega) i v⟩, ⟨far1 h.2.1.out (by omega) i v⟩, ⟨below_set h.2.2.1.out (by omega)⟩, h.2.2.2.1, (cell_far10 (by have := h.2.2.2.1.out; simp only []; omega) v).trans h.2.2.2.2.1, (cell_far10 (by have := h.2.2.2.1.out; simp only []; omega) v).trans h.2.2.2.2.2⟩
def fence_Box.f (l0 : List (S24)) : Option (Int × Int × Int × Int) := some ((bxT l0 l0.length).1.f0, (bxT l0 l0.length).1.f1, (bxT l0 l0.length).2.f0, (bxT l0 l0.length).2.f1)
end Go.Proofs.Ytpoghhcpoimepaa.P
end
section
/- Fences: the cells of a box, together, are the area. -/
namespace Go.Proofs.Ytpoghhcpoimepaa.P
open Go.Proofs.Ytpoghhcpoimepaa.B Go.RowKit Go.Proofs.YtpoghhcpoimepaaW.PrintWords Go.Proofs.YtpoghhcpoimepaaW.PrintLast Go.Proofs.YtpoghhcpoimepaaW.PrintMore Go.Proofs.Ytpoghhcpoimepaa.FX Go.Proofs.Ytpoghhcpoimepaa.H
set_option linter.unusedVariables false
set_option linter.unusedSimpArgs false
theorem sumTo_congr {f g : Nat → Int} : ∀ n, (∀ j, j < n → f j = g j) → sumTo f n = sumTo g n := by
  intro n
  induction n with
  | zero => intro _; rfl
  | succ n ih => intro h; rw [sumTo, sumTo, ih (fun j hj => h j (by omega)), h n (by omega)]
theorem sumTo_add (f g : Nat → Int) : ∀ n, sumTo (fun j => f j + g j) n = sumTo f n + sumTo g n := by
  intro n
  induction n with
  | zero => rfl
  | succ n ih => rw [sumTo, sumTo, sumTo, ih]; omega
theorem sumTo_mul (c : Int) (f : Nat → Int) : ∀ n, sumTo (fun j => c * f j) n = c * sumTo f n := by
  intro n
  induction n with
  | zero => simp [sumTo]
  | succ n ih => rw [sumTo, sumTo, ih, Int.mul_add]
theorem sumTo_tel (u : Nat → Int) : ∀ n, sumTo (fun j => u (j + 1) - u j) n = u n - u 0 := by
  intro n
  induction n with
  | zero => simp only [sumTo]; omega
  | succ n ih => rw [sumTo, ih]; omega
def stp (x t : Int) : Int := if x < t then 1 else 0
theorem cellS_stp (a b : S24) (x y : Int) : cellS a.f0 a.f1 b.f0 b.f1 x y = if a.f1 = b.f1 then stp y a.f1 * (stp x a.f0 - stp x b.f0) else 0 := by
  have M := mnx a.f0 b.f0
  have X := mxx a.f0 b.f0
  unfold cellS stp
  generalize (if b.f0 < a.f0 then b.f0 else a.f0) = m1 at *
  generalize (if a.f0 < b.f0 then b.f0 else a.f0) = m2 at *
  (repeat' split) <;> omega
theorem bx_in (l : List S24) (n : Nat) (hn : n ≤ l.length) (j : Nat) (hj : j < n) : ((bxT l n).1.f0 ≤ (atP l j).f0 ∧ (atP l j).f0 ≤ (bxT l n).2.f0) ∧ ((bxT l n).1.f1 ≤ (atP l j).f1 ∧ (atP l j).f1 ≤ (bxT l n).2.f1) := by
  induction n with
  | zero => omega
  | succ n ih =>
    rcases Nat.eq_zero_or_pos n with rfl | h0
    · obtain rfl : j = 0 := by omega
      exact ⟨⟨Int.le_refl _, Int.le_refl _⟩, Int.le_refl _, Int.le_refl _⟩
    · rw [bxT_succ l n h0]
      simp only []
      have c1 : ∀ a b : Int, mn a b ≤ a ∧ mn a b ≤ b := fun a b => by unfold mn; split <;> omega
      have c2 : ∀ a b : Int, a ≤ mx a b ∧ b ≤ mx a b := fun a b => by unfold mx; split <;> omega
      have d1 := c1 (bxT l n).1.f0 (atP l n).f0
      have d2 := c1 (bxT l n).1.f1 (atP l n).f1
      have d3 := c2 (bxT l n).2.f0 (atP l n).f0
      have d4 := c2 (bxT l n).2.f1 (atP l n).f1
      rcases Nat.lt_succ_iff_lt_or_eq.1 hj with hj | rfl
      · have := ih (by omega) hj
        omega
      · omega
theorem atP_n (l : List S24) : atP l l.length = atP l 0 := by have := atP_add l 0; rwa [Nat.zero_add] at this
theorem in_box {l : List S24} (hR : RightP l) (j : Nat) : ((bxT l l.length).1.f0 ≤ (atP l j).f0 ∧ (atP l j).f0 ≤ (bxT l l.length).2.f0) ∧ ((bxT l l.length).1.f1 ≤ (atP l j).f1 ∧ (atP l j).f1 ≤ (bxT l l.length).2.f1) := by
  have := bx_in l l.length (Nat.le_refl _) (j % l.length) (Nat.mod_lt _ (by have := hR.1; omega))
  rwa [atP_mod] at this
end Go.Proofs.Ytpoghhcpoimepaa.P
end
section
/- Fences and motions (plain). -/
namespace Go.Proofs.Ytpoghhcpoimepaa.P
open Go.Proofs.Ytpoghhcpoimepaa.B Go.RowKit Go.Proofs.YtpoghhcpoimepaaW.PrintWords Go.Proofs.YtpoghhcpoimepaaW.PrintLast Go.Proofs.YtpoghhcpoimepaaW.PrintMore Go.Proofs.Ytpoghhcpoimepaa.FX Go.Proofs.Ytpoghhcpoimepaa.H
set_option linter.unusedVariables false
set_option linter.unusedSimpArgs false
/-- A point as so many quarters and a shift bring it. -/
def mvP (q : Nat) (cx cy : Int) (p : S24) : S24 :=
  if q = 0 then ⟨p.f0 + cx, p.f1 + cy⟩ else if q = 1 then ⟨cx - p.f1, p.f0 + cy⟩ else if q = 2 then ⟨cx - p.f0, cy - p.f1⟩ else ⟨p.f1 + cx, cy - p.f0⟩
theorem atP_map (l : List S24) (f : S24 → S24) (h0 : 0 < l.length) (j : Nat) : atP (l.map f) j = f (atP l j) := by
  have hm := Nat.mod_lt j h0
  rw [← atP_mod (l.map f) j, ← atP_mod l j, List.length_map, atP_get (l.map f) _ (by rw [List.length_map]; exact hm), atP_get l _ hm, List.getElem_map]
theorem turn_mv (q : Nat) (cx cy : Int) (o a b : S24) (h : turnP o a b) : turnP (mvP q cx cy o) (mvP q cx cy a) (mvP q cx cy b) := by
  unfold turnP levelP steepP mvP at *
  split
  · simp only []; omega
  · split
    · simp only []; omega
    · split <;> (simp only []; omega)
theorem crs_mv (q : Nat) (cx cy : Int) (a b : S24) : crs (mvP q cx cy a) (mvP q cx cy b) = crs a b + ((cx * (mvP q 0 0 b).f1 - cy * (mvP q 0 0 b).f0) - (cx * (mvP q 0 0 a).f1 - cy * (mvP q 0 0 a).f0)) := by
  obtain ⟨a0, a1⟩ := a
  obtain ⟨b0, b1⟩ := b
  have c1 := Int.mul_comm cx cy
  have c2 := Int.mul_comm cx a0
  have c3 := Int.mul_comm cx a1
  have c4 := Int.mul_comm cx b0
  have c5 := Int.mul_comm cx b1
  have c6 := Int.mul_comm cy a0
  have c7 := Int.mul_comm cy a1
  have c8 := Int.mul_comm cy b0
  have c9 := Int.mul_comm cy b1
  have d1 := Int.mul_comm a0 b1
  have d2 := Int.mul_comm a1 b0
  unfold crs mvP
  split
  · simp only [Int.add_mul, Int.mul_add, Int.add_zero]; omega
  · split
    · simp only [Int.add_mul, Int.mul_add, Int.sub_mul, Int.mul_sub, Int.add_zero, Int.zero_sub, Int.mul_neg, Int.neg_mul]; omega
    · split <;> (simp only [Int.add_mul, Int.mul_add, Int.sub_mul, Int.mul_sub, Int.add_zero, Int.zero_sub, Int.mul_neg, Int.neg_mul]; omega)
theorem right_mv {l : List S24} (hR : RightP l) (q : Nat) (cx cy : Int) (hs : ∀ j, smallP (mvP q cx cy (atP l j))) : RightP (l.map (mvP q cx cy)) := by
  have hn := hR.1
  have h0 : 0 < l.length := by omega
  refine ⟨by rw [List.length_map]; exact hn, fun j hj => ?_⟩
  rw [List.length_map] at hj ⊢
  rw [atP_map l _ h0, atP_map l _ h0, atP_map l _ h0]
  exact ⟨hs j, (turn_step _ _ _).2 (turn_mv q cx cy _ _ _ ((turn_step _ _ _).1 (hR.2 j hj).2))⟩
theorem area_mv {l : List S24} (hR : RightP l) (q : Nat) (cx cy : Int) (hs : ∀ j, smallP (mvP q cx cy (atP l j))) : areaV (l.map (mvP q cx cy)) = areaV l := by
  have h0 : 0 < l.length := by have := hR.1; omega
  unfold areaV
  rw [if_pos (right_mv hR q cx cy hs), if_pos hR, List.length_map]
  congr 1
  rw [sumTo_congr _ (fun j _ => by rw [atP_map l _ h0, atP_map l _ h0, crs_mv]), sumTo_add, sumTo_tel (fun j => cx * (mvP q 0 0 (atP l j)).f1 - cy * (mvP q 0 0 (atP l j)).f0), atP_n]
  omega
end Go.Proofs.Ytpoghhcpoimepaa.P
end
