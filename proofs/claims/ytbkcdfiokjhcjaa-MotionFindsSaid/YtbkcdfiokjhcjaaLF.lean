/- Motions of small parts: what brings two points to two others, which point stays, and how often a motion must be done. -/
import Derived.Test.YtbkcdfiokjhcjaaM21
import Derived.Test.YtbkcdfiokjhcjaaLM
namespace Go.Proofs.Ytbkcdfiokjhcjaa.P
open Go.Proofs.Ytbkcdfiokjhcjaa.B Go.RowKit Go.Proofs.YtbkcdfiokjhcjaaW.PrintWords Go.Proofs.YtbkcdfiokjhcjaaW.PrintLast Go.Proofs.YtbkcdfiokjhcjaaW.PrintMore
set_option linter.unusedVariables false
set_option linter.unusedSimpArgs false
theorem hit_iff (P Q R S : Int × Int) (k : Nat) : (hit1 P Q R S k = true ∧ hit2 P Q R S k = true) ↔ cm (Q.1 - P.1, Q.2 - P.2) (ip k) = (S.1 - R.1, S.2 - R.2) := by
  unfold hit1 hit2
  rw [beq_iff_eq, beq_iff_eq, Prod.ext_iff]
/-- The first quarter that fits. -/
theorem btwFrom_spec (P Q R S : Int × Int) : ∀ (n k α : Nat), k ≤ α → α < k + n → (hit1 P Q R S α = true ∧ hit2 P Q R S α = true) →
    ∃ j, k ≤ j ∧ j ≤ α ∧ (hit1 P Q R S j = true ∧ hit2 P Q R S j = true) ∧ btwFrom P Q R S k n = ((j : Int), R.1 - (cm P (ip j)).1, R.2 - (cm P (ip j)).2, true) := by
  intro n
  induction n with
  | zero => intro k α h1 h2 h3; omega
  | succ n ih =>
    intro k α h1 h2 h3
    by_cases hk : hit1 P Q R S k = true ∧ hit2 P Q R S k = true
    · exact ⟨k, Nat.le_refl _, h1, hk, by rw [btwFrom, if_pos hk]⟩
    · have : k ≠ α := fun e => hk (e ▸ h3)
      obtain ⟨j, a, b, c, d⟩ := ih (k + 1) α (by omega) (by omega) h3
      exact ⟨j, by omega, b, c, by rw [btwFrom, if_neg hk, d]⟩
theorem cm_inj (d1 d2 : Int) (j α : Nat) (hj : j < 4) (hα : α < 4) (h : cm (d1, d2) (ip j) = cm (d1, d2) (ip α)) : j = α ∨ (d1 = 0 ∧ d2 = 0) := by
  have h1 := congrArg Prod.fst h
  have h2 := congrArg Prod.snd h
  rcases four j hj with rfl | rfl | rfl | rfl <;> rcases four α hα with rfl | rfl | rfl | rfl <;> simp [cm, ip] at h1 h2 ⊢ <;> omega
theorem sub_cm (P Q B : Int × Int) (α : Nat) (hα : α < 4) : cm (Q.1 - P.1, Q.2 - P.2) (ip α) = ((thenP Q.1 Q.2 α B.1 B.2).1 - (thenP P.1 P.2 α B.1 B.2).1, (thenP Q.1 Q.2 α B.1 B.2).2 - (thenP P.1 P.2 α B.1 B.2).2) := by
  rcases four α hα with rfl | rfl | rfl | rfl <;> simp [thenP, cm, ip] <;> omega
/-- What Between tells of two points and of where a motion brings them. -/
theorem btw_small (P Q B : Int × Int) (α : Nat) (hα : α < 4) : ∃ j : Nat, j < 4 ∧ btwFrom P Q (thenP P.1 P.2 α B.1 B.2) (thenP Q.1 Q.2 α B.1 B.2) 0 4 = ((j : Int), (thenP P.1 P.2 α B.1 B.2).1 - (cm P (ip j)).1, (thenP P.1 P.2 α B.1 B.2).2 - (cm P (ip j)).2, true) ∧
    thenP P.1 P.2 j ((thenP P.1 P.2 α B.1 B.2).1 - (cm P (ip j)).1) ((thenP P.1 P.2 α B.1 B.2).2 - (cm P (ip j)).2) = thenP P.1 P.2 α B.1 B.2 ∧
    thenP Q.1 Q.2 j ((thenP P.1 P.2 α B.1 B.2).1 - (cm P (ip j)).1) ((thenP P.1 P.2 α B.1 B.2).2 - (cm P (ip j)).2) = thenP Q.1 Q.2 α B.1 B.2 ∧
    (¬ (P.1 = Q.1 ∧ P.2 = Q.2) → j = α ∧ (thenP P.1 P.2 α B.1 B.2).1 - (cm P (ip j)).1 = B.1 ∧ (thenP P.1 P.2 α B.1 B.2).2 - (cm P (ip j)).2 = B.2) := by
  obtain ⟨P1, P2⟩ := P
  obtain ⟨Q1, Q2⟩ := Q
  obtain ⟨B1, B2⟩ := B
  dsimp only
  obtain ⟨j, -, h1, h2, h3⟩ := btwFrom_spec (P1, P2) (Q1, Q2) (thenP P1 P2 α B1 B2) (thenP Q1 Q2 α B1 B2) 4 0 α (by omega) (by omega) ((hit_iff _ _ _ _ _).2 (sub_cm (P1, P2) (Q1, Q2) (B1, B2) α hα))
  have h4 := (hit_iff _ _ _ _ _).1 h2
  have h4' := h4.trans (sub_cm (P1, P2) (Q1, Q2) (B1, B2) α hα).symm
  dsimp only at h4'
  have h5 := cm_inj _ _ _ _ (by omega) hα h4'
  clear h4 h4'
  refine ⟨j, by omega, h3, ?_, ?_, ?_⟩
  · unfold thenP
    simp only []
    refine Prod.ext ?_ ?_ <;> simp only [] <;> omega
  · rcases h5 with rfl | ⟨h6, h7⟩
    · unfold thenP
      simp only []
      refine Prod.ext ?_ ?_ <;> simp only [] <;> omega
    · have e1 : Q1 = P1 := by omega
      have e2 : Q2 = P2 := by omega
      rw [e1, e2]
      unfold thenP
      simp only []
      refine Prod.ext ?_ ?_ <;> simp only [] <;> omega
  · intro hne
    rcases h5 with rfl | ⟨h6, h7⟩
    · unfold thenP
      simp only []
      refine ⟨trivial, ?_, ?_⟩ <;> omega
    · exact absurd ⟨by omega, by omega⟩ hne
theorem tmod_zero (a n : Int) (h : a.tmod n = 0) : n * a.tdiv n = a := by
  have := Int.tmod_add_mul_tdiv a n
  omega
/-- The point that stays, does; and no other one. -/
theorem still_small (q : Nat) (hq : q < 4) (x y : Int) (X1 X2 : Int) (st : Bool) (h : (if q = 0 then ((0 : Int), (0 : Int), false) else if (stillZ q (x, y)).1.tmod (stillN q) ≠ 0 ∨ (stillZ q (x, y)).2.tmod (stillN q) ≠ 0 then (0, 0, false) else ((stillZ q (x, y)).1.tdiv (stillN q), (stillZ q (x, y)).2.tdiv (stillN q), true)) = (X1, X2, st)) (hs : st = true)
    (hx : -500 ≤ x ∧ x ≤ 500) (hy : -500 ≤ y ∧ y ≤ 500) : thenP X1 X2 q x y = (X1, X2) ∧ (-1000 ≤ X1 ∧ X1 ≤ 1000) ∧ (-1000 ≤ X2 ∧ X2 ≤ 1000) ∧ ∀ p1 p2 : Int, thenP p1 p2 q x y = (p1, p2) → p1 = X1 ∧ p2 = X2 := by
  by_cases h0 : q = 0
  · rw [if_pos h0] at h
    simp only [Prod.mk.injEq] at h
    rw [← h.2.2] at hs
    cases hs
  · rw [if_neg h0] at h
    by_cases h1 : (stillZ q (x, y)).1.tmod (stillN q) ≠ 0 ∨ (stillZ q (x, y)).2.tmod (stillN q) ≠ 0
    · rw [if_pos h1] at h
      simp only [Prod.mk.injEq] at h
      rw [← h.2.2] at hs
      cases hs
    · rw [if_neg h1] at h
      simp only [Prod.mk.injEq] at h
      obtain ⟨e1, e2, -⟩ := h
      have z1 := tmod_zero (stillZ q (x, y)).1 (stillN q) (by omega)
      have z2 := tmod_zero (stillZ q (x, y)).2 (stillN q) (by omega)
      rw [e1] at z1
      rw [e2] at z2
      clear e1 e2 h1
      rcases four q hq with rfl | rfl | rfl | rfl
      · exact absurd rfl h0
      all_goals
        simp [stillZ, stillN, cm, ip] at z1 z2
        simp [thenP, cm, ip]
        refine ⟨⟨?_, ?_⟩, ?_, ?_, ?_⟩
        any_goals omega
        all_goals
          intro p1 p2 h3 h4
          constructor <;> omega
/-- How often a small motion must be done to be none. -/
theorem times_small (n x y : Int) (hx : -500 ≤ x ∧ x ≤ 500) (hy : -500 ≤ y ∧ y ≤ 500) (z : Nat → Bool) (hz : ∀ k, z k = ((mtimes (n, x, y) k).1 == 0 && ((mtimes (n, x, y) k).2.1 == 0 && ((mtimes (n, x, y) k).2.2 == 0)))) :
    (mord n x y = 1 ∧ z 1 = true ∧ z 2 = true ∧ z 3 = true ∧ z 4 = true) ∨ (mord n x y = 0 ∧ z 1 = false ∧ z 2 = false ∧ z 3 = false ∧ z 4 = false) ∨ (mord n x y = 2 ∧ z 1 = false ∧ z 2 = true ∧ z 3 = false ∧ z 4 = true) ∨ (mord n x y = 4 ∧ z 1 = false ∧ z 2 = false ∧ z 3 = false ∧ z 4 = true) := by
  have hq := qt_lt n
  have st : ∀ a : Int × Int × Int, (-1048576 ≤ a.2.1 ∧ a.2.1 ≤ 1048576) → (-1048576 ≤ a.2.2 ∧ a.2.2 ≤ 1048576) → mstep a (n, x, y) = ((((qt a.1 + qt n) % 4 : Nat) : Int), thenP a.2.1 a.2.2 (qt n) x y) := fun a h1 h2 => by
    unfold mstep
    rw [thenBy_P, fx_in h1, fx_in h2, fx_in (n := x) (by omega), fx_in (n := y) (by omega)]
  have hm : mord n x y = if qt n = 0 then (if x = 0 ∧ y = 0 then 1 else 0) else if qt n = 2 then 2 else 4 := by
    unfold mord
    rw [fx_in (n := x) (by omega), fx_in (n := y) (by omega)]
  have t1 : mtimes (n, x, y) 1 = (((qt n : Nat) : Int), x, y) := by
    show mstep (0, 0, 0) (n, x, y) = _
    rw [st _ (by simp) (by simp)]
    simp only []
    rcases four _ hq with h | h | h | h <;> rw [h] <;> simp [thenP, cm, ip, qt]
  have s2 : mtimes (n, x, y) 2 = mstep (mtimes (n, x, y) 1) (n, x, y) := rfl
  have s3 : mtimes (n, x, y) 3 = mstep (mtimes (n, x, y) 2) (n, x, y) := rfl
  have s4 : mtimes (n, x, y) 4 = mstep (mtimes (n, x, y) 3) (n, x, y) := rfl
  have q1 : qt (1 : Int) = 1 := rfl
  have q0 : qt (0 : Int) = 0 := rfl
  have q2 : qt (2 : Int) = 2 := rfl
  have q3 : qt (3 : Int) = 3 := rfl
  have z1 := hz 1; have z2 := hz 2; have z3 := hz 3; have z4 := hz 4
  clear hz
  rcases four _ hq with h | h | h | h
  · rw [h] at t1 hm
    have t2 : mtimes (n, x, y) 2 = (0, x + x, y + y) := by
      rw [s2, t1, st _ (by simp only []; omega) (by simp only []; omega), h]; simp [thenP, cm, ip, q0]
    have t3 : mtimes (n, x, y) 3 = (0, x + x + x, y + y + y) := by
      rw [s3, t2, st _ (by simp only []; omega) (by simp only []; omega), h]; simp [thenP, cm, ip, q0]
    have t4 : mtimes (n, x, y) 4 = (0, x + x + x + x, y + y + y + y) := by
      rw [s4, t3, st _ (by simp only []; omega) (by simp only []; omega), h]; simp [thenP, cm, ip, q0]
    rw [t1] at z1; rw [t2] at z2; rw [t3] at z3; rw [t4] at z4
    rw [if_pos rfl] at hm
    by_cases h0 : x = 0 ∧ y = 0
    · left
      rw [if_pos h0] at hm
      rw [hm, z1, z2, z3, z4, h0.1, h0.2]
      decide
    · right; left
      rw [if_neg h0] at hm
      rw [hm, z1, z2, z3, z4]
      simp
      omega
  · rw [h] at t1 hm
    have t2 : mtimes (n, x, y) 2 = (2, -y + x, x + y) := by
      rw [s2, t1, st _ (by simp only []; omega) (by simp only []; omega), h]; simp [thenP, cm, ip, q1]
    have t3 : mtimes (n, x, y) 3 = (3, -(x + y) + x, (-y + x) + y) := by
      rw [s3, t2, st _ (by simp only []; omega) (by simp only []; omega), h]; simp [thenP, cm, ip, q2]
    have t4 : mtimes (n, x, y) 4 = (0, -(-y + x + y) + x, -(x + y) + x + y) := by
      rw [s4, t3, st _ (by simp only []; omega) (by simp only []; omega), h]; simp [thenP, cm, ip, q3]
    rw [t1] at z1; rw [t2] at z2; rw [t3] at z3; rw [t4] at z4
    right; right; right
    rw [if_neg (by omega), if_neg (by omega)] at hm
    rw [hm, z1, z2, z3, z4]
    simp
    omega
  · rw [h] at t1 hm
    have t2 : mtimes (n, x, y) 2 = (0, -x + x, -y + y) := by
      rw [s2, t1, st _ (by simp only []; omega) (by simp only []; omega), h]; simp [thenP, cm, ip, q2]
    have t3 : mtimes (n, x, y) 3 = (2, -(-x + x) + x, -(-y + y) + y) := by
      rw [s3, t2, st _ (by simp only []; omega) (by simp only []; omega), h]; simp [thenP, cm, ip, q0]
    have t4 : mtimes (n, x, y) 4 = (0, -(-(-x + x) + x) + x, -(-(-y + y) + y) + y) := by
      rw [s4, t3, st _ (by simp only []; omega) (by simp only []; omega), h]; simp [thenP, cm, ip, q2]
    rw [t1] at z1; rw [t2] at z2; rw [t3] at z3; rw [t4] at z4
    right; right; left
    rw [if_neg (by omega), if_pos rfl] at hm
    rw [hm, z1, z2, z3, z4]
    simp
    omega
  · rw [h] at t1 hm
    have t2 : mtimes (n, x, y) 2 = (2, y + x, -x + y) := by
      rw [s2, t1, st _ (by simp only []; omega) (by simp only []; omega), h]; simp [thenP, cm, ip, q3]
    have t3 : mtimes (n, x, y) 3 = (1, (-x + y) + x, -(y + x) + y) := by
      rw [s3, t2, st _ (by simp only []; omega) (by simp only []; omega), h]; simp [thenP, cm, ip, q2]
    have t4 : mtimes (n, x, y) 4 = (0, (-(y + x) + y) + x, -(-x + y + x) + y) := by
      rw [s4, t3, st _ (by simp only []; omega) (by simp only []; omega), h]; simp [thenP, cm, ip, q1]
    rw [t1] at z1; rw [t2] at z2; rw [t3] at z3; rw [t4] at z4
    right; right; right
    rw [if_neg (by omega), if_neg (by omega)] at hm
    rw [hm, z1, z2, z3, z4]
    simp
    omega
end Go.Proofs.Ytbkcdfiokjhcjaa.P
