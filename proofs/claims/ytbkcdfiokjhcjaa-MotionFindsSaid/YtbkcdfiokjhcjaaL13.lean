/- MotionFinds: what Between, Still and Order tell of small motions. -/
import Derived.Test.YtbkcdfiokjhcjaaL12
import Derived.Test.YtbkcdfiokjhcjaaLF
import Derived.Test.YtbkcdfiokjhcjaaF43
namespace Go.Proofs.Ytbkcdfiokjhcjaa.P
open Go.Proofs.Ytbkcdfiokjhcjaa.B Go.RowKit Go.Proofs.YtbkcdfiokjhcjaaW.PrintWords Go.Proofs.YtbkcdfiokjhcjaaW.PrintLast Go.Proofs.YtbkcdfiokjhcjaaW.PrintMore
set_option linter.unusedVariables false
set_option linter.unusedSimpArgs false
def small4 (x y : Int) : Bool := decide (-500 ≤ x ∧ x ≤ 500 ∧ -500 ≤ y ∧ y ≤ 500)
theorem small4_ref (x y : Int) : tallymanref03_Small.f x y 500 = some (small4 x y) := by
  unfold tallymanref03_Small.f small4
  rw [show wrap64 (-500) = -500 from by unfold wrap64; omega]
  by_cases h1 : x ≥ -500
  · rw [if_pos h1]
    by_cases h2 : x ≤ 500
    · rw [if_pos h2]
      by_cases h3 : y ≥ -500
      · rw [if_pos h3]; congr 1; rw [Bool.eq_iff_iff, decide_eq_true_iff, decide_eq_true_iff]; omega
      · rw [if_neg h3]; congr 1; symm; exact decide_eq_false (by omega)
    · rw [if_neg h2]; congr 1; symm; exact decide_eq_false (by omega)
  · rw [if_neg h1]; congr 1; symm; exact decide_eq_false (by omega)
theorem smallP_s {a b : Int} {r : Bool} (h : small4 a b = r) (W : World) : Calls Try.prog 12 #[.agg #[.int .i64 a, .int .i64 b], .int .i64 500] W fun e' w' => e' = .returned (.bool r) ∧ Below W.heap.size W w' := by
  have h2 := tallymanref03_Small.calls a b 500 r W (by rw [small4_ref, h])
  first | exact h2 | exact h2.mono fun e w' ⟨h3, h4⟩ => ⟨h3, h4.below⟩
theorem smallM_s {n a b : Int} {r : Bool} (h : small4 a b = r) (W : World) : Calls Try.prog 43 #[.agg #[.int .i64 n, .int .i64 a, .int .i64 b], .int .i64 500] W fun e' w' => e' = .returned (.bool r) ∧ Below W.heap.size W w' := by
  have h2 := tallymanref04_Small.calls n a b 500 r W (by unfold tallymanref04_Small.f; rw [small4_ref, h]; rfl)
  first | exact h2 | exact h2.mono fun e w' ⟨h3, h4⟩ => ⟨h3, h4.below⟩
theorem qtqt (q : Nat) (h : q < 4) : qt (q : Int) = q := by unfold qt; omega
def far (x : Int) : Prop := -1048576 ≤ x ∧ x ≤ 1048576
theorem do_s (n x y u v R1 R2 : Int) (q : Nat) (hx : far x) (hy : far y) (hu : far u) (hv : far v) (hq : qt n = q) (h : thenP u v q x y = (R1, R2)) (W : World) :
    Calls Try.prog 34 #[.agg #[.int .i64 n, .int .i64 x, .int .i64 y], .agg #[.int .i64 u, .int .i64 v]] W fun e w' => e = .returned (.agg #[.int .i64 R1, .int .i64 R2]) ∧ Below W.heap.size W w' := by
  have h2 := mdo_calls n x y u v W
  rw [doBy_P, fx_in hx, fx_in hy, fx_in hu, fx_in hv, hq, h] at h2
  exact h2
set_option maxHeartbeats 4000000 in
set_option maxRecDepth 100000 in
theorem finds_none (m1 m2 m3 p1 p2 q1 q2 : Int) (w : World) (f1 f2 f3 : Bool) (h1 : small4 m2 m3 = f1) (h2 : small4 p1 p2 = f2) (h3 : small4 q1 q2 = f3) (hb : ¬ (f1 = true ∧ f2 = true ∧ f3 = true)) :
    Calls Try.prog 10 #[.agg #[.int .i64 m1, .int .i64 m2, .int .i64 m3], .agg #[.int .i64 p1, .int .i64 p2], .agg #[.int .i64 q1, .int .i64 q2]] w fun e w' => e = .returned (.bool true) ∧ Below w.heap.size w w' := by
  have HS := FaS.new w m1 m2 m3 p1 p2 q1 q2
  have H1 := fun W => Aside0.mk (smallM_s (n := m1) h1 W)
  have H2 := fun W => Aside0.mk (smallP_s h2 W)
  have H3 := fun W => Aside0.mk (smallP_s h3 W)
  clear h1 h2 h3
  have HAL := fun W => Aside0.mk (alive4_calls W)
  have hcase : (f1 = false) ∨ (f1 = true ∧ f2 = false) ∨ (f1 = true ∧ f2 = true ∧ f3 = false) := by
    cases f1 <;> cases f2 <;> cases f3 <;> simp at hb ⊢
  clear hb
  rcases hcase with rfl | ⟨rfl, rfl⟩ | ⟨rfl, rfl, rfl⟩
  all_goals
    go_enter Try.func10, Try.ntmps10
    go_wp2_with (first | (go_at_call 43; (with_reducible refine ((H1 _).out).mono ?_); rintro e w' ⟨rfl, hb⟩; have n0 := FaS.keep HS hb; clear HS; have HS := n0; obtain ⟨_, _, _, _, k1, k2, k3, k4, k5, k6, k7⟩ := n0; clear hb) | (go_at_call 12; (with_reducible refine ((H2 _).out).mono ?_); rintro e w' ⟨rfl, hb⟩; have n0 := FaS.keep HS hb; clear HS; have HS := n0; obtain ⟨_, _, _, _, k1, k2, k3, k4, k5, k6, k7⟩ := n0; clear hb) | (go_at_call 12; (with_reducible refine ((H3 _).out).mono ?_); rintro e w' ⟨rfl, hb⟩; have n0 := FaS.keep HS hb; clear HS; have HS := n0; obtain ⟨_, _, _, _, k1, k2, k3, k4, k5, k6, k7⟩ := n0; clear hb) | (go_at_call 40; (with_reducible refine ((HAL _).out).mono ?_); rintro e w' ⟨rfl, hb⟩; have HE := Aside0.mk (below_step HS.2.2.2.1.out hb); clear hb))
    go_ret
    exact ⟨rfl, HE.out⟩
theorem finds_true (m1 m2 m3 p1 p2 q1 q2 : Int) (w : World) (h1 : small4 m2 m3 = true) (h2 : small4 p1 p2 = true) (h3 : small4 q1 q2 = true) :
    Calls Try.prog 10 #[.agg #[.int .i64 m1, .int .i64 m2, .int .i64 m3], .agg #[.int .i64 p1, .int .i64 p2], .agg #[.int .i64 q1, .int .i64 q2]] w fun e w' => e = .returned (.bool true) ∧ Below w.heap.size w w' := by
  have s1 := h1; have s2 := h2; have s3 := h3
  unfold small4 at s1 s2 s3
  rw [decide_eq_true_iff] at s1 s2 s3
  have α4 := qt_lt m1
  obtain ⟨α, hα⟩ : ∃ α, qt m1 = α := ⟨_, rfl⟩
  rw [hα] at α4
  have bR := thenP_bd 500 500 p1 p2 m2 m3 α α4 (by omega) (by omega) (by omega) (by omega)
  have bS := thenP_bd 500 500 q1 q2 m2 m3 α α4 (by omega) (by omega) (by omega) (by omega)
  obtain ⟨j, j4, b1, b2, b3, b4⟩ := btw_small (p1, p2) (q1, q2) (m2, m3) α α4
  have bJ := cm_bd 500 p1 p2 j j4 (by omega) (by omega)
  dsimp only at b1 b2 b3 b4
  obtain ⟨⟨r1, r2⟩, hR⟩ : ∃ X, thenP p1 p2 α m2 m3 = X := ⟨_, rfl⟩
  obtain ⟨⟨s1', s2'⟩, hS⟩ : ∃ X, thenP q1 q2 α m2 m3 = X := ⟨_, rfl⟩
  rw [hR, hS] at b1; rw [hR] at b2 b4 bR; rw [hR, hS] at b3; rw [hS] at bS
  dsimp only at b1 b2 b3 b4 bR bS
  obtain ⟨A2, hA2⟩ : ∃ X, r1 - (cm (p1, p2) (ip j)).1 = X := ⟨_, rfl⟩
  obtain ⟨A3, hA3⟩ : ∃ X, r2 - (cm (p1, p2) (ip j)).2 = X := ⟨_, rfl⟩
  rw [hA2, hA3] at b1 b2 b3 b4
  have HB : ∀ W, Calls Try.prog 44 #[.agg #[.int .i64 p1, .int .i64 p2], .agg #[.int .i64 q1, .int .i64 q2], .agg #[.int .i64 r1, .int .i64 r2], .agg #[.int .i64 s1', .int .i64 s2']] W fun e w' => e = .returned (.tuple #[.agg #[.int .i64 (j : Int), .int .i64 A2, .int .i64 A3], .bool true]) ∧ Below W.heap.size W w' := fun W => by
    have h := btw_calls p1 p2 q1 q2 r1 r2 s1' s2' W
    unfold btw at h
    rw [fx_in (n := p1) (by omega), fx_in (n := p2) (by omega), fx_in (n := q1) (by omega), fx_in (n := q2) (by omega), fx_in (n := r1) (by omega), fx_in (n := r2) (by omega), fx_in (n := s1') (by omega), fx_in (n := s2') (by omega), b1] at h
    exact h
  obtain ⟨⟨X1, X2, st⟩, hX⟩ : ∃ X, mstill m1 m2 m3 = X := ⟨_, rfl⟩
  have HX : ∀ W, Calls Try.prog 45 #[.agg #[.int .i64 m1, .int .i64 m2, .int .i64 m3]] W fun e w' => e = .returned (.tuple #[.agg #[.int .i64 X1, .int .i64 X2], .bool st]) ∧ Below W.heap.size W w' := fun W => by
    have h := mstill_calls m1 m2 m3 W
    rw [hX] at h
    exact h
  have hst : st = true → thenP X1 X2 α m2 m3 = (X1, X2) ∧ (-1000 ≤ X1 ∧ X1 ≤ 1000) ∧ (-1000 ≤ X2 ∧ X2 ≤ 1000) ∧ ∀ p1 p2 : Int, thenP p1 p2 α m2 m3 = (p1, p2) → p1 = X1 ∧ p2 = X2 := fun hs => by
    unfold mstill at hX
    rw [hα, fx_in (n := m2) (by omega), fx_in (n := m3) (by omega)] at hX
    exact still_small α α4 m2 m3 X1 X2 st hX hs (by omega) (by omega)
  have HT : ∀ (k : Nat) (c : Int), tcount c = k → ∀ W, Calls Try.prog 41 #[.agg #[.int .i64 m1, .int .i64 m2, .int .i64 m3], .int .i64 c] W fun e w' => e = .returned (.agg #[.int .i64 (mtimes (m1, m2, m3) k).1, .int .i64 (mtimes (m1, m2, m3) k).2.1, .int .i64 (mtimes (m1, m2, m3) k).2.2]) ∧ Below W.heap.size W w' := fun k c hc W => by
    have h := mtimes_calls (m1, m2, m3) c W
    rw [hc] at h
    exact h
  have HN := times_small m1 m2 m3 (by omega) (by omega) (fun k => ((mtimes (m1, m2, m3) k).1 == 0 && ((mtimes (m1, m2, m3) k).2.1 == 0 && ((mtimes (m1, m2, m3) k).2.2 == 0)))) (fun _ => rfl)
  refine finds_calls m1 m2 m3 p1 p2 q1 q2 r1 r2 s1' s2' (j : Int) A2 A3 X1 X2 (mord m1 m2 m3) _ _ _ _ _ _ _ _ _ _ _ _ st (p1 == q1 && (p2 == q2)) (p1 == X1 && (p2 == X2)) _ _ _ _ w
    (do_s _ _ _ _ _ _ _ α ?_ ?_ ?_ ?_ hα hR) (do_s _ _ _ _ _ _ _ α ?_ ?_ ?_ ?_ hα hS) HB (do_s _ _ _ _ _ _ _ j ?_ ?_ ?_ ?_ (qtqt _ j4) b2) (do_s _ _ _ _ _ _ _ j ?_ ?_ ?_ ?_ (qtqt _ j4) b3)
    HX (mord_calls m1 m2 m3) (HT 1 1 (by decide)) (HT 2 2 (by decide)) (HT 3 3 (by decide)) (HT 4 4 (by decide)) alive4_calls (smallM_s h1) (smallP_s h2) (smallP_s h3)
    (fun hs => do_s _ _ _ _ _ _ _ α ?_ ?_ (by have := (hst hs).2.1; unfold far; omega) (by have := (hst hs).2.2.1; unfold far; omega) hα (hst hs).1) (fun hu W => ?_) rfl (fun hu => ?_) rfl (fun hs hv => ?_) rfl rfl rfl rfl HN
  all_goals first | (unfold far; omega) | skip
  · have hne : ¬ (p1 = q1 ∧ p2 = q2) := fun h => by rw [h.1, h.2] at hu; simp at hu
    obtain ⟨e1, e2, e3⟩ := b4 hne
    have h := mfix_calls m1 m2 m3 W
    rw [hα, fx_in (n := m2) (by omega), fx_in (n := m3) (by omega)] at h
    rw [e1, e2, e3]
    exact h
  · simp only [Bool.and_eq_true, beq_iff_eq] at hu
    rw [hu.1, hu.2, hS] at hR
    simp only [Prod.mk.injEq] at hR
    exact ⟨hR.1.symm, hR.2.symm⟩
  · cases hc : (r1 == p1 && (r2 == p2))
    · rfl
    · simp only [Bool.and_eq_true, beq_iff_eq] at hc
      have := (hst hs).2.2.2 p1 p2 (by rw [hR, hc.1, hc.2])
      rw [this.1, this.2] at hv
      simp at hv
def tallymanlaw04_MotionFinds.Pure : Prop := True
theorem tallymanlaw04_MotionFinds.walk (P : tallymanlaw04_MotionFinds.Pure) (a0_0 a0_1 a0_2 a1_0 a1_1 a2_0 a2_1 : Int) (w : World) (w0_0 : (Lit.int .i64 a0_0).wf = true) (w0_1 : (Lit.int .i64 a0_1).wf = true) (w0_2 : (Lit.int .i64 a0_2).wf = true) (w1_0 : (Lit.int .i64 a1_0).wf = true) (w1_1 : (Lit.int .i64 a1_1).wf = true) (w2_0 : (Lit.int .i64 a2_0).wf = true) (w2_1 : (Lit.int .i64 a2_1).wf = true) :
    Calls Try.prog 10 #[.agg #[.int .i64 a0_0, .int .i64 a0_1, .int .i64 a0_2], .agg #[.int .i64 a1_0, .int .i64 a1_1], .agg #[.int .i64 a2_0, .int .i64 a2_1]] w fun e w' => e = .returned (.bool true) ∧ Below w.heap.size w w' := by
  by_cases h : small4 a0_1 a0_2 = true ∧ small4 a1_0 a1_1 = true ∧ small4 a2_0 a2_1 = true
  · exact finds_true _ _ _ _ _ _ _ w h.1 h.2.1 h.2.2
  · exact finds_none _ _ _ _ _ _ _ w _ _ _ rfl rfl rfl h
end Go.Proofs.Ytbkcdfiokjhcjaa.P
