/- GaussRing: the plain facts. -/
import Derived.Test.YtbkcdfiokjhcjaaL3
set_option linter.unusedVariables false
set_option linter.unusedSimpArgs false
namespace Go.Proofs.Ytbkcdfiokjhcjaa.P
open Go.Proofs.Ytbkcdfiokjhcjaa.B Go.RowKit Go.Proofs.Ytbkcdfiokjhcjaa.Pure Go.Proofs.YtbkcdfiokjhcjaaW.PrintWords Go.Proofs.YtbkcdfiokjhcjaaW.PrintLast Go.Proofs.YtbkcdfiokjhcjaaW.PrintMore
theorem fx_id {n : Int} (h : -1048576 ≤ n ∧ n ≤ 1048576) : fx n = n := by
  unfold fx; rw [if_neg (show ¬ 1048576 < n by omega), if_neg (by omega)]
theorem prod_le {a b : Int} (ha : -500 ≤ a ∧ a ≤ 500) (hb : -500 ≤ b ∧ b ≤ 500) : -250000 ≤ a * b ∧ a * b ≤ 250000 := by
  have h3 : a.natAbs * b.natAbs ≤ 500 * 500 := Nat.mul_le_mul (by omega) (by omega)
  rw [← Int.natAbs_mul] at h3
  omega
theorem prod_le2 {a b : Int} (ha : -500000 ≤ a ∧ a ≤ 500000) (hb : -500000 ≤ b ∧ b ≤ 500000) : -250000000000 ≤ a * b ∧ a * b ≤ 250000000000 := by
  have h3 : a.natAbs * b.natAbs ≤ 500000 * 500000 := Nat.mul_le_mul (by omega) (by omega)
  rw [← Int.natAbs_mul] at h3
  omega
def small (x y : Int) : Bool := decide (-500 ≤ x ∧ x ≤ 500 ∧ -500 ≤ y ∧ y ≤ 500)
theorem small_ref (x y : Int) : tallymanref03_Small.f x y 500 = some (small x y) := by
  unfold tallymanref03_Small.f small
  rw [show wrap64 (-500) = -500 from by unfold wrap64; omega]
  by_cases h1 : x ≥ -500
  · rw [if_pos h1]
    by_cases h2 : x ≤ 500
    · rw [if_pos h2]
      by_cases h3 : y ≥ -500
      · rw [if_pos h3]; congr 1; rw [Bool.eq_iff_iff, decide_eq_true_iff, decide_eq_true_iff]; omega
      · rw [if_neg h3]; congr 1; symm; exact decide_eq_false (by omega)
    · rw [if_neg h2]; congr 1; symm; exact decide_eq_false (by omega)
  · rw [if_neg h1]; congr 1; symm; exact decide_eq_false (by omega)
theorem add_s (a b c d e f : Int) (ha : -1048576 ≤ a ∧ a ≤ 1048576) (hb : -1048576 ≤ b ∧ b ≤ 1048576) (hc : -1048576 ≤ c ∧ c ≤ 1048576) (hd : -1048576 ≤ d ∧ d ≤ 1048576) (he : a + c = e) (hf : b + d = f) (W : World) :
    Calls Try.prog 14 #[.agg #[.int .i64 a, .int .i64 b], .agg #[.int .i64 c, .int .i64 d]] W fun e' w' => e' = .returned (.agg #[.int .i64 e, .int .i64 f]) ∧ Below W.heap.size W w' := by
  have h := add_calls a b c d W
  rw [fx_id ha, fx_id hb, fx_id hc, fx_id hd, he, hf] at h
  exact h
theorem sub_s (a b c d e f : Int) (ha : -1048576 ≤ a ∧ a ≤ 1048576) (hb : -1048576 ≤ b ∧ b ≤ 1048576) (hc : -1048576 ≤ c ∧ c ≤ 1048576) (hd : -1048576 ≤ d ∧ d ≤ 1048576) (he : a - c = e) (hf : b - d = f) (W : World) :
    Calls Try.prog 16 #[.agg #[.int .i64 a, .int .i64 b], .agg #[.int .i64 c, .int .i64 d]] W fun e' w' => e' = .returned (.agg #[.int .i64 e, .int .i64 f]) ∧ Below W.heap.size W w' := by
  have h := sub_calls a b c d W
  rw [fx_id ha, fx_id hb, fx_id hc, fx_id hd, he, hf] at h
  exact h
theorem mul_s (a b c d e f : Int) (ha : -1048576 ≤ a ∧ a ≤ 1048576) (hb : -1048576 ≤ b ∧ b ≤ 1048576) (hc : -1048576 ≤ c ∧ c ≤ 1048576) (hd : -1048576 ≤ d ∧ d ≤ 1048576) (he : a * c - b * d = e) (hf : a * d + b * c = f) (W : World) :
    Calls Try.prog 15 #[.agg #[.int .i64 a, .int .i64 b], .agg #[.int .i64 c, .int .i64 d]] W fun e' w' => e' = .returned (.agg #[.int .i64 e, .int .i64 f]) ∧ Below W.heap.size W w' := by
  have h := mul_calls a b c d W
  rw [fx_id ha, fx_id hb, fx_id hc, fx_id hd, he, hf] at h
  exact h
theorem conj_s (a b f : Int) (ha : -1048576 ≤ a ∧ a ≤ 1048576) (hb : -1048576 ≤ b ∧ b ≤ 1048576) (hf : -b = f) (W : World) :
    Calls Try.prog 18 #[.agg #[.int .i64 a, .int .i64 b]] W fun e' w' => e' = .returned (.agg #[.int .i64 a, .int .i64 f]) ∧ Below W.heap.size W w' := by
  have h := conj_calls a b W
  rw [fx_id ha, fx_id hb, hf] at h
  exact h
theorem norm_s (a b e : Int) (ha : -1048576 ≤ a ∧ a ≤ 1048576) (hb : -1048576 ≤ b ∧ b ≤ 1048576) (he : a * a + b * b = e) (W : World) :
    Calls Try.prog 17 #[.agg #[.int .i64 a, .int .i64 b]] W fun e' w' => e' = .returned (.int .i64 e) ∧ Below W.heap.size W w' := by
  have h := norm_calls a b W
  rw [fx_id ha, fx_id hb, he] at h
  exact h
theorem small_s {a b : Int} {r : Bool} (h : small a b = r) (W : World) : Calls Try.prog 12 #[.agg #[.int .i64 a, .int .i64 b], .int .i64 500] W fun e' w' => e' = .returned (.bool r) ∧ Below W.heap.size W w' := by
  have h2 := tallymanref03_Small.calls a b 500 r W (by rw [small_ref, h])
  first | exact h2 | exact h2.mono fun e w' ⟨h3, h4⟩ => ⟨h3, h4.below⟩
set_option maxHeartbeats 1000000 in
set_option maxRecDepth 100000 in
theorem ring_none (x1 y1 x2 y2 x3 y3 : Int) (w : World) (b1 b2 b3 : Bool) (h1 : small x1 y1 = b1) (h2 : small x2 y2 = b2) (h3 : small x3 y3 = b3) (hb : ¬ (b1 = true ∧ b2 = true ∧ b3 = true)) :
    Calls Try.prog 3 #[.agg #[.int .i64 x1, .int .i64 y1], .agg #[.int .i64 x2, .int .i64 y2], .agg #[.int .i64 x3, .int .i64 y3]] w fun e w' => e = .returned (.bool true) ∧ Below w.heap.size w w' := by
  have HS := Three.new w x1 y1 x2 y2 x3 y3
  have H1 := fun W => Aside0.mk (small_s h1 W)
  have H2 := fun W => Aside0.mk (small_s h2 W)
  have H3 := fun W => Aside0.mk (small_s h3 W)
  clear h1 h2 h3
  have HAL := fun W => Aside0.mk (tallymanlaw03_alive.calls true W alive3)
  have hcase : (b1 = false) ∨ (b1 = true ∧ b2 = false) ∨ (b1 = true ∧ b2 = true ∧ b3 = false) := by
    cases b1 <;> cases b2 <;> cases b3 <;> simp at hb ⊢
  clear hb
  rcases hcase with rfl | ⟨rfl, rfl⟩ | ⟨rfl, rfl, rfl⟩
  all_goals
    go_enter Try.func3, Try.ntmps3
    go_wp2_with (first | (go_at_call 12; (with_reducible refine ((H1 _).out).mono ?_); rintro e w' ⟨rfl, hb⟩; have n0 := Three.keep HS hb; clear HS; have HS := n0; obtain ⟨_, _, _, _, k1, k2, k3, k4, k5, k6⟩ := n0; clear hb) | (go_at_call 12; (with_reducible refine ((H2 _).out).mono ?_); rintro e w' ⟨rfl, hb⟩; have n0 := Three.keep HS hb; clear HS; have HS := n0; obtain ⟨_, _, _, _, k1, k2, k3, k4, k5, k6⟩ := n0; clear hb) | (go_at_call 12; (with_reducible refine ((H3 _).out).mono ?_); rintro e w' ⟨rfl, hb⟩; have n0 := Three.keep HS hb; clear HS; have HS := n0; obtain ⟨_, _, _, _, k1, k2, k3, k4, k5, k6⟩ := n0; clear hb) | (go_at_call 13; (with_reducible refine ((HAL _).out).mono ?_); rintro e w' ⟨rfl, hb⟩; have HE := Aside0.mk (below_step HS.2.2.2.1.out hb); clear hb))
    go_ret
    exact ⟨rfl, HE.out⟩
theorem ring_true (x1 y1 x2 y2 x3 y3 : Int) (w : World) (h1 : small x1 y1 = true) (h2 : small x2 y2 = true) (h3 : small x3 y3 = true) :
    Calls Try.prog 3 #[.agg #[.int .i64 x1, .int .i64 y1], .agg #[.int .i64 x2, .int .i64 y2], .agg #[.int .i64 x3, .int .i64 y3]] w fun e w' => e = .returned (.bool true) ∧ Below w.heap.size w w' := by
  have s1 := h1; have s2 := h2; have s3 := h3
  unfold small at s1 s2 s3
  rw [decide_eq_true_iff] at s1 s2 s3
  have p11 := prod_le (a := x1) (b := x2) (by omega) (by omega)
  have p12 := prod_le (a := y1) (b := y2) (by omega) (by omega)
  have p13 := prod_le (a := x1) (b := y2) (by omega) (by omega)
  have p14 := prod_le (a := y1) (b := x2) (by omega) (by omega)
  have p21 := prod_le (a := x2) (b := x3) (by omega) (by omega)
  have p22 := prod_le (a := y2) (b := y3) (by omega) (by omega)
  have p23 := prod_le (a := x2) (b := y3) (by omega) (by omega)
  have p24 := prod_le (a := y2) (b := x3) (by omega) (by omega)
  have p31 := prod_le (a := x1) (b := x3) (by omega) (by omega)
  have p32 := prod_le (a := y1) (b := y3) (by omega) (by omega)
  have p33 := prod_le (a := x1) (b := y3) (by omega) (by omega)
  have p34 := prod_le (a := y1) (b := x3) (by omega) (by omega)
  have q1 := prod_le2 (a := x1 * x2 - y1 * y2) (b := x1 * x2 - y1 * y2) (by omega) (by omega)
  have q2 := prod_le2 (a := x1 * y2 + y1 * x2) (b := x1 * y2 + y1 * x2) (by omega) (by omega)
  have e0 : ∀ a b : Int, a * -b = -(a * b) := fun a b => Int.mul_neg a b
  refine ring_calls x1 y1 x2 y2 x3 y3 (x1 + x2) (y1 + y2) (x1 + x2 + x3) (y1 + y2 + y3) (x2 + x3) (y2 + y3) (x1 * x2 - y1 * y2) (x1 * y2 + y1 * x2)
    ((x1 * x2 - y1 * y2) * x3 - (x1 * y2 + y1 * x2) * y3) ((x1 * x2 - y1 * y2) * y3 + (x1 * y2 + y1 * x2) * x3) (x2 * x3 - y2 * y3) (x2 * y3 + y2 * x3)
    (x1 * (x2 + x3) - y1 * (y2 + y3)) (x1 * (y2 + y3) + y1 * (x2 + x3)) (x1 * x3 - y1 * y3) (x1 * y3 + y1 * x3) x1 (-y1)
    ((x1 * x2 - y1 * y2) * (x1 * x2 - y1 * y2) + (x1 * y2 + y1 * x2) * (x1 * y2 + y1 * x2)) (x1 * x1 + y1 * y1) (x2 * x2 + y2 * y2) w ?_ ?_ ?_
    (add_s _ _ _ _ _ _ (by omega) (by omega) (by omega) (by omega) rfl rfl) (add_s _ _ _ _ _ _ (by omega) (by omega) (by omega) (by omega) (by omega) (by omega))
    (mul_s _ _ _ _ _ _ (by omega) (by omega) (by omega) (by omega) rfl rfl) (mul_s _ _ _ _ _ _ (by omega) (by omega) (by omega) (by omega) ?_ ?_)
    (add_s _ _ _ _ _ _ (by omega) (by omega) (by omega) (by omega) rfl rfl) (add_s _ _ _ _ _ _ (by omega) (by omega) (by omega) (by omega) rfl rfl)
    (add_s _ _ _ _ _ _ (by omega) (by omega) (by omega) (by omega) (by omega) (by omega))
    (mul_s _ _ _ _ _ _ (by omega) (by omega) (by omega) (by omega) rfl rfl) (mul_s _ _ _ _ _ _ (by omega) (by omega) (by omega) (by omega) rfl rfl)
    (mul_s _ _ _ _ _ _ (by omega) (by omega) (by omega) (by omega) ?_ ?_) (mul_s _ _ _ _ _ _ (by omega) (by omega) (by omega) (by omega) rfl rfl) (mul_s _ _ _ _ _ _ (by omega) (by omega) (by omega) (by omega) rfl rfl)
    (add_s _ _ _ _ _ _ (by omega) (by omega) (by omega) (by omega) ?_ ?_) (sub_s _ _ _ _ _ _ (by omega) (by omega) (by omega) (by omega) (by omega) (by omega))
    (conj_s _ _ _ (by omega) (by omega) rfl) (mul_s _ _ _ _ _ _ (by omega) (by omega) (by omega) (by omega) ?_ ?_)
    (norm_s _ _ _ (by omega) (by omega) rfl) (norm_s _ _ _ (by omega) (by omega) rfl) (norm_s _ _ _ (by omega) (by omega) rfl) (small_s h1) (small_s h2) (small_s h3)
  · simp only [Int.mul_add, Int.add_mul, Int.sub_mul, Int.mul_sub, Int.mul_assoc, Int.mul_comm, Int.mul_left_comm] <;> omega
  · omega
  · omega
  all_goals (simp only [e0, Int.mul_add, Int.add_mul, Int.sub_mul, Int.mul_sub, Int.mul_assoc, Int.mul_comm, Int.mul_left_comm] <;> omega)
def tallymanlaw03_GaussRing.Pure : Prop := True
theorem tallymanlaw03_GaussRing.walk (P : tallymanlaw03_GaussRing.Pure) (a0_0 a0_1 a1_0 a1_1 a2_0 a2_1 : Int) (w : World) (w0_0 : (Lit.int .i64 a0_0).wf = true) (w0_1 : (Lit.int .i64 a0_1).wf = true) (w1_0 : (Lit.int .i64 a1_0).wf = true) (w1_1 : (Lit.int .i64 a1_1).wf = true) (w2_0 : (Lit.int .i64 a2_0).wf = true) (w2_1 : (Lit.int .i64 a2_1).wf = true) :
    Calls Try.prog 3 #[.agg #[.int .i64 a0_0, .int .i64 a0_1], .agg #[.int .i64 a1_0, .int .i64 a1_1], .agg #[.int .i64 a2_0, .int .i64 a2_1]] w fun e w' => e = .returned (.bool true) ∧ Below w.heap.size w w' := by
  by_cases h : small a0_0 a0_1 = true ∧ small a1_0 a1_1 = true ∧ small a2_0 a2_1 = true
  · exact ring_true _ _ _ _ _ _ w h.1 h.2.1 h.2.2
  · exact ring_none _ _ _ _ _ _ w _ _ _ rfl rfl rfl h
end Go.Proofs.Ytbkcdfiokjhcjaa.P
