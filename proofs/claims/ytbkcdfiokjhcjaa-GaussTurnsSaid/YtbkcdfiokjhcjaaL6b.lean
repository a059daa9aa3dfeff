/- GaussTurns: the plain facts. -/
import Derived.Test.YtbkcdfiokjhcjaaL6
set_option linter.unusedVariables false
set_option linter.unusedSimpArgs false
namespace Go.Proofs.Ytbkcdfiokjhcjaa.P
open Go.Proofs.Ytbkcdfiokjhcjaa.B Go.RowKit Go.Proofs.Ytbkcdfiokjhcjaa.Pure Go.Proofs.YtbkcdfiokjhcjaaW.PrintWords Go.Proofs.YtbkcdfiokjhcjaaW.PrintLast Go.Proofs.YtbkcdfiokjhcjaaW.PrintMore
theorem fx_id {n : Int} (h : -1048576 ≤ n ∧ n ≤ 1048576) : fx n = n := by
  unfold fx; rw [if_neg (show ¬ 1048576 < n by omega), if_neg (by omega)]
theorem prod_le {a b : Int} (ha : -500 ≤ a ∧ a ≤ 500) (hb : -500 ≤ b ∧ b ≤ 500) : -250000 ≤ a * b ∧ a * b ≤ 250000 := by
  have h3 : a.natAbs * b.natAbs ≤ 500 * 500 := Nat.mul_le_mul (by omega) (by omega)
  rw [← Int.natAbs_mul] at h3
  omega
def small (x y : Int) : Bool := decide (-500 ≤ x ∧ x ≤ 500 ∧ -500 ≤ y ∧ y ≤ 500)
theorem small_ref (x y : Int) : tallymanref03_Small.f x y 500 = some (small x y) := by
  unfold tallymanref03_Small.f small
  rw [show wrap64 (-500) = -500 from by unfold wrap64; omega]
  by_cases h1 : x ≥ -500
  · rw [if_pos h1]
    by_cases h2 : x ≤ 500
    · rw [if_pos h2]
      by_cases h3 : y ≥ -500
      · rw [if_pos h3]; congr 1; rw [Bool.eq_iff_iff, decide_eq_true_iff, decide_eq_true_iff]; omega
      · rw [if_neg h3]; congr 1; symm; exact decide_eq_false (by omega)
    · rw [if_neg h2]; congr 1; symm; exact decide_eq_false (by omega)
  · rw [if_neg h1]; congr 1; symm; exact decide_eq_false (by omega)
theorem add_s (a b c d e f : Int) (ha : -1048576 ≤ a ∧ a ≤ 1048576) (hb : -1048576 ≤ b ∧ b ≤ 1048576) (hc : -1048576 ≤ c ∧ c ≤ 1048576) (hd : -1048576 ≤ d ∧ d ≤ 1048576) (he : a + c = e) (hf : b + d = f) (W : World) :
    Calls Try.prog 14 #[.agg #[.int .i64 a, .int .i64 b], .agg #[.int .i64 c, .int .i64 d]] W fun e' w' => e' = .returned (.agg #[.int .i64 e, .int .i64 f]) ∧ Below W.heap.size W w' := by
  have h := add_calls a b c d W
  rw [fx_id ha, fx_id hb, fx_id hc, fx_id hd, he, hf] at h
  exact h
theorem mul_s (a b c d e f : Int) (ha : -1048576 ≤ a ∧ a ≤ 1048576) (hb : -1048576 ≤ b ∧ b ≤ 1048576) (hc : -1048576 ≤ c ∧ c ≤ 1048576) (hd : -1048576 ≤ d ∧ d ≤ 1048576) (he : a * c - b * d = e) (hf : a * d + b * c = f) (W : World) :
    Calls Try.prog 15 #[.agg #[.int .i64 a, .int .i64 b], .agg #[.int .i64 c, .int .i64 d]] W fun e' w' => e' = .returned (.agg #[.int .i64 e, .int .i64 f]) ∧ Below W.heap.size W w' := by
  have h := mul_calls a b c d W
  rw [fx_id ha, fx_id hb, fx_id hc, fx_id hd, he, hf] at h
  exact h
theorem norm_s (a b e : Int) (ha : -1048576 ≤ a ∧ a ≤ 1048576) (hb : -1048576 ≤ b ∧ b ≤ 1048576) (he : a * a + b * b = e) (W : World) :
    Calls Try.prog 17 #[.agg #[.int .i64 a, .int .i64 b]] W fun e' w' => e' = .returned (.int .i64 e) ∧ Below W.heap.size W w' := by
  have h := norm_calls a b W
  rw [fx_id ha, fx_id hb, he] at h
  exact h
theorem small_s {a b : Int} {r : Bool} (h : small a b = r) (W : World) : Calls Try.prog 12 #[.agg #[.int .i64 a, .int .i64 b], .int .i64 500] W fun e' w' => e' = .returned (.bool r) ∧ Below W.heap.size W w' := by
  have h2 := tallymanref03_Small.calls a b 500 r W (by rw [small_ref, h])
  first | exact h2 | exact h2.mono fun e w' ⟨h3, h4⟩ => ⟨h3, h4.below⟩
def ab (n : Int) : Int := mx n (-n)
theorem ab_le (n : Int) (h : -1048576 ≤ n ∧ n ≤ 1048576) : 0 ≤ ab n ∧ ab n ≤ 1048576 := by unfold ab mx; split <;> omega
theorem sizes_code (x y : Int) : gauss_sizes.f x y = some (ab (fx x), ab (fx y)) := by
  unfold gauss_sizes.f gauss_Fix.f
  have h1 := fx_le x
  have h2 := fx_le y
  simp only [Option.bind_some]
  rw [w64 (x := -fx x) (by omega) (by omega), w64 (x := -fx y) (by omega) (by omega)]; rfl
theorem steps_code (x y : Int) : gauss_Steps.f x y = some (ab (fx x) + ab (fx y)) := by
  unfold gauss_Steps.f
  have a1 := ab_le _ (fx_le x)
  have a2 := ab_le _ (fx_le y)
  rw [sizes_code, Option.bind_some]
  simp only []
  rw [w64 (by omega) (by omega)]
theorem big_code (x y : Int) : gauss_Big.f x y = some (mx (ab (fx x)) (ab (fx y))) := by
  unfold gauss_Big.f
  rw [sizes_code, Option.bind_some]
theorem turn_s (a b n e f : Int) (ha : -1048576 ≤ a ∧ a ≤ 1048576) (hb : -1048576 ≤ b ∧ b ≤ 1048576) (h : rot (n % 4).toNat a b = (e, f)) (W : World) :
    Calls Try.prog 25 #[.agg #[.int .i64 a, .int .i64 b], .int .i64 n] W fun e' w' => e' = .returned (.agg #[.int .i64 e, .int .i64 f]) ∧ Below W.heap.size W w' := by
  have h2 := turn_calls a b n W
  rw [fx_id ha, fx_id hb, h] at h2
  exact h2
theorem steps_s (a b e : Int) (ha : -1048576 ≤ a ∧ a ≤ 1048576) (hb : -1048576 ≤ b ∧ b ≤ 1048576) (h : ab a + ab b = e) (W : World) :
    Calls Try.prog 28 #[.agg #[.int .i64 a, .int .i64 b]] W fun e' w' => e' = .returned (.int .i64 e) ∧ Below W.heap.size W w' :=
  gauss_Steps.calls a b e W (by rw [steps_code, fx_id ha, fx_id hb, h])
theorem big_s (a b e : Int) (ha : -1048576 ≤ a ∧ a ≤ 1048576) (hb : -1048576 ≤ b ∧ b ≤ 1048576) (h : mx (ab a) (ab b) = e) (W : World) :
    Calls Try.prog 30 #[.agg #[.int .i64 a, .int .i64 b]] W fun e' w' => e' = .returned (.int .i64 e) ∧ Below W.heap.size W w' :=
  gauss_Big.calls a b e W (by rw [big_code, fx_id ha, fx_id hb, h])
theorem ab_neg (x : Int) : ab (-x) = ab x := by unfold ab mx; rw [Int.neg_neg]; split <;> split <;> omega
theorem ab_sq (x : Int) : ab x * ab x = x * x := by
  unfold ab mx
  split
  · rw [Int.neg_mul_neg]
  · rfl
theorem ab_nn (x : Int) : 0 ≤ ab x := by unfold ab mx; split <;> omega
theorem ab_add (x y : Int) : ab (x + y) ≤ ab x + ab y := by unfold ab mx; split <;> split <;> split <;> omega
theorem mx_comm (a b : Int) : mx a b = mx b a := by unfold mx; split <;> split <;> omega
theorem rot_cases (n x y : Int) : (n % 4 = 0 ∧ rot (n % 4).toNat x y = (x, y)) ∨ (n % 4 = 1 ∧ rot (n % 4).toNat x y = (-y, x)) ∨ (n % 4 = 2 ∧ rot (n % 4).toNat x y = (-x, -y)) ∨ (n % 4 = 3 ∧ rot (n % 4).toNat x y = (y, -x)) := by
  have hq : n % 4 = 0 ∨ n % 4 = 1 ∨ n % 4 = 2 ∨ n % 4 = 3 := by omega
  rcases hq with h | h | h | h <;> rw [h] <;> simp [rot]
theorem rot_rot (n m x y : Int) : rot (m % 4).toNat (rot (n % 4).toNat x y).1 (rot (n % 4).toNat x y).2 = rot ((n + m) % 4).toNat x y := by
  have hn : n % 4 = 0 ∨ n % 4 = 1 ∨ n % 4 = 2 ∨ n % 4 = 3 := by omega
  have hm : m % 4 = 0 ∨ m % 4 = 1 ∨ m % 4 = 2 ∨ m % 4 = 3 := by omega
  have e : (n + m) % 4 = (n % 4 + m % 4) % 4 := by omega
  rw [e]
  rcases hn with h | h | h | h <;> rcases hm with h2 | h2 | h2 | h2 <;> rw [h, h2] <;> simp [rot]
theorem turns_true (x1 y1 x2 y2 n m : Int) (w : World) (h1 : small x1 y1 = true) (h2 : small x2 y2 = true) (hn : -128 ≤ n ∧ n ≤ 127) (hm : -128 ≤ m ∧ m ≤ 127) :
    Calls Try.prog 6 #[.agg #[.int .i64 x1, .int .i64 y1], .agg #[.int .i64 x2, .int .i64 y2], .int .i8 n, .int .i8 m] w fun e w' => e = .returned (.bool true) ∧ Below w.heap.size w w' := by
  have s1 := h1; have s2 := h2
  unfold small at s1 s2
  rw [decide_eq_true_iff] at s1 s2
  obtain ⟨A1, A2, hA⟩ : ∃ A1 A2, rot (n % 4).toNat x1 y1 = (A1, A2) := ⟨_, _, rfl⟩
  obtain ⟨B1, B2, hB⟩ : ∃ B1 B2, rot ((n + m) % 4).toNat x1 y1 = (B1, B2) := ⟨_, _, rfl⟩
  have hAB := rot_rot n m x1 y1
  rw [hA, hB] at hAB
  simp only [] at hAB
  have hc := rot_cases n x1 y1
  rw [hA] at hc
  have a1 := ab_nn x1; have a2 := ab_nn y1; have a3 := ab_nn x2; have a4 := ab_nn y2
  have c1 := ab_add x1 x2; have c2 := ab_add y1 y2
  have d1 : ab x1 ≤ 500 := by unfold ab mx; split <;> omega
  have d2 : ab y1 ≤ 500 := by unfold ab mx; split <;> omega
  have d3 : ab x2 ≤ 500 := by unfold ab mx; split <;> omega
  have d4 : ab y2 ≤ 500 := by unfold ab mx; split <;> omega
  have e1 := ab_sq x1; have e2 := ab_sq y1
  have ff : (-500 ≤ A1 ∧ A1 ≤ 500 ∧ -500 ≤ A2 ∧ A2 ≤ 500) ∧ A1 * A1 + A2 * A2 = x1 * x1 + y1 * y1 ∧ ab A1 + ab A2 = ab x1 + ab y1 ∧ mx (ab A1) (ab A2) = mx (ab x1) (ab y1) := by
    rcases hc with ⟨_, h⟩ | ⟨_, h⟩ | ⟨_, h⟩ | ⟨_, h⟩
    all_goals
      obtain ⟨rfl, rfl⟩ := Prod.mk.inj h
      refine ⟨by omega, ?_, ?_, ?_⟩
      · simp only [Int.neg_mul_neg]; try omega
      · simp only [ab_neg]; try omega
      · simp only [ab_neg] <;> first | rfl | exact mx_comm _ _
  obtain ⟨f1, f2, f3, f4⟩ := ff
  have p1 := prod_le (a := x1) (b := x1) (by omega) (by omega)
  have p2 := prod_le (a := y1) (b := y1) (by omega) (by omega)
  have p3 := prod_le (a := ab x1) (b := ab y1) (by omega) (by omega)
  have p4 : 0 ≤ ab x1 * ab y1 := Int.mul_nonneg a1 a2
  have p5 : 0 ≤ (ab x1 - ab y1) * (ab x1 - ab y1) := by
    rcases Int.le_total 0 (ab x1 - ab y1) with h | h
    · exact Int.mul_nonneg h h
    · exact Int.mul_nonneg_of_nonpos_of_nonpos h h
  have p6 : (ab x1 - ab y1) * (ab x1 - ab y1) = ab x1 * ab x1 + ab y1 * ab y1 - 2 * (ab x1 * ab y1) := by
    simp only [Int.sub_mul, Int.mul_sub, Int.mul_comm (ab y1) (ab x1)]; omega
  have p7 : (ab x1 + ab y1) * (ab x1 + ab y1) = ab x1 * ab x1 + ab y1 * ab y1 + 2 * (ab x1 * ab y1) := by
    simp only [Int.add_mul, Int.mul_add, Int.mul_comm (ab y1) (ab x1)]; omega
  have g1 : mx (ab x1) (ab y1) ≤ ab x1 + ab y1 := by unfold mx; split <;> omega
  have g2 : ab x1 + ab y1 ≤ 2 * mx (ab x1) (ab y1) := by unfold mx; split <;> omega
  have ww : ∀ x : Int, -9223372036854775808 ≤ x → x ≤ 9223372036854775807 → IntKind.i64.wrap x = x ∧ wrap64 x = x := fun x h0 h1 => ⟨by rw [wrap_i64, w64 h0 h1], w64 h0 h1⟩
  have w1 := ww (n + m) (by omega) (by omega)
  have w2 := ww (4 * m) (by omega) (by omega)
  have w3 := ww (ab x1 + ab y1 + (ab x2 + ab y2)) (by omega) (by omega)
  have w4 := ww ((ab x1 + ab y1) * (ab x1 + ab y1)) (by omega) (by omega)
  have w5 := ww (2 * (x1 * x1 + y1 * y1)) (by omega) (by omega)
  have w6 := ww (2 * mx (ab x1) (ab y1)) (by omega) (by omega)
  have w7 := ww n (by omega) (by omega)
  have w8 := ww m (by omega) (by omega)
  refine turns_calls x1 y1 x2 y2 n m (n + m) (4 * m) A1 A2 B1 B2 (-y1) x1 (x1 + x2) (y1 + y2) (x1 * x1 + y1 * y1) (ab x1 + ab y1) (mx (ab x1) (ab y1)) (ab x2 + ab y2) (ab (x1 + x2) + ab (y1 + y2)) (ab x1 + ab y1 + (ab x2 + ab y2)) ((ab x1 + ab y1) * (ab x1 + ab y1)) (2 * (x1 * x1 + y1 * y1)) (2 * mx (ab x1) (ab y1)) w
    rfl rfl rfl rfl rfl rfl w1.1 w2.1 w3.1 w4.1 w5.1 w6.1 w7.1 w8.1 w7.2 w8.2 w1.2 w2.2 w3.2 w4.2 w5.2 w6.2 (eq_true (by omega)) (eq_true (by omega)) (eq_true (by omega)) (eq_true (by omega)) (eq_true (by omega))
    (small_s h1) (small_s h2) (turn_s _ _ _ _ _ (by omega) (by omega) hA) (turn_s _ _ _ _ _ (by omega) (by omega) hAB) (turn_s _ _ _ _ _ (by omega) (by omega) hB)
    (turn_s _ _ _ _ _ (by omega) (by omega) (by rw [show 4 * m % 4 = 0 from by omega]; rfl)) (turn_s _ _ _ _ _ (by omega) (by omega) rfl) (mul_s _ _ _ _ _ _ (by omega) (by omega) (by omega) (by omega) (by omega) (by omega))
    (norm_s _ _ _ (by omega) (by omega) f2) (norm_s _ _ _ (by omega) (by omega) rfl) (steps_s _ _ _ (by omega) (by omega) f3) (steps_s _ _ _ (by omega) (by omega) rfl) (big_s _ _ _ (by omega) (by omega) f4) (big_s _ _ _ (by omega) (by omega) rfl)
    (steps_s _ _ _ (by omega) (by omega) rfl) (add_s _ _ _ _ _ _ (by omega) (by omega) (by omega) (by omega) rfl rfl) (steps_s _ _ _ (by omega) (by omega) rfl)
set_option maxHeartbeats 1000000 in
set_option maxRecDepth 100000 in
theorem turns_none (x1 y1 x2 y2 n m : Int) (w : World) (b1 b2 : Bool) (h1 : small x1 y1 = b1) (h2 : small x2 y2 = b2) (hb : ¬ (b1 = true ∧ b2 = true)) :
    Calls Try.prog 6 #[.agg #[.int .i64 x1, .int .i64 y1], .agg #[.int .i64 x2, .int .i64 y2], .int .i8 n, .int .i8 m] w fun e w' => e = .returned (.bool true) ∧ Below w.heap.size w w' := by
  have HS := bk2_new w x1 y1 x2 y2
  have H1 := fun W => Aside0.mk (small_s h1 W)
  have H2 := fun W => Aside0.mk (small_s h2 W)
  clear h1 h2
  have HAL := fun W => Aside0.mk (tallymanlaw03_alive.calls true W alive3)
  have hcase : (b1 = false) ∨ (b1 = true ∧ b2 = false) := by cases b1 <;> cases b2 <;> simp at hb ⊢
  clear hb
  rcases hcase with rfl | ⟨rfl, rfl⟩
  all_goals
    go_enter Try.func6, Try.ntmps6
    go_wp2_with (first | (go_at_call 12; (with_reducible refine ((H1 _).out).mono ?_); rintro e w' ⟨rfl, hb⟩; have n0 := Bk2.keep HS hb; clear HS; have HS := n0; obtain ⟨_, _, _, k1, k2, k3, k4⟩ := n0; clear hb) | (go_at_call 12; (with_reducible refine ((H2 _).out).mono ?_); rintro e w' ⟨rfl, hb⟩; have n0 := Bk2.keep HS hb; clear HS; have HS := n0; obtain ⟨_, _, _, k1, k2, k3, k4⟩ := n0; clear hb) | (go_at_call 13; (with_reducible refine ((HAL _).out).mono ?_); rintro e w' ⟨rfl, hb⟩; have HE := Aside0.mk (below_step HS.2.2.1.out hb); clear hb))
    go_ret
    exact ⟨rfl, HE.out⟩
def tallymanlaw03_GaussTurns.Pure : Prop := True
theorem tallymanlaw03_GaussTurns.walk (P : tallymanlaw03_GaussTurns.Pure) (a0_0 a0_1 a1_0 a1_1 a2 a3 : Int) (w : World) (w0_0 : (Lit.int .i64 a0_0).wf = true) (w0_1 : (Lit.int .i64 a0_1).wf = true) (w1_0 : (Lit.int .i64 a1_0).wf = true) (w1_1 : (Lit.int .i64 a1_1).wf = true) (w2 : (Lit.int .i8 a2).wf = true) (w3 : (Lit.int .i8 a3).wf = true) :
    Calls Try.prog 6 #[.agg #[.int .i64 a0_0, .int .i64 a0_1], .agg #[.int .i64 a1_0, .int .i64 a1_1], .int .i8 a2, .int .i8 a3] w fun e w' => e = .returned (.bool true) ∧ Below w.heap.size w w' := by
  have n1 : -128 ≤ a2 ∧ a2 ≤ 127 := by simpa [Lit.wf, IntKind.min, IntKind.max, IntKind.bits, IntKind.signed] using w2
  have n2 : -128 ≤ a3 ∧ a3 ≤ 127 := by simpa [Lit.wf, IntKind.min, IntKind.max, IntKind.bits, IntKind.signed] using w3
  by_cases h : small a0_0 a0_1 = true ∧ small a1_0 a1_1 = true
  · exact turns_true _ _ _ _ _ _ w h.1 h.2 n1 n2
  · exact turns_none _ _ _ _ _ _ w _ _ rfl rfl h
end Go.Proofs.Ytbkcdfiokjhcjaa.P
