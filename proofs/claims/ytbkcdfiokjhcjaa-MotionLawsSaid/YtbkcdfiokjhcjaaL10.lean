/- MotionLaws: small motions are put together as they are done. -/
import Derived.Test.YtbkcdfiokjhcjaaL9
import Derived.Test.YtbkcdfiokjhcjaaLM
import Derived.Test.YtbkcdfiokjhcjaaF28
import Derived.Test.YtbkcdfiokjhcjaaF43
namespace Go.Proofs.Ytbkcdfiokjhcjaa.P
open Go.Proofs.Ytbkcdfiokjhcjaa.B Go.RowKit Go.Proofs.YtbkcdfiokjhcjaaW.PrintWords Go.Proofs.YtbkcdfiokjhcjaaW.PrintLast Go.Proofs.YtbkcdfiokjhcjaaW.PrintMore
set_option linter.unusedVariables false
set_option linter.unusedSimpArgs false
def small4 (x y : Int) : Bool := decide (-500 ≤ x ∧ x ≤ 500 ∧ -500 ≤ y ∧ y ≤ 500)
theorem small4_ref (x y : Int) : tallymanref03_Small.f x y 500 = some (small4 x y) := by
  unfold tallymanref03_Small.f small4
  rw [show wrap64 (-500) = -500 from by unfold wrap64; omega]
  by_cases h1 : x ≥ -500
  · rw [if_pos h1]
    by_cases h2 : x ≤ 500
    · rw [if_pos h2]
      by_cases h3 : y ≥ -500
      · rw [if_pos h3]; congr 1; rw [Bool.eq_iff_iff, decide_eq_true_iff, decide_eq_true_iff]; omega
      · rw [if_neg h3]; congr 1; symm; exact decide_eq_false (by omega)
    · rw [if_neg h2]; congr 1; symm; exact decide_eq_false (by omega)
  · rw [if_neg h1]; congr 1; symm; exact decide_eq_false (by omega)
theorem smallP_s {a b : Int} {r : Bool} (h : small4 a b = r) (W : World) : Calls Try.prog 12 #[.agg #[.int .i64 a, .int .i64 b], .int .i64 500] W fun e' w' => e' = .returned (.bool r) ∧ Below W.heap.size W w' := by
  have h2 := tallymanref03_Small.calls a b 500 r W (by rw [small4_ref, h])
  first | exact h2 | exact h2.mono fun e w' ⟨h3, h4⟩ => ⟨h3, h4.below⟩
theorem smallM_s {n a b : Int} {r : Bool} (h : small4 a b = r) (W : World) : Calls Try.prog 43 #[.agg #[.int .i64 n, .int .i64 a, .int .i64 b], .int .i64 500] W fun e' w' => e' = .returned (.bool r) ∧ Below W.heap.size W w' := by
  have h2 := tallymanref04_Small.calls n a b 500 r W (by unfold tallymanref04_Small.f; rw [small4_ref, h]; rfl)
  first | exact h2 | exact h2.mono fun e w' ⟨h3, h4⟩ => ⟨h3, h4.below⟩
theorem qtqt (q : Nat) (h : q < 4) : qt (q : Int) = q := by unfold qt; omega
def far (x : Int) : Prop := -1048576 ≤ x ∧ x ≤ 1048576
theorem then_s (n x y n' x' y' R1 R2 : Int) (r q : Nat) (hx : far x) (hy : far y) (hx' : far x') (hy' : far y') (hq : qt n' = q) (hr : (qt n + q) % 4 = r) (h : thenP x y q x' y' = (R1, R2)) (W : World) :
    Calls Try.prog 36 #[.agg #[.int .i64 n, .int .i64 x, .int .i64 y], .agg #[.int .i64 n', .int .i64 x', .int .i64 y']] W fun e w' => e = .returned (.agg #[.int .i64 r, .int .i64 R1, .int .i64 R2]) ∧ Below W.heap.size W w' := by
  have h2 := mthenm_calls n x y n' x' y' W
  rw [thenBy_P, fx_in hx, fx_in hy, fx_in hx', fx_in hy', hq, hr, h] at h2
  exact h2
theorem do_s (n x y u v R1 R2 : Int) (q : Nat) (hx : far x) (hy : far y) (hu : far u) (hv : far v) (hq : qt n = q) (h : thenP u v q x y = (R1, R2)) (W : World) :
    Calls Try.prog 34 #[.agg #[.int .i64 n, .int .i64 x, .int .i64 y], .agg #[.int .i64 u, .int .i64 v]] W fun e w' => e = .returned (.agg #[.int .i64 R1, .int .i64 R2]) ∧ Below W.heap.size W w' := by
  have h2 := mdo_calls n x y u v W
  rw [doBy_P, fx_in hx, fx_in hy, fx_in hu, fx_in hv, hq, h] at h2
  exact h2
theorem back_s (n x y R1 R2 : Int) (q r : Nat) (hx : far x) (hy : far y) (hq : qt n = q) (hr : ipBack q = r) (h : backP x y q = (R1, R2)) (W : World) :
    Calls Try.prog 38 #[.agg #[.int .i64 n, .int .i64 x, .int .i64 y]] W fun e w' => e = .returned (.agg #[.int .i64 r, .int .i64 R1, .int .i64 R2]) ∧ Below W.heap.size W w' := by
  have h2 := mbackm_calls n x y W
  rw [backBy_P, fx_in hx, fx_in hy, hq, hr, h] at h2
  exact h2
theorem sub_s4 (a b c d : Int) (ha : far a) (hb : far b) (hc : far c) (hd : far d) (W : World) :
    Calls Try.prog 16 #[.agg #[.int .i64 a, .int .i64 b], .agg #[.int .i64 c, .int .i64 d]] W fun e w' => e = .returned (.agg #[.int .i64 (a - c), .int .i64 (b - d)]) ∧ Below W.heap.size W w' := by
  have h2 := sub_calls a b c d W
  rw [fx_in ha, fx_in hb, fx_in hc, fx_in hd] at h2
  exact h2
theorem norm_s4 (a b e : Int) (ha : far a) (hb : far b) (h : a * a + b * b = e) (W : World) : Calls Try.prog 17 #[.agg #[.int .i64 a, .int .i64 b]] W fun e' w' => e' = .returned (.int .i64 e) ∧ Below W.heap.size W w' := by
  have h2 := norm_calls a b W
  rw [fx_in ha, fx_in hb, h] at h2
  exact h2
theorem steps_s4 (a b e : Int) (ha : far a) (hb : far b) (h : stepsP a b = e) (W : World) : Calls Try.prog 28 #[.agg #[.int .i64 a, .int .i64 b]] W fun e' w' => e' = .returned (.int .i64 e) ∧ Below W.heap.size W w' := by
  have ms : ∀ x : Int, far x → 0 ≤ mx x (-x) ∧ mx x (-x) ≤ 1048576 := fun x hx => by unfold far at hx; unfold mx; split <;> omega
  have m1 := ms a ha; have m2 := ms b hb
  have k : ∀ x : Int, -9223372036854775808 ≤ x → x ≤ 9223372036854775807 → wrap64 x = x := fun x h0 h1 => by unfold wrap64; omega
  have h3 : gauss_Steps.f a b = some e := by
    unfold gauss_Steps.f gauss_sizes.f gauss_Fix.f
    have a1 := ha; have b1 := hb
    unfold far at a1 b1
    simp only [Option.bind_some]
    rw [fx_in ha, fx_in hb, k (-a) (by omega) (by omega), k (-b) (by omega) (by omega)]
    rw [k _ (by omega) (by omega), ← h]; rfl
  exact gauss_Steps.calls a b e W h3
set_option maxHeartbeats 4000000 in
set_option maxRecDepth 100000 in
theorem laws_none (a1 a2 a3 b1 b2 b3 c1 c2 c3 p1 p2 q1 q2 : Int) (w : World) (f1 f2 f3 f4 f5 : Bool) (h1 : small4 a2 a3 = f1) (h2 : small4 b2 b3 = f2) (h3 : small4 c2 c3 = f3) (h4 : small4 p1 p2 = f4) (h5 : small4 q1 q2 = f5) (hb : ¬ (f1 = true ∧ f2 = true ∧ f3 = true ∧ f4 = true ∧ f5 = true)) :
    Calls Try.prog 9 #[.agg #[.int .i64 a1, .int .i64 a2, .int .i64 a3], .agg #[.int .i64 b1, .int .i64 b2, .int .i64 b3], .agg #[.int .i64 c1, .int .i64 c2, .int .i64 c3], .agg #[.int .i64 p1, .int .i64 p2], .agg #[.int .i64 q1, .int .i64 q2]] w fun e w' => e = .returned (.bool true) ∧ Below w.heap.size w w' := by
  have HS := LwS.new w a1 a2 a3 b1 b2 b3 c1 c2 c3 p1 p2 q1 q2
  have H1 := fun W => Aside0.mk (smallM_s (n := a1) h1 W)
  have H2 := fun W => Aside0.mk (smallM_s (n := b1) h2 W)
  have H3 := fun W => Aside0.mk (smallM_s (n := c1) h3 W)
  have H4 := fun W => Aside0.mk (smallP_s h4 W)
  have H5 := fun W => Aside0.mk (smallP_s h5 W)
  clear h1 h2 h3 h4 h5
  have HAL := fun W => Aside0.mk (alive4_calls W)
  have hcase : (f1 = false) ∨ (f1 = true ∧ f2 = false) ∨ (f1 = true ∧ f2 = true ∧ f3 = false) ∨ (f1 = true ∧ f2 = true ∧ f3 = true ∧ f4 = false) ∨ (f1 = true ∧ f2 = true ∧ f3 = true ∧ f4 = true ∧ f5 = false) := by
    cases f1 <;> cases f2 <;> cases f3 <;> cases f4 <;> cases f5 <;> simp at hb ⊢
  clear hb
  rcases hcase with rfl | ⟨rfl, rfl⟩ | ⟨rfl, rfl, rfl⟩ | ⟨rfl, rfl, rfl, rfl⟩ | ⟨rfl, rfl, rfl, rfl, rfl⟩
  all_goals
    go_enter Try.func9, Try.ntmps9
    go_wp2_with (first | (go_at_call 43; (with_reducible refine ((H1 _).out).mono ?_); rintro e w' ⟨rfl, hb⟩; have n0 := LwS.keep HS hb; clear HS; have HS := n0; obtain ⟨_, _, _, _, _, _, k1, k2, k3, k4, k5, k6, k7, k8, k9, k10, k11, k12, k13⟩ := n0; clear hb) | (go_at_call 43; (with_reducible refine ((H2 _).out).mono ?_); rintro e w' ⟨rfl, hb⟩; have n0 := LwS.keep HS hb; clear HS; have HS := n0; obtain ⟨_, _, _, _, _, _, k1, k2, k3, k4, k5, k6, k7, k8, k9, k10, k11, k12, k13⟩ := n0; clear hb) | (go_at_call 43; (with_reducible refine ((H3 _).out).mono ?_); rintro e w' ⟨rfl, hb⟩; have n0 := LwS.keep HS hb; clear HS; have HS := n0; obtain ⟨_, _, _, _, _, _, k1, k2, k3, k4, k5, k6, k7, k8, k9, k10, k11, k12, k13⟩ := n0; clear hb) | (go_at_call 12; (with_reducible refine ((H4 _).out).mono ?_); rintro e w' ⟨rfl, hb⟩; have n0 := LwS.keep HS hb; clear HS; have HS := n0; obtain ⟨_, _, _, _, _, _, k1, k2, k3, k4, k5, k6, k7, k8, k9, k10, k11, k12, k13⟩ := n0; clear hb) | (go_at_call 12; (with_reducible refine ((H5 _).out).mono ?_); rintro e w' ⟨rfl, hb⟩; have n0 := LwS.keep HS hb; clear HS; have HS := n0; obtain ⟨_, _, _, _, _, _, k1, k2, k3, k4, k5, k6, k7, k8, k9, k10, k11, k12, k13⟩ := n0; clear hb) | (go_at_call 40; (with_reducible refine ((HAL _).out).mono ?_); rintro e w' ⟨rfl, hb⟩; have HE := Aside0.mk (below_step HS.2.2.2.2.2.1.out hb); clear hb))
    go_ret
    exact ⟨rfl, HE.out⟩
theorem laws_true (a1 a2 a3 b1 b2 b3 c1 c2 c3 p1 p2 q1 q2 : Int) (w : World) (h1 : small4 a2 a3 = true) (h2 : small4 b2 b3 = true) (h3 : small4 c2 c3 = true) (h4 : small4 p1 p2 = true) (h5 : small4 q1 q2 = true) :
    Calls Try.prog 9 #[.agg #[.int .i64 a1, .int .i64 a2, .int .i64 a3], .agg #[.int .i64 b1, .int .i64 b2, .int .i64 b3], .agg #[.int .i64 c1, .int .i64 c2, .int .i64 c3], .agg #[.int .i64 p1, .int .i64 p2], .agg #[.int .i64 q1, .int .i64 q2]] w fun e w' => e = .returned (.bool true) ∧ Below w.heap.size w w' := by
  have s1 := h1; have s2 := h2; have s3 := h3; have s4 := h4; have s5 := h5
  unfold small4 at s1 s2 s3 s4 s5
  rw [decide_eq_true_iff] at s1 s2 s3 s4 s5
  have α4 := qt_lt a1; have β4 := qt_lt b1; have γ4 := qt_lt c1
  obtain ⟨α, hα⟩ : ∃ α, qt a1 = α := ⟨_, rfl⟩
  obtain ⟨β, hβ⟩ : ∃ β, qt b1 = β := ⟨_, rfl⟩
  obtain ⟨γ, hγ⟩ : ∃ γ, qt c1 = γ := ⟨_, rfl⟩
  rw [hα] at α4; rw [hβ] at β4; rw [hγ] at γ4
  have e0 := do_then p1 p2 a2 a3 b2 b3 α β α4 β4
  have e1 := do_then a2 a3 b2 b3 c2 c3 β γ β4 γ4
  have e2 := then_back a2 a3 α α4
  have e3 := do_back a2 a3 p1 p2 α α4
  have e4 := apart p1 p2 q1 q2 a2 a3 α α4
  have bA := thenP_bd 500 500 a2 a3 b2 b3 β β4 (by omega) (by omega) (by omega) (by omega)
  have bC := thenP_bd 500 500 b2 b3 c2 c3 γ γ4 (by omega) (by omega) (by omega) (by omega)
  have bE := thenP_bd 500 500 p1 p2 a2 a3 α α4 (by omega) (by omega) (by omega) (by omega)
  have bF := thenP_bd 500 500 q1 q2 a2 a3 α α4 (by omega) (by omega) (by omega) (by omega)
  have bK := cm_bd 500 (-a2) (-a3) (ipBack α) (ipBack_lt α) (by omega) (by omega)
  rw [show cm (-a2, -a3) (ip (ipBack α)) = backP a2 a3 α from rfl] at bK
  obtain ⟨⟨A2, A3⟩, hA⟩ : ∃ X, thenP a2 a3 β b2 b3 = X := ⟨_, rfl⟩
  obtain ⟨⟨C2, C3⟩, hC⟩ : ∃ X, thenP b2 b3 γ c2 c3 = X := ⟨_, rfl⟩
  obtain ⟨⟨E1, E2⟩, hE⟩ : ∃ X, thenP p1 p2 α a2 a3 = X := ⟨_, rfl⟩
  obtain ⟨⟨F1, F2⟩, hF⟩ : ∃ X, thenP q1 q2 α a2 a3 = X := ⟨_, rfl⟩
  obtain ⟨⟨K2, K3⟩, hK⟩ : ∃ X, backP a2 a3 α = X := ⟨_, rfl⟩
  rw [hA] at e0 e1 bA; rw [hC] at e1 bC; rw [hE] at e0 e3 e4 bE; rw [hF] at e4 bF; rw [hK] at e2 e3 bK
  obtain ⟨⟨D1, D2⟩, hD⟩ : ∃ X, thenP p1 p2 ((α + β) % 4) A2 A3 = X := ⟨_, rfl⟩
  obtain ⟨⟨T2, T3⟩, hT⟩ : ∃ X, thenP A2 A3 γ c2 c3 = X := ⟨_, rfl⟩
  simp only [] at e0 e1 e2 e3 e4 bA bC bE bF bK
  rw [hD] at e0
  rw [hT] at e1
  refine laws_calls a1 a2 a3 b1 b2 b3 c1 c2 c3 p1 p2 q1 q2 ((α + β) % 4 : Nat) A2 A3 D1 D2 E1 E2 (((α + β) % 4 + γ) % 4 : Nat) T2 T3 ((β + γ) % 4 : Nat) C2 C3 (ipBack α : Nat) K2 K3 (p1 - q1) (p2 - q2) F1 F2 (E1 - F1) (E2 - F2) (stepsP (p1 - q1) (p2 - q2)) ((p1 - q1) * (p1 - q1) + (p2 - q2) * (p2 - q2)) w
    (then_s _ _ _ _ _ _ _ _ _ β ?_ ?_ ?_ ?_ hβ (by rw [hα]) hA) (do_s _ _ _ _ _ _ _ ((α + β) % 4) ?_ ?_ ?_ ?_ (qtqt _ (by omega)) hD) (do_s _ _ _ _ _ _ _ α ?_ ?_ ?_ ?_ hα hE) (do_s _ _ _ _ _ _ _ β ?_ ?_ ?_ ?_ hβ e0.symm)
    (then_s _ _ _ _ _ _ _ _ _ γ ?_ ?_ ?_ ?_ hγ (by rw [qtqt _ (by omega)]) hT) (then_s _ _ _ _ _ _ _ _ _ γ ?_ ?_ ?_ ?_ hγ (by rw [hβ]) hC) (then_s _ _ _ _ _ _ _ _ _ ((β + γ) % 4) ?_ ?_ ?_ ?_ (qtqt _ (by omega)) (by rw [hα]; omega) e1)
    (back_s _ _ _ _ _ α _ ?_ ?_ hα rfl hK) (then_s _ _ _ _ _ _ _ _ 0 (ipBack α) ?_ ?_ ?_ ?_ (qtqt _ (ipBack_lt α)) (by rw [hα]; exact e2.1) e2.2.1) (then_s _ _ _ _ _ _ _ _ 0 α ?_ ?_ ?_ ?_ hα (by rw [qtqt _ (ipBack_lt α), Nat.add_comm]; exact e2.1) e2.2.2) (do_s _ _ _ _ _ _ _ (ipBack α) ?_ ?_ ?_ ?_ (qtqt _ (ipBack_lt α)) e3)
    (sub_s4 _ _ _ _ ?_ ?_ ?_ ?_) (do_s _ _ _ _ _ _ _ α ?_ ?_ ?_ ?_ hα hF) (sub_s4 _ _ _ _ ?_ ?_ ?_ ?_) (steps_s4 _ _ _ ?_ ?_ rfl) (steps_s4 _ _ _ ?_ ?_ e4.1) (norm_s4 _ _ _ ?_ ?_ rfl) (norm_s4 _ _ _ ?_ ?_ e4.2)
    (smallM_s h1) (smallM_s h2) (smallM_s h3) (smallP_s h4) (smallP_s h5) alive4_calls
  all_goals (unfold far; omega)
def tallymanlaw04_MotionLaws.Pure : Prop := True
theorem tallymanlaw04_MotionLaws.walk (P : tallymanlaw04_MotionLaws.Pure) (a0_0 a0_1 a0_2 a1_0 a1_1 a1_2 a2_0 a2_1 a2_2 a3_0 a3_1 a4_0 a4_1 : Int) (w : World) (w0_0 : (Lit.int .i64 a0_0).wf = true) (w0_1 : (Lit.int .i64 a0_1).wf = true) (w0_2 : (Lit.int .i64 a0_2).wf = true) (w1_0 : (Lit.int .i64 a1_0).wf = true) (w1_1 : (Lit.int .i64 a1_1).wf = true) (w1_2 : (Lit.int .i64 a1_2).wf = true) (w2_0 : (Lit.int .i64 a2_0).wf = true) (w2_1 : (Lit.int .i64 a2_1).wf = true) (w2_2 : (Lit.int .i64 a2_2).wf = true) (w3_0 : (Lit.int .i64 a3_0).wf = true) (w3_1 : (Lit.int .i64 a3_1).wf = true) (w4_0 : (Lit.int .i64 a4_0).wf = true) (w4_1 : (Lit.int .i64 a4_1).wf = true) :
    Calls Try.prog 9 #[.agg #[.int .i64 a0_0, .int .i64 a0_1, .int .i64 a0_2], .agg #[.int .i64 a1_0, .int .i64 a1_1, .int .i64 a1_2], .agg #[.int .i64 a2_0, .int .i64 a2_1, .int .i64 a2_2], .agg #[.int .i64 a3_0, .int .i64 a3_1], .agg #[.int .i64 a4_0, .int .i64 a4_1]] w fun e w' => e = .returned (.bool true) ∧ Below w.heap.size w w' := by
  by_cases h : small4 a0_1 a0_2 = true ∧ small4 a1_1 a1_2 = true ∧ small4 a2_1 a2_2 = true ∧ small4 a3_0 a3_1 = true ∧ small4 a4_0 a4_1 = true
  · exact laws_true _ _ _ _ _ _ _ _ _ _ _ _ _ w h.1 h.2.1 h.2.2.1 h.2.2.2.1 h.2.2.2.2
  · exact laws_none _ _ _ _ _ _ _ _ _ _ _ _ _ w _ _ _ _ _ rfl rfl rfl rfl rfl h
end Go.Proofs.Ytbkcdfiokjhcjaa.P
