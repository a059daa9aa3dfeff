/- GaussTurns: turns add up, and leave the sizes. -/
import Derived.Test.YtbkcdfiokjhcjaaGP
import Derived.Test.YtbkcdfiokjhcjaaF12
import Derived.Test.YtbkcdfiokjhcjaaF24
import Derived.Test.YtbkcdfiokjhcjaaF28
import Derived.Test.YtbkcdfiokjhcjaaF30
import Derived.Deep.RegionHeld3
set_option linter.unusedVariables false
set_option linter.unusedSimpArgs false
namespace Go.Proofs.Ytbkcdfiokjhcjaa.P
open Go.Proofs.Ytbkcdfiokjhcjaa.B Go.RowKit Go.Proofs.Ytbkcdfiokjhcjaa.Pure Go.Proofs.YtbkcdfiokjhcjaaW.PrintWords Go.Proofs.YtbkcdfiokjhcjaaW.PrintLast Go.Proofs.YtbkcdfiokjhcjaaW.PrintMore
attribute [local go_sem high] eqA23
abbrev Bk2 (w0 : World) (g1 g2 : Nat) (u1 v1 u2 v2 : Int) (w' : World) : Prop :=
  Aside0 (w'.heap[g1]? = some (.cells #[.int .i64 u1, .int .i64 v1] 23 (0, 0))) ∧ Aside0 (w'.heap[g2]? = some (.cells #[.int .i64 u2, .int .i64 v2] 23 (0, 0))) ∧ Aside0 (Below w0.heap.size w0 w') ∧ w'.cell? ⟨g1, 0, none⟩ = some (.int .i64 u1) ∧ w'.cell? ⟨g1, 1, none⟩ = some (.int .i64 v1) ∧ w'.cell? ⟨g2, 0, none⟩ = some (.int .i64 u2) ∧ w'.cell? ⟨g2, 1, none⟩ = some (.int .i64 v2)
theorem Bk2.mk {w0 : World} {g1 g2 : Nat} {u1 v1 u2 v2 : Int} {w' : World} (h1 : w'.heap[g1]? = some (.cells #[.int .i64 u1, .int .i64 v1] 23 (0, 0))) (h2 : w'.heap[g2]? = some (.cells #[.int .i64 u2, .int .i64 v2] 23 (0, 0))) (hB : Below w0.heap.size w0 w') : Bk2 w0 g1 g2 u1 v1 u2 v2 w' :=
  ⟨⟨h1⟩, ⟨h2⟩, ⟨hB⟩, blk_cell h1 0, blk_cell h1 1, blk_cell h2 0, blk_cell h2 1⟩
theorem Bk2.keep {w0 : World} {g1 g2 : Nat} {u1 v1 u2 v2 : Int} {w1 w2 : World} (h : Bk2 w0 g1 g2 u1 v1 u2 v2 w1) (hb : Below w1.heap.size w1 w2) : Bk2 w0 g1 g2 u1 v1 u2 v2 w2 :=
  Bk2.mk (blk_keep h.1.out hb) (blk_keep h.2.1.out hb) (below_step h.2.2.1.out hb)
theorem Bk2.drew {w0 : World} {g1 g2 : Nat} {u1 v1 u2 v2 : Int} {w1 : World} (h : Bk2 w0 g1 g2 u1 v1 u2 v2 w1) : Bk2 w0 g1 g2 u1 v1 u2 v2 w1.drew :=
  Bk2.mk h.1.out h.2.1.out (below_drew h.2.2.1.out)
abbrev Bk3 (w0 : World) (g1 g2 g3 : Nat) (u1 v1 u2 v2 u3 v3 : Int) (w' : World) : Prop :=
  Aside0 (w'.heap[g1]? = some (.cells #[.int .i64 u1, .int .i64 v1] 23 (0, 0))) ∧ Aside0 (w'.heap[g2]? = some (.cells #[.int .i64 u2, .int .i64 v2] 23 (0, 0))) ∧ Aside0 (w'.heap[g3]? = some (.cells #[.int .i64 u3, .int .i64 v3] 23 (0, 0))) ∧ Aside0 (Below w0.heap.size w0 w') ∧ w'.cell? ⟨g1, 0, none⟩ = some (.int .i64 u1) ∧ w'.cell? ⟨g1, 1, none⟩ = some (.int .i64 v1) ∧ w'.cell? ⟨g2, 0, none⟩ = some (.int .i64 u2) ∧ w'.cell? ⟨g2, 1, none⟩ = some (.int .i64 v2) ∧ w'.cell? ⟨g3, 0, none⟩ = some (.int .i64 u3) ∧ w'.cell? ⟨g3, 1, none⟩ = some (.int .i64 v3)
theorem Bk3.mk {w0 : World} {g1 g2 g3 : Nat} {u1 v1 u2 v2 u3 v3 : Int} {w' : World} (h1 : w'.heap[g1]? = some (.cells #[.int .i64 u1, .int .i64 v1] 23 (0, 0))) (h2 : w'.heap[g2]? = some (.cells #[.int .i64 u2, .int .i64 v2] 23 (0, 0))) (h3 : w'.heap[g3]? = some (.cells #[.int .i64 u3, .int .i64 v3] 23 (0, 0))) (hB : Below w0.heap.size w0 w') : Bk3 w0 g1 g2 g3 u1 v1 u2 v2 u3 v3 w' :=
  ⟨⟨h1⟩, ⟨h2⟩, ⟨h3⟩, ⟨hB⟩, blk_cell h1 0, blk_cell h1 1, blk_cell h2 0, blk_cell h2 1, blk_cell h3 0, blk_cell h3 1⟩
theorem Bk3.keep {w0 : World} {g1 g2 g3 : Nat} {u1 v1 u2 v2 u3 v3 : Int} {w1 w2 : World} (h : Bk3 w0 g1 g2 g3 u1 v1 u2 v2 u3 v3 w1) (hb : Below w1.heap.size w1 w2) : Bk3 w0 g1 g2 g3 u1 v1 u2 v2 u3 v3 w2 :=
  Bk3.mk (blk_keep h.1.out hb) (blk_keep h.2.1.out hb) (blk_keep h.2.2.1.out hb) (below_step h.2.2.2.1.out hb)
theorem Bk3.drew {w0 : World} {g1 g2 g3 : Nat} {u1 v1 u2 v2 u3 v3 : Int} {w1 : World} (h : Bk3 w0 g1 g2 g3 u1 v1 u2 v2 u3 v3 w1) : Bk3 w0 g1 g2 g3 u1 v1 u2 v2 u3 v3 w1.drew :=
  Bk3.mk h.1.out h.2.1.out h.2.2.1.out (below_drew h.2.2.2.1.out)
theorem bk2_new (w : World) (x1 y1 x2 y2 : Int) : Bk2 w w.heap.size (w.heap.size + 1) x1 y1 x2 y2 ((w.alloc (.cells #[.int .i64 x1, .int .i64 y1] 23)).alloc (.cells #[.int .i64 x2, .int .i64 y2] 23)) := by
  have a1 := blk_new w (.cells #[.int .i64 x1, .int .i64 y1] 23)
  have a2 := blk_new (w.alloc (.cells #[.int .i64 x1, .int .i64 y1] 23)) (.cells #[.int .i64 x2, .int .i64 y2] 23)
  rw [alloc_size] at a2
  exact Bk2.mk (blk_keep a1 (below_alloc (Below.refl _ _) _)) a2 (below_alloc (below_alloc (Below.refl _ _) _) _)
theorem bk3_of {w0 w1 : World} {g1 g2 : Nat} {u1 v1 u2 v2 : Int} (h : Bk2 w0 g1 g2 u1 v1 u2 v2 w1) (a b : Int) : Bk3 w0 g1 g2 w1.heap.size u1 v1 u2 v2 a b (w1.alloc (.cells #[.int .i64 a, .int .i64 b] 23)) :=
  Bk3.mk (blk_keep h.1.out (below_alloc (Below.refl _ _) _)) (blk_keep h.2.1.out (below_alloc (Below.refl _ _) _)) (blk_new w1 _) (below_alloc h.2.2.1.out _)
set_option maxHeartbeats 8000000 in
set_option maxRecDepth 100000 in
theorem turns_calls (x1 y1 x2 y2 n m s m4 A1 A2 B1 B2 D1 D2 E1 E2 N S G S2 SE T SS N2 G2 : Int) (w : World)
    (hs : n + m = s) (hm4 : 4 * m = m4) (hT : S + S2 = T) (hSS : S * S = SS) (hN2 : 2 * N = N2) (hG2 : 2 * G = G2) (ws : IntKind.i64.wrap s = s) (wm : IntKind.i64.wrap m4 = m4) (wT : IntKind.i64.wrap T = T) (wSS : IntKind.i64.wrap SS = SS) (wN : IntKind.i64.wrap N2 = N2) (wG : IntKind.i64.wrap G2 = G2) (un : IntKind.i64.wrap n = n) (um : IntKind.i64.wrap m = m) (vn : wrap64 n = n) (vm : wrap64 m = m) (vs : wrap64 s = s) (v4 : wrap64 m4 = m4) (vT : wrap64 T = T) (vS : wrap64 SS = SS) (vN : wrap64 N2 = N2) (vG : wrap64 G2 = G2)
    (q1 : (SE ≤ T) = True) (q2 : (N ≤ SS) = True) (q3 : (SS ≤ N2) = True) (q4 : (G ≤ S) = True) (q5 : (S ≤ G2) = True)
    (h0 : ∀ W, Calls Try.prog 12 #[.agg #[.int .i64 x1, .int .i64 y1], .int .i64 500] W fun e w' => e = .returned (.bool true) ∧ Below W.heap.size W w')
    (h1 : ∀ W, Calls Try.prog 12 #[.agg #[.int .i64 x2, .int .i64 y2], .int .i64 500] W fun e w' => e = .returned (.bool true) ∧ Below W.heap.size W w')
    (h2 : ∀ W, Calls Try.prog 25 #[.agg #[.int .i64 x1, .int .i64 y1], .int .i64 n] W fun e w' => e = .returned (.agg #[.int .i64 A1, .int .i64 A2]) ∧ Below W.heap.size W w')
    (h3 : ∀ W, Calls Try.prog 25 #[.agg #[.int .i64 A1, .int .i64 A2], .int .i64 m] W fun e w' => e = .returned (.agg #[.int .i64 B1, .int .i64 B2]) ∧ Below W.heap.size W w')
    (h4 : ∀ W, Calls Try.prog 25 #[.agg #[.int .i64 x1, .int .i64 y1], .int .i64 s] W fun e w' => e = .returned (.agg #[.int .i64 B1, .int .i64 B2]) ∧ Below W.heap.size W w')
    (h5 : ∀ W, Calls Try.prog 25 #[.agg #[.int .i64 x1, .int .i64 y1], .int .i64 m4] W fun e w' => e = .returned (.agg #[.int .i64 x1, .int .i64 y1]) ∧ Below W.heap.size W w')
    (h6 : ∀ W, Calls Try.prog 25 #[.agg #[.int .i64 x1, .int .i64 y1], .int .i64 1] W fun e w' => e = .returned (.agg #[.int .i64 D1, .int .i64 D2]) ∧ Below W.heap.size W w')
    (h7 : ∀ W, Calls Try.prog 15 #[.agg #[.int .i64 x1, .int .i64 y1], .agg #[.int .i64 0, .int .i64 1]] W fun e w' => e = .returned (.agg #[.int .i64 D1, .int .i64 D2]) ∧ Below W.heap.size W w')
    (h8 : ∀ W, Calls Try.prog 17 #[.agg #[.int .i64 A1, .int .i64 A2]] W fun e w' => e = .returned (.int .i64 N) ∧ Below W.heap.size W w')
    (h9 : ∀ W, Calls Try.prog 17 #[.agg #[.int .i64 x1, .int .i64 y1]] W fun e w' => e = .returned (.int .i64 N) ∧ Below W.heap.size W w')
    (h10 : ∀ W, Calls Try.prog 28 #[.agg #[.int .i64 A1, .int .i64 A2]] W fun e w' => e = .returned (.int .i64 S) ∧ Below W.heap.size W w')
    (h11 : ∀ W, Calls Try.prog 28 #[.agg #[.int .i64 x1, .int .i64 y1]] W fun e w' => e = .returned (.int .i64 S) ∧ Below W.heap.size W w')
    (h12 : ∀ W, Calls Try.prog 30 #[.agg #[.int .i64 A1, .int .i64 A2]] W fun e w' => e = .returned (.int .i64 G) ∧ Below W.heap.size W w')
    (h13 : ∀ W, Calls Try.prog 30 #[.agg #[.int .i64 x1, .int .i64 y1]] W fun e w' => e = .returned (.int .i64 G) ∧ Below W.heap.size W w')
    (h14 : ∀ W, Calls Try.prog 28 #[.agg #[.int .i64 x2, .int .i64 y2]] W fun e w' => e = .returned (.int .i64 S2) ∧ Below W.heap.size W w')
    (h15 : ∀ W, Calls Try.prog 14 #[.agg #[.int .i64 x1, .int .i64 y1], .agg #[.int .i64 x2, .int .i64 y2]] W fun e w' => e = .returned (.agg #[.int .i64 E1, .int .i64 E2]) ∧ Below W.heap.size W w')
    (h16 : ∀ W, Calls Try.prog 28 #[.agg #[.int .i64 E1, .int .i64 E2]] W fun e w' => e = .returned (.int .i64 SE) ∧ Below W.heap.size W w') :
    Calls Try.prog 6 #[.agg #[.int .i64 x1, .int .i64 y1], .agg #[.int .i64 x2, .int .i64 y2], .int .i8 n, .int .i8 m] w fun e w' => e = .returned (.bool true) ∧ Below w.heap.size w w' := by
  have HS := bk2_new w x1 y1 x2 y2
  have H0 := Aside0.mk h0; clear h0
  have H1 := Aside0.mk h1; clear h1
  have H2 := Aside0.mk h2; clear h2
  have H3 := Aside0.mk h3; clear h3
  have H4 := Aside0.mk h4; clear h4
  have H5 := Aside0.mk h5; clear h5
  have H6 := Aside0.mk h6; clear h6
  have H7 := Aside0.mk h7; clear h7
  have H8 := Aside0.mk h8; clear h8
  have H9 := Aside0.mk h9; clear h9
  have H10 := Aside0.mk h10; clear h10
  have H11 := Aside0.mk h11; clear h11
  have H12 := Aside0.mk h12; clear h12
  have H13 := Aside0.mk h13; clear h13
  have H14 := Aside0.mk h14; clear h14
  have H15 := Aside0.mk h15; clear h15
  have H16 := Aside0.mk h16; clear h16
  go_enter Try.func6, Try.ntmps6
  go_wp2_with (first | (go_at_call 12; (with_reducible refine (H0.out _).mono ?_); rintro e w' ⟨rfl, hb⟩; have n0 := Bk2.keep HS hb; clear HS; have HS := n0; obtain ⟨_, _, _, k1, k2, k3, k4⟩ := n0; clear hb) | (go_at_call 12; (with_reducible refine (H1.out _).mono ?_); rintro e w' ⟨rfl, hb⟩; have n0 := Bk2.keep HS hb; clear HS; have HS := n0; obtain ⟨_, _, _, k1, k2, k3, k4⟩ := n0; clear hb) | (go_at_call 25; (with_reducible refine (H2.out _).mono ?_); rintro e w' ⟨rfl, hb⟩; have n0 := Bk2.keep HS hb; clear HS; have HS := n0; obtain ⟨_, _, _, k1, k2, k3, k4⟩ := n0; clear hb))
  have n0 := bk3_of HS A1 A2
  clear HS k1 k2 k3 k4
  generalize w'.heap.size = g at n0 ⊢
  have HS := n0
  clear n0
  go_region_held3 (Bk3 w w.heap.size (w.heap.size + 1) g x1 y1 x2 y2 A1 A2)
    (first | exact Bk3.keep (by assumption) hb | exact Bk3.drew HS)
    (first | (go_at_call 12; (with_reducible refine (H0.out _).mono ?_); rintro e w' ⟨rfl, hb⟩) | (go_at_call 12; (with_reducible refine (H1.out _).mono ?_); rintro e w' ⟨rfl, hb⟩) | (go_at_call 25; (with_reducible refine (H2.out _).mono ?_); rintro e w' ⟨rfl, hb⟩) | (go_at_call 25; (with_reducible refine (H3.out _).mono ?_); rintro e w' ⟨rfl, hb⟩) | (go_at_call 25; (with_reducible refine (H4.out _).mono ?_); rintro e w' ⟨rfl, hb⟩) | (go_at_call 25; (with_reducible refine (H5.out _).mono ?_); rintro e w' ⟨rfl, hb⟩) | (go_at_call 25; (with_reducible refine (H6.out _).mono ?_); rintro e w' ⟨rfl, hb⟩) | (go_at_call 15; (with_reducible refine (H7.out _).mono ?_); rintro e w' ⟨rfl, hb⟩) | (go_at_call 17; (with_reducible refine (H8.out _).mono ?_); rintro e w' ⟨rfl, hb⟩) | (go_at_call 17; (with_reducible refine (H9.out _).mono ?_); rintro e w' ⟨rfl, hb⟩) | (go_at_call 28; (with_reducible refine (H10.out _).mono ?_); rintro e w' ⟨rfl, hb⟩) | (go_at_call 28; (with_reducible refine (H11.out _).mono ?_); rintro e w' ⟨rfl, hb⟩) | (go_at_call 30; (with_reducible refine (H12.out _).mono ?_); rintro e w' ⟨rfl, hb⟩) | (go_at_call 30; (with_reducible refine (H13.out _).mono ?_); rintro e w' ⟨rfl, hb⟩) | (go_at_call 28; (with_reducible refine (H14.out _).mono ?_); rintro e w' ⟨rfl, hb⟩) | (go_at_call 14; (with_reducible refine (H15.out _).mono ?_); rintro e w' ⟨rfl, hb⟩) | (go_at_call 28; (with_reducible refine (H16.out _).mono ?_); rintro e w' ⟨rfl, hb⟩) | (go_at_call 13; (with_reducible refine (tallymanlaw03_alive.calls true _ alive3).mono ?_); rintro e w' ⟨rfl, hb⟩))
  clear HS
  rename_i HS
  go_wp2
  go_region_held3 (Bk3 w w.heap.size (w.heap.size + 1) g x1 y1 x2 y2 A1 A2)
    (first | exact Bk3.keep (by assumption) hb | exact Bk3.drew HS)
    (first | (go_at_call 12; (with_reducible refine (H0.out _).mono ?_); rintro e w' ⟨rfl, hb⟩) | (go_at_call 12; (with_reducible refine (H1.out _).mono ?_); rintro e w' ⟨rfl, hb⟩) | (go_at_call 25; (with_reducible refine (H2.out _).mono ?_); rintro e w' ⟨rfl, hb⟩) | (go_at_call 25; (with_reducible refine (H3.out _).mono ?_); rintro e w' ⟨rfl, hb⟩) | (go_at_call 25; (with_reducible refine (H4.out _).mono ?_); rintro e w' ⟨rfl, hb⟩) | (go_at_call 25; (with_reducible refine (H5.out _).mono ?_); rintro e w' ⟨rfl, hb⟩) | (go_at_call 25; (with_reducible refine (H6.out _).mono ?_); rintro e w' ⟨rfl, hb⟩) | (go_at_call 15; (with_reducible refine (H7.out _).mono ?_); rintro e w' ⟨rfl, hb⟩) | (go_at_call 17; (with_reducible refine (H8.out _).mono ?_); rintro e w' ⟨rfl, hb⟩) | (go_at_call 17; (with_reducible refine (H9.out _).mono ?_); rintro e w' ⟨rfl, hb⟩) | (go_at_call 28; (with_reducible refine (H10.out _).mono ?_); rintro e w' ⟨rfl, hb⟩) | (go_at_call 28; (with_reducible refine (H11.out _).mono ?_); rintro e w' ⟨rfl, hb⟩) | (go_at_call 30; (with_reducible refine (H12.out _).mono ?_); rintro e w' ⟨rfl, hb⟩) | (go_at_call 30; (with_reducible refine (H13.out _).mono ?_); rintro e w' ⟨rfl, hb⟩) | (go_at_call 28; (with_reducible refine (H14.out _).mono ?_); rintro e w' ⟨rfl, hb⟩) | (go_at_call 14; (with_reducible refine (H15.out _).mono ?_); rintro e w' ⟨rfl, hb⟩) | (go_at_call 28; (with_reducible refine (H16.out _).mono ?_); rintro e w' ⟨rfl, hb⟩) | (go_at_call 13; (with_reducible refine (tallymanlaw03_alive.calls true _ alive3).mono ?_); rintro e w' ⟨rfl, hb⟩))
  clear HS
  rename_i HS
  go_wp2
  go_region_held3 (Bk3 w w.heap.size (w.heap.size + 1) g x1 y1 x2 y2 A1 A2)
    (first | exact Bk3.keep (by assumption) hb | exact Bk3.drew HS)
    (first | (go_at_call 12; (with_reducible refine (H0.out _).mono ?_); rintro e w' ⟨rfl, hb⟩) | (go_at_call 12; (with_reducible refine (H1.out _).mono ?_); rintro e w' ⟨rfl, hb⟩) | (go_at_call 25; (with_reducible refine (H2.out _).mono ?_); rintro e w' ⟨rfl, hb⟩) | (go_at_call 25; (with_reducible refine (H3.out _).mono ?_); rintro e w' ⟨rfl, hb⟩) | (go_at_call 25; (with_reducible refine (H4.out _).mono ?_); rintro e w' ⟨rfl, hb⟩) | (go_at_call 25; (with_reducible refine (H5.out _).mono ?_); rintro e w' ⟨rfl, hb⟩) | (go_at_call 25; (with_reducible refine (H6.out _).mono ?_); rintro e w' ⟨rfl, hb⟩) | (go_at_call 15; (with_reducible refine (H7.out _).mono ?_); rintro e w' ⟨rfl, hb⟩) | (go_at_call 17; (with_reducible refine (H8.out _).mono ?_); rintro e w' ⟨rfl, hb⟩) | (go_at_call 17; (with_reducible refine (H9.out _).mono ?_); rintro e w' ⟨rfl, hb⟩) | (go_at_call 28; (with_reducible refine (H10.out _).mono ?_); rintro e w' ⟨rfl, hb⟩) | (go_at_call 28; (with_reducible refine (H11.out _).mono ?_); rintro e w' ⟨rfl, hb⟩) | (go_at_call 30; (with_reducible refine (H12.out _).mono ?_); rintro e w' ⟨rfl, hb⟩) | (go_at_call 30; (with_reducible refine (H13.out _).mono ?_); rintro e w' ⟨rfl, hb⟩) | (go_at_call 28; (with_reducible refine (H14.out _).mono ?_); rintro e w' ⟨rfl, hb⟩) | (go_at_call 14; (with_reducible refine (H15.out _).mono ?_); rintro e w' ⟨rfl, hb⟩) | (go_at_call 28; (with_reducible refine (H16.out _).mono ?_); rintro e w' ⟨rfl, hb⟩) | (go_at_call 13; (with_reducible refine (tallymanlaw03_alive.calls true _ alive3).mono ?_); rintro e w' ⟨rfl, hb⟩))
  clear HS
  rename_i HS
  have n0 := HS
  obtain ⟨_, _, _, _, k1, k2, k3, k4, k5, k6⟩ := n0
  go_wp2_with (first | (go_at_call 17; (with_reducible refine (H8.out _).mono ?_); rintro e w' ⟨rfl, hb⟩; have n0 := Bk3.keep HS hb; clear HS; have HS := n0; obtain ⟨_, _, _, _, k1, k2, k3, k4, k5, k6⟩ := n0; clear hb) | (go_at_call 17; (with_reducible refine (H9.out _).mono ?_); rintro e w' ⟨rfl, hb⟩; have n0 := Bk3.keep HS hb; clear HS; have HS := n0; obtain ⟨_, _, _, _, k1, k2, k3, k4, k5, k6⟩ := n0; clear hb) | (go_at_call 28; (with_reducible refine (H10.out _).mono ?_); rintro e w' ⟨rfl, hb⟩; have n0 := Bk3.keep HS hb; clear HS; have HS := n0; obtain ⟨_, _, _, _, k1, k2, k3, k4, k5, k6⟩ := n0; clear hb) | (go_at_call 28; (with_reducible refine (H11.out _).mono ?_); rintro e w' ⟨rfl, hb⟩; have n0 := Bk3.keep HS hb; clear HS; have HS := n0; obtain ⟨_, _, _, _, k1, k2, k3, k4, k5, k6⟩ := n0; clear hb) | (go_at_call 30; (with_reducible refine (H12.out _).mono ?_); rintro e w' ⟨rfl, hb⟩; have n0 := Bk3.keep HS hb; clear HS; have HS := n0; obtain ⟨_, _, _, _, k1, k2, k3, k4, k5, k6⟩ := n0; clear hb) | (go_at_call 30; (with_reducible refine (H13.out _).mono ?_); rintro e w' ⟨rfl, hb⟩; have n0 := Bk3.keep HS hb; clear HS; have HS := n0; obtain ⟨_, _, _, _, k1, k2, k3, k4, k5, k6⟩ := n0; clear hb) | (go_at_call 28; (with_reducible refine (H14.out _).mono ?_); rintro e w' ⟨rfl, hb⟩; have n0 := Bk3.keep HS hb; clear HS; have HS := n0; obtain ⟨_, _, _, _, k1, k2, k3, k4, k5, k6⟩ := n0; clear hb) | (go_at_call 14; (with_reducible refine (H15.out _).mono ?_); rintro e w' ⟨rfl, hb⟩; have n0 := Bk3.keep HS hb; clear HS; have HS := n0; obtain ⟨_, _, _, _, k1, k2, k3, k4, k5, k6⟩ := n0; clear hb) | (go_at_call 28; (with_reducible refine (H16.out _).mono ?_); rintro e w' ⟨rfl, hb⟩; have n0 := Bk3.keep HS hb; clear HS; have HS := n0; obtain ⟨_, _, _, _, k1, k2, k3, k4, k5, k6⟩ := n0; clear hb) | (go_at_call 13; (with_reducible refine (tallymanlaw03_alive.calls true _ alive3).mono ?_); rintro e w' ⟨rfl, hb⟩; have n0 := Bk3.keep HS hb; clear HS; have HS := n0; obtain ⟨_, _, _, _, k1, k2, k3, k4, k5, k6⟩ := n0; clear hb))
  all_goals go_ret
  all_goals refine ⟨?_, HS.2.2.2.1.out⟩
  all_goals simp
end Go.Proofs.Ytbkcdfiokjhcjaa.P
