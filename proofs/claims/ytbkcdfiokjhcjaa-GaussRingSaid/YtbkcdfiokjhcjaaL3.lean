/- GaussRing: small points are added and multiplied as numbers are. -/
import Derived.Test.YtbkcdfiokjhcjaaGP
import Derived.Test.YtbkcdfiokjhcjaaF12
import Derived.Test.YtbkcdfiokjhcjaaF24
import Derived.Deep.RegionHeld3
set_option linter.unusedVariables false
set_option linter.unusedSimpArgs false
namespace Go.Proofs.Ytbkcdfiokjhcjaa.P
open Go.Proofs.Ytbkcdfiokjhcjaa.B Go.RowKit Go.Proofs.Ytbkcdfiokjhcjaa.Pure Go.Proofs.YtbkcdfiokjhcjaaW.PrintWords Go.Proofs.YtbkcdfiokjhcjaaW.PrintLast Go.Proofs.YtbkcdfiokjhcjaaW.PrintMore
attribute [local go_sem high] eqA23
abbrev Three (w0 : World) (g : Nat) (x1 y1 x2 y2 x3 y3 : Int) (w' : World) : Prop :=
  Aside0 (w'.heap[g]? = some (.cells #[.int .i64 x1, .int .i64 y1] 23 (0, 0))) ∧ Aside0 (w'.heap[g + 1]? = some (.cells #[.int .i64 x2, .int .i64 y2] 23 (0, 0))) ∧ Aside0 (w'.heap[g + 2]? = some (.cells #[.int .i64 x3, .int .i64 y3] 23 (0, 0))) ∧ Aside0 (Below w0.heap.size w0 w') ∧ w'.cell? ⟨g, 0, none⟩ = some (.int .i64 x1) ∧ w'.cell? ⟨g, 1, none⟩ = some (.int .i64 y1) ∧ w'.cell? ⟨g + 1, 0, none⟩ = some (.int .i64 x2) ∧ w'.cell? ⟨g + 1, 1, none⟩ = some (.int .i64 y2) ∧ w'.cell? ⟨g + 2, 0, none⟩ = some (.int .i64 x3) ∧ w'.cell? ⟨g + 2, 1, none⟩ = some (.int .i64 y3)
theorem Three.mk {w0 : World} {g : Nat} {x1 y1 x2 y2 x3 y3 : Int} {w' : World} (h1 : w'.heap[g]? = some (.cells #[.int .i64 x1, .int .i64 y1] 23 (0, 0))) (h2 : w'.heap[g + 1]? = some (.cells #[.int .i64 x2, .int .i64 y2] 23 (0, 0))) (h3 : w'.heap[g + 2]? = some (.cells #[.int .i64 x3, .int .i64 y3] 23 (0, 0))) (hB : Below w0.heap.size w0 w') : Three w0 g x1 y1 x2 y2 x3 y3 w' :=
  ⟨⟨h1⟩, ⟨h2⟩, ⟨h3⟩, ⟨hB⟩, blk_cell h1 0, blk_cell h1 1, blk_cell h2 0, blk_cell h2 1, blk_cell h3 0, blk_cell h3 1⟩
theorem Three.keep {w0 : World} {g : Nat} {x1 y1 x2 y2 x3 y3 : Int} {w1 w2 : World} (h : Three w0 g x1 y1 x2 y2 x3 y3 w1) (hb : Below w1.heap.size w1 w2) : Three w0 g x1 y1 x2 y2 x3 y3 w2 :=
  Three.mk (blk_keep h.1.out hb) (blk_keep h.2.1.out hb) (blk_keep h.2.2.1.out hb) (below_step h.2.2.2.1.out hb)
theorem Three.drew {w0 : World} {g : Nat} {x1 y1 x2 y2 x3 y3 : Int} {w1 : World} (h : Three w0 g x1 y1 x2 y2 x3 y3 w1) : Three w0 g x1 y1 x2 y2 x3 y3 w1.drew :=
  Three.mk h.1.out h.2.1.out h.2.2.1.out (below_drew h.2.2.2.1.out)
theorem Three.new (w : World) (x1 y1 x2 y2 x3 y3 : Int) : Three w w.heap.size x1 y1 x2 y2 x3 y3 (((w.alloc (.cells #[.int .i64 x1, .int .i64 y1] 23)).alloc (.cells #[.int .i64 x2, .int .i64 y2] 23)).alloc (.cells #[.int .i64 x3, .int .i64 y3] 23)) := by
  have a1 := blk_new w (.cells #[.int .i64 x1, .int .i64 y1] 23)
  have a2 := blk_new (w.alloc (.cells #[.int .i64 x1, .int .i64 y1] 23)) (.cells #[.int .i64 x2, .int .i64 y2] 23)
  rw [alloc_size] at a2
  have a3 := blk_new ((w.alloc (.cells #[.int .i64 x1, .int .i64 y1] 23)).alloc (.cells #[.int .i64 x2, .int .i64 y2] 23)) (.cells #[.int .i64 x3, .int .i64 y3] 23)
  rw [alloc_size, alloc_size] at a3
  exact Three.mk (blk_keep (blk_keep a1 (below_alloc (Below.refl _ _) _)) (below_alloc (Below.refl _ _) _)) (blk_keep a2 (below_alloc (Below.refl _ _) _)) a3 (below_alloc (below_alloc (below_alloc (Below.refl _ _) _) _) _)
set_option maxHeartbeats 8000000 in
set_option maxRecDepth 100000 in
theorem ring_calls (x1 y1 x2 y2 x3 y3 S1 S2 T1 T2 U1 U2 M1 M2 V1 V2 W1 W2 X1 X2 Y1 Y2 C1 C2 n n1 n2 : Int) (w : World) (hE : n1 * n2 = n) (hn0 : -9223372036854775808 ≤ n) (hn1 : n ≤ 9223372036854775807)
    (h0 : ∀ W, Calls Try.prog 14 #[.agg #[.int .i64 x1, .int .i64 y1], .agg #[.int .i64 x2, .int .i64 y2]] W fun e w' => e = .returned (.agg #[.int .i64 S1, .int .i64 S2]) ∧ Below W.heap.size W w')
    (h1 : ∀ W, Calls Try.prog 14 #[.agg #[.int .i64 x2, .int .i64 y2], .agg #[.int .i64 x1, .int .i64 y1]] W fun e w' => e = .returned (.agg #[.int .i64 S1, .int .i64 S2]) ∧ Below W.heap.size W w')
    (h2 : ∀ W, Calls Try.prog 15 #[.agg #[.int .i64 x1, .int .i64 y1], .agg #[.int .i64 x2, .int .i64 y2]] W fun e w' => e = .returned (.agg #[.int .i64 M1, .int .i64 M2]) ∧ Below W.heap.size W w')
    (h3 : ∀ W, Calls Try.prog 15 #[.agg #[.int .i64 x2, .int .i64 y2], .agg #[.int .i64 x1, .int .i64 y1]] W fun e w' => e = .returned (.agg #[.int .i64 M1, .int .i64 M2]) ∧ Below W.heap.size W w')
    (h4 : ∀ W, Calls Try.prog 14 #[.agg #[.int .i64 S1, .int .i64 S2], .agg #[.int .i64 x3, .int .i64 y3]] W fun e w' => e = .returned (.agg #[.int .i64 T1, .int .i64 T2]) ∧ Below W.heap.size W w')
    (h5 : ∀ W, Calls Try.prog 14 #[.agg #[.int .i64 x2, .int .i64 y2], .agg #[.int .i64 x3, .int .i64 y3]] W fun e w' => e = .returned (.agg #[.int .i64 U1, .int .i64 U2]) ∧ Below W.heap.size W w')
    (h6 : ∀ W, Calls Try.prog 14 #[.agg #[.int .i64 x1, .int .i64 y1], .agg #[.int .i64 U1, .int .i64 U2]] W fun e w' => e = .returned (.agg #[.int .i64 T1, .int .i64 T2]) ∧ Below W.heap.size W w')
    (h7 : ∀ W, Calls Try.prog 15 #[.agg #[.int .i64 M1, .int .i64 M2], .agg #[.int .i64 x3, .int .i64 y3]] W fun e w' => e = .returned (.agg #[.int .i64 V1, .int .i64 V2]) ∧ Below W.heap.size W w')
    (h8 : ∀ W, Calls Try.prog 15 #[.agg #[.int .i64 x2, .int .i64 y2], .agg #[.int .i64 x3, .int .i64 y3]] W fun e w' => e = .returned (.agg #[.int .i64 W1, .int .i64 W2]) ∧ Below W.heap.size W w')
    (h9 : ∀ W, Calls Try.prog 15 #[.agg #[.int .i64 x1, .int .i64 y1], .agg #[.int .i64 W1, .int .i64 W2]] W fun e w' => e = .returned (.agg #[.int .i64 V1, .int .i64 V2]) ∧ Below W.heap.size W w')
    (h10 : ∀ W, Calls Try.prog 15 #[.agg #[.int .i64 x1, .int .i64 y1], .agg #[.int .i64 U1, .int .i64 U2]] W fun e w' => e = .returned (.agg #[.int .i64 X1, .int .i64 X2]) ∧ Below W.heap.size W w')
    (h11 : ∀ W, Calls Try.prog 15 #[.agg #[.int .i64 x1, .int .i64 y1], .agg #[.int .i64 x3, .int .i64 y3]] W fun e w' => e = .returned (.agg #[.int .i64 Y1, .int .i64 Y2]) ∧ Below W.heap.size W w')
    (h12 : ∀ W, Calls Try.prog 14 #[.agg #[.int .i64 M1, .int .i64 M2], .agg #[.int .i64 Y1, .int .i64 Y2]] W fun e w' => e = .returned (.agg #[.int .i64 X1, .int .i64 X2]) ∧ Below W.heap.size W w')
    (h13 : ∀ W, Calls Try.prog 16 #[.agg #[.int .i64 S1, .int .i64 S2], .agg #[.int .i64 x2, .int .i64 y2]] W fun e w' => e = .returned (.agg #[.int .i64 x1, .int .i64 y1]) ∧ Below W.heap.size W w')
    (h14 : ∀ W, Calls Try.prog 18 #[.agg #[.int .i64 x1, .int .i64 y1]] W fun e w' => e = .returned (.agg #[.int .i64 C1, .int .i64 C2]) ∧ Below W.heap.size W w')
    (h15 : ∀ W, Calls Try.prog 15 #[.agg #[.int .i64 x1, .int .i64 y1], .agg #[.int .i64 C1, .int .i64 C2]] W fun e w' => e = .returned (.agg #[.int .i64 n1, .int .i64 0]) ∧ Below W.heap.size W w')
    (h16 : ∀ W, Calls Try.prog 17 #[.agg #[.int .i64 M1, .int .i64 M2]] W fun e w' => e = .returned (.int .i64 n) ∧ Below W.heap.size W w')
    (h17 : ∀ W, Calls Try.prog 17 #[.agg #[.int .i64 x1, .int .i64 y1]] W fun e w' => e = .returned (.int .i64 n1) ∧ Below W.heap.size W w')
    (h18 : ∀ W, Calls Try.prog 17 #[.agg #[.int .i64 x2, .int .i64 y2]] W fun e w' => e = .returned (.int .i64 n2) ∧ Below W.heap.size W w')
    (h19 : ∀ W, Calls Try.prog 12 #[.agg #[.int .i64 x1, .int .i64 y1], .int .i64 500] W fun e w' => e = .returned (.bool true) ∧ Below W.heap.size W w')
    (h20 : ∀ W, Calls Try.prog 12 #[.agg #[.int .i64 x2, .int .i64 y2], .int .i64 500] W fun e w' => e = .returned (.bool true) ∧ Below W.heap.size W w')
    (h21 : ∀ W, Calls Try.prog 12 #[.agg #[.int .i64 x3, .int .i64 y3], .int .i64 500] W fun e w' => e = .returned (.bool true) ∧ Below W.heap.size W w') :
    Calls Try.prog 3 #[.agg #[.int .i64 x1, .int .i64 y1], .agg #[.int .i64 x2, .int .i64 y2], .agg #[.int .i64 x3, .int .i64 y3]] w fun e w' => e = .returned (.bool true) ∧ Below w.heap.size w w' := by
  have hnF : IntKind.i64.wrap n = n := by rw [wrap_i64]; unfold wrap64; omega
  have hnB : (n == n) = true := by simp
  have HS := Three.new w x1 y1 x2 y2 x3 y3
  have H0 := Aside0.mk h0; clear h0
  have H1 := Aside0.mk h1; clear h1
  have H2 := Aside0.mk h2; clear h2
  have H3 := Aside0.mk h3; clear h3
  have H4 := Aside0.mk h4; clear h4
  have H5 := Aside0.mk h5; clear h5
  have H6 := Aside0.mk h6; clear h6
  have H7 := Aside0.mk h7; clear h7
  have H8 := Aside0.mk h8; clear h8
  have H9 := Aside0.mk h9; clear h9
  have H10 := Aside0.mk h10; clear h10
  have H11 := Aside0.mk h11; clear h11
  have H12 := Aside0.mk h12; clear h12
  have H13 := Aside0.mk h13; clear h13
  have H14 := Aside0.mk h14; clear h14
  have H15 := Aside0.mk h15; clear h15
  have H16 := Aside0.mk h16; clear h16
  have H17 := Aside0.mk h17; clear h17
  have H18 := Aside0.mk h18; clear h18
  have H19 := Aside0.mk h19; clear h19
  have H20 := Aside0.mk h20; clear h20
  have H21 := Aside0.mk h21; clear h21
  go_enter Try.func3, Try.ntmps3
  go_wp2_with (first | (go_at_call 12; (with_reducible refine (H19.out _).mono ?_); rintro e w' ⟨rfl, hb⟩; have n0 := Three.keep HS hb; clear HS; have HS := n0; obtain ⟨_, _, _, _, k1, k2, k3, k4, k5, k6⟩ := n0; clear hb) | (go_at_call 12; (with_reducible refine (H20.out _).mono ?_); rintro e w' ⟨rfl, hb⟩; have n0 := Three.keep HS hb; clear HS; have HS := n0; obtain ⟨_, _, _, _, k1, k2, k3, k4, k5, k6⟩ := n0; clear hb) | (go_at_call 12; (with_reducible refine (H21.out _).mono ?_); rintro e w' ⟨rfl, hb⟩; have n0 := Three.keep HS hb; clear HS; have HS := n0; obtain ⟨_, _, _, _, k1, k2, k3, k4, k5, k6⟩ := n0; clear hb))
  clear k1 k2 k3 k4 k5 k6
  go_region_held3 (Three w w.heap.size x1 y1 x2 y2 x3 y3)
    (first | exact Three.keep (by assumption) hb | exact Three.drew HS)
    (first | (go_at_call 14; (with_reducible refine (H0.out _).mono ?_); rintro e w' ⟨rfl, hb⟩) | (go_at_call 14; (with_reducible refine (H1.out _).mono ?_); rintro e w' ⟨rfl, hb⟩) | (go_at_call 15; (with_reducible refine (H2.out _).mono ?_); rintro e w' ⟨rfl, hb⟩) | (go_at_call 15; (with_reducible refine (H3.out _).mono ?_); rintro e w' ⟨rfl, hb⟩) | (go_at_call 14; (with_reducible refine (H4.out _).mono ?_); rintro e w' ⟨rfl, hb⟩) | (go_at_call 14; (with_reducible refine (H5.out _).mono ?_); rintro e w' ⟨rfl, hb⟩) | (go_at_call 14; (with_reducible refine (H6.out _).mono ?_); rintro e w' ⟨rfl, hb⟩) | (go_at_call 15; (with_reducible refine (H7.out _).mono ?_); rintro e w' ⟨rfl, hb⟩) | (go_at_call 15; (with_reducible refine (H8.out _).mono ?_); rintro e w' ⟨rfl, hb⟩) | (go_at_call 15; (with_reducible refine (H9.out _).mono ?_); rintro e w' ⟨rfl, hb⟩) | (go_at_call 15; (with_reducible refine (H10.out _).mono ?_); rintro e w' ⟨rfl, hb⟩) | (go_at_call 15; (with_reducible refine (H11.out _).mono ?_); rintro e w' ⟨rfl, hb⟩) | (go_at_call 14; (with_reducible refine (H12.out _).mono ?_); rintro e w' ⟨rfl, hb⟩) | (go_at_call 16; (with_reducible refine (H13.out _).mono ?_); rintro e w' ⟨rfl, hb⟩) | (go_at_call 18; (with_reducible refine (H14.out _).mono ?_); rintro e w' ⟨rfl, hb⟩) | (go_at_call 15; (with_reducible refine (H15.out _).mono ?_); rintro e w' ⟨rfl, hb⟩) | (go_at_call 17; (with_reducible refine (H16.out _).mono ?_); rintro e w' ⟨rfl, hb⟩) | (go_at_call 17; (with_reducible refine (H17.out _).mono ?_); rintro e w' ⟨rfl, hb⟩) | (go_at_call 17; (with_reducible refine (H18.out _).mono ?_); rintro e w' ⟨rfl, hb⟩) | (go_at_call 12; (with_reducible refine (H19.out _).mono ?_); rintro e w' ⟨rfl, hb⟩) | (go_at_call 12; (with_reducible refine (H20.out _).mono ?_); rintro e w' ⟨rfl, hb⟩) | (go_at_call 12; (with_reducible refine (H21.out _).mono ?_); rintro e w' ⟨rfl, hb⟩) | (go_at_call 13; (with_reducible refine (tallymanlaw03_alive.calls true _ alive3).mono ?_); rintro e w' ⟨rfl, hb⟩))
  clear HS
  rename_i HS
  go_wp2
  go_region_held3 (Three w w.heap.size x1 y1 x2 y2 x3 y3)
    (first | exact Three.keep (by assumption) hb | exact Three.drew HS)
    (first | (go_at_call 14; (with_reducible refine (H0.out _).mono ?_); rintro e w' ⟨rfl, hb⟩) | (go_at_call 14; (with_reducible refine (H1.out _).mono ?_); rintro e w' ⟨rfl, hb⟩) | (go_at_call 15; (with_reducible refine (H2.out _).mono ?_); rintro e w' ⟨rfl, hb⟩) | (go_at_call 15; (with_reducible refine (H3.out _).mono ?_); rintro e w' ⟨rfl, hb⟩) | (go_at_call 14; (with_reducible refine (H4.out _).mono ?_); rintro e w' ⟨rfl, hb⟩) | (go_at_call 14; (with_reducible refine (H5.out _).mono ?_); rintro e w' ⟨rfl, hb⟩) | (go_at_call 14; (with_reducible refine (H6.out _).mono ?_); rintro e w' ⟨rfl, hb⟩) | (go_at_call 15; (with_reducible refine (H7.out _).mono ?_); rintro e w' ⟨rfl, hb⟩) | (go_at_call 15; (with_reducible refine (H8.out _).mono ?_); rintro e w' ⟨rfl, hb⟩) | (go_at_call 15; (with_reducible refine (H9.out _).mono ?_); rintro e w' ⟨rfl, hb⟩) | (go_at_call 15; (with_reducible refine (H10.out _).mono ?_); rintro e w' ⟨rfl, hb⟩) | (go_at_call 15; (with_reducible refine (H11.out _).mono ?_); rintro e w' ⟨rfl, hb⟩) | (go_at_call 14; (with_reducible refine (H12.out _).mono ?_); rintro e w' ⟨rfl, hb⟩) | (go_at_call 16; (with_reducible refine (H13.out _).mono ?_); rintro e w' ⟨rfl, hb⟩) | (go_at_call 18; (with_reducible refine (H14.out _).mono ?_); rintro e w' ⟨rfl, hb⟩) | (go_at_call 15; (with_reducible refine (H15.out _).mono ?_); rintro e w' ⟨rfl, hb⟩) | (go_at_call 17; (with_reducible refine (H16.out _).mono ?_); rintro e w' ⟨rfl, hb⟩) | (go_at_call 17; (with_reducible refine (H17.out _).mono ?_); rintro e w' ⟨rfl, hb⟩) | (go_at_call 17; (with_reducible refine (H18.out _).mono ?_); rintro e w' ⟨rfl, hb⟩) | (go_at_call 12; (with_reducible refine (H19.out _).mono ?_); rintro e w' ⟨rfl, hb⟩) | (go_at_call 12; (with_reducible refine (H20.out _).mono ?_); rintro e w' ⟨rfl, hb⟩) | (go_at_call 12; (with_reducible refine (H21.out _).mono ?_); rintro e w' ⟨rfl, hb⟩) | (go_at_call 13; (with_reducible refine (tallymanlaw03_alive.calls true _ alive3).mono ?_); rintro e w' ⟨rfl, hb⟩))
  clear HS
  rename_i HS
  go_wp2
  go_region_held3 (Three w w.heap.size x1 y1 x2 y2 x3 y3)
    (first | exact Three.keep (by assumption) hb | exact Three.drew HS)
    (first | (go_at_call 14; (with_reducible refine (H0.out _).mono ?_); rintro e w' ⟨rfl, hb⟩) | (go_at_call 14; (with_reducible refine (H1.out _).mono ?_); rintro e w' ⟨rfl, hb⟩) | (go_at_call 15; (with_reducible refine (H2.out _).mono ?_); rintro e w' ⟨rfl, hb⟩) | (go_at_call 15; (with_reducible refine (H3.out _).mono ?_); rintro e w' ⟨rfl, hb⟩) | (go_at_call 14; (with_reducible refine (H4.out _).mono ?_); rintro e w' ⟨rfl, hb⟩) | (go_at_call 14; (with_reducible refine (H5.out _).mono ?_); rintro e w' ⟨rfl, hb⟩) | (go_at_call 14; (with_reducible refine (H6.out _).mono ?_); rintro e w' ⟨rfl, hb⟩) | (go_at_call 15; (with_reducible refine (H7.out _).mono ?_); rintro e w' ⟨rfl, hb⟩) | (go_at_call 15; (with_reducible refine (H8.out _).mono ?_); rintro e w' ⟨rfl, hb⟩) | (go_at_call 15; (with_reducible refine (H9.out _).mono ?_); rintro e w' ⟨rfl, hb⟩) | (go_at_call 15; (with_reducible refine (H10.out _).mono ?_); rintro e w' ⟨rfl, hb⟩) | (go_at_call 15; (with_reducible refine (H11.out _).mono ?_); rintro e w' ⟨rfl, hb⟩) | (go_at_call 14; (with_reducible refine (H12.out _).mono ?_); rintro e w' ⟨rfl, hb⟩) | (go_at_call 16; (with_reducible refine (H13.out _).mono ?_); rintro e w' ⟨rfl, hb⟩) | (go_at_call 18; (with_reducible refine (H14.out _).mono ?_); rintro e w' ⟨rfl, hb⟩) | (go_at_call 15; (with_reducible refine (H15.out _).mono ?_); rintro e w' ⟨rfl, hb⟩) | (go_at_call 17; (with_reducible refine (H16.out _).mono ?_); rintro e w' ⟨rfl, hb⟩) | (go_at_call 17; (with_reducible refine (H17.out _).mono ?_); rintro e w' ⟨rfl, hb⟩) | (go_at_call 17; (with_reducible refine (H18.out _).mono ?_); rintro e w' ⟨rfl, hb⟩) | (go_at_call 12; (with_reducible refine (H19.out _).mono ?_); rintro e w' ⟨rfl, hb⟩) | (go_at_call 12; (with_reducible refine (H20.out _).mono ?_); rintro e w' ⟨rfl, hb⟩) | (go_at_call 12; (with_reducible refine (H21.out _).mono ?_); rintro e w' ⟨rfl, hb⟩) | (go_at_call 13; (with_reducible refine (tallymanlaw03_alive.calls true _ alive3).mono ?_); rintro e w' ⟨rfl, hb⟩))
  all_goals go_wp2
  all_goals go_ret
  all_goals refine ⟨?_, (show Three _ _ _ _ _ _ _ _ _ by assumption).2.2.2.1.out⟩
  all_goals simp
end Go.Proofs.Ytbkcdfiokjhcjaa.P
