/- MotionLaws: the walk. -/
import Derived.Test.YtbkcdfiokjhcjaaMC
import Derived.Deep.RegionHeld3
import Derived.Deep.DeepCutAuto
import Derived.Test.YtbkcdfiokjhcjaaPEq
namespace Go.Proofs.Ytbkcdfiokjhcjaa.P
open Go.Proofs.Ytbkcdfiokjhcjaa.B Go.RowKit Go.Proofs.YtbkcdfiokjhcjaaW.PrintWords Go.Proofs.YtbkcdfiokjhcjaaW.PrintLast Go.Proofs.YtbkcdfiokjhcjaaW.PrintMore Go.Proofs.Ytbkcdfiokjhcjaa.FX Go.Proofs.Ytbkcdfiokjhcjaa.H
set_option linter.unusedVariables false
set_option linter.unusedSimpArgs false
attribute [local go_sem high] eqA23 eqA35
theorem far1 {W : World} {a b : Nat} {o : Obj} (h : W.heap[b]? = some o) (hne : b ≠ a) (i : Nat) (v : Value) : (W.setCell ⟨a, i, none⟩ v).heap[b]? = some o := by
  rw [Below.heap_setCell _ _ _ b hne]; exact h
theorem far1p {W : World} {n a b : Nat} {o : Obj} (h : W.heap[b]? = some o) (hp : n < a) (hne : b ≠ a) (i : Nat) (v : Value) : (W.setCell ⟨a, i, none⟩ v).heap[b]? = some o := far1 h hne i v
theorem lt_blk {W : World} {g : Nat} {o : Obj} (h : W.heap[g]? = some o) : g < W.heap.size := (Array.getElem?_eq_some_iff.1 h).1
abbrev LwS (w0 : World) (a1 a2 a3 b1 b2 b3 c1 c2 c3 p1 p2 q1 q2 : Int) (w' : World) : Prop :=
  Aside0 (w'.heap[w0.heap.size]? = some (.cells #[.int .i64 a1, .int .i64 a2, .int .i64 a3] 35 (0, 0))) ∧ Aside0 (w'.heap[w0.heap.size + 1]? = some (.cells #[.int .i64 b1, .int .i64 b2, .int .i64 b3] 35 (0, 0))) ∧ Aside0 (w'.heap[w0.heap.size + 1 + 1]? = some (.cells #[.int .i64 c1, .int .i64 c2, .int .i64 c3] 35 (0, 0))) ∧ Aside0 (w'.heap[w0.heap.size + 1 + 1 + 1]? = some (.cells #[.int .i64 p1, .int .i64 p2] 23 (0, 0))) ∧ Aside0 (w'.heap[w0.heap.size + 1 + 1 + 1 + 1]? = some (.cells #[.int .i64 q1, .int .i64 q2] 23 (0, 0))) ∧ Aside0 (Below w0.heap.size w0 w') ∧ w'.cell? ⟨w0.heap.size, 0, none⟩ = some (.int .i64 a1) ∧ w'.cell? ⟨w0.heap.size, 1, none⟩ = some (.int .i64 a2) ∧ w'.cell? ⟨w0.heap.size, 2, none⟩ = some (.int .i64 a3) ∧ w'.cell? ⟨w0.heap.size + 1, 0, none⟩ = some (.int .i64 b1) ∧ w'.cell? ⟨w0.heap.size + 1, 1, none⟩ = some (.int .i64 b2) ∧ w'.cell? ⟨w0.heap.size + 1, 2, none⟩ = some (.int .i64 b3) ∧ w'.cell? ⟨w0.heap.size + 1 + 1, 0, none⟩ = some (.int .i64 c1) ∧ w'.cell? ⟨w0.heap.size + 1 + 1, 1, none⟩ = some (.int .i64 c2) ∧ w'.cell? ⟨w0.heap.size + 1 + 1, 2, none⟩ = some (.int .i64 c3) ∧ w'.cell? ⟨w0.heap.size + 1 + 1 + 1, 0, none⟩ = some (.int .i64 p1) ∧ w'.cell? ⟨w0.heap.size + 1 + 1 + 1, 1, none⟩ = some (.int .i64 p2) ∧ w'.cell? ⟨w0.heap.size + 1 + 1 + 1 + 1, 0, none⟩ = some (.int .i64 q1) ∧ w'.cell? ⟨w0.heap.size + 1 + 1 + 1 + 1, 1, none⟩ = some (.int .i64 q2)
theorem LwS.mk {w0 : World} {a1 a2 a3 b1 b2 b3 c1 c2 c3 p1 p2 q1 q2 : Int} {w' : World} (h0 : w'.heap[w0.heap.size]? = some (.cells #[.int .i64 a1, .int .i64 a2, .int .i64 a3] 35 (0, 0))) (h1 : w'.heap[w0.heap.size + 1]? = some (.cells #[.int .i64 b1, .int .i64 b2, .int .i64 b3] 35 (0, 0))) (h2 : w'.heap[w0.heap.size + 1 + 1]? = some (.cells #[.int .i64 c1, .int .i64 c2, .int .i64 c3] 35 (0, 0))) (h3 : w'.heap[w0.heap.size + 1 + 1 + 1]? = some (.cells #[.int .i64 p1, .int .i64 p2] 23 (0, 0))) (h4 : w'.heap[w0.heap.size + 1 + 1 + 1 + 1]? = some (.cells #[.int .i64 q1, .int .i64 q2] 23 (0, 0))) (hB : Below w0.heap.size w0 w') : LwS w0 a1 a2 a3 b1 b2 b3 c1 c2 c3 p1 p2 q1 q2 w' :=
  ⟨⟨h0⟩, ⟨h1⟩, ⟨h2⟩, ⟨h3⟩, ⟨h4⟩, ⟨hB⟩, blk_cell h0 0, blk_cell h0 1, blk_cell h0 2, blk_cell h1 0, blk_cell h1 1, blk_cell h1 2, blk_cell h2 0, blk_cell h2 1, blk_cell h2 2, blk_cell h3 0, blk_cell h3 1, blk_cell h4 0, blk_cell h4 1⟩
theorem LwS.keep {w0 : World} {a1 a2 a3 b1 b2 b3 c1 c2 c3 p1 p2 q1 q2 : Int} {w1 w2 : World} (h : LwS w0 a1 a2 a3 b1 b2 b3 c1 c2 c3 p1 p2 q1 q2 w1) (hb : Below w1.heap.size w1 w2) : LwS w0 a1 a2 a3 b1 b2 b3 c1 c2 c3 p1 p2 q1 q2 w2 :=
  LwS.mk (blk_keep h.1.out hb) (blk_keep h.2.1.out hb) (blk_keep h.2.2.1.out hb) (blk_keep h.2.2.2.1.out hb) (blk_keep h.2.2.2.2.1.out hb) (below_step h.2.2.2.2.2.1.out hb)
theorem LwS.drew {w0 : World} {a1 a2 a3 b1 b2 b3 c1 c2 c3 p1 p2 q1 q2 : Int} {w1 : World} (h : LwS w0 a1 a2 a3 b1 b2 b3 c1 c2 c3 p1 p2 q1 q2 w1) : LwS w0 a1 a2 a3 b1 b2 b3 c1 c2 c3 p1 p2 q1 q2 w1.drew :=
  LwS.mk h.1.out h.2.1.out h.2.2.1.out h.2.2.2.1.out h.2.2.2.2.1.out (below_drew h.2.2.2.2.2.1.out)
theorem LwS.new (w : World) (a1 a2 a3 b1 b2 b3 c1 c2 c3 p1 p2 q1 q2 : Int) : LwS w a1 a2 a3 b1 b2 b3 c1 c2 c3 p1 p2 q1 q2 (((((w.alloc (.cells #[.int .i64 a1, .int .i64 a2, .int .i64 a3] 35)).alloc (.cells #[.int .i64 b1, .int .i64 b2, .int .i64 b3] 35)).alloc (.cells #[.int .i64 c1, .int .i64 c2, .int .i64 c3] 35)).alloc (.cells #[.int .i64 p1, .int .i64 p2] 23)).alloc (.cells #[.int .i64 q1, .int .i64 q2] 23)) := by
  have nw0 := blk_new w (.cells #[.int .i64 a1, .int .i64 a2, .int .i64 a3] 35)
  have nw1 := blk_new (w.alloc (.cells #[.int .i64 a1, .int .i64 a2, .int .i64 a3] 35)) (.cells #[.int .i64 b1, .int .i64 b2, .int .i64 b3] 35)
  rw [alloc_size] at nw1
  have nw2 := blk_new ((w.alloc (.cells #[.int .i64 a1, .int .i64 a2, .int .i64 a3] 35)).alloc (.cells #[.int .i64 b1, .int .i64 b2, .int .i64 b3] 35)) (.cells #[.int .i64 c1, .int .i64 c2, .int .i64 c3] 35)
  rw [alloc_size, alloc_size] at nw2
  have nw3 := blk_new (((w.alloc (.cells #[.int .i64 a1, .int .i64 a2, .int .i64 a3] 35)).alloc (.cells #[.int .i64 b1, .int .i64 b2, .int .i64 b3] 35)).alloc (.cells #[.int .i64 c1, .int .i64 c2, .int .i64 c3] 35)) (.cells #[.int .i64 p1, .int .i64 p2] 23)
  rw [alloc_size, alloc_size, alloc_size] at nw3
  have nw4 := blk_new ((((w.alloc (.cells #[.int .i64 a1, .int .i64 a2, .int .i64 a3] 35)).alloc (.cells #[.int .i64 b1, .int .i64 b2, .int .i64 b3] 35)).alloc (.cells #[.int .i64 c1, .int .i64 c2, .int .i64 c3] 35)).alloc (.cells #[.int .i64 p1, .int .i64 p2] 23)) (.cells #[.int .i64 q1, .int .i64 q2] 23)
  rw [alloc_size, alloc_size, alloc_size, alloc_size] at nw4
  exact LwS.mk (blk_keep (blk_keep (blk_keep (blk_keep nw0 (below_alloc (Below.refl _ _) _)) (below_alloc (Below.refl _ _) _)) (below_alloc (Below.refl _ _) _)) (below_alloc (Below.refl _ _) _)) (blk_keep (blk_keep (blk_keep nw1 (below_alloc (Below.refl _ _) _)) (below_alloc (Below.refl _ _) _)) (below_alloc (Below.refl _ _) _)) (blk_keep (blk_keep nw2 (below_alloc (Below.refl _ _) _)) (below_alloc (Below.refl _ _) _)) (blk_keep nw3 (below_alloc (Below.refl _ _) _)) nw4 (below_alloc (below_alloc (below_alloc (below_alloc (below_alloc (Below.refl _ _) _) _) _) _) _)
theorem LwS.set {w0 : World} {a1 a2 a3 b1 b2 b3 c1 c2 c3 p1 p2 q1 q2 : Int} {w1 : World} (h : LwS w0 a1 a2 a3 b1 b2 b3 c1 c2 c3 p1 p2 q1 q2 w1) {g : Nat} (hg : w0.heap.size + 4 < g) (i : Nat) (v : Value) : LwS w0 a1 a2 a3 b1 b2 b3 c1 c2 c3 p1 p2 q1 q2 (w1.setCell ⟨g, i, none⟩ v) :=
  LwS.mk (far1 h.1.out (by omega) i v) (far1 h.2.1.out (by omega) i v) (far1 h.2.2.1.out (by omega) i v) (far1 h.2.2.2.1.out (by omega) i v) (far1 h.2.2.2.2.1.out (by omega) i v) (below_set h.2.2.2.2.2.1.out (by omega))
abbrev TwS (w0 : World) (g1 g2 : Nat) (d1 d2 e1 e2 : Int) (w' : World) : Prop :=
  Aside0 (w'.heap[g1]? = some (.cells #[.int .i64 d1, .int .i64 d2] 23 (0, 0))) ∧ Aside0 (w'.heap[g2]? = some (.cells #[.int .i64 e1, .int .i64 e2] 23 (0, 0))) ∧ Aside0 (Below w0.heap.size w0 w') ∧ w'.cell? ⟨g1, 0, none⟩ = some (.int .i64 d1) ∧ w'.cell? ⟨g1, 1, none⟩ = some (.int .i64 d2) ∧ w'.cell? ⟨g2, 0, none⟩ = some (.int .i64 e1) ∧ w'.cell? ⟨g2, 1, none⟩ = some (.int .i64 e2)
theorem TwS.mk {w0 : World} {g1 g2 : Nat} {d1 d2 e1 e2 : Int} {w' : World} (h0 : w'.heap[g1]? = some (.cells #[.int .i64 d1, .int .i64 d2] 23 (0, 0))) (h1 : w'.heap[g2]? = some (.cells #[.int .i64 e1, .int .i64 e2] 23 (0, 0))) (hB : Below w0.heap.size w0 w') : TwS w0 g1 g2 d1 d2 e1 e2 w' :=
  ⟨⟨h0⟩, ⟨h1⟩, ⟨hB⟩, blk_cell h0 0, blk_cell h0 1, blk_cell h1 0, blk_cell h1 1⟩
theorem TwS.keep {w0 : World} {g1 g2 : Nat} {d1 d2 e1 e2 : Int} {w1 w2 : World} (h : TwS w0 g1 g2 d1 d2 e1 e2 w1) (hb : Below w1.heap.size w1 w2) : TwS w0 g1 g2 d1 d2 e1 e2 w2 :=
  TwS.mk (blk_keep h.1.out hb) (blk_keep h.2.1.out hb) (below_step h.2.2.1.out hb)
theorem TwS.drew {w0 : World} {g1 g2 : Nat} {d1 d2 e1 e2 : Int} {w1 : World} (h : TwS w0 g1 g2 d1 d2 e1 e2 w1) : TwS w0 g1 g2 d1 d2 e1 e2 w1.drew :=
  TwS.mk h.1.out h.2.1.out (below_drew h.2.2.1.out)
set_option maxHeartbeats 8000000 in
set_option maxRecDepth 100000 in
theorem laws_calls (a1 a2 a3 b1 b2 b3 c1 c2 c3 p1 p2 q1 q2 A1 A2 A3 D1 D2 E1 E2 T1 T2 T3 C1 C2 C3 K1 K2 K3 d1 d2 F1 F2 e1 e2 s n : Int) (w : World)
    (h0 : ∀ W, Calls Try.prog 36 #[.agg #[.int .i64 a1, .int .i64 a2, .int .i64 a3], .agg #[.int .i64 b1, .int .i64 b2, .int .i64 b3]] W fun e w' => e = .returned (.agg #[.int .i64 A1, .int .i64 A2, .int .i64 A3]) ∧ Below W.heap.size W w')
    (h1 : ∀ W, Calls Try.prog 34 #[.agg #[.int .i64 A1, .int .i64 A2, .int .i64 A3], .agg #[.int .i64 p1, .int .i64 p2]] W fun e w' => e = .returned (.agg #[.int .i64 D1, .int .i64 D2]) ∧ Below W.heap.size W w')
    (h2 : ∀ W, Calls Try.prog 34 #[.agg #[.int .i64 a1, .int .i64 a2, .int .i64 a3], .agg #[.int .i64 p1, .int .i64 p2]] W fun e w' => e = .returned (.agg #[.int .i64 E1, .int .i64 E2]) ∧ Below W.heap.size W w')
    (h3 : ∀ W, Calls Try.prog 34 #[.agg #[.int .i64 b1, .int .i64 b2, .int .i64 b3], .agg #[.int .i64 E1, .int .i64 E2]] W fun e w' => e = .returned (.agg #[.int .i64 D1, .int .i64 D2]) ∧ Below W.heap.size W w')
    (h4 : ∀ W, Calls Try.prog 36 #[.agg #[.int .i64 A1, .int .i64 A2, .int .i64 A3], .agg #[.int .i64 c1, .int .i64 c2, .int .i64 c3]] W fun e w' => e = .returned (.agg #[.int .i64 T1, .int .i64 T2, .int .i64 T3]) ∧ Below W.heap.size W w')
    (h5 : ∀ W, Calls Try.prog 36 #[.agg #[.int .i64 b1, .int .i64 b2, .int .i64 b3], .agg #[.int .i64 c1, .int .i64 c2, .int .i64 c3]] W fun e w' => e = .returned (.agg #[.int .i64 C1, .int .i64 C2, .int .i64 C3]) ∧ Below W.heap.size W w')
    (h6 : ∀ W, Calls Try.prog 36 #[.agg #[.int .i64 a1, .int .i64 a2, .int .i64 a3], .agg #[.int .i64 C1, .int .i64 C2, .int .i64 C3]] W fun e w' => e = .returned (.agg #[.int .i64 T1, .int .i64 T2, .int .i64 T3]) ∧ Below W.heap.size W w')
    (h7 : ∀ W, Calls Try.prog 38 #[.agg #[.int .i64 a1, .int .i64 a2, .int .i64 a3]] W fun e w' => e = .returned (.agg #[.int .i64 K1, .int .i64 K2, .int .i64 K3]) ∧ Below W.heap.size W w')
    (h8 : ∀ W, Calls Try.prog 36 #[.agg #[.int .i64 a1, .int .i64 a2, .int .i64 a3], .agg #[.int .i64 K1, .int .i64 K2, .int .i64 K3]] W fun e w' => e = .returned (.agg #[.int .i64 0, .int .i64 0, .int .i64 0]) ∧ Below W.heap.size W w')
    (h9 : ∀ W, Calls Try.prog 36 #[.agg #[.int .i64 K1, .int .i64 K2, .int .i64 K3], .agg #[.int .i64 a1, .int .i64 a2, .int .i64 a3]] W fun e w' => e = .returned (.agg #[.int .i64 0, .int .i64 0, .int .i64 0]) ∧ Below W.heap.size W w')
    (h10 : ∀ W, Calls Try.prog 34 #[.agg #[.int .i64 K1, .int .i64 K2, .int .i64 K3], .agg #[.int .i64 E1, .int .i64 E2]] W fun e w' => e = .returned (.agg #[.int .i64 p1, .int .i64 p2]) ∧ Below W.heap.size W w')
    (h11 : ∀ W, Calls Try.prog 16 #[.agg #[.int .i64 p1, .int .i64 p2], .agg #[.int .i64 q1, .int .i64 q2]] W fun e w' => e = .returned (.agg #[.int .i64 d1, .int .i64 d2]) ∧ Below W.heap.size W w')
    (h12 : ∀ W, Calls Try.prog 34 #[.agg #[.int .i64 a1, .int .i64 a2, .int .i64 a3], .agg #[.int .i64 q1, .int .i64 q2]] W fun e w' => e = .returned (.agg #[.int .i64 F1, .int .i64 F2]) ∧ Below W.heap.size W w')
    (h13 : ∀ W, Calls Try.prog 16 #[.agg #[.int .i64 E1, .int .i64 E2], .agg #[.int .i64 F1, .int .i64 F2]] W fun e w' => e = .returned (.agg #[.int .i64 e1, .int .i64 e2]) ∧ Below W.heap.size W w')
    (h14 : ∀ W, Calls Try.prog 28 #[.agg #[.int .i64 d1, .int .i64 d2]] W fun e w' => e = .returned (.int .i64 s) ∧ Below W.heap.size W w')
    (h15 : ∀ W, Calls Try.prog 28 #[.agg #[.int .i64 e1, .int .i64 e2]] W fun e w' => e = .returned (.int .i64 s) ∧ Below W.heap.size W w')
    (h16 : ∀ W, Calls Try.prog 17 #[.agg #[.int .i64 d1, .int .i64 d2]] W fun e w' => e = .returned (.int .i64 n) ∧ Below W.heap.size W w')
    (h17 : ∀ W, Calls Try.prog 17 #[.agg #[.int .i64 e1, .int .i64 e2]] W fun e w' => e = .returned (.int .i64 n) ∧ Below W.heap.size W w')
    (h18 : ∀ W, Calls Try.prog 43 #[.agg #[.int .i64 a1, .int .i64 a2, .int .i64 a3], .int .i64 500] W fun e w' => e = .returned (.bool true) ∧ Below W.heap.size W w')
    (h19 : ∀ W, Calls Try.prog 43 #[.agg #[.int .i64 b1, .int .i64 b2, .int .i64 b3], .int .i64 500] W fun e w' => e = .returned (.bool true) ∧ Below W.heap.size W w')
    (h20 : ∀ W, Calls Try.prog 43 #[.agg #[.int .i64 c1, .int .i64 c2, .int .i64 c3], .int .i64 500] W fun e w' => e = .returned (.bool true) ∧ Below W.heap.size W w')
    (h21 : ∀ W, Calls Try.prog 12 #[.agg #[.int .i64 p1, .int .i64 p2], .int .i64 500] W fun e w' => e = .returned (.bool true) ∧ Below W.heap.size W w')
    (h22 : ∀ W, Calls Try.prog 12 #[.agg #[.int .i64 q1, .int .i64 q2], .int .i64 500] W fun e w' => e = .returned (.bool true) ∧ Below W.heap.size W w')
    (h23 : ∀ W, Calls Try.prog 40 #[] W fun e w' => e = .returned (.bool true) ∧ Below W.heap.size W w')
    : Calls Try.prog 9 #[.agg #[.int .i64 a1, .int .i64 a2, .int .i64 a3], .agg #[.int .i64 b1, .int .i64 b2, .int .i64 b3], .agg #[.int .i64 c1, .int .i64 c2, .int .i64 c3], .agg #[.int .i64 p1, .int .i64 p2], .agg #[.int .i64 q1, .int .i64 q2]] w fun e w' => e = .returned (.bool true) ∧ Below w.heap.size w w' := by
  have HS := LwS.new w a1 a2 a3 b1 b2 b3 c1 c2 c3 p1 p2 q1 q2
  have H0 := Aside0.mk h0; clear h0
  have H1 := Aside0.mk h1; clear h1
  have H2 := Aside0.mk h2; clear h2
  have H3 := Aside0.mk h3; clear h3
  have H4 := Aside0.mk h4; clear h4
  have H5 := Aside0.mk h5; clear h5
  have H6 := Aside0.mk h6; clear h6
  have H7 := Aside0.mk h7; clear h7
  have H8 := Aside0.mk h8; clear h8
  have H9 := Aside0.mk h9; clear h9
  have H10 := Aside0.mk h10; clear h10
  have H11 := Aside0.mk h11; clear h11
  have H12 := Aside0.mk h12; clear h12
  have H13 := Aside0.mk h13; clear h13
  have H14 := Aside0.mk h14; clear h14
  have H15 := Aside0.mk h15; clear h15
  have H16 := Aside0.mk h16; clear h16
  have H17 := Aside0.mk h17; clear h17
  have H18 := Aside0.mk h18; clear h18
  have H19 := Aside0.mk h19; clear h19
  have H20 := Aside0.mk h20; clear h20
  have H21 := Aside0.mk h21; clear h21
  have H22 := Aside0.mk h22; clear h22
  have H23 := Aside0.mk h23; clear h23
  go_enter Try.func9, Try.ntmps9
  go_wp2_with (first | (go_at_call 43; (with_reducible refine (H18.out _).mono ?_); rintro e w' ⟨rfl, hb⟩; have n0 := LwS.keep HS hb; clear HS; have HS := n0; obtain ⟨_, _, _, _, _, _, k1, k2, k3, k4, k5, k6, k7, k8, k9, k10, k11, k12, k13⟩ := n0; clear hb) | (go_at_call 43; (with_reducible refine (H19.out _).mono ?_); rintro e w' ⟨rfl, hb⟩; have n0 := LwS.keep HS hb; clear HS; have HS := n0; obtain ⟨_, _, _, _, _, _, k1, k2, k3, k4, k5, k6, k7, k8, k9, k10, k11, k12, k13⟩ := n0; clear hb) | (go_at_call 43; (with_reducible refine (H20.out _).mono ?_); rintro e w' ⟨rfl, hb⟩; have n0 := LwS.keep HS hb; clear HS; have HS := n0; obtain ⟨_, _, _, _, _, _, k1, k2, k3, k4, k5, k6, k7, k8, k9, k10, k11, k12, k13⟩ := n0; clear hb) | (go_at_call 12; (with_reducible refine (H21.out _).mono ?_); rintro e w' ⟨rfl, hb⟩; have n0 := LwS.keep HS hb; clear HS; have HS := n0; obtain ⟨_, _, _, _, _, _, k1, k2, k3, k4, k5, k6, k7, k8, k9, k10, k11, k12, k13⟩ := n0; clear hb) | (go_at_call 12; (with_reducible refine (H22.out _).mono ?_); rintro e w' ⟨rfl, hb⟩; have n0 := LwS.keep HS hb; clear HS; have HS := n0; obtain ⟨_, _, _, _, _, _, k1, k2, k3, k4, k5, k6, k7, k8, k9, k10, k11, k12, k13⟩ := n0; clear hb))
  clear k1 k2 k3 k4 k5 k6 k7 k8 k9 k10 k11 k12 k13
  go_region_held3 (LwS w a1 a2 a3 b1 b2 b3 c1 c2 c3 p1 p2 q1 q2)
    (first | exact LwS.keep (by assumption) hb | exact LwS.drew HS)
    (first | (go_at_call 36; (with_reducible refine (H0.out _).mono ?_); rintro e w' ⟨rfl, hb⟩) | (go_at_call 34; (with_reducible refine (H1.out _).mono ?_); rintro e w' ⟨rfl, hb⟩) | (go_at_call 34; (with_reducible refine (H2.out _).mono ?_); rintro e w' ⟨rfl, hb⟩) | (go_at_call 34; (with_reducible refine (H3.out _).mono ?_); rintro e w' ⟨rfl, hb⟩) | (go_at_call 36; (with_reducible refine (H4.out _).mono ?_); rintro e w' ⟨rfl, hb⟩) | (go_at_call 36; (with_reducible refine (H5.out _).mono ?_); rintro e w' ⟨rfl, hb⟩) | (go_at_call 36; (with_reducible refine (H6.out _).mono ?_); rintro e w' ⟨rfl, hb⟩))
  clear HS
  rename_i HS
  go_wp2
  go_region_held3 (LwS w a1 a2 a3 b1 b2 b3 c1 c2 c3 p1 p2 q1 q2)
    (first | exact LwS.keep (by assumption) hb | exact LwS.drew HS)
    (first | (go_at_call 38; (with_reducible refine (H7.out _).mono ?_); rintro e w' ⟨rfl, hb⟩) | (go_at_call 36; (with_reducible refine (H8.out _).mono ?_); rintro e w' ⟨rfl, hb⟩) | (go_at_call 36; (with_reducible refine (H9.out _).mono ?_); rintro e w' ⟨rfl, hb⟩) | (go_at_call 34; (with_reducible refine (H2.out _).mono ?_); rintro e w' ⟨rfl, hb⟩) | (go_at_call 34; (with_reducible refine (H10.out _).mono ?_); rintro e w' ⟨rfl, hb⟩))
  clear HS
  rename_i HS
  go_upto_region 7 with fail
  go_cut [11, 12] (fun s11 s12 wx => ∃ g1 g2 : Nat, s11 = .pointer (some ⟨g1, 0, none⟩) ∧ s12 = .pointer (some ⟨g2, 0, none⟩) ∧ Aside0 (wx.heap[g1]? = some (.cells #[.int .i64 d1, .int .i64 d2] 23 (0, 0))) ∧ Aside0 (wx.heap[g2]? = some (.cells #[.int .i64 e1, .int .i64 e2] 23 (0, 0))) ∧ Aside0 (Below w.heap.size w wx))
  case first =>
    clear H0 H1 H3 H4 H5 H6 H7 H8 H9 H10 H14 H15 H16 H17 H18 H19 H20 H21 H22 H23
    refine start_ (n := 14) (S := LwS w a1 a2 a3 b1 b2 b3 c1 c2 c3 p1 p2 q1 q2) (ds := [12, 13]) #[false, false, false, false, false, false, false, false, false, false, false, false, false, false] (by kernel_rfl) rfl rfl (LwS.drew HS) (fun hHeld => ?_)
    clear HS
    generalize w'.drew = w2 at hHeld ⊢
    refine take_ (i := 0) (N := some 85) (v := ?_) (a' := ?_) #[true, false, false, false, false, false, false, false, false, false, false, false, false, false] rfl rfl (by kernel_rfl) (fun _ _ _ h => h) (Or.inl ⟨by rfl, ?_⟩) hHeld ?_ ?_
    rotate_left
    · rintro w' ⟨_, _, _, _, _, _, k1, k2, k3, k4, k5, k6, k7, k8, k9, k10, k11, k12, k13⟩
      go_simp
      with_reducible rfl
    rotate_left
    · simp only [Act.put, List.setIfInBounds_toArray, List.set_cons_zero, List.set_cons_succ]
      rfl
    refine take_ (i := 1) (N := some 86) (v := ?_) (a' := ?_) #[true, true, false, false, false, false, false, false, false, false, false, false, false, false] rfl rfl (by kernel_rfl) (fun _ _ _ h => h) (Or.inl ⟨by rfl, ?_⟩) hHeld ?_ ?_
    rotate_left
    · rintro w' ⟨_, _, _, _, _, _, k1, k2, k3, k4, k5, k6, k7, k8, k9, k10, k11, k12, k13⟩
      go_simp
      with_reducible rfl
    rotate_left
    · simp only [Act.put, List.setIfInBounds_toArray, List.set_cons_zero, List.set_cons_succ]
      rfl
    refine take_ (i := 3) (N := some 88) (v := ?_) (a' := ?_) #[true, true, false, true, false, false, false, false, false, false, false, false, false, false] rfl rfl (by kernel_rfl) (fun _ _ _ h => h) (Or.inl ⟨by rfl, ?_⟩) hHeld ?_ ?_
    rotate_left
    · rintro w' ⟨_, _, _, _, _, _, k1, k2, k3, k4, k5, k6, k7, k8, k9, k10, k11, k12, k13⟩
      go_simp
      with_reducible rfl
    rotate_left
    · simp only [Act.put, List.setIfInBounds_toArray, List.set_cons_zero, List.set_cons_succ]
      rfl
    refine take_ (i := 4) (N := some 89) (v := ?_) (a' := ?_) #[true, true, false, true, true, false, false, false, false, false, false, false, false, false] rfl rfl (by kernel_rfl) (fun _ _ _ h => h) (Or.inl ⟨by rfl, ?_⟩) hHeld ?_ ?_
    rotate_left
    · rintro w' ⟨_, _, _, _, _, _, k1, k2, k3, k4, k5, k6, k7, k8, k9, k10, k11, k12, k13⟩
      go_simp
      with_reducible rfl
    rotate_left
    · simp only [Act.put, List.setIfInBounds_toArray, List.set_cons_zero, List.set_cons_succ]
      rfl
    refine take_ (i := 6) (N := some 91) (v := ?_) (a' := ?_) #[true, true, false, true, true, false, true, false, false, false, false, false, false, false] rfl rfl (by kernel_rfl) (fun _ _ _ h => h) (Or.inl ⟨by rfl, ?_⟩) hHeld ?_ ?_
    rotate_left
    · rintro w' ⟨_, _, _, _, _, _, k1, k2, k3, k4, k5, k6, k7, k8, k9, k10, k11, k12, k13⟩
      go_simp
      with_reducible rfl
    rotate_left
    · simp only [Act.put, List.setIfInBounds_toArray, List.set_cons_zero, List.set_cons_succ]
      rfl
    refine take_ (i := 7) (N := some 92) (v := ?_) (a' := ?_) #[true, true, false, true, true, false, true, true, false, false, false, false, false, false] rfl rfl (by kernel_rfl) (fun _ _ _ h => h) (Or.inl ⟨by rfl, ?_⟩) hHeld ?_ ?_
    rotate_left
    · rintro w' ⟨_, _, _, _, _, _, k1, k2, k3, k4, k5, k6, k7, k8, k9, k10, k11, k12, k13⟩
      go_simp
      with_reducible rfl
    rotate_left
    · simp only [Act.put, List.setIfInBounds_toArray, List.set_cons_zero, List.set_cons_succ]
      rfl
    refine three_ (i := 2) (j := 10) (k := 11) (Ni := some 87) (Nj := some 11) (Nk := some 12) #[true, true, true, true, true, false, true, true, false, false, false, false, false, false] #[true, true, false, true, true, false, true, true, false, false, true, false, false, false] #[true, true, false, true, true, false, true, true, false, false, false, true, false, false] rfl rfl rfl rfl rfl rfl (by kernel_rfl) (by decide) (by decide) (by decide) (fun K_ hK => ?_) (fun K_ hK => ?_) (fun K_ hK => ?_)
    · skip
      refine goes_ Try.func16 (by kernel_rfl) rfl #[.agg #[.int .i64 p1, .int .i64 p2], .agg #[.int .i64 q1, .int .i64 q2]] (by rfl) rfl rfl (by (try simp only [List.map_toArray, List.map_cons, List.map_nil]); first | done | rfl) ?_
      with_reducible refine (H11.out _).mono ?_
      rintro e w2 ⟨rfl, hb⟩
      refine ⟨_, rfl, ?_⟩
      refine hK.out _ _ (LwS.keep hHeld hb) (fun hHeld => ?_)
      clear hK hb
      refine norm_ (a' := ?_) ?_ ?_
      rotate_left
      · show Act.put _ (some 87) _ = _
        simp only [Act.put, List.setIfInBounds_toArray, List.set_cons_zero, List.set_cons_succ]
        rfl
      refine three_ (i := 5) (j := 10) (k := 11) (Ni := some 90) (Nj := some 11) (Nk := some 12) #[true, true, true, true, true, true, true, true, false, false, false, false, false, false] #[true, true, true, true, true, false, true, true, false, false, true, false, false, false] #[true, true, true, true, true, false, true, true, false, false, false, true, false, false] rfl rfl rfl rfl rfl rfl (by kernel_rfl) (by decide) (by decide) (by decide) (fun K_ hK => ?_) (fun K_ hK => ?_) (fun K_ hK => ?_)
      · skip
        refine goes_ Try.func34 (by kernel_rfl) rfl #[.agg #[.int .i64 a1, .int .i64 a2, .int .i64 a3], .agg #[.int .i64 p1, .int .i64 p2]] (by rfl) rfl rfl (by (try simp only [List.map_toArray, List.map_cons, List.map_nil]); first | done | rfl) ?_
        with_reducible refine (H2.out _).mono ?_
        rintro e w2 ⟨rfl, hb⟩
        refine ⟨_, rfl, ?_⟩
        refine hK.out _ _ (LwS.keep hHeld hb) (fun hHeld => ?_)
        clear hK hb
        refine norm_ (a' := ?_) ?_ ?_
        rotate_left
        · show Act.put _ (some 90) _ = _
          simp only [Act.put, List.setIfInBounds_toArray, List.set_cons_zero, List.set_cons_succ]
          rfl
        refine three_ (i := 8) (j := 10) (k := 11) (Ni := some 93) (Nj := some 11) (Nk := some 12) #[true, true, true, true, true, true, true, true, true, false, false, false, false, false] #[true, true, true, true, true, true, true, true, false, false, true, false, false, false] #[true, true, true, true, true, true, true, true, false, false, false, true, false, false] rfl rfl rfl rfl rfl rfl (by kernel_rfl) (by decide) (by decide) (by decide) (fun K_ hK => ?_) (fun K_ hK => ?_) (fun K_ hK => ?_)
        · skip
          refine goes_ Try.func34 (by kernel_rfl) rfl #[.agg #[.int .i64 a1, .int .i64 a2, .int .i64 a3], .agg #[.int .i64 q1, .int .i64 q2]] (by rfl) rfl rfl (by (try simp only [List.map_toArray, List.map_cons, List.map_nil]); first | done | rfl) ?_
          with_reducible refine (H12.out _).mono ?_
          rintro e w2 ⟨rfl, hb⟩
          refine ⟨_, rfl, ?_⟩
          refine hK.out _ _ (LwS.keep hHeld hb) (fun hHeld => ?_)
          clear hK hb
          refine norm_ (a' := ?_) ?_ ?_
          rotate_left
          · show Act.put _ (some 93) _ = _
            simp only [Act.put, List.setIfInBounds_toArray, List.set_cons_zero, List.set_cons_succ]
            rfl
          refine three_ (i := 9) (j := 10) (k := 11) (Ni := some 94) (Nj := some 11) (Nk := some 12) #[true, true, true, true, true, true, true, true, true, true, false, false, false, false] #[true, true, true, true, true, true, true, true, true, false, true, false, false, false] #[true, true, true, true, true, true, true, true, true, false, false, true, false, false] rfl rfl rfl rfl rfl rfl (by kernel_rfl) (by decide) (by decide) (by decide) (fun K_ hK => ?_) (fun K_ hK => ?_) (fun K_ hK => ?_)
          · skip
            refine goes_ Try.func16 (by kernel_rfl) rfl #[.agg #[.int .i64 E1, .int .i64 E2], .agg #[.int .i64 F1, .int .i64 F2]] (by rfl) rfl rfl (by (try simp only [List.map_toArray, List.map_cons, List.map_nil]); first | done | rfl) ?_
            with_reducible refine (H13.out _).mono ?_
            rintro e w2 ⟨rfl, hb⟩
            refine ⟨_, rfl, ?_⟩
            refine hK.out _ _ (LwS.keep hHeld hb) (fun hHeld => ?_)
            clear hK hb
            refine norm_ (a' := ?_) ?_ ?_
            rotate_left
            · show Act.put _ (some 94) _ = _
              simp only [Act.put, List.setIfInBounds_toArray, List.set_cons_zero, List.set_cons_succ]
              rfl
            refine two_ (i := 10) (j := 11) (Ni := some 11) (Nj := some 12) #[true, true, true, true, true, true, true, true, true, true, true, false, false, false] #[true, true, true, true, true, true, true, true, true, true, false, true, false, false] rfl rfl rfl rfl (by kernel_rfl) (by decide) (by decide) (fun K_ hK => ?_) (fun K_ hK => ?_)
            · skip
              have p10 := lt_blk hHeld.2.2.2.2.1.out
              rw [if_pos (by rfl)]
              go_wp2
              refine hK.out _ _ (LwS.keep hHeld (below_alloc (Below.refl _ _) _)) (fun hHeld => ?_)
              clear hK
              have h10 := blk_new w2 (.cells #[.int .i64 0, .int .i64 0] 23)
              generalize World.alloc w2 (.cells #[.int .i64 0, .int .i64 0] 23) = w2 at hHeld h10 ⊢
              refine one_ (i := 11) (N := some 12) #[true, true, true, true, true, true, true, true, true, true, true, true, false, false] rfl rfl (by kernel_rfl) (by decide) (fun K_ hK => ?_)
              have p11 := lt_blk hHeld.2.2.2.2.1.out
              rw [if_pos (by rfl)]
              go_wp2
              refine hK.out _ _ (LwS.keep hHeld (below_alloc (Below.refl _ _) _)) (fun hHeld => ?_)
              clear hK
              have q1110 := lt_blk h10
              have h10 := blk_keep h10 (below_alloc (Below.refl _ _) (.cells #[.int .i64 0, .int .i64 0] 23))
              have h11 := blk_new w2 (.cells #[.int .i64 0, .int .i64 0] 23)
              generalize World.alloc w2 (.cells #[.int .i64 0, .int .i64 0] 23) = w2 at hHeld h10 h11 ⊢
              have c0 := blk_cell h10 0
              have f0 := blk_frozen h10 0
              have c1 := blk_cell h10 1
              have f1 := blk_frozen h10 1
              refine last_ (i := 12) (N := none) #[true, true, true, true, true, true, true, true, true, true, true, true, true, false] rfl rfl (by kernel_rfl) (by decide) (fun K_ hK => ?_)
              rw [if_pos (by rfl)]
              go_wp2
              refine hK.out _ _ ?_
              clear hK c0 f0 c1 f1
              have h11 := (far1p (far1p h11 p10 (by omega) 0 (.int .i64 d1)) p10 (by omega) 1 (.int .i64 d2))
              have h10 := (blk_put (cs := #[.int .i64 d1, .int .i64 0]) (blk_put (cs := #[.int .i64 0, .int .i64 0]) h10 0 (.int .i64 d1) rfl) 1 (.int .i64 d2) rfl)
              have hHeld := (LwS.set (LwS.set hHeld p10 0 (.int .i64 d1)) p10 1 (.int .i64 d2))
              have c0 := blk_cell h11 0
              have f0 := blk_frozen h11 0
              have c1 := blk_cell h11 1
              have f1 := blk_frozen h11 1
              refine last_ (i := 13) (N := none) #[true, true, true, true, true, true, true, true, true, true, true, true, true, true] rfl rfl (by kernel_rfl) (by decide) (fun K_ hK => ?_)
              rw [if_pos (by rfl)]
              go_wp2
              refine hK.out _ _ ?_
              clear hK c0 f0 c1 f1
              have h10 := (far1p (far1p h10 p11 (by omega) 0 (.int .i64 e1)) p11 (by omega) 1 (.int .i64 e2))
              have h11 := (blk_put (cs := #[.int .i64 e1, .int .i64 0]) (blk_put (cs := #[.int .i64 0, .int .i64 0]) h11 0 (.int .i64 e1) rfl) 1 (.int .i64 e2) rfl)
              have hHeld := (LwS.set (LwS.set hHeld p11 0 (.int .i64 e1)) p11 1 (.int .i64 e2))
              refine done_ (by kernel_rfl) ?_
              go_wp2_with fail
              go_meet
              exact ⟨_, _, rfl, rfl, ⟨h10⟩, ⟨h11⟩, ⟨hHeld.2.2.2.2.2.1.out⟩⟩
            · skip
              have p11 := lt_blk hHeld.2.2.2.2.1.out
              rw [if_pos (by rfl)]
              go_wp2
              refine hK.out _ _ (LwS.keep hHeld (below_alloc (Below.refl _ _) _)) (fun hHeld => ?_)
              clear hK
              have h11 := blk_new w2 (.cells #[.int .i64 0, .int .i64 0] 23)
              generalize World.alloc w2 (.cells #[.int .i64 0, .int .i64 0] 23) = w2 at hHeld h11 ⊢
              refine one_ (i := 10) (N := some 11) #[true, true, true, true, true, true, true, true, true, true, true, true, false, false] rfl rfl (by kernel_rfl) (by decide) (fun K_ hK => ?_)
              have p10 := lt_blk hHeld.2.2.2.2.1.out
              rw [if_pos (by rfl)]
              go_wp2
              refine hK.out _ _ (LwS.keep hHeld (below_alloc (Below.refl _ _) _)) (fun hHeld => ?_)
              clear hK
              have q1011 := lt_blk h11
              have h11 := blk_keep h11 (below_alloc (Below.refl _ _) (.cells #[.int .i64 0, .int .i64 0] 23))
              have h10 := blk_new w2 (.cells #[.int .i64 0, .int .i64 0] 23)
              generalize World.alloc w2 (.cells #[.int .i64 0, .int .i64 0] 23) = w2 at hHeld h11 h10 ⊢
              have c0 := blk_cell h10 0
              have f0 := blk_frozen h10 0
              have c1 := blk_cell h10 1
              have f1 := blk_frozen h10 1
              refine last_ (i := 12) (N := none) #[true, true, true, true, true, true, true, true, true, true, true, true, true, false] rfl rfl (by kernel_rfl) (by decide) (fun K_ hK => ?_)
              rw [if_pos (by rfl)]
              go_wp2
              refine hK.out _ _ ?_
              clear hK c0 f0 c1 f1
              have h11 := (far1p (far1p h11 p10 (by omega) 0 (.int .i64 d1)) p10 (by omega) 1 (.int .i64 d2))
              have h10 := (blk_put (cs := #[.int .i64 d1, .int .i64 0]) (blk_put (cs := #[.int .i64 0, .int .i64 0]) h10 0 (.int .i64 d1) rfl) 1 (.int .i64 d2) rfl)
              have hHeld := (LwS.set (LwS.set hHeld p10 0 (.int .i64 d1)) p10 1 (.int .i64 d2))
              have c0 := blk_cell h11 0
              have f0 := blk_frozen h11 0
              have c1 := blk_cell h11 1
              have f1 := blk_frozen h11 1
              refine last_ (i := 13) (N := none) #[true, true, true, true, true, true, true, true, true, true, true, true, true, true] rfl rfl (by kernel_rfl) (by decide) (fun K_ hK => ?_)
              rw [if_pos (by rfl)]
              go_wp2
              refine hK.out _ _ ?_
              clear hK c0 f0 c1 f1
              have h10 := (far1p (far1p h10 p11 (by omega) 0 (.int .i64 e1)) p11 (by omega) 1 (.int .i64 e2))
              have h11 := (blk_put (cs := #[.int .i64 e1, .int .i64 0]) (blk_put (cs := #[.int .i64 0, .int .i64 0]) h11 0 (.int .i64 e1) rfl) 1 (.int .i64 e2) rfl)
              have hHeld := (LwS.set (LwS.set hHeld p11 0 (.int .i64 e1)) p11 1 (.int .i64 e2))
              refine done_ (by kernel_rfl) ?_
              go_wp2_with fail
              go_meet
              exact ⟨_, _, rfl, rfl, ⟨h10⟩, ⟨h11⟩, ⟨hHeld.2.2.2.2.2.1.out⟩⟩
          · skip
            have p10 := lt_blk hHeld.2.2.2.2.1.out
            rw [if_pos (by rfl)]
            go_wp2
            refine hK.out _ _ (LwS.keep hHeld (below_alloc (Below.refl _ _) _)) (fun hHeld => ?_)
            clear hK
            have h10 := blk_new w2 (.cells #[.int .i64 0, .int .i64 0] 23)
            generalize World.alloc w2 (.cells #[.int .i64 0, .int .i64 0] 23) = w2 at hHeld h10 ⊢
            refine two_ (i := 9) (j := 11) (Ni := some 94) (Nj := some 12) #[true, true, true, true, true, true, true, true, true, true, true, false, false, false] #[true, true, true, true, true, true, true, true, true, false, true, true, false, false] rfl rfl rfl rfl (by kernel_rfl) (by decide) (by decide) (fun K_ hK => ?_) (fun K_ hK => ?_)
            · skip
              refine goes_ Try.func16 (by kernel_rfl) rfl #[.agg #[.int .i64 E1, .int .i64 E2], .agg #[.int .i64 F1, .int .i64 F2]] (by rfl) rfl rfl (by (try simp only [List.map_toArray, List.map_cons, List.map_nil]); first | done | rfl) ?_
              with_reducible refine (H13.out _).mono ?_
              rintro e w2 ⟨rfl, hb⟩
              refine ⟨_, rfl, ?_⟩
              have h10 := blk_keep h10 hb
              refine hK.out _ _ (LwS.keep hHeld hb) (fun hHeld => ?_)
              clear hK hb
              refine norm_ (a' := ?_) ?_ ?_
              rotate_left
              · show Act.put _ (some 94) _ = _
                simp only [Act.put, List.setIfInBounds_toArray, List.set_cons_zero, List.set_cons_succ]
                rfl
              refine one_ (i := 11) (N := some 12) #[true, true, true, true, true, true, true, true, true, true, true, true, false, false] rfl rfl (by kernel_rfl) (by decide) (fun K_ hK => ?_)
              have p11 := lt_blk hHeld.2.2.2.2.1.out
              rw [if_pos (by rfl)]
              go_wp2
              refine hK.out _ _ (LwS.keep hHeld (below_alloc (Below.refl _ _) _)) (fun hHeld => ?_)
              clear hK
              have q1110 := lt_blk h10
              have h10 := blk_keep h10 (below_alloc (Below.refl _ _) (.cells #[.int .i64 0, .int .i64 0] 23))
              have h11 := blk_new w2 (.cells #[.int .i64 0, .int .i64 0] 23)
              generalize World.alloc w2 (.cells #[.int .i64 0, .int .i64 0] 23) = w2 at hHeld h10 h11 ⊢
              have c0 := blk_cell h10 0
              have f0 := blk_frozen h10 0
              have c1 := blk_cell h10 1
              have f1 := blk_frozen h10 1
              refine last_ (i := 12) (N := none) #[true, true, true, true, true, true, true, true, true, true, true, true, true, false] rfl rfl (by kernel_rfl) (by decide) (fun K_ hK => ?_)
              rw [if_pos (by rfl)]
              go_wp2
              refine hK.out _ _ ?_
              clear hK c0 f0 c1 f1
              have h11 := (far1p (far1p h11 p10 (by omega) 0 (.int .i64 d1)) p10 (by omega) 1 (.int .i64 d2))
              have h10 := (blk_put (cs := #[.int .i64 d1, .int .i64 0]) (blk_put (cs := #[.int .i64 0, .int .i64 0]) h10 0 (.int .i64 d1) rfl) 1 (.int .i64 d2) rfl)
              have hHeld := (LwS.set (LwS.set hHeld p10 0 (.int .i64 d1)) p10 1 (.int .i64 d2))
              have c0 := blk_cell h11 0
              have f0 := blk_frozen h11 0
              have c1 := blk_cell h11 1
              have f1 := blk_frozen h11 1
              refine last_ (i := 13) (N := none) #[true, true, true, true, true, true, true, true, true, true, true, true, true, true] rfl rfl (by kernel_rfl) (by decide) (fun K_ hK => ?_)
              rw [if_pos (by rfl)]
              go_wp2
              refine hK.out _ _ ?_
              clear hK c0 f0 c1 f1
              have h10 := (far1p (far1p h10 p11 (by omega) 0 (.int .i64 e1)) p11 (by omega) 1 (.int .i64 e2))
              have h11 := (blk_put (cs := #[.int .i64 e1, .int .i64 0]) (blk_put (cs := #[.int .i64 0, .int .i64 0]) h11 0 (.int .i64 e1) rfl) 1 (.int .i64 e2) rfl)
              have hHeld := (LwS.set (LwS.set hHeld p11 0 (.int .i64 e1)) p11 1 (.int .i64 e2))
              refine done_ (by kernel_rfl) ?_
              go_wp2_with fail
              go_meet
              exact ⟨_, _, rfl, rfl, ⟨h10⟩, ⟨h11⟩, ⟨hHeld.2.2.2.2.2.1.out⟩⟩
            · skip
              have p11 := lt_blk hHeld.2.2.2.2.1.out
              rw [if_pos (by rfl)]
              go_wp2
              refine hK.out _ _ (LwS.keep hHeld (below_alloc (Below.refl _ _) _)) (fun hHeld => ?_)
              clear hK
              have q1110 := lt_blk h10
              have h10 := blk_keep h10 (below_alloc (Below.refl _ _) (.cells #[.int .i64 0, .int .i64 0] 23))
              have h11 := blk_new w2 (.cells #[.int .i64 0, .int .i64 0] 23)
              generalize World.alloc w2 (.cells #[.int .i64 0, .int .i64 0] 23) = w2 at hHeld h10 h11 ⊢
              refine one_ (i := 9) (N := some 94) #[true, true, true, true, true, true, true, true, true, true, true, true, false, false] rfl rfl (by kernel_rfl) (by decide) (fun K_ hK => ?_)
              refine goes_ Try.func16 (by kernel_rfl) rfl #[.agg #[.int .i64 E1, .int .i64 E2], .agg #[.int .i64 F1, .int .i64 F2]] (by rfl) rfl rfl (by (try simp only [List.map_toArray, List.map_cons, List.map_nil]); first | done | rfl) ?_
              with_reducible refine (H13.out _).mono ?_
              rintro e w2 ⟨rfl, hb⟩
              refine ⟨_, rfl, ?_⟩
              have h10 := blk_keep h10 hb
              have h11 := blk_keep h11 hb
              refine hK.out _ _ (LwS.keep hHeld hb) (fun hHeld => ?_)
              clear hK hb
              refine norm_ (a' := ?_) ?_ ?_
              rotate_left
              · show Act.put _ (some 94) _ = _
                simp only [Act.put, List.setIfInBounds_toArray, List.set_cons_zero, List.set_cons_succ]
                rfl
              have c0 := blk_cell h10 0
              have f0 := blk_frozen h10 0
              have c1 := blk_cell h10 1
              have f1 := blk_frozen h10 1
              refine last_ (i := 12) (N := none) #[true, true, true, true, true, true, true, true, true, true, true, true, true, false] rfl rfl (by kernel_rfl) (by decide) (fun K_ hK => ?_)
              rw [if_pos (by rfl)]
              go_wp2
              refine hK.out _ _ ?_
              clear hK c0 f0 c1 f1
              have h11 := (far1p (far1p h11 p10 (by omega) 0 (.int .i64 d1)) p10 (by omega) 1 (.int .i64 d2))
              have h10 := (blk_put (cs := #[.int .i64 d1, .int .i64 0]) (blk_put (cs := #[.int .i64 0, .int .i64 0]) h10 0 (.int .i64 d1) rfl) 1 (.int .i64 d2) rfl)
              have hHeld := (LwS.set (LwS.set hHeld p10 0 (.int .i64 d1)) p10 1 (.int .i64 d2))
              have c0 := blk_cell h11 0
              have f0 := blk_frozen h11 0
              have c1 := blk_cell h11 1
              have f1 := blk_frozen h11 1
              refine last_ (i := 13) (N := none) #[true, true, true, true, true, true, true, true, true, true, true, true, true, true] rfl rfl (by kernel_rfl) (by decide) (fun K_ hK => ?_)
              rw [if_pos (by rfl)]
              go_wp2
              refine hK.out _ _ ?_
              clear hK c0 f0 c1 f1
              have h10 := (far1p (far1p h10 p11 (by omega) 0 (.int .i64 e1)) p11 (by omega) 1 (.int .i64 e2))
              have h11 := (blk_put (cs := #[.int .i64 e1, .int .i64 0]) (blk_put (cs := #[.int .i64 0, .int .i64 0]) h11 0 (.int .i64 e1) rfl) 1 (.int .i64 e2) rfl)
              have hHeld := (LwS.set (LwS.set hHeld p11 0 (.int .i64 e1)) p11 1 (.int .i64 e2))
              refine done_ (by kernel_rfl) ?_
              go_wp2_with fail
              go_meet
              exact ⟨_, _, rfl, rfl, ⟨h10⟩, ⟨h11⟩, ⟨hHeld.2.2.2.2.2.1.out⟩⟩
          · skip
            have p11 := lt_blk hHeld.2.2.2.2.1.out
            rw [if_pos (by rfl)]
            go_wp2
            refine hK.out _ _ (LwS.keep hHeld (below_alloc (Below.refl _ _) _)) (fun hHeld => ?_)
            clear hK
            have h11 := blk_new w2 (.cells #[.int .i64 0, .int .i64 0] 23)
            generalize World.alloc w2 (.cells #[.int .i64 0, .int .i64 0] 23) = w2 at hHeld h11 ⊢
            refine two_ (i := 9) (j := 10) (Ni := some 94) (Nj := some 11) #[true, true, true, true, true, true, true, true, true, true, false, true, false, false] #[true, true, true, true, true, true, true, true, true, false, true, true, false, false] rfl rfl rfl rfl (by kernel_rfl) (by decide) (by decide) (fun K_ hK => ?_) (fun K_ hK => ?_)
            · skip
              refine goes_ Try.func16 (by kernel_rfl) rfl #[.agg #[.int .i64 E1, .int .i64 E2], .agg #[.int .i64 F1, .int .i64 F2]] (by rfl) rfl rfl (by (try simp only [List.map_toArray, List.map_cons, List.map_nil]); first | done | rfl) ?_
              with_reducible refine (H13.out _).mono ?_
              rintro e w2 ⟨rfl, hb⟩
              refine ⟨_, rfl, ?_⟩
              have h11 := blk_keep h11 hb
              refine hK.out _ _ (LwS.keep hHeld hb) (fun hHeld => ?_)
              clear hK hb
              refine norm_ (a' := ?_) ?_ ?_
              rotate_left
              · show Act.put _ (some 94) _ = _
                simp only [Act.put, List.setIfInBounds_toArray, List.set_cons_zero, List.set_cons_succ]
                rfl
              refine one_ (i := 10) (N := some 11) #[true, true, true, true, true, true, true, true, true, true, true, true, false, false] rfl rfl (by kernel_rfl) (by decide) (fun K_ hK => ?_)
              have p10 := lt_blk hHeld.2.2.2.2.1.out
              rw [if_pos (by rfl)]
              go_wp2
              refine hK.out _ _ (LwS.keep hHeld (below_alloc (Below.refl _ _) _)) (fun hHeld => ?_)
              clear hK
              have q1011 := lt_blk h11
              have h11 := blk_keep h11 (below_alloc (Below.refl _ _) (.cells #[.int .i64 0, .int .i64 0] 23))
              have h10 := blk_new w2 (.cells #[.int .i64 0, .int .i64 0] 23)
              generalize World.alloc w2 (.cells #[.int .i64 0, .int .i64 0] 23) = w2 at hHeld h11 h10 ⊢
              have c0 := blk_cell h10 0
              have f0 := blk_frozen h10 0
              have c1 := blk_cell h10 1
              have f1 := blk_frozen h10 1
              refine last_ (i := 12) (N := none) #[true, true, true, true, true, true, true, true, true, true, true, true, true, false] rfl rfl (by kernel_rfl) (by decide) (fun K_ hK => ?_)
              rw [if_pos (by rfl)]
              go_wp2
              refine hK.out _ _ ?_
              clear hK c0 f0 c1 f1
              have h11 := (far1p (far1p h11 p10 (by omega) 0 (.int .i64 d1)) p10 (by omega) 1 (.int .i64 d2))
              have h10 := (blk_put (cs := #[.int .i64 d1, .int .i64 0]) (blk_put (cs := #[.int .i64 0, .int .i64 0]) h10 0 (.int .i64 d1) rfl) 1 (.int .i64 d2) rfl)
              have hHeld := (LwS.set (LwS.set hHeld p10 0 (.int .i64 d1)) p10 1 (.int .i64 d2))
              have c0 := blk_cell h11 0
              have f0 := blk_frozen h11 0
              have c1 := blk_cell h11 1
              have f1 := blk_frozen h11 1
              refine last_ (i := 13) (N := none) #[true, true, true, true, true, true, true, true, true, true, true, true, true, true] rfl rfl (by kernel_rfl) (by decide) (fun K_ hK => ?_)
              rw [if_pos (by rfl)]
              go_wp2
              refine hK.out _ _ ?_
              clear hK c0 f0 c1 f1
              have h10 := (far1p (far1p h10 p11 (by omega) 0 (.int .i64 e1)) p11 (by omega) 1 (.int .i64 e2))
              have h11 := (blk_put (cs := #[.int .i64 e1, .int .i64 0]) (blk_put (cs := #[.int .i64 0, .int .i64 0]) h11 0 (.int .i64 e1) rfl) 1 (.int .i64 e2) rfl)
              have hHeld := (LwS.set (LwS.set hHeld p11 0 (.int .i64 e1)) p11 1 (.int .i64 e2))
              refine done_ (by kernel_rfl) ?_
              go_wp2_with fail
              go_meet
              exact ⟨_, _, rfl, rfl, ⟨h10⟩, ⟨h11⟩, ⟨hHeld.2.2.2.2.2.1.out⟩⟩
            · skip
              have p10 := lt_blk hHeld.2.2.2.2.1.out
              rw [if_pos (by rfl)]
              go_wp2
              refine hK.out _ _ (LwS.keep hHeld (below_alloc (Below.refl _ _) _)) (fun hHeld => ?_)
              clear hK
              have q1011 := lt_blk h11
              have h11 := blk_keep h11 (below_alloc (Below.refl _ _) (.cells #[.int .i64 0, .int .i64 0] 23))
              have h10 := blk_new w2 (.cells #[.int .i64 0, .int .i64 0] 23)
              generalize World.alloc w2 (.cells #[.int .i64 0, .int .i64 0] 23) = w2 at hHeld h11 h10 ⊢
              refine one_ (i := 9) (N := some 94) #[true, true, true, true, true, true, true, true, true, true, true, true, false, false] rfl rfl (by kernel_rfl) (by decide) (fun K_ hK => ?_)
              refine goes_ Try.func16 (by kernel_rfl) rfl #[.agg #[.int .i64 E1, .int .i64 E2], .agg #[.int .i64 F1, .int .i64 F2]] (by rfl) rfl rfl (by (try simp only [List.map_toArray, List.map_cons, List.map_nil]); first | done | rfl) ?_
              with_reducible refine (H13.out _).mono ?_
              rintro e w2 ⟨rfl, hb⟩
              refine ⟨_, rfl, ?_⟩
              have h11 := blk_keep h11 hb
              have h10 := blk_keep h10 hb
              refine hK.out _ _ (LwS.keep hHeld hb) (fun hHeld => ?_)
              clear hK hb
              refine norm_ (a' := ?_) ?_ ?_
              rotate_left
              · show Act.put _ (some 94) _ = _
                simp only [Act.put, List.setIfInBounds_toArray, List.set_cons_zero, List.set_cons_succ]
                rfl
              have c0 := blk_cell h10 0
              have f0 := blk_frozen h10 0
              have c1 := blk_cell h10 1
              have f1 := blk_frozen h10 1
              refine last_ (i := 12) (N := none) #[true, true, true, true, true, true, true, true, true, true, true, true, true, false] rfl rfl (by kernel_rfl) (by decide) (fun K_ hK => ?_)
              rw [if_pos (by rfl)]
              go_wp2
              refine hK.out _ _ ?_
              clear hK c0 f0 c1 f1
              have h11 := (far1p (far1p h11 p10 (by omega) 0 (.int .i64 d1)) p10 (by omega) 1 (.int .i64 d2))
              have h10 := (blk_put (cs := #[.int .i64 d1, .int .i64 0]) (blk_put (cs := #[.int .i64 0, .int .i64 0]) h10 0 (.int .i64 d1) rfl) 1 (.int .i64 d2) rfl)
              have hHeld := (LwS.set (LwS.set hHeld p10 0 (.int .i64 d1)) p10 1 (.int .i64 d2))
              have c0 := blk_cell h11 0
              have f0 := blk_frozen h11 0
              have c1 := blk_cell h11 1
              have f1 := blk_frozen h11 1
              refine last_ (i := 13) (N := none) #[true, true, true, true, true, true, true, true, true, true, true, true, true, true] rfl rfl (by kernel_rfl) (by decide) (fun K_ hK => ?_)
              rw [if_pos (by rfl)]
              go_wp2
              refine hK.out _ _ ?_
              clear hK c0 f0 c1 f1
              have h10 := (far1p (far1p h10 p11 (by omega) 0 (.int .i64 e1)) p11 (by omega) 1 (.int .i64 e2))
              have h11 := (blk_put (cs := #[.int .i64 e1, .int .i64 0]) (blk_put (cs := #[.int .i64 0, .int .i64 0]) h11 0 (.int .i64 e1) rfl) 1 (.int .i64 e2) rfl)
              have hHeld := (LwS.set (LwS.set hHeld p11 0 (.int .i64 e1)) p11 1 (.int .i64 e2))
              refine done_ (by kernel_rfl) ?_
              go_wp2_with fail
              go_meet
              exact ⟨_, _, rfl, rfl, ⟨h10⟩, ⟨h11⟩, ⟨hHeld.2.2.2.2.2.1.out⟩⟩
        · skip
          have p10 := lt_blk hHeld.2.2.2.2.1.out
          rw [if_pos (by rfl)]
          go_wp2
          refine hK.out _ _ (LwS.keep hHeld (below_alloc (Below.refl _ _) _)) (fun hHeld => ?_)
          clear hK
          have h10 := blk_new w2 (.cells #[.int .i64 0, .int .i64 0] 23)
          generalize World.alloc w2 (.cells #[.int .i64 0, .int .i64 0] 23) = w2 at hHeld h10 ⊢
          refine two_ (i := 8) (j := 11) (Ni := some 93) (Nj := some 12) #[true, true, true, true, true, true, true, true, true, false, true, false, false, false] #[true, true, true, true, true, true, true, true, false, false, true, true, false, false] rfl rfl rfl rfl (by kernel_rfl) (by decide) (by decide) (fun K_ hK => ?_) (fun K_ hK => ?_)
          · skip
            refine goes_ Try.func34 (by kernel_rfl) rfl #[.agg #[.int .i64 a1, .int .i64 a2, .int .i64 a3], .agg #[.int .i64 q1, .int .i64 q2]] (by rfl) rfl rfl (by (try simp only [List.map_toArray, List.map_cons, List.map_nil]); first | done | rfl) ?_
            with_reducible refine (H12.out _).mono ?_
            rintro e w2 ⟨rfl, hb⟩
            refine ⟨_, rfl, ?_⟩
            have h10 := blk_keep h10 hb
            refine hK.out _ _ (LwS.keep hHeld hb) (fun hHeld => ?_)
            clear hK hb
            refine norm_ (a' := ?_) ?_ ?_
            rotate_left
            · show Act.put _ (some 93) _ = _
              simp only [Act.put, List.setIfInBounds_toArray, List.set_cons_zero, List.set_cons_succ]
              rfl
            refine two_ (i := 9) (j := 11) (Ni := some 94) (Nj := some 12) #[true, true, true, true, true, true, true, true, true, true, true, false, false, false] #[true, true, true, true, true, true, true, true, true, false, true, true, false, false] rfl rfl rfl rfl (by kernel_rfl) (by decide) (by decide) (fun K_ hK => ?_) (fun K_ hK => ?_)
            · skip
              refine goes_ Try.func16 (by kernel_rfl) rfl #[.agg #[.int .i64 E1, .int .i64 E2], .agg #[.int .i64 F1, .int .i64 F2]] (by rfl) rfl rfl (by (try simp only [List.map_toArray, List.map_cons, List.map_nil]); first | done | rfl) ?_
              with_reducible refine (H13.out _).mono ?_
              rintro e w2 ⟨rfl, hb⟩
              refine ⟨_, rfl, ?_⟩
              have h10 := blk_keep h10 hb
              refine hK.out _ _ (LwS.keep hHeld hb) (fun hHeld => ?_)
              clear hK hb
              refine norm_ (a' := ?_) ?_ ?_
              rotate_left
              · show Act.put _ (some 94) _ = _
                simp only [Act.put, List.setIfInBounds_toArray, List.set_cons_zero, List.set_cons_succ]
                rfl
              refine one_ (i := 11) (N := some 12) #[true, true, true, true, true, true, true, true, true, true, true, true, false, false] rfl rfl (by kernel_rfl) (by decide) (fun K_ hK => ?_)
              have p11 := lt_blk hHeld.2.2.2.2.1.out
              rw [if_pos (by rfl)]
              go_wp2
              refine hK.out _ _ (LwS.keep hHeld (below_alloc (Below.refl _ _) _)) (fun hHeld => ?_)
              clear hK
              have q1110 := lt_blk h10
              have h10 := blk_keep h10 (below_alloc (Below.refl _ _) (.cells #[.int .i64 0, .int .i64 0] 23))
              have h11 := blk_new w2 (.cells #[.int .i64 0, .int .i64 0] 23)
              generalize World.alloc w2 (.cells #[.int .i64 0, .int .i64 0] 23) = w2 at hHeld h10 h11 ⊢
              have c0 := blk_cell h10 0
              have f0 := blk_frozen h10 0
              have c1 := blk_cell h10 1
              have f1 := blk_frozen h10 1
              refine last_ (i := 12) (N := none) #[true, true, true, true, true, true, true, true, true, true, true, true, true, false] rfl rfl (by kernel_rfl) (by decide) (fun K_ hK => ?_)
              rw [if_pos (by rfl)]
              go_wp2
              refine hK.out _ _ ?_
              clear hK c0 f0 c1 f1
              have h11 := (far1p (far1p h11 p10 (by omega) 0 (.int .i64 d1)) p10 (by omega) 1 (.int .i64 d2))
              have h10 := (blk_put (cs := #[.int .i64 d1, .int .i64 0]) (blk_put (cs := #[.int .i64 0, .int .i64 0]) h10 0 (.int .i64 d1) rfl) 1 (.int .i64 d2) rfl)
              have hHeld := (LwS.set (LwS.set hHeld p10 0 (.int .i64 d1)) p10 1 (.int .i64 d2))
              have c0 := blk_cell h11 0
              have f0 := blk_frozen h11 0
              have c1 := blk_cell h11 1
              have f1 := blk_frozen h11 1
              refine last_ (i := 13) (N := none) #[true, true, true, true, true, true, true, true, true, true, true, true, true, true] rfl rfl (by kernel_rfl) (by decide) (fun K_ hK => ?_)
              rw [if_pos (by rfl)]
              go_wp2
              refine hK.out _ _ ?_
              clear hK c0 f0 c1 f1
              have h10 := (far1p (far1p h10 p11 (by omega) 0 (.int .i64 e1)) p11 (by omega) 1 (.int .i64 e2))
              have h11 := (blk_put (cs := #[.int .i64 e1, .int .i64 0]) (blk_put (cs := #[.int .i64 0, .int .i64 0]) h11 0 (.int .i64 e1) rfl) 1 (.int .i64 e2) rfl)
              have hHeld := (LwS.set (LwS.set hHeld p11 0 (.int .i64 e1)) p11 1 (.int .i64 e2))
              refine done_ (by kernel_rfl) ?_
              go_wp2_with fail
              go_meet
              exact ⟨_, _, rfl, rfl, ⟨h10⟩, ⟨h11⟩, ⟨hHeld.2.2.2.2.2.1.out⟩⟩
            · skip
              have p11 := lt_blk hHeld.2.2.2.2.1.out
              rw [if_pos (by rfl)]
              go_wp2
              refine hK.out _ _ (LwS.keep hHeld (below_alloc (Below.refl _ _) _)) (fun hHeld => ?_)
              clear hK
              have q1110 := lt_blk h10
              have h10 := blk_keep h10 (below_alloc (Below.refl _ _) (.cells #[.int .i64 0, .int .i64 0] 23))
              have h11 := blk_new w2 (.cells #[.int .i64 0, .int .i64 0] 23)
              generalize World.alloc w2 (.cells #[.int .i64 0, .int .i64 0] 23) = w2 at hHeld h10 h11 ⊢
              refine one_ (i := 9) (N := some 94) #[true, true, true, true, true, true, true, true, true, true, true, true, false, false] rfl rfl (by kernel_rfl) (by decide) (fun K_ hK => ?_)
              refine goes_ Try.func16 (by kernel_rfl) rfl #[.agg #[.int .i64 E1, .int .i64 E2], .agg #[.int .i64 F1, .int .i64 F2]] (by rfl) rfl rfl (by (try simp only [List.map_toArray, List.map_cons, List.map_nil]); first | done | rfl) ?_
              with_reducible refine (H13.out _).mono ?_
              rintro e w2 ⟨rfl, hb⟩
              refine ⟨_, rfl, ?_⟩
              have h10 := blk_keep h10 hb
              have h11 := blk_keep h11 hb
              refine hK.out _ _ (LwS.keep hHeld hb) (fun hHeld => ?_)
              clear hK hb
              refine norm_ (a' := ?_) ?_ ?_
              rotate_left
              · show Act.put _ (some 94) _ = _
                simp only [Act.put, List.setIfInBounds_toArray, List.set_cons_zero, List.set_cons_succ]
                rfl
              have c0 := blk_cell h10 0
              have f0 := blk_frozen h10 0
              have c1 := blk_cell h10 1
              have f1 := blk_frozen h10 1
              refine last_ (i := 12) (N := none) #[true, true, true, true, true, true, true, true, true, true, true, true, true, false] rfl rfl (by kernel_rfl) (by decide) (fun K_ hK => ?_)
              rw [if_pos (by rfl)]
              go_wp2
              refine hK.out _ _ ?_
              clear hK c0 f0 c1 f1
              have h11 := (far1p (far1p h11 p10 (by omega) 0 (.int .i64 d1)) p10 (by omega) 1 (.int .i64 d2))
              have h10 := (blk_put (cs := #[.int .i64 d1, .int .i64 0]) (blk_put (cs := #[.int .i64 0, .int .i64 0]) h10 0 (.int .i64 d1) rfl) 1 (.int .i64 d2) rfl)
              have hHeld := (LwS.set (LwS.set hHeld p10 0 (.int .i64 d1)) p10 1 (.int .i64 d2))
              have c0 := blk_cell h11 0
              have f0 := blk_frozen h11 0
              have c1 := blk_cell h11 1
              have f1 := blk_frozen h11 1
              refine last_ (i := 13) (N := none) #[true, true, true, true, true, true, true, true, true, true, true, true, true, true] rfl rfl (by kernel_rfl) (by decide) (fun K_ hK => ?_)
              rw [if_pos (by rfl)]
              go_wp2
              refine hK.out _ _ ?_
              clear hK c0 f0 c1 f1
              have h10 := (far1p (far1p h10 p11 (by omega) 0 (.int .i64 e1)) p11 (by omega) 1 (.int .i64 e2))
              have h11 := (blk_put (cs := #[.int .i64 e1, .int .i64 0]) (blk_put (cs := #[.int .i64 0, .int .i64 0]) h11 0 (.int .i64 e1) rfl) 1 (.int .i64 e2) rfl)
              have hHeld := (LwS.set (LwS.set hHeld p11 0 (.int .i64 e1)) p11 1 (.int .i64 e2))
              refine done_ (by kernel_rfl) ?_
              go_wp2_with fail
              go_meet
              exact ⟨_, _, rfl, rfl, ⟨h10⟩, ⟨h11⟩, ⟨hHeld.2.2.2.2.2.1.out⟩⟩
          · skip
            have p11 := lt_blk hHeld.2.2.2.2.1.out
            rw [if_pos (by rfl)]
            go_wp2
            refine hK.out _ _ (LwS.keep hHeld (below_alloc (Below.refl _ _) _)) (fun hHeld => ?_)
            clear hK
            have q1110 := lt_blk h10
            have h10 := blk_keep h10 (below_alloc (Below.refl _ _) (.cells #[.int .i64 0, .int .i64 0] 23))
            have h11 := blk_new w2 (.cells #[.int .i64 0, .int .i64 0] 23)
            generalize World.alloc w2 (.cells #[.int .i64 0, .int .i64 0] 23) = w2 at hHeld h10 h11 ⊢
            refine one_ (i := 8) (N := some 93) #[true, true, true, true, true, true, true, true, true, false, true, true, false, false] rfl rfl (by kernel_rfl) (by decide) (fun K_ hK => ?_)
            refine goes_ Try.func34 (by kernel_rfl) rfl #[.agg #[.int .i64 a1, .int .i64 a2, .int .i64 a3], .agg #[.int .i64 q1, .int .i64 q2]] (by rfl) rfl rfl (by (try simp only [List.map_toArray, List.map_cons, List.map_nil]); first | done | rfl) ?_
            with_reducible refine (H12.out _).mono ?_
            rintro e w2 ⟨rfl, hb⟩
            refine ⟨_, rfl, ?_⟩
            have h10 := blk_keep h10 hb
            have h11 := blk_keep h11 hb
            refine hK.out _ _ (LwS.keep hHeld hb) (fun hHeld => ?_)
            clear hK hb
            refine norm_ (a' := ?_) ?_ ?_
            rotate_left
            · show Act.put _ (some 93) _ = _
              simp only [Act.put, List.setIfInBounds_toArray, List.set_cons_zero, List.set_cons_succ]
              rfl
            refine one_ (i := 9) (N := some 94) #[true, true, true, true, true, true, true, true, true, true, true, true, false, false] rfl rfl (by kernel_rfl) (by decide) (fun K_ hK => ?_)
            refine goes_ Try.func16 (by kernel_rfl) rfl #[.agg #[.int .i64 E1, .int .i64 E2], .agg #[.int .i64 F1, .int .i64 F2]] (by rfl) rfl rfl (by (try simp only [List.map_toArray, List.map_cons, List.map_nil]); first | done | rfl) ?_
            with_reducible refine (H13.out _).mono ?_
            rintro e w2 ⟨rfl, hb⟩
            refine ⟨_, rfl, ?_⟩
            have h10 := blk_keep h10 hb
            have h11 := blk_keep h11 hb
            refine hK.out _ _ (LwS.keep hHeld hb) (fun hHeld => ?_)
            clear hK hb
            refine norm_ (a' := ?_) ?_ ?_
            rotate_left
            · show Act.put _ (some 94) _ = _
              simp only [Act.put, List.setIfInBounds_toArray, List.set_cons_zero, List.set_cons_succ]
              rfl
            have c0 := blk_cell h10 0
            have f0 := blk_frozen h10 0
            have c1 := blk_cell h10 1
            have f1 := blk_frozen h10 1
            refine last_ (i := 12) (N := none) #[true, true, true, true, true, true, true, true, true, true, true, true, true, false] rfl rfl (by kernel_rfl) (by decide) (fun K_ hK => ?_)
            rw [if_pos (by rfl)]
            go_wp2
            refine hK.out _ _ ?_
            clear hK c0 f0 c1 f1
            have h11 := (far1p (far1p h11 p10 (by omega) 0 (.int .i64 d1)) p10 (by omega) 1 (.int .i64 d2))
            have h10 := (blk_put (cs := #[.int .i64 d1, .int .i64 0]) (blk_put (cs := #[.int .i64 0, .int .i64 0]) h10 0 (.int .i64 d1) rfl) 1 (.int .i64 d2) rfl)
            have hHeld := (LwS.set (LwS.set hHeld p10 0 (.int .i64 d1)) p10 1 (.int .i64 d2))
            have c0 := blk_cell h11 0
            have f0 := blk_frozen h11 0
            have c1 := blk_cell h11 1
            have f1 := blk_frozen h11 1
            refine last_ (i := 13) (N := none) #[true, true, true, true, true, true, true, true, true, true, true, true, true, true] rfl rfl (by kernel_rfl) (by decide) (fun K_ hK => ?_)
            rw [if_pos (by rfl)]
            go_wp2
            refine hK.out _ _ ?_
            clear hK c0 f0 c1 f1
            have h10 := (far1p (far1p h10 p11 (by omega) 0 (.int .i64 e1)) p11 (by omega) 1 (.int .i64 e2))
            have h11 := (blk_put (cs := #[.int .i64 e1, .int .i64 0]) (blk_put (cs := #[.int .i64 0, .int .i64 0]) h11 0 (.int .i64 e1) rfl) 1 (.int .i64 e2) rfl)
            have hHeld := (LwS.set (LwS.set hHeld p11 0 (.int .i64 e1)) p11 1 (.int .i64 e2))
            refine done_ (by kernel_rfl) ?_
            go_wp2_with fail
            go_meet
            exact ⟨_, _, rfl, rfl, ⟨h10⟩, ⟨h11⟩, ⟨hHeld.2.2.2.2.2.1.out⟩⟩
        · skip
          have p11 := lt_blk hHeld.2.2.2.2.1.out
          rw [if_pos (by rfl)]
          go_wp2
          refine hK.out _ _ (LwS.keep hHeld (below_alloc (Below.refl _ _) _)) (fun hHeld => ?_)
          clear hK
          have h11 := blk_new w2 (.cells #[.int .i64 0, .int .i64 0] 23)
          generalize World.alloc w2 (.cells #[.int .i64 0, .int .i64 0] 23) = w2 at hHeld h11 ⊢
          refine two_ (i := 8) (j := 10) (Ni := some 93) (Nj := some 11) #[true, true, true, true, true, true, true, true, true, false, false, true, false, false] #[true, true, true, true, true, true, true, true, false, false, true, true, false, false] rfl rfl rfl rfl (by kernel_rfl) (by decide) (by decide) (fun K_ hK => ?_) (fun K_ hK => ?_)
          · skip
            refine goes_ Try.func34 (by kernel_rfl) rfl #[.agg #[.int .i64 a1, .int .i64 a2, .int .i64 a3], .agg #[.int .i64 q1, .int .i64 q2]] (by rfl) rfl rfl (by (try simp only [List.map_toArray, List.map_cons, List.map_nil]); first | done | rfl) ?_
            with_reducible refine (H12.out _).mono ?_
            rintro e w2 ⟨rfl, hb⟩
            refine ⟨_, rfl, ?_⟩
            have h11 := blk_keep h11 hb
            refine hK.out _ _ (LwS.keep hHeld hb) (fun hHeld => ?_)
            clear hK hb
            refine norm_ (a' := ?_) ?_ ?_
            rotate_left
            · show Act.put _ (some 93) _ = _
              simp only [Act.put, List.setIfInBounds_toArray, List.set_cons_zero, List.set_cons_succ]
              rfl
            refine two_ (i := 9) (j := 10) (Ni := some 94) (Nj := some 11) #[true, true, true, true, true, true, true, true, true, true, false, true, false, false] #[true, true, true, true, true, true, true, true, true, false, true, true, false, false] rfl rfl rfl rfl (by kernel_rfl) (by decide) (by decide) (fun K_ hK => ?_) (fun K_ hK => ?_)
            · skip
              refine goes_ Try.func16 (by kernel_rfl) rfl #[.agg #[.int .i64 E1, .int .i64 E2], .agg #[.int .i64 F1, .int .i64 F2]] (by rfl) rfl rfl (by (try simp only [List.map_toArray, List.map_cons, List.map_nil]); first | done | rfl) ?_
              with_reducible refine (H13.out _).mono ?_
              rintro e w2 ⟨rfl, hb⟩
              refine ⟨_, rfl, ?_⟩
              have h11 := blk_keep h11 hb
              refine hK.out _ _ (LwS.keep hHeld hb) (fun hHeld => ?_)
              clear hK hb
              refine norm_ (a' := ?_) ?_ ?_
              rotate_left
              · show Act.put _ (some 94) _ = _
                simp only [Act.put, List.setIfInBounds_toArray, List.set_cons_zero, List.set_cons_succ]
                rfl
              refine one_ (i := 10) (N := some 11) #[true, true, true, true, true, true, true, true, true, true, true, true, false, false] rfl rfl (by kernel_rfl) (by decide) (fun K_ hK => ?_)
              have p10 := lt_blk hHeld.2.2.2.2.1.out
              rw [if_pos (by rfl)]
              go_wp2
              refine hK.out _ _ (LwS.keep hHeld (below_alloc (Below.refl _ _) _)) (fun hHeld => ?_)
              clear hK
              have q1011 := lt_blk h11
              have h11 := blk_keep h11 (below_alloc (Below.refl _ _) (.cells #[.int .i64 0, .int .i64 0] 23))
              have h10 := blk_new w2 (.cells #[.int .i64 0, .int .i64 0] 23)
              generalize World.alloc w2 (.cells #[.int .i64 0, .int .i64 0] 23) = w2 at hHeld h11 h10 ⊢
              have c0 := blk_cell h10 0
              have f0 := blk_frozen h10 0
              have c1 := blk_cell h10 1
              have f1 := blk_frozen h10 1
              refine last_ (i := 12) (N := none) #[true, true, true, true, true, true, true, true, true, true, true, true, true, false] rfl rfl (by kernel_rfl) (by decide) (fun K_ hK => ?_)
              rw [if_pos (by rfl)]
              go_wp2
              refine hK.out _ _ ?_
              clear hK c0 f0 c1 f1
              have h11 := (far1p (far1p h11 p10 (by omega) 0 (.int .i64 d1)) p10 (by omega) 1 (.int .i64 d2))
              have h10 := (blk_put (cs := #[.int .i64 d1, .int .i64 0]) (blk_put (cs := #[.int .i64 0, .int .i64 0]) h10 0 (.int .i64 d1) rfl) 1 (.int .i64 d2) rfl)
              have hHeld := (LwS.set (LwS.set hHeld p10 0 (.int .i64 d1)) p10 1 (.int .i64 d2))
              have c0 := blk_cell h11 0
              have f0 := blk_frozen h11 0
              have c1 := blk_cell h11 1
              have f1 := blk_frozen h11 1
              refine last_ (i := 13) (N := none) #[true, true, true, true, true, true, true, true, true, true, true, true, true, true] rfl rfl (by kernel_rfl) (by decide) (fun K_ hK => ?_)
              rw [if_pos (by rfl)]
              go_wp2
              refine hK.out _ _ ?_
              clear hK c0 f0 c1 f1
              have h10 := (far1p (far1p h10 p11 (by omega) 0 (.int .i64 e1)) p11 (by omega) 1 (.int .i64 e2))
              have h11 := (blk_put (cs := #[.int .i64 e1, .int .i64 0]) (blk_put (cs := #[.int .i64 0, .int .i64 0]) h11 0 (.int .i64 e1) rfl) 1 (.int .i64 e2) rfl)
              have hHeld := (LwS.set (LwS.set hHeld p11 0 (.int .i64 e1)) p11 1 (.int .i64 e2))
              refine done_ (by kernel_rfl) ?_
              go_wp2_with fail
              go_meet
              exact ⟨_, _, rfl, rfl, ⟨h10⟩, ⟨h11⟩, ⟨hHeld.2.2.2.2.2.1.out⟩⟩
            · skip
              have p10 := lt_blk hHeld.2.2.2.2.1.out
              rw [if_pos (by rfl)]
              go_wp2
              refine hK.out _ _ (LwS.keep hHeld (below_alloc (Below.refl _ _) _)) (fun hHeld => ?_)
              clear hK
              have q1011 := lt_blk h11
              have h11 := blk_keep h11 (below_alloc (Below.refl _ _) (.cells #[.int .i64 0, .int .i64 0] 23))
              have h10 := blk_new w2 (.cells #[.int .i64 0, .int .i64 0] 23)
              generalize World.alloc w2 (.cells #[.int .i64 0, .int .i64 0] 23) = w2 at hHeld h11 h10 ⊢
              refine one_ (i := 9) (N := some 94) #[true, true, true, true, true, true, true, true, true, true, true, true, false, false] rfl rfl (by kernel_rfl) (by decide) (fun K_ hK => ?_)
              refine goes_ Try.func16 (by kernel_rfl) rfl #[.agg #[.int .i64 E1, .int .i64 E2], .agg #[.int .i64 F1, .int .i64 F2]] (by rfl) rfl rfl (by (try simp only [List.map_toArray, List.map_cons, List.map_nil]); first | done | rfl) ?_
              with_reducible refine (H13.out _).mono ?_
              rintro e w2 ⟨rfl, hb⟩
              refine ⟨_, rfl, ?_⟩
              have h11 := blk_keep h11 hb
              have h10 := blk_keep h10 hb
              refine hK.out _ _ (LwS.keep hHeld hb) (fun hHeld => ?_)
              clear hK hb
              refine norm_ (a' := ?_) ?_ ?_
              rotate_left
              · show Act.put _ (some 94) _ = _
                simp only [Act.put, List.setIfInBounds_toArray, List.set_cons_zero, List.set_cons_succ]
                rfl
              have c0 := blk_cell h10 0
              have f0 := blk_frozen h10 0
              have c1 := blk_cell h10 1
              have f1 := blk_frozen h10 1
              refine last_ (i := 12) (N := none) #[true, true, true, true, true, true, true, true, true, true, true, true, true, false] rfl rfl (by kernel_rfl) (by decide) (fun K_ hK => ?_)
              rw [if_pos (by rfl)]
              go_wp2
              refine hK.out _ _ ?_
              clear hK c0 f0 c1 f1
              have h11 := (far1p (far1p h11 p10 (by omega) 0 (.int .i64 d1)) p10 (by omega) 1 (.int .i64 d2))
              have h10 := (blk_put (cs := #[.int .i64 d1, .int .i64 0]) (blk_put (cs := #[.int .i64 0, .int .i64 0]) h10 0 (.int .i64 d1) rfl) 1 (.int .i64 d2) rfl)
              have hHeld := (LwS.set (LwS.set hHeld p10 0 (.int .i64 d1)) p10 1 (.int .i64 d2))
              have c0 := blk_cell h11 0
              have f0 := blk_frozen h11 0
              have c1 := blk_cell h11 1
              have f1 := blk_frozen h11 1
              refine last_ (i := 13) (N := none) #[true, true, true, true, true, true, true, true, true, true, true, true, true, true] rfl rfl (by kernel_rfl) (by decide) (fun K_ hK => ?_)
              rw [if_pos (by rfl)]
              go_wp2
              refine hK.out _ _ ?_
              clear hK c0 f0 c1 f1
              have h10 := (far1p (far1p h10 p11 (by omega) 0 (.int .i64 e1)) p11 (by omega) 1 (.int .i64 e2))
              have h11 := (blk_put (cs := #[.int .i64 e1, .int .i64 0]) (blk_put (cs := #[.int .i64 0, .int .i64 0]) h11 0 (.int .i64 e1) rfl) 1 (.int .i64 e2) rfl)
              have hHeld := (LwS.set (LwS.set hHeld p11 0 (.int .i64 e1)) p11 1 (.int .i64 e2))
              refine done_ (by kernel_rfl) ?_
              go_wp2_with fail
              go_meet
              exact ⟨_, _, rfl, rfl, ⟨h10⟩, ⟨h11⟩, ⟨hHeld.2.2.2.2.2.1.out⟩⟩
          · skip
            have p10 := lt_blk hHeld.2.2.2.2.1.out
            rw [if_pos (by rfl)]
            go_wp2
            refine hK.out _ _ (LwS.keep hHeld (below_alloc (Below.refl _ _) _)) (fun hHeld => ?_)
            clear hK
            have q1011 := lt_blk h11
            have h11 := blk_keep h11 (below_alloc (Below.refl _ _) (.cells #[.int .i64 0, .int .i64 0] 23))
            have h10 := blk_new w2 (.cells #[.int .i64 0, .int .i64 0] 23)
            generalize World.alloc w2 (.cells #[.int .i64 0, .int .i64 0] 23) = w2 at hHeld h11 h10 ⊢
            refine one_ (i := 8) (N := some 93) #[true, true, true, true, true, true, true, true, true, false, true, true, false, false] rfl rfl (by kernel_rfl) (by decide) (fun K_ hK => ?_)
            refine goes_ Try.func34 (by kernel_rfl) rfl #[.agg #[.int .i64 a1, .int .i64 a2, .int .i64 a3], .agg #[.int .i64 q1, .int .i64 q2]] (by rfl) rfl rfl (by (try simp only [List.map_toArray, List.map_cons, List.map_nil]); first | done | rfl) ?_
            with_reducible refine (H12.out _).mono ?_
            rintro e w2 ⟨rfl, hb⟩
            refine ⟨_, rfl, ?_⟩
            have h11 := blk_keep h11 hb
            have h10 := blk_keep h10 hb
            refine hK.out _ _ (LwS.keep hHeld hb) (fun hHeld => ?_)
            clear hK hb
            refine norm_ (a' := ?_) ?_ ?_
            rotate_left
            · show Act.put _ (some 93) _ = _
              simp only [Act.put, List.setIfInBounds_toArray, List.set_cons_zero, List.set_cons_succ]
              rfl
            refine one_ (i := 9) (N := some 94) #[true, true, true, true, true, true, true, true, true, true, true, true, false, false] rfl rfl (by kernel_rfl) (by decide) (fun K_ hK => ?_)
            refine goes_ Try.func16 (by kernel_rfl) rfl #[.agg #[.int .i64 E1, .int .i64 E2], .agg #[.int .i64 F1, .int .i64 F2]] (by rfl) rfl rfl (by (try simp only [List.map_toArray, List.map_cons, List.map_nil]); first | done | rfl) ?_
            with_reducible refine (H13.out _).mono ?_
            rintro e w2 ⟨rfl, hb⟩
            refine ⟨_, rfl, ?_⟩
            have h11 := blk_keep h11 hb
            have h10 := blk_keep h10 hb
            refine hK.out _ _ (LwS.keep hHeld hb) (fun hHeld => ?_)
            clear hK hb
            refine norm_ (a' := ?_) ?_ ?_
            rotate_left
            · show Act.put _ (some 94) _ = _
              simp only [Act.put, List.setIfInBounds_toArray, List.set_cons_zero, List.set_cons_succ]
              rfl
            have c0 := blk_cell h10 0
            have f0 := blk_frozen h10 0
            have c1 := blk_cell h10 1
            have f1 := blk_frozen h10 1
            refine last_ (i := 12) (N := none) #[true, true, true, true, true, true, true, true, true, true, true, true, true, false] rfl rfl (by kernel_rfl) (by decide) (fun K_ hK => ?_)
            rw [if_pos (by rfl)]
            go_wp2
            refine hK.out _ _ ?_
            clear hK c0 f0 c1 f1
            have h11 := (far1p (far1p h11 p10 (by omega) 0 (.int .i64 d1)) p10 (by omega) 1 (.int .i64 d2))
            have h10 := (blk_put (cs := #[.int .i64 d1, .int .i64 0]) (blk_put (cs := #[.int .i64 0, .int .i64 0]) h10 0 (.int .i64 d1) rfl) 1 (.int .i64 d2) rfl)
            have hHeld := (LwS.set (LwS.set hHeld p10 0 (.int .i64 d1)) p10 1 (.int .i64 d2))
            have c0 := blk_cell h11 0
            have f0 := blk_frozen h11 0
            have c1 := blk_cell h11 1
            have f1 := blk_frozen h11 1
            refine last_ (i := 13) (N := none) #[true, true, true, true, true, true, true, true, true, true, true, true, true, true] rfl rfl (by kernel_rfl) (by decide) (fun K_ hK => ?_)
            rw [if_pos (by rfl)]
            go_wp2
            refine hK.out _ _ ?_
            clear hK c0 f0 c1 f1
            have h10 := (far1p (far1p h10 p11 (by omega) 0 (.int .i64 e1)) p11 (by omega) 1 (.int .i64 e2))
            have h11 := (blk_put (cs := #[.int .i64 e1, .int .i64 0]) (blk_put (cs := #[.int .i64 0, .int .i64 0]) h11 0 (.int .i64 e1) rfl) 1 (.int .i64 e2) rfl)
            have hHeld := (LwS.set (LwS.set hHeld p11 0 (.int .i64 e1)) p11 1 (.int .i64 e2))
            refine done_ (by kernel_rfl) ?_
            go_wp2_with fail
            go_meet
            exact ⟨_, _, rfl, rfl, ⟨h10⟩, ⟨h11⟩, ⟨hHeld.2.2.2.2.2.1.out⟩⟩
      · skip
        have p10 := lt_blk hHeld.2.2.2.2.1.out
        rw [if_pos (by rfl)]
        go_wp2
        refine hK.out _ _ (LwS.keep hHeld (below_alloc (Below.refl _ _) _)) (fun hHeld => ?_)
        clear hK
        have h10 := blk_new w2 (.cells #[.int .i64 0, .int .i64 0] 23)
        generalize World.alloc w2 (.cells #[.int .i64 0, .int .i64 0] 23) = w2 at hHeld h10 ⊢
        refine two_ (i := 5) (j := 11) (Ni := some 90) (Nj := some 12) #[true, true, true, true, true, true, true, true, false, false, true, false, false, false] #[true, true, true, true, true, false, true, true, false, false, true, true, false, false] rfl rfl rfl rfl (by kernel_rfl) (by decide) (by decide) (fun K_ hK => ?_) (fun K_ hK => ?_)
        · skip
          refine goes_ Try.func34 (by kernel_rfl) rfl #[.agg #[.int .i64 a1, .int .i64 a2, .int .i64 a3], .agg #[.int .i64 p1, .int .i64 p2]] (by rfl) rfl rfl (by (try simp only [List.map_toArray, List.map_cons, List.map_nil]); first | done | rfl) ?_
          with_reducible refine (H2.out _).mono ?_
          rintro e w2 ⟨rfl, hb⟩
          refine ⟨_, rfl, ?_⟩
          have h10 := blk_keep h10 hb
          refine hK.out _ _ (LwS.keep hHeld hb) (fun hHeld => ?_)
          clear hK hb
          refine norm_ (a' := ?_) ?_ ?_
          rotate_left
          · show Act.put _ (some 90) _ = _
            simp only [Act.put, List.setIfInBounds_toArray, List.set_cons_zero, List.set_cons_succ]
            rfl
          refine two_ (i := 8) (j := 11) (Ni := some 93) (Nj := some 12) #[true, true, true, true, true, true, true, true, true, false, true, false, false, false] #[true, true, true, true, true, true, true, true, false, false, true, true, false, false] rfl rfl rfl rfl (by kernel_rfl) (by decide) (by decide) (fun K_ hK => ?_) (fun K_ hK => ?_)
          · skip
            refine goes_ Try.func34 (by kernel_rfl) rfl #[.agg #[.int .i64 a1, .int .i64 a2, .int .i64 a3], .agg #[.int .i64 q1, .int .i64 q2]] (by rfl) rfl rfl (by (try simp only [List.map_toArray, List.map_cons, List.map_nil]); first | done | rfl) ?_
            with_reducible refine (H12.out _).mono ?_
            rintro e w2 ⟨rfl, hb⟩
            refine ⟨_, rfl, ?_⟩
            have h10 := blk_keep h10 hb
            refine hK.out _ _ (LwS.keep hHeld hb) (fun hHeld => ?_)
            clear hK hb
            refine norm_ (a' := ?_) ?_ ?_
            rotate_left
            · show Act.put _ (some 93) _ = _
              simp only [Act.put, List.setIfInBounds_toArray, List.set_cons_zero, List.set_cons_succ]
              rfl
            refine two_ (i := 9) (j := 11) (Ni := some 94) (Nj := some 12) #[true, true, true, true, true, true, true, true, true, true, true, false, false, false] #[true, true, true, true, true, true, true, true, true, false, true, true, false, false] rfl rfl rfl rfl (by kernel_rfl) (by decide) (by decide) (fun K_ hK => ?_) (fun K_ hK => ?_)
            · skip
              refine goes_ Try.func16 (by kernel_rfl) rfl #[.agg #[.int .i64 E1, .int .i64 E2], .agg #[.int .i64 F1, .int .i64 F2]] (by rfl) rfl rfl (by (try simp only [List.map_toArray, List.map_cons, List.map_nil]); first | done | rfl) ?_
              with_reducible refine (H13.out _).mono ?_
              rintro e w2 ⟨rfl, hb⟩
              refine ⟨_, rfl, ?_⟩
              have h10 := blk_keep h10 hb
              refine hK.out _ _ (LwS.keep hHeld hb) (fun hHeld => ?_)
              clear hK hb
              refine norm_ (a' := ?_) ?_ ?_
              rotate_left
              · show Act.put _ (some 94) _ = _
                simp only [Act.put, List.setIfInBounds_toArray, List.set_cons_zero, List.set_cons_succ]
                rfl
              refine one_ (i := 11) (N := some 12) #[true, true, true, true, true, true, true, true, true, true, true, true, false, false] rfl rfl (by kernel_rfl) (by decide) (fun K_ hK => ?_)
              have p11 := lt_blk hHeld.2.2.2.2.1.out
              rw [if_pos (by rfl)]
              go_wp2
              refine hK.out _ _ (LwS.keep hHeld (below_alloc (Below.refl _ _) _)) (fun hHeld => ?_)
              clear hK
              have q1110 := lt_blk h10
              have h10 := blk_keep h10 (below_alloc (Below.refl _ _) (.cells #[.int .i64 0, .int .i64 0] 23))
              have h11 := blk_new w2 (.cells #[.int .i64 0, .int .i64 0] 23)
              generalize World.alloc w2 (.cells #[.int .i64 0, .int .i64 0] 23) = w2 at hHeld h10 h11 ⊢
              have c0 := blk_cell h10 0
              have f0 := blk_frozen h10 0
              have c1 := blk_cell h10 1
              have f1 := blk_frozen h10 1
              refine last_ (i := 12) (N := none) #[true, true, true, true, true, true, true, true, true, true, true, true, true, false] rfl rfl (by kernel_rfl) (by decide) (fun K_ hK => ?_)
              rw [if_pos (by rfl)]
              go_wp2
              refine hK.out _ _ ?_
              clear hK c0 f0 c1 f1
              have h11 := (far1p (far1p h11 p10 (by omega) 0 (.int .i64 d1)) p10 (by omega) 1 (.int .i64 d2))
              have h10 := (blk_put (cs := #[.int .i64 d1, .int .i64 0]) (blk_put (cs := #[.int .i64 0, .int .i64 0]) h10 0 (.int .i64 d1) rfl) 1 (.int .i64 d2) rfl)
              have hHeld := (LwS.set (LwS.set hHeld p10 0 (.int .i64 d1)) p10 1 (.int .i64 d2))
              have c0 := blk_cell h11 0
              have f0 := blk_frozen h11 0
              have c1 := blk_cell h11 1
              have f1 := blk_frozen h11 1
              refine last_ (i := 13) (N := none) #[true, true, true, true, true, true, true, true, true, true, true, true, true, true] rfl rfl (by kernel_rfl) (by decide) (fun K_ hK => ?_)
              rw [if_pos (by rfl)]
              go_wp2
              refine hK.out _ _ ?_
              clear hK c0 f0 c1 f1
              have h10 := (far1p (far1p h10 p11 (by omega) 0 (.int .i64 e1)) p11 (by omega) 1 (.int .i64 e2))
              have h11 := (blk_put (cs := #[.int .i64 e1, .int .i64 0]) (blk_put (cs := #[.int .i64 0, .int .i64 0]) h11 0 (.int .i64 e1) rfl) 1 (.int .i64 e2) rfl)
              have hHeld := (LwS.set (LwS.set hHeld p11 0 (.int .i64 e1)) p11 1 (.int .i64 e2))
              refine done_ (by kernel_rfl) ?_
              go_wp2_with fail
              go_meet
              exact ⟨_, _, rfl, rfl, ⟨h10⟩, ⟨h11⟩, ⟨hHeld.2.2.2.2.2.1.out⟩⟩
            · skip
              have p11 := lt_blk hHeld.2.2.2.2.1.out
              rw [if_pos (by rfl)]
              go_wp2
              refine hK.out _ _ (LwS.keep hHeld (below_alloc (Below.refl _ _) _)) (fun hHeld => ?_)
              clear hK
              have q1110 := lt_blk h10
              have h10 := blk_keep h10 (below_alloc (Below.refl _ _) (.cells #[.int .i64 0, .int .i64 0] 23))
              have h11 := blk_new w2 (.cells #[.int .i64 0, .int .i64 0] 23)
              generalize World.alloc w2 (.cells #[.int .i64 0, .int .i64 0] 23) = w2 at hHeld h10 h11 ⊢
              refine one_ (i := 9) (N := some 94) #[true, true, true, true, true, true, true, true, true, true, true, true, false, false] rfl rfl (by kernel_rfl) (by decide) (fun K_ hK => ?_)
              refine goes_ Try.func16 (by kernel_rfl) rfl #[.agg #[.int .i64 E1, .int .i64 E2], .agg #[.int .i64 F1, .int .i64 F2]] (by rfl) rfl rfl (by (try simp only [List.map_toArray, List.map_cons, List.map_nil]); first | done | rfl) ?_
              with_reducible refine (H13.out _).mono ?_
              rintro e w2 ⟨rfl, hb⟩
              refine ⟨_, rfl, ?_⟩
              have h10 := blk_keep h10 hb
              have h11 := blk_keep h11 hb
              refine hK.out _ _ (LwS.keep hHeld hb) (fun hHeld => ?_)
              clear hK hb
              refine norm_ (a' := ?_) ?_ ?_
              rotate_left
              · show Act.put _ (some 94) _ = _
                simp only [Act.put, List.setIfInBounds_toArray, List.set_cons_zero, List.set_cons_succ]
                rfl
              have c0 := blk_cell h10 0
              have f0 := blk_frozen h10 0
              have c1 := blk_cell h10 1
              have f1 := blk_frozen h10 1
              refine last_ (i := 12) (N := none) #[true, true, true, true, true, true, true, true, true, true, true, true, true, false] rfl rfl (by kernel_rfl) (by decide) (fun K_ hK => ?_)
              rw [if_pos (by rfl)]
              go_wp2
              refine hK.out _ _ ?_
              clear hK c0 f0 c1 f1
              have h11 := (far1p (far1p h11 p10 (by omega) 0 (.int .i64 d1)) p10 (by omega) 1 (.int .i64 d2))
              have h10 := (blk_put (cs := #[.int .i64 d1, .int .i64 0]) (blk_put (cs := #[.int .i64 0, .int .i64 0]) h10 0 (.int .i64 d1) rfl) 1 (.int .i64 d2) rfl)
              have hHeld := (LwS.set (LwS.set hHeld p10 0 (.int .i64 d1)) p10 1 (.int .i64 d2))
              have c0 := blk_cell h11 0
              have f0 := blk_frozen h11 0
              have c1 := blk_cell h11 1
              have f1 := blk_frozen h11 1
              refine last_ (i := 13) (N := none) #[true, true, true, true, true, true, true, true, true, true, true, true, true, true] rfl rfl (by kernel_rfl) (by decide) (fun K_ hK => ?_)
              rw [if_pos (by rfl)]
              go_wp2
              refine hK.out _ _ ?_
              clear hK c0 f0 c1 f1
              have h10 := (far1p (far1p h10 p11 (by omega) 0 (.int .i64 e1)) p11 (by omega) 1 (.int .i64 e2))
              have h11 := (blk_put (cs := #[.int .i64 e1, .int .i64 0]) (blk_put (cs := #[.int .i64 0, .int .i64 0]) h11 0 (.int .i64 e1) rfl) 1 (.int .i64 e2) rfl)
              have hHeld := (LwS.set (LwS.set hHeld p11 0 (.int .i64 e1)) p11 1 (.int .i64 e2))
              refine done_ (by kernel_rfl) ?_
              go_wp2_with fail
              go_meet
              exact ⟨_, _, rfl, rfl, ⟨h10⟩, ⟨h11⟩, ⟨hHeld.2.2.2.2.2.1.out⟩⟩
          · skip
            have p11 := lt_blk hHeld.2.2.2.2.1.out
            rw [if_pos (by rfl)]
            go_wp2
            refine hK.out _ _ (LwS.keep hHeld (below_alloc (Below.refl _ _) _)) (fun hHeld => ?_)
            clear hK
            have q1110 := lt_blk h10
            have h10 := blk_keep h10 (below_alloc (Below.refl _ _) (.cells #[.int .i64 0, .int .i64 0] 23))
            have h11 := blk_new w2 (.cells #[.int .i64 0, .int .i64 0] 23)
            generalize World.alloc w2 (.cells #[.int .i64 0, .int .i64 0] 23) = w2 at hHeld h10 h11 ⊢
            refine one_ (i := 8) (N := some 93) #[true, true, true, true, true, true, true, true, true, false, true, true, false, false] rfl rfl (by kernel_rfl) (by decide) (fun K_ hK => ?_)
            refine goes_ Try.func34 (by kernel_rfl) rfl #[.agg #[.int .i64 a1, .int .i64 a2, .int .i64 a3], .agg #[.int .i64 q1, .int .i64 q2]] (by rfl) rfl rfl (by (try simp only [List.map_toArray, List.map_cons, List.map_nil]); first | done | rfl) ?_
            with_reducible refine (H12.out _).mono ?_
            rintro e w2 ⟨rfl, hb⟩
            refine ⟨_, rfl, ?_⟩
            have h10 := blk_keep h10 hb
            have h11 := blk_keep h11 hb
            refine hK.out _ _ (LwS.keep hHeld hb) (fun hHeld => ?_)
            clear hK hb
            refine norm_ (a' := ?_) ?_ ?_
            rotate_left
            · show Act.put _ (some 93) _ = _
              simp only [Act.put, List.setIfInBounds_toArray, List.set_cons_zero, List.set_cons_succ]
              rfl
            refine one_ (i := 9) (N := some 94) #[true, true, true, true, true, true, true, true, true, true, true, true, false, false] rfl rfl (by kernel_rfl) (by decide) (fun K_ hK => ?_)
            refine goes_ Try.func16 (by kernel_rfl) rfl #[.agg #[.int .i64 E1, .int .i64 E2], .agg #[.int .i64 F1, .int .i64 F2]] (by rfl) rfl rfl (by (try simp only [List.map_toArray, List.map_cons, List.map_nil]); first | done | rfl) ?_
            with_reducible refine (H13.out _).mono ?_
            rintro e w2 ⟨rfl, hb⟩
            refine ⟨_, rfl, ?_⟩
            have h10 := blk_keep h10 hb
            have h11 := blk_keep h11 hb
            refine hK.out _ _ (LwS.keep hHeld hb) (fun hHeld => ?_)
            clear hK hb
            refine norm_ (a' := ?_) ?_ ?_
            rotate_left
            · show Act.put _ (some 94) _ = _
              simp only [Act.put, List.setIfInBounds_toArray, List.set_cons_zero, List.set_cons_succ]
              rfl
            have c0 := blk_cell h10 0
            have f0 := blk_frozen h10 0
            have c1 := blk_cell h10 1
            have f1 := blk_frozen h10 1
            refine last_ (i := 12) (N := none) #[true, true, true, true, true, true, true, true, true, true, true, true, true, false] rfl rfl (by kernel_rfl) (by decide) (fun K_ hK => ?_)
            rw [if_pos (by rfl)]
            go_wp2
            refine hK.out _ _ ?_
            clear hK c0 f0 c1 f1
            have h11 := (far1p (far1p h11 p10 (by omega) 0 (.int .i64 d1)) p10 (by omega) 1 (.int .i64 d2))
            have h10 := (blk_put (cs := #[.int .i64 d1, .int .i64 0]) (blk_put (cs := #[.int .i64 0, .int .i64 0]) h10 0 (.int .i64 d1) rfl) 1 (.int .i64 d2) rfl)
            have hHeld := (LwS.set (LwS.set hHeld p10 0 (.int .i64 d1)) p10 1 (.int .i64 d2))
            have c0 := blk_cell h11 0
            have f0 := blk_frozen h11 0
            have c1 := blk_cell h11 1
            have f1 := blk_frozen h11 1
            refine last_ (i := 13) (N := none) #[true, true, true, true, true, true, true, true, true, true, true, true, true, true] rfl rfl (by kernel_rfl) (by decide) (fun K_ hK => ?_)
            rw [if_pos (by rfl)]
            go_wp2
            refine hK.out _ _ ?_
            clear hK c0 f0 c1 f1
            have h10 := (far1p (far1p h10 p11 (by omega) 0 (.int .i64 e1)) p11 (by omega) 1 (.int .i64 e2))
            have h11 := (blk_put (cs := #[.int .i64 e1, .int .i64 0]) (blk_put (cs := #[.int .i64 0, .int .i64 0]) h11 0 (.int .i64 e1) rfl) 1 (.int .i64 e2) rfl)
            have hHeld := (LwS.set (LwS.set hHeld p11 0 (.int .i64 e1)) p11 1 (.int .i64 e2))
            refine done_ (by kernel_rfl) ?_
            go_wp2_with fail
            go_meet
            exact ⟨_, _, rfl, rfl, ⟨h10⟩, ⟨h11⟩, ⟨hHeld.2.2.2.2.2.1.out⟩⟩
        · skip
          have p11 := lt_blk hHeld.2.2.2.2.1.out
          rw [if_pos (by rfl)]
          go_wp2
          refine hK.out _ _ (LwS.keep hHeld (below_alloc (Below.refl _ _) _)) (fun hHeld => ?_)
          clear hK
          have q1110 := lt_blk h10
          have h10 := blk_keep h10 (below_alloc (Below.refl _ _) (.cells #[.int .i64 0, .int .i64 0] 23))
          have h11 := blk_new w2 (.cells #[.int .i64 0, .int .i64 0] 23)
          generalize World.alloc w2 (.cells #[.int .i64 0, .int .i64 0] 23) = w2 at hHeld h10 h11 ⊢
          refine one_ (i := 5) (N := some 90) #[true, true, true, true, true, true, true, true, false, false, true, true, false, false] rfl rfl (by kernel_rfl) (by decide) (fun K_ hK => ?_)
          refine goes_ Try.func34 (by kernel_rfl) rfl #[.agg #[.int .i64 a1, .int .i64 a2, .int .i64 a3], .agg #[.int .i64 p1, .int .i64 p2]] (by rfl) rfl rfl (by (try simp only [List.map_toArray, List.map_cons, List.map_nil]); first | done | rfl) ?_
          with_reducible refine (H2.out _).mono ?_
          rintro e w2 ⟨rfl, hb⟩
          refine ⟨_, rfl, ?_⟩
          have h10 := blk_keep h10 hb
          have h11 := blk_keep h11 hb
          refine hK.out _ _ (LwS.keep hHeld hb) (fun hHeld => ?_)
          clear hK hb
          refine norm_ (a' := ?_) ?_ ?_
          rotate_left
          · show Act.put _ (some 90) _ = _
            simp only [Act.put, List.setIfInBounds_toArray, List.set_cons_zero, List.set_cons_succ]
            rfl
          refine one_ (i := 8) (N := some 93) #[true, true, true, true, true, true, true, true, true, false, true, true, false, false] rfl rfl (by kernel_rfl) (by decide) (fun K_ hK => ?_)
          refine goes_ Try.func34 (by kernel_rfl) rfl #[.agg #[.int .i64 a1, .int .i64 a2, .int .i64 a3], .agg #[.int .i64 q1, .int .i64 q2]] (by rfl) rfl rfl (by (try simp only [List.map_toArray, List.map_cons, List.map_nil]); first | done | rfl) ?_
          with_reducible refine (H12.out _).mono ?_
          rintro e w2 ⟨rfl, hb⟩
          refine ⟨_, rfl, ?_⟩
          have h10 := blk_keep h10 hb
          have h11 := blk_keep h11 hb
          refine hK.out _ _ (LwS.keep hHeld hb) (fun hHeld => ?_)
          clear hK hb
          refine norm_ (a' := ?_) ?_ ?_
          rotate_left
          · show Act.put _ (some 93) _ = _
            simp only [Act.put, List.setIfInBounds_toArray, List.set_cons_zero, List.set_cons_succ]
            rfl
          refine one_ (i := 9) (N := some 94) #[true, true, true, true, true, true, true, true, true, true, true, true, false, false] rfl rfl (by kernel_rfl) (by decide) (fun K_ hK => ?_)
          refine goes_ Try.func16 (by kernel_rfl) rfl #[.agg #[.int .i64 E1, .int .i64 E2], .agg #[.int .i64 F1, .int .i64 F2]] (by rfl) rfl rfl (by (try simp only [List.map_toArray, List.map_cons, List.map_nil]); first | done | rfl) ?_
          with_reducible refine (H13.out _).mono ?_
          rintro e w2 ⟨rfl, hb⟩
          refine ⟨_, rfl, ?_⟩
          have h10 := blk_keep h10 hb
          have h11 := blk_keep h11 hb
          refine hK.out _ _ (LwS.keep hHeld hb) (fun hHeld => ?_)
          clear hK hb
          refine norm_ (a' := ?_) ?_ ?_
          rotate_left
          · show Act.put _ (some 94) _ = _
            simp only [Act.put, List.setIfInBounds_toArray, List.set_cons_zero, List.set_cons_succ]
            rfl
          have c0 := blk_cell h10 0
          have f0 := blk_frozen h10 0
          have c1 := blk_cell h10 1
          have f1 := blk_frozen h10 1
          refine last_ (i := 12) (N := none) #[true, true, true, true, true, true, true, true, true, true, true, true, true, false] rfl rfl (by kernel_rfl) (by decide) (fun K_ hK => ?_)
          rw [if_pos (by rfl)]
          go_wp2
          refine hK.out _ _ ?_
          clear hK c0 f0 c1 f1
          have h11 := (far1p (far1p h11 p10 (by omega) 0 (.int .i64 d1)) p10 (by omega) 1 (.int .i64 d2))
          have h10 := (blk_put (cs := #[.int .i64 d1, .int .i64 0]) (blk_put (cs := #[.int .i64 0, .int .i64 0]) h10 0 (.int .i64 d1) rfl) 1 (.int .i64 d2) rfl)
          have hHeld := (LwS.set (LwS.set hHeld p10 0 (.int .i64 d1)) p10 1 (.int .i64 d2))
          have c0 := blk_cell h11 0
          have f0 := blk_frozen h11 0
          have c1 := blk_cell h11 1
          have f1 := blk_frozen h11 1
          refine last_ (i := 13) (N := none) #[true, true, true, true, true, true, true, true, true, true, true, true, true, true] rfl rfl (by kernel_rfl) (by decide) (fun K_ hK => ?_)
          rw [if_pos (by rfl)]
          go_wp2
          refine hK.out _ _ ?_
          clear hK c0 f0 c1 f1
          have h10 := (far1p (far1p h10 p11 (by omega) 0 (.int .i64 e1)) p11 (by omega) 1 (.int .i64 e2))
          have h11 := (blk_put (cs := #[.int .i64 e1, .int .i64 0]) (blk_put (cs := #[.int .i64 0, .int .i64 0]) h11 0 (.int .i64 e1) rfl) 1 (.int .i64 e2) rfl)
          have hHeld := (LwS.set (LwS.set hHeld p11 0 (.int .i64 e1)) p11 1 (.int .i64 e2))
          refine done_ (by kernel_rfl) ?_
          go_wp2_with fail
          go_meet
          exact ⟨_, _, rfl, rfl, ⟨h10⟩, ⟨h11⟩, ⟨hHeld.2.2.2.2.2.1.out⟩⟩
      · skip
        have p11 := lt_blk hHeld.2.2.2.2.1.out
        rw [if_pos (by rfl)]
        go_wp2
        refine hK.out _ _ (LwS.keep hHeld (below_alloc (Below.refl _ _) _)) (fun hHeld => ?_)
        clear hK
        have h11 := blk_new w2 (.cells #[.int .i64 0, .int .i64 0] 23)
        generalize World.alloc w2 (.cells #[.int .i64 0, .int .i64 0] 23) = w2 at hHeld h11 ⊢
        refine two_ (i := 5) (j := 10) (Ni := some 90) (Nj := some 11) #[true, true, true, true, true, true, true, true, false, false, false, true, false, false] #[true, true, true, true, true, false, true, true, false, false, true, true, false, false] rfl rfl rfl rfl (by kernel_rfl) (by decide) (by decide) (fun K_ hK => ?_) (fun K_ hK => ?_)
        · skip
          refine goes_ Try.func34 (by kernel_rfl) rfl #[.agg #[.int .i64 a1, .int .i64 a2, .int .i64 a3], .agg #[.int .i64 p1, .int .i64 p2]] (by rfl) rfl rfl (by (try simp only [List.map_toArray, List.map_cons, List.map_nil]); first | done | rfl) ?_
          with_reducible refine (H2.out _).mono ?_
          rintro e w2 ⟨rfl, hb⟩
          refine ⟨_, rfl, ?_⟩
          have h11 := blk_keep h11 hb
          refine hK.out _ _ (LwS.keep hHeld hb) (fun hHeld => ?_)
          clear hK hb
          refine norm_ (a' := ?_) ?_ ?_
          rotate_left
          · show Act.put _ (some 90) _ = _
            simp only [Act.put, List.setIfInBounds_toArray, List.set_cons_zero, List.set_cons_succ]
            rfl
          refine two_ (i := 8) (j := 10) (Ni := some 93) (Nj := some 11) #[true, true, true, true, true, true, true, true, true, false, false, true, false, false] #[true, true, true, true, true, true, true, true, false, false, true, true, false, false] rfl rfl rfl rfl (by kernel_rfl) (by decide) (by decide) (fun K_ hK => ?_) (fun K_ hK => ?_)
          · skip
            refine goes_ Try.func34 (by kernel_rfl) rfl #[.agg #[.int .i64 a1, .int .i64 a2, .int .i64 a3], .agg #[.int .i64 q1, .int .i64 q2]] (by rfl) rfl rfl (by (try simp only [List.map_toArray, List.map_cons, List.map_nil]); first | done | rfl) ?_
            with_reducible refine (H12.out _).mono ?_
            rintro e w2 ⟨rfl, hb⟩
            refine ⟨_, rfl, ?_⟩
            have h11 := blk_keep h11 hb
            refine hK.out _ _ (LwS.keep hHeld hb) (fun hHeld => ?_)
            clear hK hb
            refine norm_ (a' := ?_) ?_ ?_
            rotate_left
            · show Act.put _ (some 93) _ = _
              simp only [Act.put, List.setIfInBounds_toArray, List.set_cons_zero, List.set_cons_succ]
              rfl
            refine two_ (i := 9) (j := 10) (Ni := some 94) (Nj := some 11) #[true, true, true, true, true, true, true, true, true, true, false, true, false, false] #[true, true, true, true, true, true, true, true, true, false, true, true, false, false] rfl rfl rfl rfl (by kernel_rfl) (by decide) (by decide) (fun K_ hK => ?_) (fun K_ hK => ?_)
            · skip
              refine goes_ Try.func16 (by kernel_rfl) rfl #[.agg #[.int .i64 E1, .int .i64 E2], .agg #[.int .i64 F1, .int .i64 F2]] (by rfl) rfl rfl (by (try simp only [List.map_toArray, List.map_cons, List.map_nil]); first | done | rfl) ?_
              with_reducible refine (H13.out _).mono ?_
              rintro e w2 ⟨rfl, hb⟩
              refine ⟨_, rfl, ?_⟩
              have h11 := blk_keep h11 hb
              refine hK.out _ _ (LwS.keep hHeld hb) (fun hHeld => ?_)
              clear hK hb
              refine norm_ (a' := ?_) ?_ ?_
              rotate_left
              · show Act.put _ (some 94) _ = _
                simp only [Act.put, List.setIfInBounds_toArray, List.set_cons_zero, List.set_cons_succ]
                rfl
              refine one_ (i := 10) (N := some 11) #[true, true, true, true, true, true, true, true, true, true, true, true, false, false] rfl rfl (by kernel_rfl) (by decide) (fun K_ hK => ?_)
              have p10 := lt_blk hHeld.2.2.2.2.1.out
              rw [if_pos (by rfl)]
              go_wp2
              refine hK.out _ _ (LwS.keep hHeld (below_alloc (Below.refl _ _) _)) (fun hHeld => ?_)
              clear hK
              have q1011 := lt_blk h11
              have h11 := blk_keep h11 (below_alloc (Below.refl _ _) (.cells #[.int .i64 0, .int .i64 0] 23))
              have h10 := blk_new w2 (.cells #[.int .i64 0, .int .i64 0] 23)
              generalize World.alloc w2 (.cells #[.int .i64 0, .int .i64 0] 23) = w2 at hHeld h11 h10 ⊢
              have c0 := blk_cell h10 0
              have f0 := blk_frozen h10 0
              have c1 := blk_cell h10 1
              have f1 := blk_frozen h10 1
              refine last_ (i := 12) (N := none) #[true, true, true, true, true, true, true, true, true, true, true, true, true, false] rfl rfl (by kernel_rfl) (by decide) (fun K_ hK => ?_)
              rw [if_pos (by rfl)]
              go_wp2
              refine hK.out _ _ ?_
              clear hK c0 f0 c1 f1
              have h11 := (far1p (far1p h11 p10 (by omega) 0 (.int .i64 d1)) p10 (by omega) 1 (.int .i64 d2))
              have h10 := (blk_put (cs := #[.int .i64 d1, .int .i64 0]) (blk_put (cs := #[.int .i64 0, .int .i64 0]) h10 0 (.int .i64 d1) rfl) 1 (.int .i64 d2) rfl)
              have hHeld := (LwS.set (LwS.set hHeld p10 0 (.int .i64 d1)) p10 1 (.int .i64 d2))
              have c0 := blk_cell h11 0
              have f0 := blk_frozen h11 0
              have c1 := blk_cell h11 1
              have f1 := blk_frozen h11 1
              refine last_ (i := 13) (N := none) #[true, true, true, true, true, true, true, true, true, true, true, true, true, true] rfl rfl (by kernel_rfl) (by decide) (fun K_ hK => ?_)
              rw [if_pos (by rfl)]
              go_wp2
              refine hK.out _ _ ?_
              clear hK c0 f0 c1 f1
              have h10 := (far1p (far1p h10 p11 (by omega) 0 (.int .i64 e1)) p11 (by omega) 1 (.int .i64 e2))
              have h11 := (blk_put (cs := #[.int .i64 e1, .int .i64 0]) (blk_put (cs := #[.int .i64 0, .int .i64 0]) h11 0 (.int .i64 e1) rfl) 1 (.int .i64 e2) rfl)
              have hHeld := (LwS.set (LwS.set hHeld p11 0 (.int .i64 e1)) p11 1 (.int .i64 e2))
              refine done_ (by kernel_rfl) ?_
              go_wp2_with fail
              go_meet
              exact ⟨_, _, rfl, rfl, ⟨h10⟩, ⟨h11⟩, ⟨hHeld.2.2.2.2.2.1.out⟩⟩
            · skip
              have p10 := lt_blk hHeld.2.2.2.2.1.out
              rw [if_pos (by rfl)]
              go_wp2
              refine hK.out _ _ (LwS.keep hHeld (below_alloc (Below.refl _ _) _)) (fun hHeld => ?_)
              clear hK
              have q1011 := lt_blk h11
              have h11 := blk_keep h11 (below_alloc (Below.refl _ _) (.cells #[.int .i64 0, .int .i64 0] 23))
              have h10 := blk_new w2 (.cells #[.int .i64 0, .int .i64 0] 23)
              generalize World.alloc w2 (.cells #[.int .i64 0, .int .i64 0] 23) = w2 at hHeld h11 h10 ⊢
              refine one_ (i := 9) (N := some 94) #[true, true, true, true, true, true, true, true, true, true, true, true, false, false] rfl rfl (by kernel_rfl) (by decide) (fun K_ hK => ?_)
              refine goes_ Try.func16 (by kernel_rfl) rfl #[.agg #[.int .i64 E1, .int .i64 E2], .agg #[.int .i64 F1, .int .i64 F2]] (by rfl) rfl rfl (by (try simp only [List.map_toArray, List.map_cons, List.map_nil]); first | done | rfl) ?_
              with_reducible refine (H13.out _).mono ?_
              rintro e w2 ⟨rfl, hb⟩
              refine ⟨_, rfl, ?_⟩
              have h11 := blk_keep h11 hb
              have h10 := blk_keep h10 hb
              refine hK.out _ _ (LwS.keep hHeld hb) (fun hHeld => ?_)
              clear hK hb
              refine norm_ (a' := ?_) ?_ ?_
              rotate_left
              · show Act.put _ (some 94) _ = _
                simp only [Act.put, List.setIfInBounds_toArray, List.set_cons_zero, List.set_cons_succ]
                rfl
              have c0 := blk_cell h10 0
              have f0 := blk_frozen h10 0
              have c1 := blk_cell h10 1
              have f1 := blk_frozen h10 1
              refine last_ (i := 12) (N := none) #[true, true, true, true, true, true, true, true, true, true, true, true, true, false] rfl rfl (by kernel_rfl) (by decide) (fun K_ hK => ?_)
              rw [if_pos (by rfl)]
              go_wp2
              refine hK.out _ _ ?_
              clear hK c0 f0 c1 f1
              have h11 := (far1p (far1p h11 p10 (by omega) 0 (.int .i64 d1)) p10 (by omega) 1 (.int .i64 d2))
              have h10 := (blk_put (cs := #[.int .i64 d1, .int .i64 0]) (blk_put (cs := #[.int .i64 0, .int .i64 0]) h10 0 (.int .i64 d1) rfl) 1 (.int .i64 d2) rfl)
              have hHeld := (LwS.set (LwS.set hHeld p10 0 (.int .i64 d1)) p10 1 (.int .i64 d2))
              have c0 := blk_cell h11 0
              have f0 := blk_frozen h11 0
              have c1 := blk_cell h11 1
              have f1 := blk_frozen h11 1
              refine last_ (i := 13) (N := none) #[true, true, true, true, true, true, true, true, true, true, true, true, true, true] rfl rfl (by kernel_rfl) (by decide) (fun K_ hK => ?_)
              rw [if_pos (by rfl)]
              go_wp2
              refine hK.out _ _ ?_
              clear hK c0 f0 c1 f1
              have h10 := (far1p (far1p h10 p11 (by omega) 0 (.int .i64 e1)) p11 (by omega) 1 (.int .i64 e2))
              have h11 := (blk_put (cs := #[.int .i64 e1, .int .i64 0]) (blk_put (cs := #[.int .i64 0, .int .i64 0]) h11 0 (.int .i64 e1) rfl) 1 (.int .i64 e2) rfl)
              have hHeld := (LwS.set (LwS.set hHeld p11 0 (.int .i64 e1)) p11 1 (.int .i64 e2))
              refine done_ (by kernel_rfl) ?_
              go_wp2_with fail
              go_meet
              exact ⟨_, _, rfl, rfl, ⟨h10⟩, ⟨h11⟩, ⟨hHeld.2.2.2.2.2.1.out⟩⟩
          · skip
            have p10 := lt_blk hHeld.2.2.2.2.1.out
            rw [if_pos (by rfl)]
            go_wp2
            refine hK.out _ _ (LwS.keep hHeld (below_alloc (Below.refl _ _) _)) (fun hHeld => ?_)
            clear hK
            have q1011 := lt_blk h11
            have h11 := blk_keep h11 (below_alloc (Below.refl _ _) (.cells #[.int .i64 0, .int .i64 0] 23))
            have h10 := blk_new w2 (.cells #[.int .i64 0, .int .i64 0] 23)
            generalize World.alloc w2 (.cells #[.int .i64 0, .int .i64 0] 23) = w2 at hHeld h11 h10 ⊢
            refine one_ (i := 8) (N := some 93) #[true, true, true, true, true, true, true, true, true, false, true, true, false, false] rfl rfl (by kernel_rfl) (by decide) (fun K_ hK => ?_)
            refine goes_ Try.func34 (by kernel_rfl) rfl #[.agg #[.int .i64 a1, .int .i64 a2, .int .i64 a3], .agg #[.int .i64 q1, .int .i64 q2]] (by rfl) rfl rfl (by (try simp only [List.map_toArray, List.map_cons, List.map_nil]); first | done | rfl) ?_
            with_reducible refine (H12.out _).mono ?_
            rintro e w2 ⟨rfl, hb⟩
            refine ⟨_, rfl, ?_⟩
            have h11 := blk_keep h11 hb
            have h10 := blk_keep h10 hb
            refine hK.out _ _ (LwS.keep hHeld hb) (fun hHeld => ?_)
            clear hK hb
            refine norm_ (a' := ?_) ?_ ?_
            rotate_left
            · show Act.put _ (some 93) _ = _
              simp only [Act.put, List.setIfInBounds_toArray, List.set_cons_zero, List.set_cons_succ]
              rfl
            refine one_ (i := 9) (N := some 94) #[true, true, true, true, true, true, true, true, true, true, true, true, false, false] rfl rfl (by kernel_rfl) (by decide) (fun K_ hK => ?_)
            refine goes_ Try.func16 (by kernel_rfl) rfl #[.agg #[.int .i64 E1, .int .i64 E2], .agg #[.int .i64 F1, .int .i64 F2]] (by rfl) rfl rfl (by (try simp only [List.map_toArray, List.map_cons, List.map_nil]); first | done | rfl) ?_
            with_reducible refine (H13.out _).mono ?_
            rintro e w2 ⟨rfl, hb⟩
            refine ⟨_, rfl, ?_⟩
            have h11 := blk_keep h11 hb
            have h10 := blk_keep h10 hb
            refine hK.out _ _ (LwS.keep hHeld hb) (fun hHeld => ?_)
            clear hK hb
            refine norm_ (a' := ?_) ?_ ?_
            rotate_left
            · show Act.put _ (some 94) _ = _
              simp only [Act.put, List.setIfInBounds_toArray, List.set_cons_zero, List.set_cons_succ]
              rfl
            have c0 := blk_cell h10 0
            have f0 := blk_frozen h10 0
            have c1 := blk_cell h10 1
            have f1 := blk_frozen h10 1
            refine last_ (i := 12) (N := none) #[true, true, true, true, true, true, true, true, true, true, true, true, true, false] rfl rfl (by kernel_rfl) (by decide) (fun K_ hK => ?_)
            rw [if_pos (by rfl)]
            go_wp2
            refine hK.out _ _ ?_
            clear hK c0 f0 c1 f1
            have h11 := (far1p (far1p h11 p10 (by omega) 0 (.int .i64 d1)) p10 (by omega) 1 (.int .i64 d2))
            have h10 := (blk_put (cs := #[.int .i64 d1, .int .i64 0]) (blk_put (cs := #[.int .i64 0, .int .i64 0]) h10 0 (.int .i64 d1) rfl) 1 (.int .i64 d2) rfl)
            have hHeld := (LwS.set (LwS.set hHeld p10 0 (.int .i64 d1)) p10 1 (.int .i64 d2))
            have c0 := blk_cell h11 0
            have f0 := blk_frozen h11 0
            have c1 := blk_cell h11 1
            have f1 := blk_frozen h11 1
            refine last_ (i := 13) (N := none) #[true, true, true, true, true, true, true, true, true, true, true, true, true, true] rfl rfl (by kernel_rfl) (by decide) (fun K_ hK => ?_)
            rw [if_pos (by rfl)]
            go_wp2
            refine hK.out _ _ ?_
            clear hK c0 f0 c1 f1
            have h10 := (far1p (far1p h10 p11 (by omega) 0 (.int .i64 e1)) p11 (by omega) 1 (.int .i64 e2))
            have h11 := (blk_put (cs := #[.int .i64 e1, .int .i64 0]) (blk_put (cs := #[.int .i64 0, .int .i64 0]) h11 0 (.int .i64 e1) rfl) 1 (.int .i64 e2) rfl)
            have hHeld := (LwS.set (LwS.set hHeld p11 0 (.int .i64 e1)) p11 1 (.int .i64 e2))
            refine done_ (by kernel_rfl) ?_
            go_wp2_with fail
            go_meet
            exact ⟨_, _, rfl, rfl, ⟨h10⟩, ⟨h11⟩, ⟨hHeld.2.2.2.2.2.1.out⟩⟩
        · skip
          have p10 := lt_blk hHeld.2.2.2.2.1.out
          rw [if_pos (by rfl)]
          go_wp2
          refine hK.out _ _ (LwS.keep hHeld (below_alloc (Below.refl _ _) _)) (fun hHeld => ?_)
          clear hK
          have q1011 := lt_blk h11
          have h11 := blk_keep h11 (below_alloc (Below.refl _ _) (.cells #[.int .i64 0, .int .i64 0] 23))
          have h10 := blk_new w2 (.cells #[.int .i64 0, .int .i64 0] 23)
          generalize World.alloc w2 (.cells #[.int .i64 0, .int .i64 0] 23) = w2 at hHeld h11 h10 ⊢
          refine one_ (i := 5) (N := some 90) #[true, true, true, true, true, true, true, true, false, false, true, true, false, false] rfl rfl (by kernel_rfl) (by decide) (fun K_ hK => ?_)
          refine goes_ Try.func34 (by kernel_rfl) rfl #[.agg #[.int .i64 a1, .int .i64 a2, .int .i64 a3], .agg #[.int .i64 p1, .int .i64 p2]] (by rfl) rfl rfl (by (try simp only [List.map_toArray, List.map_cons, List.map_nil]); first | done | rfl) ?_
          with_reducible refine (H2.out _).mono ?_
          rintro e w2 ⟨rfl, hb⟩
          refine ⟨_, rfl, ?_⟩
          have h11 := blk_keep h11 hb
          have h10 := blk_keep h10 hb
          refine hK.out _ _ (LwS.keep hHeld hb) (fun hHeld => ?_)
          clear hK hb
          refine norm_ (a' := ?_) ?_ ?_
          rotate_left
          · show Act.put _ (some 90) _ = _
            simp only [Act.put, List.setIfInBounds_toArray, List.set_cons_zero, List.set_cons_succ]
            rfl
          refine one_ (i := 8) (N := some 93) #[true, true, true, true, true, true, true, true, true, false, true, true, false, false] rfl rfl (by kernel_rfl) (by decide) (fun K_ hK => ?_)
          refine goes_ Try.func34 (by kernel_rfl) rfl #[.agg #[.int .i64 a1, .int .i64 a2, .int .i64 a3], .agg #[.int .i64 q1, .int .i64 q2]] (by rfl) rfl rfl (by (try simp only [List.map_toArray, List.map_cons, List.map_nil]); first | done | rfl) ?_
          with_reducible refine (H12.out _).mono ?_
          rintro e w2 ⟨rfl, hb⟩
          refine ⟨_, rfl, ?_⟩
          have h11 := blk_keep h11 hb
          have h10 := blk_keep h10 hb
          refine hK.out _ _ (LwS.keep hHeld hb) (fun hHeld => ?_)
          clear hK hb
          refine norm_ (a' := ?_) ?_ ?_
          rotate_left
          · show Act.put _ (some 93) _ = _
            simp only [Act.put, List.setIfInBounds_toArray, List.set_cons_zero, List.set_cons_succ]
            rfl
          refine one_ (i := 9) (N := some 94) #[true, true, true, true, true, true, true, true, true, true, true, true, false, false] rfl rfl (by kernel_rfl) (by decide) (fun K_ hK => ?_)
          refine goes_ Try.func16 (by kernel_rfl) rfl #[.agg #[.int .i64 E1, .int .i64 E2], .agg #[.int .i64 F1, .int .i64 F2]] (by rfl) rfl rfl (by (try simp only [List.map_toArray, List.map_cons, List.map_nil]); first | done | rfl) ?_
          with_reducible refine (H13.out _).mono ?_
          rintro e w2 ⟨rfl, hb⟩
          refine ⟨_, rfl, ?_⟩
          have h11 := blk_keep h11 hb
          have h10 := blk_keep h10 hb
          refine hK.out _ _ (LwS.keep hHeld hb) (fun hHeld => ?_)
          clear hK hb
          refine norm_ (a' := ?_) ?_ ?_
          rotate_left
          · show Act.put _ (some 94) _ = _
            simp only [Act.put, List.setIfInBounds_toArray, List.set_cons_zero, List.set_cons_succ]
            rfl
          have c0 := blk_cell h10 0
          have f0 := blk_frozen h10 0
          have c1 := blk_cell h10 1
          have f1 := blk_frozen h10 1
          refine last_ (i := 12) (N := none) #[true, true, true, true, true, true, true, true, true, true, true, true, true, false] rfl rfl (by kernel_rfl) (by decide) (fun K_ hK => ?_)
          rw [if_pos (by rfl)]
          go_wp2
          refine hK.out _ _ ?_
          clear hK c0 f0 c1 f1
          have h11 := (far1p (far1p h11 p10 (by omega) 0 (.int .i64 d1)) p10 (by omega) 1 (.int .i64 d2))
          have h10 := (blk_put (cs := #[.int .i64 d1, .int .i64 0]) (blk_put (cs := #[.int .i64 0, .int .i64 0]) h10 0 (.int .i64 d1) rfl) 1 (.int .i64 d2) rfl)
          have hHeld := (LwS.set (LwS.set hHeld p10 0 (.int .i64 d1)) p10 1 (.int .i64 d2))
          have c0 := blk_cell h11 0
          have f0 := blk_frozen h11 0
          have c1 := blk_cell h11 1
          have f1 := blk_frozen h11 1
          refine last_ (i := 13) (N := none) #[true, true, true, true, true, true, true, true, true, true, true, true, true, true] rfl rfl (by kernel_rfl) (by decide) (fun K_ hK => ?_)
          rw [if_pos (by rfl)]
          go_wp2
          refine hK.out _ _ ?_
          clear hK c0 f0 c1 f1
          have h10 := (far1p (far1p h10 p11 (by omega) 0 (.int .i64 e1)) p11 (by omega) 1 (.int .i64 e2))
          have h11 := (blk_put (cs := #[.int .i64 e1, .int .i64 0]) (blk_put (cs := #[.int .i64 0, .int .i64 0]) h11 0 (.int .i64 e1) rfl) 1 (.int .i64 e2) rfl)
          have hHeld := (LwS.set (LwS.set hHeld p11 0 (.int .i64 e1)) p11 1 (.int .i64 e2))
          refine done_ (by kernel_rfl) ?_
          go_wp2_with fail
          go_meet
          exact ⟨_, _, rfl, rfl, ⟨h10⟩, ⟨h11⟩, ⟨hHeld.2.2.2.2.2.1.out⟩⟩
    · skip
      have p10 := lt_blk hHeld.2.2.2.2.1.out
      rw [if_pos (by rfl)]
      go_wp2
      refine hK.out _ _ (LwS.keep hHeld (below_alloc (Below.refl _ _) _)) (fun hHeld => ?_)
      clear hK
      have h10 := blk_new w2 (.cells #[.int .i64 0, .int .i64 0] 23)
      generalize World.alloc w2 (.cells #[.int .i64 0, .int .i64 0] 23) = w2 at hHeld h10 ⊢
      refine two_ (i := 2) (j := 11) (Ni := some 87) (Nj := some 12) #[true, true, true, true, true, false, true, true, false, false, true, false, false, false] #[true, true, false, true, true, false, true, true, false, false, true, true, false, false] rfl rfl rfl rfl (by kernel_rfl) (by decide) (by decide) (fun K_ hK => ?_) (fun K_ hK => ?_)
      · skip
        refine goes_ Try.func16 (by kernel_rfl) rfl #[.agg #[.int .i64 p1, .int .i64 p2], .agg #[.int .i64 q1, .int .i64 q2]] (by rfl) rfl rfl (by (try simp only [List.map_toArray, List.map_cons, List.map_nil]); first | done | rfl) ?_
        with_reducible refine (H11.out _).mono ?_
        rintro e w2 ⟨rfl, hb⟩
        refine ⟨_, rfl, ?_⟩
        have h10 := blk_keep h10 hb
        refine hK.out _ _ (LwS.keep hHeld hb) (fun hHeld => ?_)
        clear hK hb
        refine norm_ (a' := ?_) ?_ ?_
        rotate_left
        · show Act.put _ (some 87) _ = _
          simp only [Act.put, List.setIfInBounds_toArray, List.set_cons_zero, List.set_cons_succ]
          rfl
        refine two_ (i := 5) (j := 11) (Ni := some 90) (Nj := some 12) #[true, true, true, true, true, true, true, true, false, false, true, false, false, false] #[true, true, true, true, true, false, true, true, false, false, true, true, false, false] rfl rfl rfl rfl (by kernel_rfl) (by decide) (by decide) (fun K_ hK => ?_) (fun K_ hK => ?_)
        · skip
          refine goes_ Try.func34 (by kernel_rfl) rfl #[.agg #[.int .i64 a1, .int .i64 a2, .int .i64 a3], .agg #[.int .i64 p1, .int .i64 p2]] (by rfl) rfl rfl (by (try simp only [List.map_toArray, List.map_cons, List.map_nil]); first | done | rfl) ?_
          with_reducible refine (H2.out _).mono ?_
          rintro e w2 ⟨rfl, hb⟩
          refine ⟨_, rfl, ?_⟩
          have h10 := blk_keep h10 hb
          refine hK.out _ _ (LwS.keep hHeld hb) (fun hHeld => ?_)
          clear hK hb
          refine norm_ (a' := ?_) ?_ ?_
          rotate_left
          · show Act.put _ (some 90) _ = _
            simp only [Act.put, List.setIfInBounds_toArray, List.set_cons_zero, List.set_cons_succ]
            rfl
          refine two_ (i := 8) (j := 11) (Ni := some 93) (Nj := some 12) #[true, true, true, true, true, true, true, true, true, false, true, false, false, false] #[true, true, true, true, true, true, true, true, false, false, true, true, false, false] rfl rfl rfl rfl (by kernel_rfl) (by decide) (by decide) (fun K_ hK => ?_) (fun K_ hK => ?_)
          · skip
            refine goes_ Try.func34 (by kernel_rfl) rfl #[.agg #[.int .i64 a1, .int .i64 a2, .int .i64 a3], .agg #[.int .i64 q1, .int .i64 q2]] (by rfl) rfl rfl (by (try simp only [List.map_toArray, List.map_cons, List.map_nil]); first | done | rfl) ?_
            with_reducible refine (H12.out _).mono ?_
            rintro e w2 ⟨rfl, hb⟩
            refine ⟨_, rfl, ?_⟩
            have h10 := blk_keep h10 hb
            refine hK.out _ _ (LwS.keep hHeld hb) (fun hHeld => ?_)
            clear hK hb
            refine norm_ (a' := ?_) ?_ ?_
            rotate_left
            · show Act.put _ (some 93) _ = _
              simp only [Act.put, List.setIfInBounds_toArray, List.set_cons_zero, List.set_cons_succ]
              rfl
            refine two_ (i := 9) (j := 11) (Ni := some 94) (Nj := some 12) #[true, true, true, true, true, true, true, true, true, true, true, false, false, false] #[true, true, true, true, true, true, true, true, true, false, true, true, false, false] rfl rfl rfl rfl (by kernel_rfl) (by decide) (by decide) (fun K_ hK => ?_) (fun K_ hK => ?_)
            · skip
              refine goes_ Try.func16 (by kernel_rfl) rfl #[.agg #[.int .i64 E1, .int .i64 E2], .agg #[.int .i64 F1, .int .i64 F2]] (by rfl) rfl rfl (by (try simp only [List.map_toArray, List.map_cons, List.map_nil]); first | done | rfl) ?_
              with_reducible refine (H13.out _).mono ?_
              rintro e w2 ⟨rfl, hb⟩
              refine ⟨_, rfl, ?_⟩
              have h10 := blk_keep h10 hb
              refine hK.out _ _ (LwS.keep hHeld hb) (fun hHeld => ?_)
              clear hK hb
              refine norm_ (a' := ?_) ?_ ?_
              rotate_left
              · show Act.put _ (some 94) _ = _
                simp only [Act.put, List.setIfInBounds_toArray, List.set_cons_zero, List.set_cons_succ]
                rfl
              refine one_ (i := 11) (N := some 12) #[true, true, true, true, true, true, true, true, true, true, true, true, false, false] rfl rfl (by kernel_rfl) (by decide) (fun K_ hK => ?_)
              have p11 := lt_blk hHeld.2.2.2.2.1.out
              rw [if_pos (by rfl)]
              go_wp2
              refine hK.out _ _ (LwS.keep hHeld (below_alloc (Below.refl _ _) _)) (fun hHeld => ?_)
              clear hK
              have q1110 := lt_blk h10
              have h10 := blk_keep h10 (below_alloc (Below.refl _ _) (.cells #[.int .i64 0, .int .i64 0] 23))
              have h11 := blk_new w2 (.cells #[.int .i64 0, .int .i64 0] 23)
              generalize World.alloc w2 (.cells #[.int .i64 0, .int .i64 0] 23) = w2 at hHeld h10 h11 ⊢
              have c0 := blk_cell h10 0
              have f0 := blk_frozen h10 0
              have c1 := blk_cell h10 1
              have f1 := blk_frozen h10 1
              refine last_ (i := 12) (N := none) #[true, true, true, true, true, true, true, true, true, true, true, true, true, false] rfl rfl (by kernel_rfl) (by decide) (fun K_ hK => ?_)
              rw [if_pos (by rfl)]
              go_wp2
              refine hK.out _ _ ?_
              clear hK c0 f0 c1 f1
              have h11 := (far1p (far1p h11 p10 (by omega) 0 (.int .i64 d1)) p10 (by omega) 1 (.int .i64 d2))
              have h10 := (blk_put (cs := #[.int .i64 d1, .int .i64 0]) (blk_put (cs := #[.int .i64 0, .int .i64 0]) h10 0 (.int .i64 d1) rfl) 1 (.int .i64 d2) rfl)
              have hHeld := (LwS.set (LwS.set hHeld p10 0 (.int .i64 d1)) p10 1 (.int .i64 d2))
              have c0 := blk_cell h11 0
              have f0 := blk_frozen h11 0
              have c1 := blk_cell h11 1
              have f1 := blk_frozen h11 1
              refine last_ (i := 13) (N := none) #[true, true, true, true, true, true, true, true, true, true, true, true, true, true] rfl rfl (by kernel_rfl) (by decide) (fun K_ hK => ?_)
              rw [if_pos (by rfl)]
              go_wp2
              refine hK.out _ _ ?_
              clear hK c0 f0 c1 f1
              have h10 := (far1p (far1p h10 p11 (by omega) 0 (.int .i64 e1)) p11 (by omega) 1 (.int .i64 e2))
              have h11 := (blk_put (cs := #[.int .i64 e1, .int .i64 0]) (blk_put (cs := #[.int .i64 0, .int .i64 0]) h11 0 (.int .i64 e1) rfl) 1 (.int .i64 e2) rfl)
              have hHeld := (LwS.set (LwS.set hHeld p11 0 (.int .i64 e1)) p11 1 (.int .i64 e2))
              refine done_ (by kernel_rfl) ?_
              go_wp2_with fail
              go_meet
              exact ⟨_, _, rfl, rfl, ⟨h10⟩, ⟨h11⟩, ⟨hHeld.2.2.2.2.2.1.out⟩⟩
            · skip
              have p11 := lt_blk hHeld.2.2.2.2.1.out
              rw [if_pos (by rfl)]
              go_wp2
              refine hK.out _ _ (LwS.keep hHeld (below_alloc (Below.refl _ _) _)) (fun hHeld => ?_)
              clear hK
              have q1110 := lt_blk h10
              have h10 := blk_keep h10 (below_alloc (Below.refl _ _) (.cells #[.int .i64 0, .int .i64 0] 23))
              have h11 := blk_new w2 (.cells #[.int .i64 0, .int .i64 0] 23)
              generalize World.alloc w2 (.cells #[.int .i64 0, .int .i64 0] 23) = w2 at hHeld h10 h11 ⊢
              refine one_ (i := 9) (N := some 94) #[true, true, true, true, true, true, true, true, true, true, true, true, false, false] rfl rfl (by kernel_rfl) (by decide) (fun K_ hK => ?_)
              refine goes_ Try.func16 (by kernel_rfl) rfl #[.agg #[.int .i64 E1, .int .i64 E2], .agg #[.int .i64 F1, .int .i64 F2]] (by rfl) rfl rfl (by (try simp only [List.map_toArray, List.map_cons, List.map_nil]); first | done | rfl) ?_
              with_reducible refine (H13.out _).mono ?_
              rintro e w2 ⟨rfl, hb⟩
              refine ⟨_, rfl, ?_⟩
              have h10 := blk_keep h10 hb
              have h11 := blk_keep h11 hb
              refine hK.out _ _ (LwS.keep hHeld hb) (fun hHeld => ?_)
              clear hK hb
              refine norm_ (a' := ?_) ?_ ?_
              rotate_left
              · show Act.put _ (some 94) _ = _
                simp only [Act.put, List.setIfInBounds_toArray, List.set_cons_zero, List.set_cons_succ]
                rfl
              have c0 := blk_cell h10 0
              have f0 := blk_frozen h10 0
              have c1 := blk_cell h10 1
              have f1 := blk_frozen h10 1
              refine last_ (i := 12) (N := none) #[true, true, true, true, true, true, true, true, true, true, true, true, true, false] rfl rfl (by kernel_rfl) (by decide) (fun K_ hK => ?_)
              rw [if_pos (by rfl)]
              go_wp2
              refine hK.out _ _ ?_
              clear hK c0 f0 c1 f1
              have h11 := (far1p (far1p h11 p10 (by omega) 0 (.int .i64 d1)) p10 (by omega) 1 (.int .i64 d2))
              have h10 := (blk_put (cs := #[.int .i64 d1, .int .i64 0]) (blk_put (cs := #[.int .i64 0, .int .i64 0]) h10 0 (.int .i64 d1) rfl) 1 (.int .i64 d2) rfl)
              have hHeld := (LwS.set (LwS.set hHeld p10 0 (.int .i64 d1)) p10 1 (.int .i64 d2))
              have c0 := blk_cell h11 0
              have f0 := blk_frozen h11 0
              have c1 := blk_cell h11 1
              have f1 := blk_frozen h11 1
              refine last_ (i := 13) (N := none) #[true, true, true, true, true, true, true, true, true, true, true, true, true, true] rfl rfl (by kernel_rfl) (by decide) (fun K_ hK => ?_)
              rw [if_pos (by rfl)]
              go_wp2
              refine hK.out _ _ ?_
              clear hK c0 f0 c1 f1
              have h10 := (far1p (far1p h10 p11 (by omega) 0 (.int .i64 e1)) p11 (by omega) 1 (.int .i64 e2))
              have h11 := (blk_put (cs := #[.int .i64 e1, .int .i64 0]) (blk_put (cs := #[.int .i64 0, .int .i64 0]) h11 0 (.int .i64 e1) rfl) 1 (.int .i64 e2) rfl)
              have hHeld := (LwS.set (LwS.set hHeld p11 0 (.int .i64 e1)) p11 1 (.int .i64 e2))
              refine done_ (by kernel_rfl) ?_
              go_wp2_with fail
              go_meet
              exact ⟨_, _, rfl, rfl, ⟨h10⟩, ⟨h11⟩, ⟨hHeld.2.2.2.2.2.1.out⟩⟩
          · skip
            have p11 := lt_blk hHeld.2.2.2.2.1.out
            rw [if_pos (by rfl)]
            go_wp2
            refine hK.out _ _ (LwS.keep hHeld (below_alloc (Below.refl _ _) _)) (fun hHeld => ?_)
            clear hK
            have q1110 := lt_blk h10
            have h10 := blk_keep h10 (below_alloc (Below.refl _ _) (.cells #[.int .i64 0, .int .i64 0] 23))
            have h11 := blk_new w2 (.cells #[.int .i64 0, .int .i64 0] 23)
            generalize World.alloc w2 (.cells #[.int .i64 0, .int .i64 0] 23) = w2 at hHeld h10 h11 ⊢
            refine one_ (i := 8) (N := some 93) #[true, true, true, true, true, true, true, true, true, false, true, true, false, false] rfl rfl (by kernel_rfl) (by decide) (fun K_ hK => ?_)
            refine goes_ Try.func34 (by kernel_rfl) rfl #[.agg #[.int .i64 a1, .int .i64 a2, .int .i64 a3], .agg #[.int .i64 q1, .int .i64 q2]] (by rfl) rfl rfl (by (try simp only [List.map_toArray, List.map_cons, List.map_nil]); first | done | rfl) ?_
            with_reducible refine (H12.out _).mono ?_
            rintro e w2 ⟨rfl, hb⟩
            refine ⟨_, rfl, ?_⟩
            have h10 := blk_keep h10 hb
            have h11 := blk_keep h11 hb
            refine hK.out _ _ (LwS.keep hHeld hb) (fun hHeld => ?_)
            clear hK hb
            refine norm_ (a' := ?_) ?_ ?_
            rotate_left
            · show Act.put _ (some 93) _ = _
              simp only [Act.put, List.setIfInBounds_toArray, List.set_cons_zero, List.set_cons_succ]
              rfl
            refine one_ (i := 9) (N := some 94) #[true, true, true, true, true, true, true, true, true, true, true, true, false, false] rfl rfl (by kernel_rfl) (by decide) (fun K_ hK => ?_)
            refine goes_ Try.func16 (by kernel_rfl) rfl #[.agg #[.int .i64 E1, .int .i64 E2], .agg #[.int .i64 F1, .int .i64 F2]] (by rfl) rfl rfl (by (try simp only [List.map_toArray, List.map_cons, List.map_nil]); first | done | rfl) ?_
            with_reducible refine (H13.out _).mono ?_
            rintro e w2 ⟨rfl, hb⟩
            refine ⟨_, rfl, ?_⟩
            have h10 := blk_keep h10 hb
            have h11 := blk_keep h11 hb
            refine hK.out _ _ (LwS.keep hHeld hb) (fun hHeld => ?_)
            clear hK hb
            refine norm_ (a' := ?_) ?_ ?_
            rotate_left
            · show Act.put _ (some 94) _ = _
              simp only [Act.put, List.setIfInBounds_toArray, List.set_cons_zero, List.set_cons_succ]
              rfl
            have c0 := blk_cell h10 0
            have f0 := blk_frozen h10 0
            have c1 := blk_cell h10 1
            have f1 := blk_frozen h10 1
            refine last_ (i := 12) (N := none) #[true, true, true, true, true, true, true, true, true, true, true, true, true, false] rfl rfl (by kernel_rfl) (by decide) (fun K_ hK => ?_)
            rw [if_pos (by rfl)]
            go_wp2
            refine hK.out _ _ ?_
            clear hK c0 f0 c1 f1
            have h11 := (far1p (far1p h11 p10 (by omega) 0 (.int .i64 d1)) p10 (by omega) 1 (.int .i64 d2))
            have h10 := (blk_put (cs := #[.int .i64 d1, .int .i64 0]) (blk_put (cs := #[.int .i64 0, .int .i64 0]) h10 0 (.int .i64 d1) rfl) 1 (.int .i64 d2) rfl)
            have hHeld := (LwS.set (LwS.set hHeld p10 0 (.int .i64 d1)) p10 1 (.int .i64 d2))
            have c0 := blk_cell h11 0
            have f0 := blk_frozen h11 0
            have c1 := blk_cell h11 1
            have f1 := blk_frozen h11 1
            refine last_ (i := 13) (N := none) #[true, true, true, true, true, true, true, true, true, true, true, true, true, true] rfl rfl (by kernel_rfl) (by decide) (fun K_ hK => ?_)
            rw [if_pos (by rfl)]
            go_wp2
            refine hK.out _ _ ?_
            clear hK c0 f0 c1 f1
            have h10 := (far1p (far1p h10 p11 (by omega) 0 (.int .i64 e1)) p11 (by omega) 1 (.int .i64 e2))
            have h11 := (blk_put (cs := #[.int .i64 e1, .int .i64 0]) (blk_put (cs := #[.int .i64 0, .int .i64 0]) h11 0 (.int .i64 e1) rfl) 1 (.int .i64 e2) rfl)
            have hHeld := (LwS.set (LwS.set hHeld p11 0 (.int .i64 e1)) p11 1 (.int .i64 e2))
            refine done_ (by kernel_rfl) ?_
            go_wp2_with fail
            go_meet
            exact ⟨_, _, rfl, rfl, ⟨h10⟩, ⟨h11⟩, ⟨hHeld.2.2.2.2.2.1.out⟩⟩
        · skip
          have p11 := lt_blk hHeld.2.2.2.2.1.out
          rw [if_pos (by rfl)]
          go_wp2
          refine hK.out _ _ (LwS.keep hHeld (below_alloc (Below.refl _ _) _)) (fun hHeld => ?_)
          clear hK
          have q1110 := lt_blk h10
          have h10 := blk_keep h10 (below_alloc (Below.refl _ _) (.cells #[.int .i64 0, .int .i64 0] 23))
          have h11 := blk_new w2 (.cells #[.int .i64 0, .int .i64 0] 23)
          generalize World.alloc w2 (.cells #[.int .i64 0, .int .i64 0] 23) = w2 at hHeld h10 h11 ⊢
          refine one_ (i := 5) (N := some 90) #[true, true, true, true, true, true, true, true, false, false, true, true, false, false] rfl rfl (by kernel_rfl) (by decide) (fun K_ hK => ?_)
          refine goes_ Try.func34 (by kernel_rfl) rfl #[.agg #[.int .i64 a1, .int .i64 a2, .int .i64 a3], .agg #[.int .i64 p1, .int .i64 p2]] (by rfl) rfl rfl (by (try simp only [List.map_toArray, List.map_cons, List.map_nil]); first | done | rfl) ?_
          with_reducible refine (H2.out _).mono ?_
          rintro e w2 ⟨rfl, hb⟩
          refine ⟨_, rfl, ?_⟩
          have h10 := blk_keep h10 hb
          have h11 := blk_keep h11 hb
          refine hK.out _ _ (LwS.keep hHeld hb) (fun hHeld => ?_)
          clear hK hb
          refine norm_ (a' := ?_) ?_ ?_
          rotate_left
          · show Act.put _ (some 90) _ = _
            simp only [Act.put, List.setIfInBounds_toArray, List.set_cons_zero, List.set_cons_succ]
            rfl
          refine one_ (i := 8) (N := some 93) #[true, true, true, true, true, true, true, true, true, false, true, true, false, false] rfl rfl (by kernel_rfl) (by decide) (fun K_ hK => ?_)
          refine goes_ Try.func34 (by kernel_rfl) rfl #[.agg #[.int .i64 a1, .int .i64 a2, .int .i64 a3], .agg #[.int .i64 q1, .int .i64 q2]] (by rfl) rfl rfl (by (try simp only [List.map_toArray, List.map_cons, List.map_nil]); first | done | rfl) ?_
          with_reducible refine (H12.out _).mono ?_
          rintro e w2 ⟨rfl, hb⟩
          refine ⟨_, rfl, ?_⟩
          have h10 := blk_keep h10 hb
          have h11 := blk_keep h11 hb
          refine hK.out _ _ (LwS.keep hHeld hb) (fun hHeld => ?_)
          clear hK hb
          refine norm_ (a' := ?_) ?_ ?_
          rotate_left
          · show Act.put _ (some 93) _ = _
            simp only [Act.put, List.setIfInBounds_toArray, List.set_cons_zero, List.set_cons_succ]
            rfl
          refine one_ (i := 9) (N := some 94) #[true, true, true, true, true, true, true, true, true, true, true, true, false, false] rfl rfl (by kernel_rfl) (by decide) (fun K_ hK => ?_)
          refine goes_ Try.func16 (by kernel_rfl) rfl #[.agg #[.int .i64 E1, .int .i64 E2], .agg #[.int .i64 F1, .int .i64 F2]] (by rfl) rfl rfl (by (try simp only [List.map_toArray, List.map_cons, List.map_nil]); first | done | rfl) ?_
          with_reducible refine (H13.out _).mono ?_
          rintro e w2 ⟨rfl, hb⟩
          refine ⟨_, rfl, ?_⟩
          have h10 := blk_keep h10 hb
          have h11 := blk_keep h11 hb
          refine hK.out _ _ (LwS.keep hHeld hb) (fun hHeld => ?_)
          clear hK hb
          refine norm_ (a' := ?_) ?_ ?_
          rotate_left
          · show Act.put _ (some 94) _ = _
            simp only [Act.put, List.setIfInBounds_toArray, List.set_cons_zero, List.set_cons_succ]
            rfl
          have c0 := blk_cell h10 0
          have f0 := blk_frozen h10 0
          have c1 := blk_cell h10 1
          have f1 := blk_frozen h10 1
          refine last_ (i := 12) (N := none) #[true, true, true, true, true, true, true, true, true, true, true, true, true, false] rfl rfl (by kernel_rfl) (by decide) (fun K_ hK => ?_)
          rw [if_pos (by rfl)]
          go_wp2
          refine hK.out _ _ ?_
          clear hK c0 f0 c1 f1
          have h11 := (far1p (far1p h11 p10 (by omega) 0 (.int .i64 d1)) p10 (by omega) 1 (.int .i64 d2))
          have h10 := (blk_put (cs := #[.int .i64 d1, .int .i64 0]) (blk_put (cs := #[.int .i64 0, .int .i64 0]) h10 0 (.int .i64 d1) rfl) 1 (.int .i64 d2) rfl)
          have hHeld := (LwS.set (LwS.set hHeld p10 0 (.int .i64 d1)) p10 1 (.int .i64 d2))
          have c0 := blk_cell h11 0
          have f0 := blk_frozen h11 0
          have c1 := blk_cell h11 1
          have f1 := blk_frozen h11 1
          refine last_ (i := 13) (N := none) #[true, true, true, true, true, true, true, true, true, true, true, true, true, true] rfl rfl (by kernel_rfl) (by decide) (fun K_ hK => ?_)
          rw [if_pos (by rfl)]
          go_wp2
          refine hK.out _ _ ?_
          clear hK c0 f0 c1 f1
          have h10 := (far1p (far1p h10 p11 (by omega) 0 (.int .i64 e1)) p11 (by omega) 1 (.int .i64 e2))
          have h11 := (blk_put (cs := #[.int .i64 e1, .int .i64 0]) (blk_put (cs := #[.int .i64 0, .int .i64 0]) h11 0 (.int .i64 e1) rfl) 1 (.int .i64 e2) rfl)
          have hHeld := (LwS.set (LwS.set hHeld p11 0 (.int .i64 e1)) p11 1 (.int .i64 e2))
          refine done_ (by kernel_rfl) ?_
          go_wp2_with fail
          go_meet
          exact ⟨_, _, rfl, rfl, ⟨h10⟩, ⟨h11⟩, ⟨hHeld.2.2.2.2.2.1.out⟩⟩
      · skip
        have p11 := lt_blk hHeld.2.2.2.2.1.out
        rw [if_pos (by rfl)]
        go_wp2
        refine hK.out _ _ (LwS.keep hHeld (below_alloc (Below.refl _ _) _)) (fun hHeld => ?_)
        clear hK
        have q1110 := lt_blk h10
        have h10 := blk_keep h10 (below_alloc (Below.refl _ _) (.cells #[.int .i64 0, .int .i64 0] 23))
        have h11 := blk_new w2 (.cells #[.int .i64 0, .int .i64 0] 23)
        generalize World.alloc w2 (.cells #[.int .i64 0, .int .i64 0] 23) = w2 at hHeld h10 h11 ⊢
        refine one_ (i := 2) (N := some 87) #[true, true, true, true, true, false, true, true, false, false, true, true, false, false] rfl rfl (by kernel_rfl) (by decide) (fun K_ hK => ?_)
        refine goes_ Try.func16 (by kernel_rfl) rfl #[.agg #[.int .i64 p1, .int .i64 p2], .agg #[.int .i64 q1, .int .i64 q2]] (by rfl) rfl rfl (by (try simp only [List.map_toArray, List.map_cons, List.map_nil]); first | done | rfl) ?_
        with_reducible refine (H11.out _).mono ?_
        rintro e w2 ⟨rfl, hb⟩
        refine ⟨_, rfl, ?_⟩
        have h10 := blk_keep h10 hb
        have h11 := blk_keep h11 hb
        refine hK.out _ _ (LwS.keep hHeld hb) (fun hHeld => ?_)
        clear hK hb
        refine norm_ (a' := ?_) ?_ ?_
        rotate_left
        · show Act.put _ (some 87) _ = _
          simp only [Act.put, List.setIfInBounds_toArray, List.set_cons_zero, List.set_cons_succ]
          rfl
        refine one_ (i := 5) (N := some 90) #[true, true, true, true, true, true, true, true, false, false, true, true, false, false] rfl rfl (by kernel_rfl) (by decide) (fun K_ hK => ?_)
        refine goes_ Try.func34 (by kernel_rfl) rfl #[.agg #[.int .i64 a1, .int .i64 a2, .int .i64 a3], .agg #[.int .i64 p1, .int .i64 p2]] (by rfl) rfl rfl (by (try simp only [List.map_toArray, List.map_cons, List.map_nil]); first | done | rfl) ?_
        with_reducible refine (H2.out _).mono ?_
        rintro e w2 ⟨rfl, hb⟩
        refine ⟨_, rfl, ?_⟩
        have h10 := blk_keep h10 hb
        have h11 := blk_keep h11 hb
        refine hK.out _ _ (LwS.keep hHeld hb) (fun hHeld => ?_)
        clear hK hb
        refine norm_ (a' := ?_) ?_ ?_
        rotate_left
        · show Act.put _ (some 90) _ = _
          simp only [Act.put, List.setIfInBounds_toArray, List.set_cons_zero, List.set_cons_succ]
          rfl
        refine one_ (i := 8) (N := some 93) #[true, true, true, true, true, true, true, true, true, false, true, true, false, false] rfl rfl (by kernel_rfl) (by decide) (fun K_ hK => ?_)
        refine goes_ Try.func34 (by kernel_rfl) rfl #[.agg #[.int .i64 a1, .int .i64 a2, .int .i64 a3], .agg #[.int .i64 q1, .int .i64 q2]] (by rfl) rfl rfl (by (try simp only [List.map_toArray, List.map_cons, List.map_nil]); first | done | rfl) ?_
        with_reducible refine (H12.out _).mono ?_
        rintro e w2 ⟨rfl, hb⟩
        refine ⟨_, rfl, ?_⟩
        have h10 := blk_keep h10 hb
        have h11 := blk_keep h11 hb
        refine hK.out _ _ (LwS.keep hHeld hb) (fun hHeld => ?_)
        clear hK hb
        refine norm_ (a' := ?_) ?_ ?_
        rotate_left
        · show Act.put _ (some 93) _ = _
          simp only [Act.put, List.setIfInBounds_toArray, List.set_cons_zero, List.set_cons_succ]
          rfl
        refine one_ (i := 9) (N := some 94) #[true, true, true, true, true, true, true, true, true, true, true, true, false, false] rfl rfl (by kernel_rfl) (by decide) (fun K_ hK => ?_)
        refine goes_ Try.func16 (by kernel_rfl) rfl #[.agg #[.int .i64 E1, .int .i64 E2], .agg #[.int .i64 F1, .int .i64 F2]] (by rfl) rfl rfl (by (try simp only [List.map_toArray, List.map_cons, List.map_nil]); first | done | rfl) ?_
        with_reducible refine (H13.out _).mono ?_
        rintro e w2 ⟨rfl, hb⟩
        refine ⟨_, rfl, ?_⟩
        have h10 := blk_keep h10 hb
        have h11 := blk_keep h11 hb
        refine hK.out _ _ (LwS.keep hHeld hb) (fun hHeld => ?_)
        clear hK hb
        refine norm_ (a' := ?_) ?_ ?_
        rotate_left
        · show Act.put _ (some 94) _ = _
          simp only [Act.put, List.setIfInBounds_toArray, List.set_cons_zero, List.set_cons_succ]
          rfl
        have c0 := blk_cell h10 0
        have f0 := blk_frozen h10 0
        have c1 := blk_cell h10 1
        have f1 := blk_frozen h10 1
        refine last_ (i := 12) (N := none) #[true, true, true, true, true, true, true, true, true, true, true, true, true, false] rfl rfl (by kernel_rfl) (by decide) (fun K_ hK => ?_)
        rw [if_pos (by rfl)]
        go_wp2
        refine hK.out _ _ ?_
        clear hK c0 f0 c1 f1
        have h11 := (far1p (far1p h11 p10 (by omega) 0 (.int .i64 d1)) p10 (by omega) 1 (.int .i64 d2))
        have h10 := (blk_put (cs := #[.int .i64 d1, .int .i64 0]) (blk_put (cs := #[.int .i64 0, .int .i64 0]) h10 0 (.int .i64 d1) rfl) 1 (.int .i64 d2) rfl)
        have hHeld := (LwS.set (LwS.set hHeld p10 0 (.int .i64 d1)) p10 1 (.int .i64 d2))
        have c0 := blk_cell h11 0
        have f0 := blk_frozen h11 0
        have c1 := blk_cell h11 1
        have f1 := blk_frozen h11 1
        refine last_ (i := 13) (N := none) #[true, true, true, true, true, true, true, true, true, true, true, true, true, true] rfl rfl (by kernel_rfl) (by decide) (fun K_ hK => ?_)
        rw [if_pos (by rfl)]
        go_wp2
        refine hK.out _ _ ?_
        clear hK c0 f0 c1 f1
        have h10 := (far1p (far1p h10 p11 (by omega) 0 (.int .i64 e1)) p11 (by omega) 1 (.int .i64 e2))
        have h11 := (blk_put (cs := #[.int .i64 e1, .int .i64 0]) (blk_put (cs := #[.int .i64 0, .int .i64 0]) h11 0 (.int .i64 e1) rfl) 1 (.int .i64 e2) rfl)
        have hHeld := (LwS.set (LwS.set hHeld p11 0 (.int .i64 e1)) p11 1 (.int .i64 e2))
        refine done_ (by kernel_rfl) ?_
        go_wp2_with fail
        go_meet
        exact ⟨_, _, rfl, rfl, ⟨h10⟩, ⟨h11⟩, ⟨hHeld.2.2.2.2.2.1.out⟩⟩
    · skip
      have p11 := lt_blk hHeld.2.2.2.2.1.out
      rw [if_pos (by rfl)]
      go_wp2
      refine hK.out _ _ (LwS.keep hHeld (below_alloc (Below.refl _ _) _)) (fun hHeld => ?_)
      clear hK
      have h11 := blk_new w2 (.cells #[.int .i64 0, .int .i64 0] 23)
      generalize World.alloc w2 (.cells #[.int .i64 0, .int .i64 0] 23) = w2 at hHeld h11 ⊢
      refine two_ (i := 2) (j := 10) (Ni := some 87) (Nj := some 11) #[true, true, true, true, true, false, true, true, false, false, false, true, false, false] #[true, true, false, true, true, false, true, true, false, false, true, true, false, false] rfl rfl rfl rfl (by kernel_rfl) (by decide) (by decide) (fun K_ hK => ?_) (fun K_ hK => ?_)
      · skip
        refine goes_ Try.func16 (by kernel_rfl) rfl #[.agg #[.int .i64 p1, .int .i64 p2], .agg #[.int .i64 q1, .int .i64 q2]] (by rfl) rfl rfl (by (try simp only [List.map_toArray, List.map_cons, List.map_nil]); first | done | rfl) ?_
        with_reducible refine (H11.out _).mono ?_
        rintro e w2 ⟨rfl, hb⟩
        refine ⟨_, rfl, ?_⟩
        have h11 := blk_keep h11 hb
        refine hK.out _ _ (LwS.keep hHeld hb) (fun hHeld => ?_)
        clear hK hb
        refine norm_ (a' := ?_) ?_ ?_
        rotate_left
        · show Act.put _ (some 87) _ = _
          simp only [Act.put, List.setIfInBounds_toArray, List.set_cons_zero, List.set_cons_succ]
          rfl
        refine two_ (i := 5) (j := 10) (Ni := some 90) (Nj := some 11) #[true, true, true, true, true, true, true, true, false, false, false, true, false, false] #[true, true, true, true, true, false, true, true, false, false, true, true, false, false] rfl rfl rfl rfl (by kernel_rfl) (by decide) (by decide) (fun K_ hK => ?_) (fun K_ hK => ?_)
        · skip
          refine goes_ Try.func34 (by kernel_rfl) rfl #[.agg #[.int .i64 a1, .int .i64 a2, .int .i64 a3], .agg #[.int .i64 p1, .int .i64 p2]] (by rfl) rfl rfl (by (try simp only [List.map_toArray, List.map_cons, List.map_nil]); first | done | rfl) ?_
          with_reducible refine (H2.out _).mono ?_
          rintro e w2 ⟨rfl, hb⟩
          refine ⟨_, rfl, ?_⟩
          have h11 := blk_keep h11 hb
          refine hK.out _ _ (LwS.keep hHeld hb) (fun hHeld => ?_)
          clear hK hb
          refine norm_ (a' := ?_) ?_ ?_
          rotate_left
          · show Act.put _ (some 90) _ = _
            simp only [Act.put, List.setIfInBounds_toArray, List.set_cons_zero, List.set_cons_succ]
            rfl
          refine two_ (i := 8) (j := 10) (Ni := some 93) (Nj := some 11) #[true, true, true, true, true, true, true, true, true, false, false, true, false, false] #[true, true, true, true, true, true, true, true, false, false, true, true, false, false] rfl rfl rfl rfl (by kernel_rfl) (by decide) (by decide) (fun K_ hK => ?_) (fun K_ hK => ?_)
          · skip
            refine goes_ Try.func34 (by kernel_rfl) rfl #[.agg #[.int .i64 a1, .int .i64 a2, .int .i64 a3], .agg #[.int .i64 q1, .int .i64 q2]] (by rfl) rfl rfl (by (try simp only [List.map_toArray, List.map_cons, List.map_nil]); first | done | rfl) ?_
            with_reducible refine (H12.out _).mono ?_
            rintro e w2 ⟨rfl, hb⟩
            refine ⟨_, rfl, ?_⟩
            have h11 := blk_keep h11 hb
            refine hK.out _ _ (LwS.keep hHeld hb) (fun hHeld => ?_)
            clear hK hb
            refine norm_ (a' := ?_) ?_ ?_
            rotate_left
            · show Act.put _ (some 93) _ = _
              simp only [Act.put, List.setIfInBounds_toArray, List.set_cons_zero, List.set_cons_succ]
              rfl
            refine two_ (i := 9) (j := 10) (Ni := some 94) (Nj := some 11) #[true, true, true, true, true, true, true, true, true, true, false, true, false, false] #[true, true, true, true, true, true, true, true, true, false, true, true, false, false] rfl rfl rfl rfl (by kernel_rfl) (by decide) (by decide) (fun K_ hK => ?_) (fun K_ hK => ?_)
            · skip
              refine goes_ Try.func16 (by kernel_rfl) rfl #[.agg #[.int .i64 E1, .int .i64 E2], .agg #[.int .i64 F1, .int .i64 F2]] (by rfl) rfl rfl (by (try simp only [List.map_toArray, List.map_cons, List.map_nil]); first | done | rfl) ?_
              with_reducible refine (H13.out _).mono ?_
              rintro e w2 ⟨rfl, hb⟩
              refine ⟨_, rfl, ?_⟩
              have h11 := blk_keep h11 hb
              refine hK.out _ _ (LwS.keep hHeld hb) (fun hHeld => ?_)
              clear hK hb
              refine norm_ (a' := ?_) ?_ ?_
              rotate_left
              · show Act.put _ (some 94) _ = _
                simp only [Act.put, List.setIfInBounds_toArray, List.set_cons_zero, List.set_cons_succ]
                rfl
              refine one_ (i := 10) (N := some 11) #[true, true, true, true, true, true, true, true, true, true, true, true, false, false] rfl rfl (by kernel_rfl) (by decide) (fun K_ hK => ?_)
              have p10 := lt_blk hHeld.2.2.2.2.1.out
              rw [if_pos (by rfl)]
              go_wp2
              refine hK.out _ _ (LwS.keep hHeld (below_alloc (Below.refl _ _) _)) (fun hHeld => ?_)
              clear hK
              have q1011 := lt_blk h11
              have h11 := blk_keep h11 (below_alloc (Below.refl _ _) (.cells #[.int .i64 0, .int .i64 0] 23))
              have h10 := blk_new w2 (.cells #[.int .i64 0, .int .i64 0] 23)
              generalize World.alloc w2 (.cells #[.int .i64 0, .int .i64 0] 23) = w2 at hHeld h11 h10 ⊢
              have c0 := blk_cell h10 0
              have f0 := blk_frozen h10 0
              have c1 := blk_cell h10 1
              have f1 := blk_frozen h10 1
              refine last_ (i := 12) (N := none) #[true, true, true, true, true, true, true, true, true, true, true, true, true, false] rfl rfl (by kernel_rfl) (by decide) (fun K_ hK => ?_)
              rw [if_pos (by rfl)]
              go_wp2
              refine hK.out _ _ ?_
              clear hK c0 f0 c1 f1
              have h11 := (far1p (far1p h11 p10 (by omega) 0 (.int .i64 d1)) p10 (by omega) 1 (.int .i64 d2))
              have h10 := (blk_put (cs := #[.int .i64 d1, .int .i64 0]) (blk_put (cs := #[.int .i64 0, .int .i64 0]) h10 0 (.int .i64 d1) rfl) 1 (.int .i64 d2) rfl)
              have hHeld := (LwS.set (LwS.set hHeld p10 0 (.int .i64 d1)) p10 1 (.int .i64 d2))
              have c0 := blk_cell h11 0
              have f0 := blk_frozen h11 0
              have c1 := blk_cell h11 1
              have f1 := blk_frozen h11 1
              refine last_ (i := 13) (N := none) #[true, true, true, true, true, true, true, true, true, true, true, true, true, true] rfl rfl (by kernel_rfl) (by decide) (fun K_ hK => ?_)
              rw [if_pos (by rfl)]
              go_wp2
              refine hK.out _ _ ?_
              clear hK c0 f0 c1 f1
              have h10 := (far1p (far1p h10 p11 (by omega) 0 (.int .i64 e1)) p11 (by omega) 1 (.int .i64 e2))
              have h11 := (blk_put (cs := #[.int .i64 e1, .int .i64 0]) (blk_put (cs := #[.int .i64 0, .int .i64 0]) h11 0 (.int .i64 e1) rfl) 1 (.int .i64 e2) rfl)
              have hHeld := (LwS.set (LwS.set hHeld p11 0 (.int .i64 e1)) p11 1 (.int .i64 e2))
              refine done_ (by kernel_rfl) ?_
              go_wp2_with fail
              go_meet
              exact ⟨_, _, rfl, rfl, ⟨h10⟩, ⟨h11⟩, ⟨hHeld.2.2.2.2.2.1.out⟩⟩
            · skip
              have p10 := lt_blk hHeld.2.2.2.2.1.out
              rw [if_pos (by rfl)]
              go_wp2
              refine hK.out _ _ (LwS.keep hHeld (below_alloc (Below.refl _ _) _)) (fun hHeld => ?_)
              clear hK
              have q1011 := lt_blk h11
              have h11 := blk_keep h11 (below_alloc (Below.refl _ _) (.cells #[.int .i64 0, .int .i64 0] 23))
              have h10 := blk_new w2 (.cells #[.int .i64 0, .int .i64 0] 23)
              generalize World.alloc w2 (.cells #[.int .i64 0, .int .i64 0] 23) = w2 at hHeld h11 h10 ⊢
              refine one_ (i := 9) (N := some 94) #[true, true, true, true, true, true, true, true, true, true, true, true, false, false] rfl rfl (by kernel_rfl) (by decide) (fun K_ hK => ?_)
              refine goes_ Try.func16 (by kernel_rfl) rfl #[.agg #[.int .i64 E1, .int .i64 E2], .agg #[.int .i64 F1, .int .i64 F2]] (by rfl) rfl rfl (by (try simp only [List.map_toArray, List.map_cons, List.map_nil]); first | done | rfl) ?_
              with_reducible refine (H13.out _).mono ?_
              rintro e w2 ⟨rfl, hb⟩
              refine ⟨_, rfl, ?_⟩
              have h11 := blk_keep h11 hb
              have h10 := blk_keep h10 hb
              refine hK.out _ _ (LwS.keep hHeld hb) (fun hHeld => ?_)
              clear hK hb
              refine norm_ (a' := ?_) ?_ ?_
              rotate_left
              · show Act.put _ (some 94) _ = _
                simp only [Act.put, List.setIfInBounds_toArray, List.set_cons_zero, List.set_cons_succ]
                rfl
              have c0 := blk_cell h10 0
              have f0 := blk_frozen h10 0
              have c1 := blk_cell h10 1
              have f1 := blk_frozen h10 1
              refine last_ (i := 12) (N := none) #[true, true, true, true, true, true, true, true, true, true, true, true, true, false] rfl rfl (by kernel_rfl) (by decide) (fun K_ hK => ?_)
              rw [if_pos (by rfl)]
              go_wp2
              refine hK.out _ _ ?_
              clear hK c0 f0 c1 f1
              have h11 := (far1p (far1p h11 p10 (by omega) 0 (.int .i64 d1)) p10 (by omega) 1 (.int .i64 d2))
              have h10 := (blk_put (cs := #[.int .i64 d1, .int .i64 0]) (blk_put (cs := #[.int .i64 0, .int .i64 0]) h10 0 (.int .i64 d1) rfl) 1 (.int .i64 d2) rfl)
              have hHeld := (LwS.set (LwS.set hHeld p10 0 (.int .i64 d1)) p10 1 (.int .i64 d2))
              have c0 := blk_cell h11 0
              have f0 := blk_frozen h11 0
              have c1 := blk_cell h11 1
              have f1 := blk_frozen h11 1
              refine last_ (i := 13) (N := none) #[true, true, true, true, true, true, true, true, true, true, true, true, true, true] rfl rfl (by kernel_rfl) (by decide) (fun K_ hK => ?_)
              rw [if_pos (by rfl)]
              go_wp2
              refine hK.out _ _ ?_
              clear hK c0 f0 c1 f1
              have h10 := (far1p (far1p h10 p11 (by omega) 0 (.int .i64 e1)) p11 (by omega) 1 (.int .i64 e2))
              have h11 := (blk_put (cs := #[.int .i64 e1, .int .i64 0]) (blk_put (cs := #[.int .i64 0, .int .i64 0]) h11 0 (.int .i64 e1) rfl) 1 (.int .i64 e2) rfl)
              have hHeld := (LwS.set (LwS.set hHeld p11 0 (.int .i64 e1)) p11 1 (.int .i64 e2))
              refine done_ (by kernel_rfl) ?_
              go_wp2_with fail
              go_meet
              exact ⟨_, _, rfl, rfl, ⟨h10⟩, ⟨h11⟩, ⟨hHeld.2.2.2.2.2.1.out⟩⟩
          · skip
            have p10 := lt_blk hHeld.2.2.2.2.1.out
            rw [if_pos (by rfl)]
            go_wp2
            refine hK.out _ _ (LwS.keep hHeld (below_alloc (Below.refl _ _) _)) (fun hHeld => ?_)
            clear hK
            have q1011 := lt_blk h11
            have h11 := blk_keep h11 (below_alloc (Below.refl _ _) (.cells #[.int .i64 0, .int .i64 0] 23))
            have h10 := blk_new w2 (.cells #[.int .i64 0, .int .i64 0] 23)
            generalize World.alloc w2 (.cells #[.int .i64 0, .int .i64 0] 23) = w2 at hHeld h11 h10 ⊢
            refine one_ (i := 8) (N := some 93) #[true, true, true, true, true, true, true, true, true, false, true, true, false, false] rfl rfl (by kernel_rfl) (by decide) (fun K_ hK => ?_)
            refine goes_ Try.func34 (by kernel_rfl) rfl #[.agg #[.int .i64 a1, .int .i64 a2, .int .i64 a3], .agg #[.int .i64 q1, .int .i64 q2]] (by rfl) rfl rfl (by (try simp only [List.map_toArray, List.map_cons, List.map_nil]); first | done | rfl) ?_
            with_reducible refine (H12.out _).mono ?_
            rintro e w2 ⟨rfl, hb⟩
            refine ⟨_, rfl, ?_⟩
            have h11 := blk_keep h11 hb
            have h10 := blk_keep h10 hb
            refine hK.out _ _ (LwS.keep hHeld hb) (fun hHeld => ?_)
            clear hK hb
            refine norm_ (a' := ?_) ?_ ?_
            rotate_left
            · show Act.put _ (some 93) _ = _
              simp only [Act.put, List.setIfInBounds_toArray, List.set_cons_zero, List.set_cons_succ]
              rfl
            refine one_ (i := 9) (N := some 94) #[true, true, true, true, true, true, true, true, true, true, true, true, false, false] rfl rfl (by kernel_rfl) (by decide) (fun K_ hK => ?_)
            refine goes_ Try.func16 (by kernel_rfl) rfl #[.agg #[.int .i64 E1, .int .i64 E2], .agg #[.int .i64 F1, .int .i64 F2]] (by rfl) rfl rfl (by (try simp only [List.map_toArray, List.map_cons, List.map_nil]); first | done | rfl) ?_
            with_reducible refine (H13.out _).mono ?_
            rintro e w2 ⟨rfl, hb⟩
            refine ⟨_, rfl, ?_⟩
            have h11 := blk_keep h11 hb
            have h10 := blk_keep h10 hb
            refine hK.out _ _ (LwS.keep hHeld hb) (fun hHeld => ?_)
            clear hK hb
            refine norm_ (a' := ?_) ?_ ?_
            rotate_left
            · show Act.put _ (some 94) _ = _
              simp only [Act.put, List.setIfInBounds_toArray, List.set_cons_zero, List.set_cons_succ]
              rfl
            have c0 := blk_cell h10 0
            have f0 := blk_frozen h10 0
            have c1 := blk_cell h10 1
            have f1 := blk_frozen h10 1
            refine last_ (i := 12) (N := none) #[true, true, true, true, true, true, true, true, true, true, true, true, true, false] rfl rfl (by kernel_rfl) (by decide) (fun K_ hK => ?_)
            rw [if_pos (by rfl)]
            go_wp2
            refine hK.out _ _ ?_
            clear hK c0 f0 c1 f1
            have h11 := (far1p (far1p h11 p10 (by omega) 0 (.int .i64 d1)) p10 (by omega) 1 (.int .i64 d2))
            have h10 := (blk_put (cs := #[.int .i64 d1, .int .i64 0]) (blk_put (cs := #[.int .i64 0, .int .i64 0]) h10 0 (.int .i64 d1) rfl) 1 (.int .i64 d2) rfl)
            have hHeld := (LwS.set (LwS.set hHeld p10 0 (.int .i64 d1)) p10 1 (.int .i64 d2))
            have c0 := blk_cell h11 0
            have f0 := blk_frozen h11 0
            have c1 := blk_cell h11 1
            have f1 := blk_frozen h11 1
            refine last_ (i := 13) (N := none) #[true, true, true, true, true, true, true, true, true, true, true, true, true, true] rfl rfl (by kernel_rfl) (by decide) (fun K_ hK => ?_)
            rw [if_pos (by rfl)]
            go_wp2
            refine hK.out _ _ ?_
            clear hK c0 f0 c1 f1
            have h10 := (far1p (far1p h10 p11 (by omega) 0 (.int .i64 e1)) p11 (by omega) 1 (.int .i64 e2))
            have h11 := (blk_put (cs := #[.int .i64 e1, .int .i64 0]) (blk_put (cs := #[.int .i64 0, .int .i64 0]) h11 0 (.int .i64 e1) rfl) 1 (.int .i64 e2) rfl)
            have hHeld := (LwS.set (LwS.set hHeld p11 0 (.int .i64 e1)) p11 1 (.int .i64 e2))
            refine done_ (by kernel_rfl) ?_
            go_wp2_with fail
            go_meet
            exact ⟨_, _, rfl, rfl, ⟨h10⟩, ⟨h11⟩, ⟨hHeld.2.2.2.2.2.1.out⟩⟩
        · skip
          have p10 := lt_blk hHeld.2.2.2.2.1.out
          rw [if_pos (by rfl)]
          go_wp2
          refine hK.out _ _ (LwS.keep hHeld (below_alloc (Below.refl _ _) _)) (fun hHeld => ?_)
          clear hK
          have q1011 := lt_blk h11
          have h11 := blk_keep h11 (below_alloc (Below.refl _ _) (.cells #[.int .i64 0, .int .i64 0] 23))
          have h10 := blk_new w2 (.cells #[.int .i64 0, .int .i64 0] 23)
          generalize World.alloc w2 (.cells #[.int .i64 0, .int .i64 0] 23) = w2 at hHeld h11 h10 ⊢
          refine one_ (i := 5) (N := some 90) #[true, true, true, true, true, true, true, true, false, false, true, true, false, false] rfl rfl (by kernel_rfl) (by decide) (fun K_ hK => ?_)
          refine goes_ Try.func34 (by kernel_rfl) rfl #[.agg #[.int .i64 a1, .int .i64 a2, .int .i64 a3], .agg #[.int .i64 p1, .int .i64 p2]] (by rfl) rfl rfl (by (try simp only [List.map_toArray, List.map_cons, List.map_nil]); first | done | rfl) ?_
          with_reducible refine (H2.out _).mono ?_
          rintro e w2 ⟨rfl, hb⟩
          refine ⟨_, rfl, ?_⟩
          have h11 := blk_keep h11 hb
          have h10 := blk_keep h10 hb
          refine hK.out _ _ (LwS.keep hHeld hb) (fun hHeld => ?_)
          clear hK hb
          refine norm_ (a' := ?_) ?_ ?_
          rotate_left
          · show Act.put _ (some 90) _ = _
            simp only [Act.put, List.setIfInBounds_toArray, List.set_cons_zero, List.set_cons_succ]
            rfl
          refine one_ (i := 8) (N := some 93) #[true, true, true, true, true, true, true, true, true, false, true, true, false, false] rfl rfl (by kernel_rfl) (by decide) (fun K_ hK => ?_)
          refine goes_ Try.func34 (by kernel_rfl) rfl #[.agg #[.int .i64 a1, .int .i64 a2, .int .i64 a3], .agg #[.int .i64 q1, .int .i64 q2]] (by rfl) rfl rfl (by (try simp only [List.map_toArray, List.map_cons, List.map_nil]); first | done | rfl) ?_
          with_reducible refine (H12.out _).mono ?_
          rintro e w2 ⟨rfl, hb⟩
          refine ⟨_, rfl, ?_⟩
          have h11 := blk_keep h11 hb
          have h10 := blk_keep h10 hb
          refine hK.out _ _ (LwS.keep hHeld hb) (fun hHeld => ?_)
          clear hK hb
          refine norm_ (a' := ?_) ?_ ?_
          rotate_left
          · show Act.put _ (some 93) _ = _
            simp only [Act.put, List.setIfInBounds_toArray, List.set_cons_zero, List.set_cons_succ]
            rfl
          refine one_ (i := 9) (N := some 94) #[true, true, true, true, true, true, true, true, true, true, true, true, false, false] rfl rfl (by kernel_rfl) (by decide) (fun K_ hK => ?_)
          refine goes_ Try.func16 (by kernel_rfl) rfl #[.agg #[.int .i64 E1, .int .i64 E2], .agg #[.int .i64 F1, .int .i64 F2]] (by rfl) rfl rfl (by (try simp only [List.map_toArray, List.map_cons, List.map_nil]); first | done | rfl) ?_
          with_reducible refine (H13.out _).mono ?_
          rintro e w2 ⟨rfl, hb⟩
          refine ⟨_, rfl, ?_⟩
          have h11 := blk_keep h11 hb
          have h10 := blk_keep h10 hb
          refine hK.out _ _ (LwS.keep hHeld hb) (fun hHeld => ?_)
          clear hK hb
          refine norm_ (a' := ?_) ?_ ?_
          rotate_left
          · show Act.put _ (some 94) _ = _
            simp only [Act.put, List.setIfInBounds_toArray, List.set_cons_zero, List.set_cons_succ]
            rfl
          have c0 := blk_cell h10 0
          have f0 := blk_frozen h10 0
          have c1 := blk_cell h10 1
          have f1 := blk_frozen h10 1
          refine last_ (i := 12) (N := none) #[true, true, true, true, true, true, true, true, true, true, true, true, true, false] rfl rfl (by kernel_rfl) (by decide) (fun K_ hK => ?_)
          rw [if_pos (by rfl)]
          go_wp2
          refine hK.out _ _ ?_
          clear hK c0 f0 c1 f1
          have h11 := (far1p (far1p h11 p10 (by omega) 0 (.int .i64 d1)) p10 (by omega) 1 (.int .i64 d2))
          have h10 := (blk_put (cs := #[.int .i64 d1, .int .i64 0]) (blk_put (cs := #[.int .i64 0, .int .i64 0]) h10 0 (.int .i64 d1) rfl) 1 (.int .i64 d2) rfl)
          have hHeld := (LwS.set (LwS.set hHeld p10 0 (.int .i64 d1)) p10 1 (.int .i64 d2))
          have c0 := blk_cell h11 0
          have f0 := blk_frozen h11 0
          have c1 := blk_cell h11 1
          have f1 := blk_frozen h11 1
          refine last_ (i := 13) (N := none) #[true, true, true, true, true, true, true, true, true, true, true, true, true, true] rfl rfl (by kernel_rfl) (by decide) (fun K_ hK => ?_)
          rw [if_pos (by rfl)]
          go_wp2
          refine hK.out _ _ ?_
          clear hK c0 f0 c1 f1
          have h10 := (far1p (far1p h10 p11 (by omega) 0 (.int .i64 e1)) p11 (by omega) 1 (.int .i64 e2))
          have h11 := (blk_put (cs := #[.int .i64 e1, .int .i64 0]) (blk_put (cs := #[.int .i64 0, .int .i64 0]) h11 0 (.int .i64 e1) rfl) 1 (.int .i64 e2) rfl)
          have hHeld := (LwS.set (LwS.set hHeld p11 0 (.int .i64 e1)) p11 1 (.int .i64 e2))
          refine done_ (by kernel_rfl) ?_
          go_wp2_with fail
          go_meet
          exact ⟨_, _, rfl, rfl, ⟨h10⟩, ⟨h11⟩, ⟨hHeld.2.2.2.2.2.1.out⟩⟩
      · skip
        have p10 := lt_blk hHeld.2.2.2.2.1.out
        rw [if_pos (by rfl)]
        go_wp2
        refine hK.out _ _ (LwS.keep hHeld (below_alloc (Below.refl _ _) _)) (fun hHeld => ?_)
        clear hK
        have q1011 := lt_blk h11
        have h11 := blk_keep h11 (below_alloc (Below.refl _ _) (.cells #[.int .i64 0, .int .i64 0] 23))
        have h10 := blk_new w2 (.cells #[.int .i64 0, .int .i64 0] 23)
        generalize World.alloc w2 (.cells #[.int .i64 0, .int .i64 0] 23) = w2 at hHeld h11 h10 ⊢
        refine one_ (i := 2) (N := some 87) #[true, true, true, true, true, false, true, true, false, false, true, true, false, false] rfl rfl (by kernel_rfl) (by decide) (fun K_ hK => ?_)
        refine goes_ Try.func16 (by kernel_rfl) rfl #[.agg #[.int .i64 p1, .int .i64 p2], .agg #[.int .i64 q1, .int .i64 q2]] (by rfl) rfl rfl (by (try simp only [List.map_toArray, List.map_cons, List.map_nil]); first | done | rfl) ?_
        with_reducible refine (H11.out _).mono ?_
        rintro e w2 ⟨rfl, hb⟩
        refine ⟨_, rfl, ?_⟩
        have h11 := blk_keep h11 hb
        have h10 := blk_keep h10 hb
        refine hK.out _ _ (LwS.keep hHeld hb) (fun hHeld => ?_)
        clear hK hb
        refine norm_ (a' := ?_) ?_ ?_
        rotate_left
        · show Act.put _ (some 87) _ = _
          simp only [Act.put, List.setIfInBounds_toArray, List.set_cons_zero, List.set_cons_succ]
          rfl
        refine one_ (i := 5) (N := some 90) #[true, true, true, true, true, true, true, true, false, false, true, true, false, false] rfl rfl (by kernel_rfl) (by decide) (fun K_ hK => ?_)
        refine goes_ Try.func34 (by kernel_rfl) rfl #[.agg #[.int .i64 a1, .int .i64 a2, .int .i64 a3], .agg #[.int .i64 p1, .int .i64 p2]] (by rfl) rfl rfl (by (try simp only [List.map_toArray, List.map_cons, List.map_nil]); first | done | rfl) ?_
        with_reducible refine (H2.out _).mono ?_
        rintro e w2 ⟨rfl, hb⟩
        refine ⟨_, rfl, ?_⟩
        have h11 := blk_keep h11 hb
        have h10 := blk_keep h10 hb
        refine hK.out _ _ (LwS.keep hHeld hb) (fun hHeld => ?_)
        clear hK hb
        refine norm_ (a' := ?_) ?_ ?_
        rotate_left
        · show Act.put _ (some 90) _ = _
          simp only [Act.put, List.setIfInBounds_toArray, List.set_cons_zero, List.set_cons_succ]
          rfl
        refine one_ (i := 8) (N := some 93) #[true, true, true, true, true, true, true, true, true, false, true, true, false, false] rfl rfl (by kernel_rfl) (by decide) (fun K_ hK => ?_)
        refine goes_ Try.func34 (by kernel_rfl) rfl #[.agg #[.int .i64 a1, .int .i64 a2, .int .i64 a3], .agg #[.int .i64 q1, .int .i64 q2]] (by rfl) rfl rfl (by (try simp only [List.map_toArray, List.map_cons, List.map_nil]); first | done | rfl) ?_
        with_reducible refine (H12.out _).mono ?_
        rintro e w2 ⟨rfl, hb⟩
        refine ⟨_, rfl, ?_⟩
        have h11 := blk_keep h11 hb
        have h10 := blk_keep h10 hb
        refine hK.out _ _ (LwS.keep hHeld hb) (fun hHeld => ?_)
        clear hK hb
        refine norm_ (a' := ?_) ?_ ?_
        rotate_left
        · show Act.put _ (some 93) _ = _
          simp only [Act.put, List.setIfInBounds_toArray, List.set_cons_zero, List.set_cons_succ]
          rfl
        refine one_ (i := 9) (N := some 94) #[true, true, true, true, true, true, true, true, true, true, true, true, false, false] rfl rfl (by kernel_rfl) (by decide) (fun K_ hK => ?_)
        refine goes_ Try.func16 (by kernel_rfl) rfl #[.agg #[.int .i64 E1, .int .i64 E2], .agg #[.int .i64 F1, .int .i64 F2]] (by rfl) rfl rfl (by (try simp only [List.map_toArray, List.map_cons, List.map_nil]); first | done | rfl) ?_
        with_reducible refine (H13.out _).mono ?_
        rintro e w2 ⟨rfl, hb⟩
        refine ⟨_, rfl, ?_⟩
        have h11 := blk_keep h11 hb
        have h10 := blk_keep h10 hb
        refine hK.out _ _ (LwS.keep hHeld hb) (fun hHeld => ?_)
        clear hK hb
        refine norm_ (a' := ?_) ?_ ?_
        rotate_left
        · show Act.put _ (some 94) _ = _
          simp only [Act.put, List.setIfInBounds_toArray, List.set_cons_zero, List.set_cons_succ]
          rfl
        have c0 := blk_cell h10 0
        have f0 := blk_frozen h10 0
        have c1 := blk_cell h10 1
        have f1 := blk_frozen h10 1
        refine last_ (i := 12) (N := none) #[true, true, true, true, true, true, true, true, true, true, true, true, true, false] rfl rfl (by kernel_rfl) (by decide) (fun K_ hK => ?_)
        rw [if_pos (by rfl)]
        go_wp2
        refine hK.out _ _ ?_
        clear hK c0 f0 c1 f1
        have h11 := (far1p (far1p h11 p10 (by omega) 0 (.int .i64 d1)) p10 (by omega) 1 (.int .i64 d2))
        have h10 := (blk_put (cs := #[.int .i64 d1, .int .i64 0]) (blk_put (cs := #[.int .i64 0, .int .i64 0]) h10 0 (.int .i64 d1) rfl) 1 (.int .i64 d2) rfl)
        have hHeld := (LwS.set (LwS.set hHeld p10 0 (.int .i64 d1)) p10 1 (.int .i64 d2))
        have c0 := blk_cell h11 0
        have f0 := blk_frozen h11 0
        have c1 := blk_cell h11 1
        have f1 := blk_frozen h11 1
        refine last_ (i := 13) (N := none) #[true, true, true, true, true, true, true, true, true, true, true, true, true, true] rfl rfl (by kernel_rfl) (by decide) (fun K_ hK => ?_)
        rw [if_pos (by rfl)]
        go_wp2
        refine hK.out _ _ ?_
        clear hK c0 f0 c1 f1
        have h10 := (far1p (far1p h10 p11 (by omega) 0 (.int .i64 e1)) p11 (by omega) 1 (.int .i64 e2))
        have h11 := (blk_put (cs := #[.int .i64 e1, .int .i64 0]) (blk_put (cs := #[.int .i64 0, .int .i64 0]) h11 0 (.int .i64 e1) rfl) 1 (.int .i64 e2) rfl)
        have hHeld := (LwS.set (LwS.set hHeld p11 0 (.int .i64 e1)) p11 1 (.int .i64 e2))
        refine done_ (by kernel_rfl) ?_
        go_wp2_with fail
        go_meet
        exact ⟨_, _, rfl, rfl, ⟨h10⟩, ⟨h11⟩, ⟨hHeld.2.2.2.2.2.1.out⟩⟩
  case rest =>
    obtain ⟨g1, g2, rfl, rfl, h1, h2, hB⟩ := hcut
    have HS := TwS.mk h1.out h2.out hB.out
    clear h1 h2 hB
    go_wp2
    go_region_held3 (TwS w g1 g2 d1 d2 e1 e2)
      (first | exact TwS.keep (by assumption) hb | exact TwS.drew HS)
      (first | (go_at_call 28; (with_reducible refine (H14.out _).mono ?_); rintro e w' ⟨rfl, hb⟩) | (go_at_call 28; (with_reducible refine (H15.out _).mono ?_); rintro e w' ⟨rfl, hb⟩) | (go_at_call 17; (with_reducible refine (H16.out _).mono ?_); rintro e w' ⟨rfl, hb⟩) | (go_at_call 17; (with_reducible refine (H17.out _).mono ?_); rintro e w' ⟨rfl, hb⟩) | (go_at_call 40; (with_reducible refine (H23.out _).mono ?_); rintro e w' ⟨rfl, hb⟩))
    clear HS
    rename_i HS
    go_wp2
    go_ret
    exact ⟨rfl, HS.2.2.1.out⟩
end Go.Proofs.Ytbkcdfiokjhcjaa.P
