/- MotionFinds: the walk. -/
import Derived.Test.YtbkcdfiokjhcjaaM21
import Derived.Deep.RegionHeld3
import Derived.Deep.DeepCutAuto
import Derived.Deep.QuietTactic
import Derived.BigQuiet
import Derived.Test.YtbkcdfiokjhcjaaPEq
namespace Go.Proofs.Ytbkcdfiokjhcjaa.P
open Go.Proofs.Ytbkcdfiokjhcjaa.B Go.RowKit Go.Proofs.YtbkcdfiokjhcjaaW.PrintWords Go.Proofs.YtbkcdfiokjhcjaaW.PrintLast Go.Proofs.YtbkcdfiokjhcjaaW.PrintMore Go.Proofs.Ytbkcdfiokjhcjaa.FX Go.Proofs.Ytbkcdfiokjhcjaa.H
set_option linter.unusedVariables false
set_option linter.unusedSimpArgs false
attribute [local go_sem high] eqA23 eqA35
theorem far1 {W : World} {a b : Nat} {o : Obj} (h : W.heap[b]? = some o) (hne : b ≠ a) (i : Nat) (v : Value) : (W.setCell ⟨a, i, none⟩ v).heap[b]? = some o := by
  rw [Below.heap_setCell _ _ _ b hne]; exact h
theorem far1p {W : World} {n a b : Nat} {o : Obj} (h : W.heap[b]? = some o) (hp : n < a) (hne : b ≠ a) (i : Nat) (v : Value) : (W.setCell ⟨a, i, none⟩ v).heap[b]? = some o := far1 h hne i v
theorem lt_blk {W : World} {g : Nat} {o : Obj} (h : W.heap[g]? = some o) : g < W.heap.size := (Array.getElem?_eq_some_iff.1 h).1
theorem below_dN (W : World) (n : Nat) : Below W.heap.size W (W.drewN n) := ⟨rfl, rfl, rfl, Nat.le_refl _, fun _ _ => rfl⟩
abbrev FaS (w0 : World) (m1 m2 m3 p1 p2 q1 q2 : Int) (w' : World) : Prop :=
  Aside0 (w'.heap[w0.heap.size]? = some (.cells #[.int .i64 m1, .int .i64 m2, .int .i64 m3] 35 (0, 0))) ∧ Aside0 (w'.heap[w0.heap.size + 1]? = some (.cells #[.int .i64 p1, .int .i64 p2] 23 (0, 0))) ∧ Aside0 (w'.heap[w0.heap.size + 1 + 1]? = some (.cells #[.int .i64 q1, .int .i64 q2] 23 (0, 0))) ∧ Aside0 (Below w0.heap.size w0 w') ∧ w'.cell? ⟨w0.heap.size, 0, none⟩ = some (.int .i64 m1) ∧ w'.cell? ⟨w0.heap.size, 1, none⟩ = some (.int .i64 m2) ∧ w'.cell? ⟨w0.heap.size, 2, none⟩ = some (.int .i64 m3) ∧ w'.cell? ⟨w0.heap.size + 1, 0, none⟩ = some (.int .i64 p1) ∧ w'.cell? ⟨w0.heap.size + 1, 1, none⟩ = some (.int .i64 p2) ∧ w'.cell? ⟨w0.heap.size + 1 + 1, 0, none⟩ = some (.int .i64 q1) ∧ w'.cell? ⟨w0.heap.size + 1 + 1, 1, none⟩ = some (.int .i64 q2)
theorem FaS.mk {w0 : World} {m1 m2 m3 p1 p2 q1 q2 : Int} {w' : World} (h0 : w'.heap[w0.heap.size]? = some (.cells #[.int .i64 m1, .int .i64 m2, .int .i64 m3] 35 (0, 0))) (h1 : w'.heap[w0.heap.size + 1]? = some (.cells #[.int .i64 p1, .int .i64 p2] 23 (0, 0))) (h2 : w'.heap[w0.heap.size + 1 + 1]? = some (.cells #[.int .i64 q1, .int .i64 q2] 23 (0, 0))) (hB : Below w0.heap.size w0 w') : FaS w0 m1 m2 m3 p1 p2 q1 q2 w' :=
  ⟨⟨h0⟩, ⟨h1⟩, ⟨h2⟩, ⟨hB⟩, blk_cell h0 0, blk_cell h0 1, blk_cell h0 2, blk_cell h1 0, blk_cell h1 1, blk_cell h2 0, blk_cell h2 1⟩
theorem FaS.keep {w0 : World} {m1 m2 m3 p1 p2 q1 q2 : Int} {w1 w2 : World} (h : FaS w0 m1 m2 m3 p1 p2 q1 q2 w1) (hb : Below w1.heap.size w1 w2) : FaS w0 m1 m2 m3 p1 p2 q1 q2 w2 :=
  FaS.mk (blk_keep h.1.out hb) (blk_keep h.2.1.out hb) (blk_keep h.2.2.1.out hb) (below_step h.2.2.2.1.out hb)
theorem FaS.drew {w0 : World} {m1 m2 m3 p1 p2 q1 q2 : Int} {w1 : World} (h : FaS w0 m1 m2 m3 p1 p2 q1 q2 w1) : FaS w0 m1 m2 m3 p1 p2 q1 q2 w1.drew :=
  FaS.mk h.1.out h.2.1.out h.2.2.1.out (below_drew h.2.2.2.1.out)
theorem FaS.new (w : World) (m1 m2 m3 p1 p2 q1 q2 : Int) : FaS w m1 m2 m3 p1 p2 q1 q2 (((w.alloc (.cells #[.int .i64 m1, .int .i64 m2, .int .i64 m3] 35)).alloc (.cells #[.int .i64 p1, .int .i64 p2] 23)).alloc (.cells #[.int .i64 q1, .int .i64 q2] 23)) := by
  have nw0 := blk_new w (.cells #[.int .i64 m1, .int .i64 m2, .int .i64 m3] 35)
  have nw1 := blk_new (w.alloc (.cells #[.int .i64 m1, .int .i64 m2, .int .i64 m3] 35)) (.cells #[.int .i64 p1, .int .i64 p2] 23)
  rw [alloc_size] at nw1
  have nw2 := blk_new ((w.alloc (.cells #[.int .i64 m1, .int .i64 m2, .int .i64 m3] 35)).alloc (.cells #[.int .i64 p1, .int .i64 p2] 23)) (.cells #[.int .i64 q1, .int .i64 q2] 23)
  rw [alloc_size, alloc_size] at nw2
  exact FaS.mk (blk_keep (blk_keep nw0 (below_alloc (Below.refl _ _) _)) (below_alloc (Below.refl _ _) _)) (blk_keep nw1 (below_alloc (Below.refl _ _) _)) nw2 (below_alloc (below_alloc (below_alloc (Below.refl _ _) _) _) _)
theorem FaS.set {w0 : World} {m1 m2 m3 p1 p2 q1 q2 : Int} {w1 : World} (h : FaS w0 m1 m2 m3 p1 p2 q1 q2 w1) {g : Nat} (hg : w0.heap.size + 2 < g) (i : Nat) (v : Value) : FaS w0 m1 m2 m3 p1 p2 q1 q2 (w1.setCell ⟨g, i, none⟩ v) :=
  FaS.mk (far1 h.1.out (by omega) i v) (far1 h.2.1.out (by omega) i v) (far1 h.2.2.1.out (by omega) i v) (below_set h.2.2.2.1.out (by omega))
abbrev FbS (w0 : World) (g1 g2 : Nat) (m1 m2 m3 p1 p2 q1 q2 r1 r2 s1 s2 : Int) (w' : World) : Prop :=
  Aside0 (w'.heap[w0.heap.size]? = some (.cells #[.int .i64 m1, .int .i64 m2, .int .i64 m3] 35 (0, 0))) ∧ Aside0 (w'.heap[w0.heap.size + 1]? = some (.cells #[.int .i64 p1, .int .i64 p2] 23 (0, 0))) ∧ Aside0 (w'.heap[w0.heap.size + 1 + 1]? = some (.cells #[.int .i64 q1, .int .i64 q2] 23 (0, 0))) ∧ Aside0 (w'.heap[g1]? = some (.cells #[.int .i64 r1, .int .i64 r2] 23 (0, 0))) ∧ Aside0 (w'.heap[g2]? = some (.cells #[.int .i64 s1, .int .i64 s2] 23 (0, 0))) ∧ Aside0 (Below w0.heap.size w0 w') ∧ w'.cell? ⟨w0.heap.size, 0, none⟩ = some (.int .i64 m1) ∧ w'.cell? ⟨w0.heap.size, 1, none⟩ = some (.int .i64 m2) ∧ w'.cell? ⟨w0.heap.size, 2, none⟩ = some (.int .i64 m3) ∧ w'.cell? ⟨w0.heap.size + 1, 0, none⟩ = some (.int .i64 p1) ∧ w'.cell? ⟨w0.heap.size + 1, 1, none⟩ = some (.int .i64 p2) ∧ w'.cell? ⟨w0.heap.size + 1 + 1, 0, none⟩ = some (.int .i64 q1) ∧ w'.cell? ⟨w0.heap.size + 1 + 1, 1, none⟩ = some (.int .i64 q2) ∧ w'.cell? ⟨g1, 0, none⟩ = some (.int .i64 r1) ∧ w'.cell? ⟨g1, 1, none⟩ = some (.int .i64 r2) ∧ w'.cell? ⟨g2, 0, none⟩ = some (.int .i64 s1) ∧ w'.cell? ⟨g2, 1, none⟩ = some (.int .i64 s2)
theorem FbS.mk {w0 : World} {g1 g2 : Nat} {m1 m2 m3 p1 p2 q1 q2 r1 r2 s1 s2 : Int} {w' : World} (h0 : w'.heap[w0.heap.size]? = some (.cells #[.int .i64 m1, .int .i64 m2, .int .i64 m3] 35 (0, 0))) (h1 : w'.heap[w0.heap.size + 1]? = some (.cells #[.int .i64 p1, .int .i64 p2] 23 (0, 0))) (h2 : w'.heap[w0.heap.size + 1 + 1]? = some (.cells #[.int .i64 q1, .int .i64 q2] 23 (0, 0))) (h3 : w'.heap[g1]? = some (.cells #[.int .i64 r1, .int .i64 r2] 23 (0, 0))) (h4 : w'.heap[g2]? = some (.cells #[.int .i64 s1, .int .i64 s2] 23 (0, 0))) (hB : Below w0.heap.size w0 w') : FbS w0 g1 g2 m1 m2 m3 p1 p2 q1 q2 r1 r2 s1 s2 w' :=
  ⟨⟨h0⟩, ⟨h1⟩, ⟨h2⟩, ⟨h3⟩, ⟨h4⟩, ⟨hB⟩, blk_cell h0 0, blk_cell h0 1, blk_cell h0 2, blk_cell h1 0, blk_cell h1 1, blk_cell h2 0, blk_cell h2 1, blk_cell h3 0, blk_cell h3 1, blk_cell h4 0, blk_cell h4 1⟩
theorem FbS.keep {w0 : World} {g1 g2 : Nat} {m1 m2 m3 p1 p2 q1 q2 r1 r2 s1 s2 : Int} {w1 w2 : World} (h : FbS w0 g1 g2 m1 m2 m3 p1 p2 q1 q2 r1 r2 s1 s2 w1) (hb : Below w1.heap.size w1 w2) : FbS w0 g1 g2 m1 m2 m3 p1 p2 q1 q2 r1 r2 s1 s2 w2 :=
  FbS.mk (blk_keep h.1.out hb) (blk_keep h.2.1.out hb) (blk_keep h.2.2.1.out hb) (blk_keep h.2.2.2.1.out hb) (blk_keep h.2.2.2.2.1.out hb) (below_step h.2.2.2.2.2.1.out hb)
theorem FbS.drew {w0 : World} {g1 g2 : Nat} {m1 m2 m3 p1 p2 q1 q2 r1 r2 s1 s2 : Int} {w1 : World} (h : FbS w0 g1 g2 m1 m2 m3 p1 p2 q1 q2 r1 r2 s1 s2 w1) : FbS w0 g1 g2 m1 m2 m3 p1 p2 q1 q2 r1 r2 s1 s2 w1.drew :=
  FbS.mk h.1.out h.2.1.out h.2.2.1.out h.2.2.2.1.out h.2.2.2.2.1.out (below_drew h.2.2.2.2.2.1.out)
abbrev FcS (w0 : World) (g1 g2 g3 : Nat) (m1 m2 m3 p1 p2 q1 q2 r1 r2 s1 s2 A1 A2 A3 : Int) (w' : World) : Prop :=
  Aside0 (w'.heap[w0.heap.size]? = some (.cells #[.int .i64 m1, .int .i64 m2, .int .i64 m3] 35 (0, 0))) ∧ Aside0 (w'.heap[w0.heap.size + 1]? = some (.cells #[.int .i64 p1, .int .i64 p2] 23 (0, 0))) ∧ Aside0 (w'.heap[w0.heap.size + 1 + 1]? = some (.cells #[.int .i64 q1, .int .i64 q2] 23 (0, 0))) ∧ Aside0 (w'.heap[g1]? = some (.cells #[.int .i64 r1, .int .i64 r2] 23 (0, 0))) ∧ Aside0 (w'.heap[g2]? = some (.cells #[.int .i64 s1, .int .i64 s2] 23 (0, 0))) ∧ Aside0 (w'.heap[g3]? = some (.cells #[.int .i64 A1, .int .i64 A2, .int .i64 A3] 35 (0, 0))) ∧ Aside0 (Below w0.heap.size w0 w') ∧ w'.cell? ⟨w0.heap.size, 0, none⟩ = some (.int .i64 m1) ∧ w'.cell? ⟨w0.heap.size, 1, none⟩ = some (.int .i64 m2) ∧ w'.cell? ⟨w0.heap.size, 2, none⟩ = some (.int .i64 m3) ∧ w'.cell? ⟨w0.heap.size + 1, 0, none⟩ = some (.int .i64 p1) ∧ w'.cell? ⟨w0.heap.size + 1, 1, none⟩ = some (.int .i64 p2) ∧ w'.cell? ⟨w0.heap.size + 1 + 1, 0, none⟩ = some (.int .i64 q1) ∧ w'.cell? ⟨w0.heap.size + 1 + 1, 1, none⟩ = some (.int .i64 q2) ∧ w'.cell? ⟨g1, 0, none⟩ = some (.int .i64 r1) ∧ w'.cell? ⟨g1, 1, none⟩ = some (.int .i64 r2) ∧ w'.cell? ⟨g2, 0, none⟩ = some (.int .i64 s1) ∧ w'.cell? ⟨g2, 1, none⟩ = some (.int .i64 s2) ∧ w'.cell? ⟨g3, 0, none⟩ = some (.int .i64 A1) ∧ w'.cell? ⟨g3, 1, none⟩ = some (.int .i64 A2) ∧ w'.cell? ⟨g3, 2, none⟩ = some (.int .i64 A3)
theorem FcS.mk {w0 : World} {g1 g2 g3 : Nat} {m1 m2 m3 p1 p2 q1 q2 r1 r2 s1 s2 A1 A2 A3 : Int} {w' : World} (h0 : w'.heap[w0.heap.size]? = some (.cells #[.int .i64 m1, .int .i64 m2, .int .i64 m3] 35 (0, 0))) (h1 : w'.heap[w0.heap.size + 1]? = some (.cells #[.int .i64 p1, .int .i64 p2] 23 (0, 0))) (h2 : w'.heap[w0.heap.size + 1 + 1]? = some (.cells #[.int .i64 q1, .int .i64 q2] 23 (0, 0))) (h3 : w'.heap[g1]? = some (.cells #[.int .i64 r1, .int .i64 r2] 23 (0, 0))) (h4 : w'.heap[g2]? = some (.cells #[.int .i64 s1, .int .i64 s2] 23 (0, 0))) (h5 : w'.heap[g3]? = some (.cells #[.int .i64 A1, .int .i64 A2, .int .i64 A3] 35 (0, 0))) (hB : Below w0.heap.size w0 w') : FcS w0 g1 g2 g3 m1 m2 m3 p1 p2 q1 q2 r1 r2 s1 s2 A1 A2 A3 w' :=
  ⟨⟨h0⟩, ⟨h1⟩, ⟨h2⟩, ⟨h3⟩, ⟨h4⟩, ⟨h5⟩, ⟨hB⟩, blk_cell h0 0, blk_cell h0 1, blk_cell h0 2, blk_cell h1 0, blk_cell h1 1, blk_cell h2 0, blk_cell h2 1, blk_cell h3 0, blk_cell h3 1, blk_cell h4 0, blk_cell h4 1, blk_cell h5 0, blk_cell h5 1, blk_cell h5 2⟩
theorem FcS.keep {w0 : World} {g1 g2 g3 : Nat} {m1 m2 m3 p1 p2 q1 q2 r1 r2 s1 s2 A1 A2 A3 : Int} {w1 w2 : World} (h : FcS w0 g1 g2 g3 m1 m2 m3 p1 p2 q1 q2 r1 r2 s1 s2 A1 A2 A3 w1) (hb : Below w1.heap.size w1 w2) : FcS w0 g1 g2 g3 m1 m2 m3 p1 p2 q1 q2 r1 r2 s1 s2 A1 A2 A3 w2 :=
  FcS.mk (blk_keep h.1.out hb) (blk_keep h.2.1.out hb) (blk_keep h.2.2.1.out hb) (blk_keep h.2.2.2.1.out hb) (blk_keep h.2.2.2.2.1.out hb) (blk_keep h.2.2.2.2.2.1.out hb) (below_step h.2.2.2.2.2.2.1.out hb)
theorem FcS.drew {w0 : World} {g1 g2 g3 : Nat} {m1 m2 m3 p1 p2 q1 q2 r1 r2 s1 s2 A1 A2 A3 : Int} {w1 : World} (h : FcS w0 g1 g2 g3 m1 m2 m3 p1 p2 q1 q2 r1 r2 s1 s2 A1 A2 A3 w1) : FcS w0 g1 g2 g3 m1 m2 m3 p1 p2 q1 q2 r1 r2 s1 s2 A1 A2 A3 w1.drew :=
  FcS.mk h.1.out h.2.1.out h.2.2.1.out h.2.2.2.1.out h.2.2.2.2.1.out h.2.2.2.2.2.1.out (below_drew h.2.2.2.2.2.2.1.out)
abbrev FdS (w0 : World) (g4 : Nat) (m1 m2 m3 p1 p2 X1 X2 : Int) (w' : World) : Prop :=
  Aside0 (w'.heap[w0.heap.size]? = some (.cells #[.int .i64 m1, .int .i64 m2, .int .i64 m3] 35 (0, 0))) ∧ Aside0 (w'.heap[w0.heap.size + 1]? = some (.cells #[.int .i64 p1, .int .i64 p2] 23 (0, 0))) ∧ Aside0 (w'.heap[g4]? = some (.cells #[.int .i64 X1, .int .i64 X2] 23 (0, 0))) ∧ Aside0 (Below w0.heap.size w0 w') ∧ w'.cell? ⟨w0.heap.size, 0, none⟩ = some (.int .i64 m1) ∧ w'.cell? ⟨w0.heap.size, 1, none⟩ = some (.int .i64 m2) ∧ w'.cell? ⟨w0.heap.size, 2, none⟩ = some (.int .i64 m3) ∧ w'.cell? ⟨w0.heap.size + 1, 0, none⟩ = some (.int .i64 p1) ∧ w'.cell? ⟨w0.heap.size + 1, 1, none⟩ = some (.int .i64 p2) ∧ w'.cell? ⟨g4, 0, none⟩ = some (.int .i64 X1) ∧ w'.cell? ⟨g4, 1, none⟩ = some (.int .i64 X2)
theorem FdS.mk {w0 : World} {g4 : Nat} {m1 m2 m3 p1 p2 X1 X2 : Int} {w' : World} (h0 : w'.heap[w0.heap.size]? = some (.cells #[.int .i64 m1, .int .i64 m2, .int .i64 m3] 35 (0, 0))) (h1 : w'.heap[w0.heap.size + 1]? = some (.cells #[.int .i64 p1, .int .i64 p2] 23 (0, 0))) (h2 : w'.heap[g4]? = some (.cells #[.int .i64 X1, .int .i64 X2] 23 (0, 0))) (hB : Below w0.heap.size w0 w') : FdS w0 g4 m1 m2 m3 p1 p2 X1 X2 w' :=
  ⟨⟨h0⟩, ⟨h1⟩, ⟨h2⟩, ⟨hB⟩, blk_cell h0 0, blk_cell h0 1, blk_cell h0 2, blk_cell h1 0, blk_cell h1 1, blk_cell h2 0, blk_cell h2 1⟩
theorem FdS.keep {w0 : World} {g4 : Nat} {m1 m2 m3 p1 p2 X1 X2 : Int} {w1 w2 : World} (h : FdS w0 g4 m1 m2 m3 p1 p2 X1 X2 w1) (hb : Below w1.heap.size w1 w2) : FdS w0 g4 m1 m2 m3 p1 p2 X1 X2 w2 :=
  FdS.mk (blk_keep h.1.out hb) (blk_keep h.2.1.out hb) (blk_keep h.2.2.1.out hb) (below_step h.2.2.2.1.out hb)
theorem FdS.drew {w0 : World} {g4 : Nat} {m1 m2 m3 p1 p2 X1 X2 : Int} {w1 : World} (h : FdS w0 g4 m1 m2 m3 p1 p2 X1 X2 w1) : FdS w0 g4 m1 m2 m3 p1 p2 X1 X2 w1.drew :=
  FdS.mk h.1.out h.2.1.out h.2.2.1.out (below_drew h.2.2.2.1.out)
abbrev FeS (w0 : World) (m1 m2 m3 : Int) (w' : World) : Prop :=
  Aside0 (w'.heap[w0.heap.size]? = some (.cells #[.int .i64 m1, .int .i64 m2, .int .i64 m3] 35 (0, 0))) ∧ Aside0 (Below w0.heap.size w0 w') ∧ w'.cell? ⟨w0.heap.size, 0, none⟩ = some (.int .i64 m1) ∧ w'.cell? ⟨w0.heap.size, 1, none⟩ = some (.int .i64 m2) ∧ w'.cell? ⟨w0.heap.size, 2, none⟩ = some (.int .i64 m3)
theorem FeS.mk {w0 : World} {m1 m2 m3 : Int} {w' : World} (h0 : w'.heap[w0.heap.size]? = some (.cells #[.int .i64 m1, .int .i64 m2, .int .i64 m3] 35 (0, 0))) (hB : Below w0.heap.size w0 w') : FeS w0 m1 m2 m3 w' :=
  ⟨⟨h0⟩, ⟨hB⟩, blk_cell h0 0, blk_cell h0 1, blk_cell h0 2⟩
theorem FeS.keep {w0 : World} {m1 m2 m3 : Int} {w1 w2 : World} (h : FeS w0 m1 m2 m3 w1) (hb : Below w1.heap.size w1 w2) : FeS w0 m1 m2 m3 w2 :=
  FeS.mk (blk_keep h.1.out hb) (below_step h.2.1.out hb)
theorem FeS.drew {w0 : World} {m1 m2 m3 : Int} {w1 : World} (h : FeS w0 m1 m2 m3 w1) : FeS w0 m1 m2 m3 w1.drew :=
  FeS.mk h.1.out (below_drew h.2.1.out)
set_option maxHeartbeats 16000000 in
set_option maxRecDepth 100000 in
theorem finds_calls (m1 m2 m3 p1 p2 q1 q2 r1 r2 s1 s2 A1 A2 A3 X1 X2 n U1 U2 U3 V1 V2 V3 T1 T2 T3 Y1 Y2 Y3 : Int) (st u v z1 z2 z3 z4 : Bool) (w : World)
    (hp : ∀ W, Calls Try.prog 34 #[.agg #[.int .i64 m1, .int .i64 m2, .int .i64 m3], .agg #[.int .i64 p1, .int .i64 p2]] W fun e w' => e = .returned (.agg #[.int .i64 r1, .int .i64 r2]) ∧ Below W.heap.size W w')
    (hq : ∀ W, Calls Try.prog 34 #[.agg #[.int .i64 m1, .int .i64 m2, .int .i64 m3], .agg #[.int .i64 q1, .int .i64 q2]] W fun e w' => e = .returned (.agg #[.int .i64 s1, .int .i64 s2]) ∧ Below W.heap.size W w')
    (hb : ∀ W, Calls Try.prog 44 #[.agg #[.int .i64 p1, .int .i64 p2], .agg #[.int .i64 q1, .int .i64 q2], .agg #[.int .i64 r1, .int .i64 r2], .agg #[.int .i64 s1, .int .i64 s2]] W fun e w' => e = .returned (.tuple #[.agg #[.int .i64 A1, .int .i64 A2, .int .i64 A3], .bool true]) ∧ Below W.heap.size W w')
    (hap : ∀ W, Calls Try.prog 34 #[.agg #[.int .i64 A1, .int .i64 A2, .int .i64 A3], .agg #[.int .i64 p1, .int .i64 p2]] W fun e w' => e = .returned (.agg #[.int .i64 r1, .int .i64 r2]) ∧ Below W.heap.size W w')
    (haq : ∀ W, Calls Try.prog 34 #[.agg #[.int .i64 A1, .int .i64 A2, .int .i64 A3], .agg #[.int .i64 q1, .int .i64 q2]] W fun e w' => e = .returned (.agg #[.int .i64 s1, .int .i64 s2]) ∧ Below W.heap.size W w')
    (hs : ∀ W, Calls Try.prog 45 #[.agg #[.int .i64 m1, .int .i64 m2, .int .i64 m3]] W fun e w' => e = .returned (.tuple #[.agg #[.int .i64 X1, .int .i64 X2], .bool st]) ∧ Below W.heap.size W w')
    (ho : ∀ W, Calls Try.prog 46 #[.agg #[.int .i64 m1, .int .i64 m2, .int .i64 m3]] W fun e w' => e = .returned (.int .i64 n) ∧ Below W.heap.size W w')
    (h1 : ∀ W, Calls Try.prog 41 #[.agg #[.int .i64 m1, .int .i64 m2, .int .i64 m3], .int .i64 1] W fun e w' => e = .returned (.agg #[.int .i64 U1, .int .i64 U2, .int .i64 U3]) ∧ Below W.heap.size W w')
    (h2 : ∀ W, Calls Try.prog 41 #[.agg #[.int .i64 m1, .int .i64 m2, .int .i64 m3], .int .i64 2] W fun e w' => e = .returned (.agg #[.int .i64 V1, .int .i64 V2, .int .i64 V3]) ∧ Below W.heap.size W w')
    (h3 : ∀ W, Calls Try.prog 41 #[.agg #[.int .i64 m1, .int .i64 m2, .int .i64 m3], .int .i64 3] W fun e w' => e = .returned (.agg #[.int .i64 T1, .int .i64 T2, .int .i64 T3]) ∧ Below W.heap.size W w')
    (h4 : ∀ W, Calls Try.prog 41 #[.agg #[.int .i64 m1, .int .i64 m2, .int .i64 m3], .int .i64 4] W fun e w' => e = .returned (.agg #[.int .i64 Y1, .int .i64 Y2, .int .i64 Y3]) ∧ Below W.heap.size W w')
    (hl : ∀ W, Calls Try.prog 40 #[] W fun e w' => e = .returned (.bool true) ∧ Below W.heap.size W w')
    (hsm : ∀ W, Calls Try.prog 43 #[.agg #[.int .i64 m1, .int .i64 m2, .int .i64 m3], .int .i64 500] W fun e w' => e = .returned (.bool true) ∧ Below W.heap.size W w')
    (hsp : ∀ W, Calls Try.prog 12 #[.agg #[.int .i64 p1, .int .i64 p2], .int .i64 500] W fun e w' => e = .returned (.bool true) ∧ Below W.heap.size W w')
    (hsq : ∀ W, Calls Try.prog 12 #[.agg #[.int .i64 q1, .int .i64 q2], .int .i64 500] W fun e w' => e = .returned (.bool true) ∧ Below W.heap.size W w')
    (hx : st = true → ∀ W, Calls Try.prog 34 #[.agg #[.int .i64 m1, .int .i64 m2, .int .i64 m3], .agg #[.int .i64 X1, .int .i64 X2]] W fun e w' => e = .returned (.agg #[.int .i64 X1, .int .i64 X2]) ∧ Below W.heap.size W w')
    (hf : u = false → ∀ W, Calls Try.prog 32 #[.agg #[.int .i64 m1, .int .i64 m2, .int .i64 m3]] W fun e w' => e = .returned (.agg #[.int .i64 A1, .int .i64 A2, .int .i64 A3]) ∧ Below W.heap.size W w')
    (hu : (p1 == q1 && (p2 == q2)) = u) (hrs : u = true → r1 = s1 ∧ r2 = s2) (hv : (p1 == X1 && (p2 == X2)) = v) (hr : st = true → v = false → (r1 == p1 && (r2 == p2)) = false)
    (hz1 : (U1 == 0 && (U2 == 0 && (U3 == 0))) = z1)
    (hz2 : (V1 == 0 && (V2 == 0 && (V3 == 0))) = z2)
    (hz3 : (T1 == 0 && (T2 == 0 && (T3 == 0))) = z3)
    (hz4 : (Y1 == 0 && (Y2 == 0 && (Y3 == 0))) = z4)
    (hn : (n = 1 ∧ z1 = true ∧ z2 = true ∧ z3 = true ∧ z4 = true) ∨ (n = 0 ∧ z1 = false ∧ z2 = false ∧ z3 = false ∧ z4 = false) ∨ (n = 2 ∧ z1 = false ∧ z2 = true ∧ z3 = false ∧ z4 = true) ∨ (n = 4 ∧ z1 = false ∧ z2 = false ∧ z3 = false ∧ z4 = true))
    : Calls Try.prog 10 #[.agg #[.int .i64 m1, .int .i64 m2, .int .i64 m3], .agg #[.int .i64 p1, .int .i64 p2], .agg #[.int .i64 q1, .int .i64 q2]] w fun e w' => e = .returned (.bool true) ∧ Below w.heap.size w w' := by
  have HS := FaS.new w m1 m2 m3 p1 p2 q1 q2
  have Hp := Aside0.mk hp; clear hp
  have Hq := Aside0.mk hq; clear hq
  have Hb := Aside0.mk hb; clear hb
  have Hap := Aside0.mk hap; clear hap
  have Haq := Aside0.mk haq; clear haq
  have Hs := Aside0.mk hs; clear hs
  have Ho := Aside0.mk ho; clear ho
  have H1 := Aside0.mk h1; clear h1
  have H2 := Aside0.mk h2; clear h2
  have H3 := Aside0.mk h3; clear h3
  have H4 := Aside0.mk h4; clear h4
  have Hl := Aside0.mk hl; clear hl
  have Hsm := Aside0.mk hsm; clear hsm
  have Hsp := Aside0.mk hsp; clear hsp
  have Hsq := Aside0.mk hsq; clear hsq
  have Hx := Aside0.mk hx; clear hx
  have Hf := Aside0.mk hf; clear hf
  have Hrs := Aside0.mk hrs; clear hrs
  have Hu := Aside0.mk hu; clear hu
  have Hv := Aside0.mk hv; clear hv
  have Hr := Aside0.mk hr; clear hr
  have Hz1 := Aside0.mk hz1; clear hz1
  have Hz2 := Aside0.mk hz2; clear hz2
  have Hz3 := Aside0.mk hz3; clear hz3
  have Hz4 := Aside0.mk hz4; clear hz4
  have Hn := Aside0.mk hn; clear hn
  go_enter Try.func10, Try.ntmps10
  go_upto_region 3 with (first | (go_at_call 43; (with_reducible refine (Hsm.out _).mono ?_); rintro e w' ⟨rfl, hb⟩; have n0 := FaS.keep HS hb; clear HS; have HS := n0; obtain ⟨_, _, _, _, k1, k2, k3, k4, k5, k6, k7⟩ := n0; clear hb) | (go_at_call 12; (with_reducible refine (Hsp.out _).mono ?_); rintro e w' ⟨rfl, hb⟩; have n0 := FaS.keep HS hb; clear HS; have HS := n0; obtain ⟨_, _, _, _, k1, k2, k3, k4, k5, k6, k7⟩ := n0; clear hb) | (go_at_call 12; (with_reducible refine (Hsq.out _).mono ?_); rintro e w' ⟨rfl, hb⟩; have n0 := FaS.keep HS hb; clear HS; have HS := n0; obtain ⟨_, _, _, _, k1, k2, k3, k4, k5, k6, k7⟩ := n0; clear hb))
  clear k1 k2 k3 k4 k5 k6 k7
  go_cut [7, 8] (fun s7 s8 wx => ∃ g1 g2 : Nat, s7 = .pointer (some ⟨g1, 0, none⟩) ∧ s8 = .pointer (some ⟨g2, 0, none⟩) ∧ Aside0 (FbS w g1 g2 m1 m2 m3 p1 p2 q1 q2 r1 r2 s1 s2 wx))
  case first =>
    clear Hb Hap Haq Hs Ho H1 H2 H3 H4 Hl Hsm Hsp Hsq Hx Hf Hrs Hu Hv Hr Hz1 Hz2 Hz3 Hz4 Hn
    refine start_ (n := 10) (S := FaS w m1 m2 m3 p1 p2 q1 q2) (ds := [8, 9]) #[false, false, false, false, false, false, false, false, false, false] (by kernel_rfl) rfl rfl (FaS.drew HS) (fun hHeld => ?_)
    clear HS
    generalize w'.drew = w2 at hHeld ⊢
    refine take_ (i := 0) (N := some 29) (v := ?_) (a' := ?_) #[true, false, false, false, false, false, false, false, false, false] rfl rfl (by kernel_rfl) (fun _ _ _ h => h) (Or.inl ⟨by rfl, ?_⟩) hHeld ?_ ?_
    rotate_left
    · rintro w' ⟨_, _, _, _, k1, k2, k3, k4, k5, k6, k7⟩
      go_simp
      with_reducible rfl
    rotate_left
    · simp only [Act.put, List.setIfInBounds_toArray, List.set_cons_zero, List.set_cons_succ]
      rfl
    refine take_ (i := 1) (N := some 30) (v := ?_) (a' := ?_) #[true, true, false, false, false, false, false, false, false, false] rfl rfl (by kernel_rfl) (fun _ _ _ h => h) (Or.inl ⟨by rfl, ?_⟩) hHeld ?_ ?_
    rotate_left
    · rintro w' ⟨_, _, _, _, k1, k2, k3, k4, k5, k6, k7⟩
      go_simp
      with_reducible rfl
    rotate_left
    · simp only [Act.put, List.setIfInBounds_toArray, List.set_cons_zero, List.set_cons_succ]
      rfl
    refine take_ (i := 3) (N := some 32) (v := ?_) (a' := ?_) #[true, true, false, true, false, false, false, false, false, false] rfl rfl (by kernel_rfl) (fun _ _ _ h => h) (Or.inl ⟨by rfl, ?_⟩) hHeld ?_ ?_
    rotate_left
    · rintro w' ⟨_, _, _, _, k1, k2, k3, k4, k5, k6, k7⟩
      go_simp
      with_reducible rfl
    rotate_left
    · simp only [Act.put, List.setIfInBounds_toArray, List.set_cons_zero, List.set_cons_succ]
      rfl
    refine take_ (i := 4) (N := some 33) (v := ?_) (a' := ?_) #[true, true, false, true, true, false, false, false, false, false] rfl rfl (by kernel_rfl) (fun _ _ _ h => h) (Or.inl ⟨by rfl, ?_⟩) hHeld ?_ ?_
    rotate_left
    · rintro w' ⟨_, _, _, _, k1, k2, k3, k4, k5, k6, k7⟩
      go_simp
      with_reducible rfl
    rotate_left
    · simp only [Act.put, List.setIfInBounds_toArray, List.set_cons_zero, List.set_cons_succ]
      rfl
    refine three_ (i := 2) (j := 6) (k := 7) (Ni := some 31) (Nj := some 7) (Nk := some 8) #[true, true, true, true, true, false, false, false, false, false] #[true, true, false, true, true, false, true, false, false, false] #[true, true, false, true, true, false, false, true, false, false] rfl rfl rfl rfl rfl rfl (by kernel_rfl) (by decide) (by decide) (by decide) (fun K_ hK => ?_) (fun K_ hK => ?_) (fun K_ hK => ?_)
    · skip
      refine goes_ Try.func34 (by kernel_rfl) rfl #[.agg #[.int .i64 m1, .int .i64 m2, .int .i64 m3], .agg #[.int .i64 p1, .int .i64 p2]] (by rfl) rfl rfl (by (try simp only [List.map_toArray, List.map_cons, List.map_nil]); first | done | rfl) ?_
      with_reducible refine (Hp.out _).mono ?_
      rintro e w2 ⟨rfl, hb⟩
      refine ⟨_, rfl, ?_⟩
      refine hK.out _ _ (FaS.keep hHeld hb) (fun hHeld => ?_)
      clear hK hb
      refine norm_ (a' := ?_) ?_ ?_
      rotate_left
      · show Act.put _ (some 31) _ = _
        simp only [Act.put, List.setIfInBounds_toArray, List.set_cons_zero, List.set_cons_succ]
        rfl
      refine three_ (i := 5) (j := 6) (k := 7) (Ni := some 34) (Nj := some 7) (Nk := some 8) #[true, true, true, true, true, true, false, false, false, false] #[true, true, true, true, true, false, true, false, false, false] #[true, true, true, true, true, false, false, true, false, false] rfl rfl rfl rfl rfl rfl (by kernel_rfl) (by decide) (by decide) (by decide) (fun K_ hK => ?_) (fun K_ hK => ?_) (fun K_ hK => ?_)
      · skip
        refine goes_ Try.func34 (by kernel_rfl) rfl #[.agg #[.int .i64 m1, .int .i64 m2, .int .i64 m3], .agg #[.int .i64 q1, .int .i64 q2]] (by rfl) rfl rfl (by (try simp only [List.map_toArray, List.map_cons, List.map_nil]); first | done | rfl) ?_
        with_reducible refine (Hq.out _).mono ?_
        rintro e w2 ⟨rfl, hb⟩
        refine ⟨_, rfl, ?_⟩
        refine hK.out _ _ (FaS.keep hHeld hb) (fun hHeld => ?_)
        clear hK hb
        refine norm_ (a' := ?_) ?_ ?_
        rotate_left
        · show Act.put _ (some 34) _ = _
          simp only [Act.put, List.setIfInBounds_toArray, List.set_cons_zero, List.set_cons_succ]
          rfl
        refine two_ (i := 6) (j := 7) (Ni := some 7) (Nj := some 8) #[true, true, true, true, true, true, true, false, false, false] #[true, true, true, true, true, true, false, true, false, false] rfl rfl rfl rfl (by kernel_rfl) (by decide) (by decide) (fun K_ hK => ?_) (fun K_ hK => ?_)
        · skip
          have p6 := lt_blk hHeld.2.2.1.out
          rw [if_pos (by rfl)]
          go_wp2
          refine hK.out _ _ (FaS.keep hHeld (below_alloc (Below.refl _ _) _)) (fun hHeld => ?_)
          clear hK
          have h6 := blk_new w2 (.cells #[.int .i64 0, .int .i64 0] 23)
          generalize World.alloc w2 (.cells #[.int .i64 0, .int .i64 0] 23) = w2 at hHeld h6 ⊢
          refine one_ (i := 7) (N := some 8) #[true, true, true, true, true, true, true, true, false, false] rfl rfl (by kernel_rfl) (by decide) (fun K_ hK => ?_)
          have p7 := lt_blk hHeld.2.2.1.out
          rw [if_pos (by rfl)]
          go_wp2
          refine hK.out _ _ (FaS.keep hHeld (below_alloc (Below.refl _ _) _)) (fun hHeld => ?_)
          clear hK
          have q76 := lt_blk h6
          have h6 := blk_keep h6 (below_alloc (Below.refl _ _) (.cells #[.int .i64 0, .int .i64 0] 23))
          have h7 := blk_new w2 (.cells #[.int .i64 0, .int .i64 0] 23)
          generalize World.alloc w2 (.cells #[.int .i64 0, .int .i64 0] 23) = w2 at hHeld h6 h7 ⊢
          have c0 := blk_cell h6 0
          have f0 := blk_frozen h6 0
          have c1 := blk_cell h6 1
          have f1 := blk_frozen h6 1
          refine last_ (i := 8) (N := none) #[true, true, true, true, true, true, true, true, true, false] rfl rfl (by kernel_rfl) (by decide) (fun K_ hK => ?_)
          rw [if_pos (by rfl)]
          go_wp2
          refine hK.out _ _ ?_
          clear hK c0 f0 c1 f1
          have h7 := (far1p (far1p h7 p6 (by omega) 0 (.int .i64 r1)) p6 (by omega) 1 (.int .i64 r2))
          have h6 := (blk_put (cs := #[.int .i64 r1, .int .i64 0]) (blk_put (cs := #[.int .i64 0, .int .i64 0]) h6 0 (.int .i64 r1) rfl) 1 (.int .i64 r2) rfl)
          have hHeld := (FaS.set (FaS.set hHeld p6 0 (.int .i64 r1)) p6 1 (.int .i64 r2))
          have c0 := blk_cell h7 0
          have f0 := blk_frozen h7 0
          have c1 := blk_cell h7 1
          have f1 := blk_frozen h7 1
          refine last_ (i := 9) (N := none) #[true, true, true, true, true, true, true, true, true, true] rfl rfl (by kernel_rfl) (by decide) (fun K_ hK => ?_)
          rw [if_pos (by rfl)]
          go_wp2
          refine hK.out _ _ ?_
          clear hK c0 f0 c1 f1
          have h6 := (far1p (far1p h6 p7 (by omega) 0 (.int .i64 s1)) p7 (by omega) 1 (.int .i64 s2))
          have h7 := (blk_put (cs := #[.int .i64 s1, .int .i64 0]) (blk_put (cs := #[.int .i64 0, .int .i64 0]) h7 0 (.int .i64 s1) rfl) 1 (.int .i64 s2) rfl)
          have hHeld := (FaS.set (FaS.set hHeld p7 0 (.int .i64 s1)) p7 1 (.int .i64 s2))
          refine done_ (by kernel_rfl) ?_
          go_wp2_with fail
          go_meet
          exact ⟨_, _, rfl, rfl, ⟨FbS.mk hHeld.1.out hHeld.2.1.out hHeld.2.2.1.out h6 h7 hHeld.2.2.2.1.out⟩⟩
        · skip
          have p7 := lt_blk hHeld.2.2.1.out
          rw [if_pos (by rfl)]
          go_wp2
          refine hK.out _ _ (FaS.keep hHeld (below_alloc (Below.refl _ _) _)) (fun hHeld => ?_)
          clear hK
          have h7 := blk_new w2 (.cells #[.int .i64 0, .int .i64 0] 23)
          generalize World.alloc w2 (.cells #[.int .i64 0, .int .i64 0] 23) = w2 at hHeld h7 ⊢
          refine one_ (i := 6) (N := some 7) #[true, true, true, true, true, true, true, true, false, false] rfl rfl (by kernel_rfl) (by decide) (fun K_ hK => ?_)
          have p6 := lt_blk hHeld.2.2.1.out
          rw [if_pos (by rfl)]
          go_wp2
          refine hK.out _ _ (FaS.keep hHeld (below_alloc (Below.refl _ _) _)) (fun hHeld => ?_)
          clear hK
          have q67 := lt_blk h7
          have h7 := blk_keep h7 (below_alloc (Below.refl _ _) (.cells #[.int .i64 0, .int .i64 0] 23))
          have h6 := blk_new w2 (.cells #[.int .i64 0, .int .i64 0] 23)
          generalize World.alloc w2 (.cells #[.int .i64 0, .int .i64 0] 23) = w2 at hHeld h7 h6 ⊢
          have c0 := blk_cell h6 0
          have f0 := blk_frozen h6 0
          have c1 := blk_cell h6 1
          have f1 := blk_frozen h6 1
          refine last_ (i := 8) (N := none) #[true, true, true, true, true, true, true, true, true, false] rfl rfl (by kernel_rfl) (by decide) (fun K_ hK => ?_)
          rw [if_pos (by rfl)]
          go_wp2
          refine hK.out _ _ ?_
          clear hK c0 f0 c1 f1
          have h7 := (far1p (far1p h7 p6 (by omega) 0 (.int .i64 r1)) p6 (by omega) 1 (.int .i64 r2))
          have h6 := (blk_put (cs := #[.int .i64 r1, .int .i64 0]) (blk_put (cs := #[.int .i64 0, .int .i64 0]) h6 0 (.int .i64 r1) rfl) 1 (.int .i64 r2) rfl)
          have hHeld := (FaS.set (FaS.set hHeld p6 0 (.int .i64 r1)) p6 1 (.int .i64 r2))
          have c0 := blk_cell h7 0
          have f0 := blk_frozen h7 0
          have c1 := blk_cell h7 1
          have f1 := blk_frozen h7 1
          refine last_ (i := 9) (N := none) #[true, true, true, true, true, true, true, true, true, true] rfl rfl (by kernel_rfl) (by decide) (fun K_ hK => ?_)
          rw [if_pos (by rfl)]
          go_wp2
          refine hK.out _ _ ?_
          clear hK c0 f0 c1 f1
          have h6 := (far1p (far1p h6 p7 (by omega) 0 (.int .i64 s1)) p7 (by omega) 1 (.int .i64 s2))
          have h7 := (blk_put (cs := #[.int .i64 s1, .int .i64 0]) (blk_put (cs := #[.int .i64 0, .int .i64 0]) h7 0 (.int .i64 s1) rfl) 1 (.int .i64 s2) rfl)
          have hHeld := (FaS.set (FaS.set hHeld p7 0 (.int .i64 s1)) p7 1 (.int .i64 s2))
          refine done_ (by kernel_rfl) ?_
          go_wp2_with fail
          go_meet
          exact ⟨_, _, rfl, rfl, ⟨FbS.mk hHeld.1.out hHeld.2.1.out hHeld.2.2.1.out h6 h7 hHeld.2.2.2.1.out⟩⟩
      · skip
        have p6 := lt_blk hHeld.2.2.1.out
        rw [if_pos (by rfl)]
        go_wp2
        refine hK.out _ _ (FaS.keep hHeld (below_alloc (Below.refl _ _) _)) (fun hHeld => ?_)
        clear hK
        have h6 := blk_new w2 (.cells #[.int .i64 0, .int .i64 0] 23)
        generalize World.alloc w2 (.cells #[.int .i64 0, .int .i64 0] 23) = w2 at hHeld h6 ⊢
        refine two_ (i := 5) (j := 7) (Ni := some 34) (Nj := some 8) #[true, true, true, true, true, true, true, false, false, false] #[true, true, true, true, true, false, true, true, false, false] rfl rfl rfl rfl (by kernel_rfl) (by decide) (by decide) (fun K_ hK => ?_) (fun K_ hK => ?_)
        · skip
          refine goes_ Try.func34 (by kernel_rfl) rfl #[.agg #[.int .i64 m1, .int .i64 m2, .int .i64 m3], .agg #[.int .i64 q1, .int .i64 q2]] (by rfl) rfl rfl (by (try simp only [List.map_toArray, List.map_cons, List.map_nil]); first | done | rfl) ?_
          with_reducible refine (Hq.out _).mono ?_
          rintro e w2 ⟨rfl, hb⟩
          refine ⟨_, rfl, ?_⟩
          have h6 := blk_keep h6 hb
          refine hK.out _ _ (FaS.keep hHeld hb) (fun hHeld => ?_)
          clear hK hb
          refine norm_ (a' := ?_) ?_ ?_
          rotate_left
          · show Act.put _ (some 34) _ = _
            simp only [Act.put, List.setIfInBounds_toArray, List.set_cons_zero, List.set_cons_succ]
            rfl
          refine one_ (i := 7) (N := some 8) #[true, true, true, true, true, true, true, true, false, false] rfl rfl (by kernel_rfl) (by decide) (fun K_ hK => ?_)
          have p7 := lt_blk hHeld.2.2.1.out
          rw [if_pos (by rfl)]
          go_wp2
          refine hK.out _ _ (FaS.keep hHeld (below_alloc (Below.refl _ _) _)) (fun hHeld => ?_)
          clear hK
          have q76 := lt_blk h6
          have h6 := blk_keep h6 (below_alloc (Below.refl _ _) (.cells #[.int .i64 0, .int .i64 0] 23))
          have h7 := blk_new w2 (.cells #[.int .i64 0, .int .i64 0] 23)
          generalize World.alloc w2 (.cells #[.int .i64 0, .int .i64 0] 23) = w2 at hHeld h6 h7 ⊢
          have c0 := blk_cell h6 0
          have f0 := blk_frozen h6 0
          have c1 := blk_cell h6 1
          have f1 := blk_frozen h6 1
          refine last_ (i := 8) (N := none) #[true, true, true, true, true, true, true, true, true, false] rfl rfl (by kernel_rfl) (by decide) (fun K_ hK => ?_)
          rw [if_pos (by rfl)]
          go_wp2
          refine hK.out _ _ ?_
          clear hK c0 f0 c1 f1
          have h7 := (far1p (far1p h7 p6 (by omega) 0 (.int .i64 r1)) p6 (by omega) 1 (.int .i64 r2))
          have h6 := (blk_put (cs := #[.int .i64 r1, .int .i64 0]) (blk_put (cs := #[.int .i64 0, .int .i64 0]) h6 0 (.int .i64 r1) rfl) 1 (.int .i64 r2) rfl)
          have hHeld := (FaS.set (FaS.set hHeld p6 0 (.int .i64 r1)) p6 1 (.int .i64 r2))
          have c0 := blk_cell h7 0
          have f0 := blk_frozen h7 0
          have c1 := blk_cell h7 1
          have f1 := blk_frozen h7 1
          refine last_ (i := 9) (N := none) #[true, true, true, true, true, true, true, true, true, true] rfl rfl (by kernel_rfl) (by decide) (fun K_ hK => ?_)
          rw [if_pos (by rfl)]
          go_wp2
          refine hK.out _ _ ?_
          clear hK c0 f0 c1 f1
          have h6 := (far1p (far1p h6 p7 (by omega) 0 (.int .i64 s1)) p7 (by omega) 1 (.int .i64 s2))
          have h7 := (blk_put (cs := #[.int .i64 s1, .int .i64 0]) (blk_put (cs := #[.int .i64 0, .int .i64 0]) h7 0 (.int .i64 s1) rfl) 1 (.int .i64 s2) rfl)
          have hHeld := (FaS.set (FaS.set hHeld p7 0 (.int .i64 s1)) p7 1 (.int .i64 s2))
          refine done_ (by kernel_rfl) ?_
          go_wp2_with fail
          go_meet
          exact ⟨_, _, rfl, rfl, ⟨FbS.mk hHeld.1.out hHeld.2.1.out hHeld.2.2.1.out h6 h7 hHeld.2.2.2.1.out⟩⟩
        · skip
          have p7 := lt_blk hHeld.2.2.1.out
          rw [if_pos (by rfl)]
          go_wp2
          refine hK.out _ _ (FaS.keep hHeld (below_alloc (Below.refl _ _) _)) (fun hHeld => ?_)
          clear hK
          have q76 := lt_blk h6
          have h6 := blk_keep h6 (below_alloc (Below.refl _ _) (.cells #[.int .i64 0, .int .i64 0] 23))
          have h7 := blk_new w2 (.cells #[.int .i64 0, .int .i64 0] 23)
          generalize World.alloc w2 (.cells #[.int .i64 0, .int .i64 0] 23) = w2 at hHeld h6 h7 ⊢
          refine one_ (i := 5) (N := some 34) #[true, true, true, true, true, true, true, true, false, false] rfl rfl (by kernel_rfl) (by decide) (fun K_ hK => ?_)
          refine goes_ Try.func34 (by kernel_rfl) rfl #[.agg #[.int .i64 m1, .int .i64 m2, .int .i64 m3], .agg #[.int .i64 q1, .int .i64 q2]] (by rfl) rfl rfl (by (try simp only [List.map_toArray, List.map_cons, List.map_nil]); first | done | rfl) ?_
          with_reducible refine (Hq.out _).mono ?_
          rintro e w2 ⟨rfl, hb⟩
          refine ⟨_, rfl, ?_⟩
          have h6 := blk_keep h6 hb
          have h7 := blk_keep h7 hb
          refine hK.out _ _ (FaS.keep hHeld hb) (fun hHeld => ?_)
          clear hK hb
          refine norm_ (a' := ?_) ?_ ?_
          rotate_left
          · show Act.put _ (some 34) _ = _
            simp only [Act.put, List.setIfInBounds_toArray, List.set_cons_zero, List.set_cons_succ]
            rfl
          have c0 := blk_cell h6 0
          have f0 := blk_frozen h6 0
          have c1 := blk_cell h6 1
          have f1 := blk_frozen h6 1
          refine last_ (i := 8) (N := none) #[true, true, true, true, true, true, true, true, true, false] rfl rfl (by kernel_rfl) (by decide) (fun K_ hK => ?_)
          rw [if_pos (by rfl)]
          go_wp2
          refine hK.out _ _ ?_
          clear hK c0 f0 c1 f1
          have h7 := (far1p (far1p h7 p6 (by omega) 0 (.int .i64 r1)) p6 (by omega) 1 (.int .i64 r2))
          have h6 := (blk_put (cs := #[.int .i64 r1, .int .i64 0]) (blk_put (cs := #[.int .i64 0, .int .i64 0]) h6 0 (.int .i64 r1) rfl) 1 (.int .i64 r2) rfl)
          have hHeld := (FaS.set (FaS.set hHeld p6 0 (.int .i64 r1)) p6 1 (.int .i64 r2))
          have c0 := blk_cell h7 0
          have f0 := blk_frozen h7 0
          have c1 := blk_cell h7 1
          have f1 := blk_frozen h7 1
          refine last_ (i := 9) (N := none) #[true, true, true, true, true, true, true, true, true, true] rfl rfl (by kernel_rfl) (by decide) (fun K_ hK => ?_)
          rw [if_pos (by rfl)]
          go_wp2
          refine hK.out _ _ ?_
          clear hK c0 f0 c1 f1
          have h6 := (far1p (far1p h6 p7 (by omega) 0 (.int .i64 s1)) p7 (by omega) 1 (.int .i64 s2))
          have h7 := (blk_put (cs := #[.int .i64 s1, .int .i64 0]) (blk_put (cs := #[.int .i64 0, .int .i64 0]) h7 0 (.int .i64 s1) rfl) 1 (.int .i64 s2) rfl)
          have hHeld := (FaS.set (FaS.set hHeld p7 0 (.int .i64 s1)) p7 1 (.int .i64 s2))
          refine done_ (by kernel_rfl) ?_
          go_wp2_with fail
          go_meet
          exact ⟨_, _, rfl, rfl, ⟨FbS.mk hHeld.1.out hHeld.2.1.out hHeld.2.2.1.out h6 h7 hHeld.2.2.2.1.out⟩⟩
      · skip
        have p7 := lt_blk hHeld.2.2.1.out
        rw [if_pos (by rfl)]
        go_wp2
        refine hK.out _ _ (FaS.keep hHeld (below_alloc (Below.refl _ _) _)) (fun hHeld => ?_)
        clear hK
        have h7 := blk_new w2 (.cells #[.int .i64 0, .int .i64 0] 23)
        generalize World.alloc w2 (.cells #[.int .i64 0, .int .i64 0] 23) = w2 at hHeld h7 ⊢
        refine two_ (i := 5) (j := 6) (Ni := some 34) (Nj := some 7) #[true, true, true, true, true, true, false, true, false, false] #[true, true, true, true, true, false, true, true, false, false] rfl rfl rfl rfl (by kernel_rfl) (by decide) (by decide) (fun K_ hK => ?_) (fun K_ hK => ?_)
        · skip
          refine goes_ Try.func34 (by kernel_rfl) rfl #[.agg #[.int .i64 m1, .int .i64 m2, .int .i64 m3], .agg #[.int .i64 q1, .int .i64 q2]] (by rfl) rfl rfl (by (try simp only [List.map_toArray, List.map_cons, List.map_nil]); first | done | rfl) ?_
          with_reducible refine (Hq.out _).mono ?_
          rintro e w2 ⟨rfl, hb⟩
          refine ⟨_, rfl, ?_⟩
          have h7 := blk_keep h7 hb
          refine hK.out _ _ (FaS.keep hHeld hb) (fun hHeld => ?_)
          clear hK hb
          refine norm_ (a' := ?_) ?_ ?_
          rotate_left
          · show Act.put _ (some 34) _ = _
            simp only [Act.put, List.setIfInBounds_toArray, List.set_cons_zero, List.set_cons_succ]
            rfl
          refine one_ (i := 6) (N := some 7) #[true, true, true, true, true, true, true, true, false, false] rfl rfl (by kernel_rfl) (by decide) (fun K_ hK => ?_)
          have p6 := lt_blk hHeld.2.2.1.out
          rw [if_pos (by rfl)]
          go_wp2
          refine hK.out _ _ (FaS.keep hHeld (below_alloc (Below.refl _ _) _)) (fun hHeld => ?_)
          clear hK
          have q67 := lt_blk h7
          have h7 := blk_keep h7 (below_alloc (Below.refl _ _) (.cells #[.int .i64 0, .int .i64 0] 23))
          have h6 := blk_new w2 (.cells #[.int .i64 0, .int .i64 0] 23)
          generalize World.alloc w2 (.cells #[.int .i64 0, .int .i64 0] 23) = w2 at hHeld h7 h6 ⊢
          have c0 := blk_cell h6 0
          have f0 := blk_frozen h6 0
          have c1 := blk_cell h6 1
          have f1 := blk_frozen h6 1
          refine last_ (i := 8) (N := none) #[true, true, true, true, true, true, true, true, true, false] rfl rfl (by kernel_rfl) (by decide) (fun K_ hK => ?_)
          rw [if_pos (by rfl)]
          go_wp2
          refine hK.out _ _ ?_
          clear hK c0 f0 c1 f1
          have h7 := (far1p (far1p h7 p6 (by omega) 0 (.int .i64 r1)) p6 (by omega) 1 (.int .i64 r2))
          have h6 := (blk_put (cs := #[.int .i64 r1, .int .i64 0]) (blk_put (cs := #[.int .i64 0, .int .i64 0]) h6 0 (.int .i64 r1) rfl) 1 (.int .i64 r2) rfl)
          have hHeld := (FaS.set (FaS.set hHeld p6 0 (.int .i64 r1)) p6 1 (.int .i64 r2))
          have c0 := blk_cell h7 0
          have f0 := blk_frozen h7 0
          have c1 := blk_cell h7 1
          have f1 := blk_frozen h7 1
          refine last_ (i := 9) (N := none) #[true, true, true, true, true, true, true, true, true, true] rfl rfl (by kernel_rfl) (by decide) (fun K_ hK => ?_)
          rw [if_pos (by rfl)]
          go_wp2
          refine hK.out _ _ ?_
          clear hK c0 f0 c1 f1
          have h6 := (far1p (far1p h6 p7 (by omega) 0 (.int .i64 s1)) p7 (by omega) 1 (.int .i64 s2))
          have h7 := (blk_put (cs := #[.int .i64 s1, .int .i64 0]) (blk_put (cs := #[.int .i64 0, .int .i64 0]) h7 0 (.int .i64 s1) rfl) 1 (.int .i64 s2) rfl)
          have hHeld := (FaS.set (FaS.set hHeld p7 0 (.int .i64 s1)) p7 1 (.int .i64 s2))
          refine done_ (by kernel_rfl) ?_
          go_wp2_with fail
          go_meet
          exact ⟨_, _, rfl, rfl, ⟨FbS.mk hHeld.1.out hHeld.2.1.out hHeld.2.2.1.out h6 h7 hHeld.2.2.2.1.out⟩⟩
        · skip
          have p6 := lt_blk hHeld.2.2.1.out
          rw [if_pos (by rfl)]
          go_wp2
          refine hK.out _ _ (FaS.keep hHeld (below_alloc (Below.refl _ _) _)) (fun hHeld => ?_)
          clear hK
          have q67 := lt_blk h7
          have h7 := blk_keep h7 (below_alloc (Below.refl _ _) (.cells #[.int .i64 0, .int .i64 0] 23))
          have h6 := blk_new w2 (.cells #[.int .i64 0, .int .i64 0] 23)
          generalize World.alloc w2 (.cells #[.int .i64 0, .int .i64 0] 23) = w2 at hHeld h7 h6 ⊢
          refine one_ (i := 5) (N := some 34) #[true, true, true, true, true, true, true, true, false, false] rfl rfl (by kernel_rfl) (by decide) (fun K_ hK => ?_)
          refine goes_ Try.func34 (by kernel_rfl) rfl #[.agg #[.int .i64 m1, .int .i64 m2, .int .i64 m3], .agg #[.int .i64 q1, .int .i64 q2]] (by rfl) rfl rfl (by (try simp only [List.map_toArray, List.map_cons, List.map_nil]); first | done | rfl) ?_
          with_reducible refine (Hq.out _).mono ?_
          rintro e w2 ⟨rfl, hb⟩
          refine ⟨_, rfl, ?_⟩
          have h7 := blk_keep h7 hb
          have h6 := blk_keep h6 hb
          refine hK.out _ _ (FaS.keep hHeld hb) (fun hHeld => ?_)
          clear hK hb
          refine norm_ (a' := ?_) ?_ ?_
          rotate_left
          · show Act.put _ (some 34) _ = _
            simp only [Act.put, List.setIfInBounds_toArray, List.set_cons_zero, List.set_cons_succ]
            rfl
          have c0 := blk_cell h6 0
          have f0 := blk_frozen h6 0
          have c1 := blk_cell h6 1
          have f1 := blk_frozen h6 1
          refine last_ (i := 8) (N := none) #[true, true, true, true, true, true, true, true, true, false] rfl rfl (by kernel_rfl) (by decide) (fun K_ hK => ?_)
          rw [if_pos (by rfl)]
          go_wp2
          refine hK.out _ _ ?_
          clear hK c0 f0 c1 f1
          have h7 := (far1p (far1p h7 p6 (by omega) 0 (.int .i64 r1)) p6 (by omega) 1 (.int .i64 r2))
          have h6 := (blk_put (cs := #[.int .i64 r1, .int .i64 0]) (blk_put (cs := #[.int .i64 0, .int .i64 0]) h6 0 (.int .i64 r1) rfl) 1 (.int .i64 r2) rfl)
          have hHeld := (FaS.set (FaS.set hHeld p6 0 (.int .i64 r1)) p6 1 (.int .i64 r2))
          have c0 := blk_cell h7 0
          have f0 := blk_frozen h7 0
          have c1 := blk_cell h7 1
          have f1 := blk_frozen h7 1
          refine last_ (i := 9) (N := none) #[true, true, true, true, true, true, true, true, true, true] rfl rfl (by kernel_rfl) (by decide) (fun K_ hK => ?_)
          rw [if_pos (by rfl)]
          go_wp2
          refine hK.out _ _ ?_
          clear hK c0 f0 c1 f1
          have h6 := (far1p (far1p h6 p7 (by omega) 0 (.int .i64 s1)) p7 (by omega) 1 (.int .i64 s2))
          have h7 := (blk_put (cs := #[.int .i64 s1, .int .i64 0]) (blk_put (cs := #[.int .i64 0, .int .i64 0]) h7 0 (.int .i64 s1) rfl) 1 (.int .i64 s2) rfl)
          have hHeld := (FaS.set (FaS.set hHeld p7 0 (.int .i64 s1)) p7 1 (.int .i64 s2))
          refine done_ (by kernel_rfl) ?_
          go_wp2_with fail
          go_meet
          exact ⟨_, _, rfl, rfl, ⟨FbS.mk hHeld.1.out hHeld.2.1.out hHeld.2.2.1.out h6 h7 hHeld.2.2.2.1.out⟩⟩
    · skip
      have p6 := lt_blk hHeld.2.2.1.out
      rw [if_pos (by rfl)]
      go_wp2
      refine hK.out _ _ (FaS.keep hHeld (below_alloc (Below.refl _ _) _)) (fun hHeld => ?_)
      clear hK
      have h6 := blk_new w2 (.cells #[.int .i64 0, .int .i64 0] 23)
      generalize World.alloc w2 (.cells #[.int .i64 0, .int .i64 0] 23) = w2 at hHeld h6 ⊢
      refine two_ (i := 2) (j := 7) (Ni := some 31) (Nj := some 8) #[true, true, true, true, true, false, true, false, false, false] #[true, true, false, true, true, false, true, true, false, false] rfl rfl rfl rfl (by kernel_rfl) (by decide) (by decide) (fun K_ hK => ?_) (fun K_ hK => ?_)
      · skip
        refine goes_ Try.func34 (by kernel_rfl) rfl #[.agg #[.int .i64 m1, .int .i64 m2, .int .i64 m3], .agg #[.int .i64 p1, .int .i64 p2]] (by rfl) rfl rfl (by (try simp only [List.map_toArray, List.map_cons, List.map_nil]); first | done | rfl) ?_
        with_reducible refine (Hp.out _).mono ?_
        rintro e w2 ⟨rfl, hb⟩
        refine ⟨_, rfl, ?_⟩
        have h6 := blk_keep h6 hb
        refine hK.out _ _ (FaS.keep hHeld hb) (fun hHeld => ?_)
        clear hK hb
        refine norm_ (a' := ?_) ?_ ?_
        rotate_left
        · show Act.put _ (some 31) _ = _
          simp only [Act.put, List.setIfInBounds_toArray, List.set_cons_zero, List.set_cons_succ]
          rfl
        refine two_ (i := 5) (j := 7) (Ni := some 34) (Nj := some 8) #[true, true, true, true, true, true, true, false, false, false] #[true, true, true, true, true, false, true, true, false, false] rfl rfl rfl rfl (by kernel_rfl) (by decide) (by decide) (fun K_ hK => ?_) (fun K_ hK => ?_)
        · skip
          refine goes_ Try.func34 (by kernel_rfl) rfl #[.agg #[.int .i64 m1, .int .i64 m2, .int .i64 m3], .agg #[.int .i64 q1, .int .i64 q2]] (by rfl) rfl rfl (by (try simp only [List.map_toArray, List.map_cons, List.map_nil]); first | done | rfl) ?_
          with_reducible refine (Hq.out _).mono ?_
          rintro e w2 ⟨rfl, hb⟩
          refine ⟨_, rfl, ?_⟩
          have h6 := blk_keep h6 hb
          refine hK.out _ _ (FaS.keep hHeld hb) (fun hHeld => ?_)
          clear hK hb
          refine norm_ (a' := ?_) ?_ ?_
          rotate_left
          · show Act.put _ (some 34) _ = _
            simp only [Act.put, List.setIfInBounds_toArray, List.set_cons_zero, List.set_cons_succ]
            rfl
          refine one_ (i := 7) (N := some 8) #[true, true, true, true, true, true, true, true, false, false] rfl rfl (by kernel_rfl) (by decide) (fun K_ hK => ?_)
          have p7 := lt_blk hHeld.2.2.1.out
          rw [if_pos (by rfl)]
          go_wp2
          refine hK.out _ _ (FaS.keep hHeld (below_alloc (Below.refl _ _) _)) (fun hHeld => ?_)
          clear hK
          have q76 := lt_blk h6
          have h6 := blk_keep h6 (below_alloc (Below.refl _ _) (.cells #[.int .i64 0, .int .i64 0] 23))
          have h7 := blk_new w2 (.cells #[.int .i64 0, .int .i64 0] 23)
          generalize World.alloc w2 (.cells #[.int .i64 0, .int .i64 0] 23) = w2 at hHeld h6 h7 ⊢
          have c0 := blk_cell h6 0
          have f0 := blk_frozen h6 0
          have c1 := blk_cell h6 1
          have f1 := blk_frozen h6 1
          refine last_ (i := 8) (N := none) #[true, true, true, true, true, true, true, true, true, false] rfl rfl (by kernel_rfl) (by decide) (fun K_ hK => ?_)
          rw [if_pos (by rfl)]
          go_wp2
          refine hK.out _ _ ?_
          clear hK c0 f0 c1 f1
          have h7 := (far1p (far1p h7 p6 (by omega) 0 (.int .i64 r1)) p6 (by omega) 1 (.int .i64 r2))
          have h6 := (blk_put (cs := #[.int .i64 r1, .int .i64 0]) (blk_put (cs := #[.int .i64 0, .int .i64 0]) h6 0 (.int .i64 r1) rfl) 1 (.int .i64 r2) rfl)
          have hHeld := (FaS.set (FaS.set hHeld p6 0 (.int .i64 r1)) p6 1 (.int .i64 r2))
          have c0 := blk_cell h7 0
          have f0 := blk_frozen h7 0
          have c1 := blk_cell h7 1
          have f1 := blk_frozen h7 1
          refine last_ (i := 9) (N := none) #[true, true, true, true, true, true, true, true, true, true] rfl rfl (by kernel_rfl) (by decide) (fun K_ hK => ?_)
          rw [if_pos (by rfl)]
          go_wp2
          refine hK.out _ _ ?_
          clear hK c0 f0 c1 f1
          have h6 := (far1p (far1p h6 p7 (by omega) 0 (.int .i64 s1)) p7 (by omega) 1 (.int .i64 s2))
          have h7 := (blk_put (cs := #[.int .i64 s1, .int .i64 0]) (blk_put (cs := #[.int .i64 0, .int .i64 0]) h7 0 (.int .i64 s1) rfl) 1 (.int .i64 s2) rfl)
          have hHeld := (FaS.set (FaS.set hHeld p7 0 (.int .i64 s1)) p7 1 (.int .i64 s2))
          refine done_ (by kernel_rfl) ?_
          go_wp2_with fail
          go_meet
          exact ⟨_, _, rfl, rfl, ⟨FbS.mk hHeld.1.out hHeld.2.1.out hHeld.2.2.1.out h6 h7 hHeld.2.2.2.1.out⟩⟩
        · skip
          have p7 := lt_blk hHeld.2.2.1.out
          rw [if_pos (by rfl)]
          go_wp2
          refine hK.out _ _ (FaS.keep hHeld (below_alloc (Below.refl _ _) _)) (fun hHeld => ?_)
          clear hK
          have q76 := lt_blk h6
          have h6 := blk_keep h6 (below_alloc (Below.refl _ _) (.cells #[.int .i64 0, .int .i64 0] 23))
          have h7 := blk_new w2 (.cells #[.int .i64 0, .int .i64 0] 23)
          generalize World.alloc w2 (.cells #[.int .i64 0, .int .i64 0] 23) = w2 at hHeld h6 h7 ⊢
          refine one_ (i := 5) (N := some 34) #[true, true, true, true, true, true, true, true, false, false] rfl rfl (by kernel_rfl) (by decide) (fun K_ hK => ?_)
          refine goes_ Try.func34 (by kernel_rfl) rfl #[.agg #[.int .i64 m1, .int .i64 m2, .int .i64 m3], .agg #[.int .i64 q1, .int .i64 q2]] (by rfl) rfl rfl (by (try simp only [List.map_toArray, List.map_cons, List.map_nil]); first | done | rfl) ?_
          with_reducible refine (Hq.out _).mono ?_
          rintro e w2 ⟨rfl, hb⟩
          refine ⟨_, rfl, ?_⟩
          have h6 := blk_keep h6 hb
          have h7 := blk_keep h7 hb
          refine hK.out _ _ (FaS.keep hHeld hb) (fun hHeld => ?_)
          clear hK hb
          refine norm_ (a' := ?_) ?_ ?_
          rotate_left
          · show Act.put _ (some 34) _ = _
            simp only [Act.put, List.setIfInBounds_toArray, List.set_cons_zero, List.set_cons_succ]
            rfl
          have c0 := blk_cell h6 0
          have f0 := blk_frozen h6 0
          have c1 := blk_cell h6 1
          have f1 := blk_frozen h6 1
          refine last_ (i := 8) (N := none) #[true, true, true, true, true, true, true, true, true, false] rfl rfl (by kernel_rfl) (by decide) (fun K_ hK => ?_)
          rw [if_pos (by rfl)]
          go_wp2
          refine hK.out _ _ ?_
          clear hK c0 f0 c1 f1
          have h7 := (far1p (far1p h7 p6 (by omega) 0 (.int .i64 r1)) p6 (by omega) 1 (.int .i64 r2))
          have h6 := (blk_put (cs := #[.int .i64 r1, .int .i64 0]) (blk_put (cs := #[.int .i64 0, .int .i64 0]) h6 0 (.int .i64 r1) rfl) 1 (.int .i64 r2) rfl)
          have hHeld := (FaS.set (FaS.set hHeld p6 0 (.int .i64 r1)) p6 1 (.int .i64 r2))
          have c0 := blk_cell h7 0
          have f0 := blk_frozen h7 0
          have c1 := blk_cell h7 1
          have f1 := blk_frozen h7 1
          refine last_ (i := 9) (N := none) #[true, true, true, true, true, true, true, true, true, true] rfl rfl (by kernel_rfl) (by decide) (fun K_ hK => ?_)
          rw [if_pos (by rfl)]
          go_wp2
          refine hK.out _ _ ?_
          clear hK c0 f0 c1 f1
          have h6 := (far1p (far1p h6 p7 (by omega) 0 (.int .i64 s1)) p7 (by omega) 1 (.int .i64 s2))
          have h7 := (blk_put (cs := #[.int .i64 s1, .int .i64 0]) (blk_put (cs := #[.int .i64 0, .int .i64 0]) h7 0 (.int .i64 s1) rfl) 1 (.int .i64 s2) rfl)
          have hHeld := (FaS.set (FaS.set hHeld p7 0 (.int .i64 s1)) p7 1 (.int .i64 s2))
          refine done_ (by kernel_rfl) ?_
          go_wp2_with fail
          go_meet
          exact ⟨_, _, rfl, rfl, ⟨FbS.mk hHeld.1.out hHeld.2.1.out hHeld.2.2.1.out h6 h7 hHeld.2.2.2.1.out⟩⟩
      · skip
        have p7 := lt_blk hHeld.2.2.1.out
        rw [if_pos (by rfl)]
        go_wp2
        refine hK.out _ _ (FaS.keep hHeld (below_alloc (Below.refl _ _) _)) (fun hHeld => ?_)
        clear hK
        have q76 := lt_blk h6
        have h6 := blk_keep h6 (below_alloc (Below.refl _ _) (.cells #[.int .i64 0, .int .i64 0] 23))
        have h7 := blk_new w2 (.cells #[.int .i64 0, .int .i64 0] 23)
        generalize World.alloc w2 (.cells #[.int .i64 0, .int .i64 0] 23) = w2 at hHeld h6 h7 ⊢
        refine one_ (i := 2) (N := some 31) #[true, true, true, true, true, false, true, true, false, false] rfl rfl (by kernel_rfl) (by decide) (fun K_ hK => ?_)
        refine goes_ Try.func34 (by kernel_rfl) rfl #[.agg #[.int .i64 m1, .int .i64 m2, .int .i64 m3], .agg #[.int .i64 p1, .int .i64 p2]] (by rfl) rfl rfl (by (try simp only [List.map_toArray, List.map_cons, List.map_nil]); first | done | rfl) ?_
        with_reducible refine (Hp.out _).mono ?_
        rintro e w2 ⟨rfl, hb⟩
        refine ⟨_, rfl, ?_⟩
        have h6 := blk_keep h6 hb
        have h7 := blk_keep h7 hb
        refine hK.out _ _ (FaS.keep hHeld hb) (fun hHeld => ?_)
        clear hK hb
        refine norm_ (a' := ?_) ?_ ?_
        rotate_left
        · show Act.put _ (some 31) _ = _
          simp only [Act.put, List.setIfInBounds_toArray, List.set_cons_zero, List.set_cons_succ]
          rfl
        refine one_ (i := 5) (N := some 34) #[true, true, true, true, true, true, true, true, false, false] rfl rfl (by kernel_rfl) (by decide) (fun K_ hK => ?_)
        refine goes_ Try.func34 (by kernel_rfl) rfl #[.agg #[.int .i64 m1, .int .i64 m2, .int .i64 m3], .agg #[.int .i64 q1, .int .i64 q2]] (by rfl) rfl rfl (by (try simp only [List.map_toArray, List.map_cons, List.map_nil]); first | done | rfl) ?_
        with_reducible refine (Hq.out _).mono ?_
        rintro e w2 ⟨rfl, hb⟩
        refine ⟨_, rfl, ?_⟩
        have h6 := blk_keep h6 hb
        have h7 := blk_keep h7 hb
        refine hK.out _ _ (FaS.keep hHeld hb) (fun hHeld => ?_)
        clear hK hb
        refine norm_ (a' := ?_) ?_ ?_
        rotate_left
        · show Act.put _ (some 34) _ = _
          simp only [Act.put, List.setIfInBounds_toArray, List.set_cons_zero, List.set_cons_succ]
          rfl
        have c0 := blk_cell h6 0
        have f0 := blk_frozen h6 0
        have c1 := blk_cell h6 1
        have f1 := blk_frozen h6 1
        refine last_ (i := 8) (N := none) #[true, true, true, true, true, true, true, true, true, false] rfl rfl (by kernel_rfl) (by decide) (fun K_ hK => ?_)
        rw [if_pos (by rfl)]
        go_wp2
        refine hK.out _ _ ?_
        clear hK c0 f0 c1 f1
        have h7 := (far1p (far1p h7 p6 (by omega) 0 (.int .i64 r1)) p6 (by omega) 1 (.int .i64 r2))
        have h6 := (blk_put (cs := #[.int .i64 r1, .int .i64 0]) (blk_put (cs := #[.int .i64 0, .int .i64 0]) h6 0 (.int .i64 r1) rfl) 1 (.int .i64 r2) rfl)
        have hHeld := (FaS.set (FaS.set hHeld p6 0 (.int .i64 r1)) p6 1 (.int .i64 r2))
        have c0 := blk_cell h7 0
        have f0 := blk_frozen h7 0
        have c1 := blk_cell h7 1
        have f1 := blk_frozen h7 1
        refine last_ (i := 9) (N := none) #[true, true, true, true, true, true, true, true, true, true] rfl rfl (by kernel_rfl) (by decide) (fun K_ hK => ?_)
        rw [if_pos (by rfl)]
        go_wp2
        refine hK.out _ _ ?_
        clear hK c0 f0 c1 f1
        have h6 := (far1p (far1p h6 p7 (by omega) 0 (.int .i64 s1)) p7 (by omega) 1 (.int .i64 s2))
        have h7 := (blk_put (cs := #[.int .i64 s1, .int .i64 0]) (blk_put (cs := #[.int .i64 0, .int .i64 0]) h7 0 (.int .i64 s1) rfl) 1 (.int .i64 s2) rfl)
        have hHeld := (FaS.set (FaS.set hHeld p7 0 (.int .i64 s1)) p7 1 (.int .i64 s2))
        refine done_ (by kernel_rfl) ?_
        go_wp2_with fail
        go_meet
        exact ⟨_, _, rfl, rfl, ⟨FbS.mk hHeld.1.out hHeld.2.1.out hHeld.2.2.1.out h6 h7 hHeld.2.2.2.1.out⟩⟩
    · skip
      have p7 := lt_blk hHeld.2.2.1.out
      rw [if_pos (by rfl)]
      go_wp2
      refine hK.out _ _ (FaS.keep hHeld (below_alloc (Below.refl _ _) _)) (fun hHeld => ?_)
      clear hK
      have h7 := blk_new w2 (.cells #[.int .i64 0, .int .i64 0] 23)
      generalize World.alloc w2 (.cells #[.int .i64 0, .int .i64 0] 23) = w2 at hHeld h7 ⊢
      refine two_ (i := 2) (j := 6) (Ni := some 31) (Nj := some 7) #[true, true, true, true, true, false, false, true, false, false] #[true, true, false, true, true, false, true, true, false, false] rfl rfl rfl rfl (by kernel_rfl) (by decide) (by decide) (fun K_ hK => ?_) (fun K_ hK => ?_)
      · skip
        refine goes_ Try.func34 (by kernel_rfl) rfl #[.agg #[.int .i64 m1, .int .i64 m2, .int .i64 m3], .agg #[.int .i64 p1, .int .i64 p2]] (by rfl) rfl rfl (by (try simp only [List.map_toArray, List.map_cons, List.map_nil]); first | done | rfl) ?_
        with_reducible refine (Hp.out _).mono ?_
        rintro e w2 ⟨rfl, hb⟩
        refine ⟨_, rfl, ?_⟩
        have h7 := blk_keep h7 hb
        refine hK.out _ _ (FaS.keep hHeld hb) (fun hHeld => ?_)
        clear hK hb
        refine norm_ (a' := ?_) ?_ ?_
        rotate_left
        · show Act.put _ (some 31) _ = _
          simp only [Act.put, List.setIfInBounds_toArray, List.set_cons_zero, List.set_cons_succ]
          rfl
        refine two_ (i := 5) (j := 6) (Ni := some 34) (Nj := some 7) #[true, true, true, true, true, true, false, true, false, false] #[true, true, true, true, true, false, true, true, false, false] rfl rfl rfl rfl (by kernel_rfl) (by decide) (by decide) (fun K_ hK => ?_) (fun K_ hK => ?_)
        · skip
          refine goes_ Try.func34 (by kernel_rfl) rfl #[.agg #[.int .i64 m1, .int .i64 m2, .int .i64 m3], .agg #[.int .i64 q1, .int .i64 q2]] (by rfl) rfl rfl (by (try simp only [List.map_toArray, List.map_cons, List.map_nil]); first | done | rfl) ?_
          with_reducible refine (Hq.out _).mono ?_
          rintro e w2 ⟨rfl, hb⟩
          refine ⟨_, rfl, ?_⟩
          have h7 := blk_keep h7 hb
          refine hK.out _ _ (FaS.keep hHeld hb) (fun hHeld => ?_)
          clear hK hb
          refine norm_ (a' := ?_) ?_ ?_
          rotate_left
          · show Act.put _ (some 34) _ = _
            simp only [Act.put, List.setIfInBounds_toArray, List.set_cons_zero, List.set_cons_succ]
            rfl
          refine one_ (i := 6) (N := some 7) #[true, true, true, true, true, true, true, true, false, false] rfl rfl (by kernel_rfl) (by decide) (fun K_ hK => ?_)
          have p6 := lt_blk hHeld.2.2.1.out
          rw [if_pos (by rfl)]
          go_wp2
          refine hK.out _ _ (FaS.keep hHeld (below_alloc (Below.refl _ _) _)) (fun hHeld => ?_)
          clear hK
          have q67 := lt_blk h7
          have h7 := blk_keep h7 (below_alloc (Below.refl _ _) (.cells #[.int .i64 0, .int .i64 0] 23))
          have h6 := blk_new w2 (.cells #[.int .i64 0, .int .i64 0] 23)
          generalize World.alloc w2 (.cells #[.int .i64 0, .int .i64 0] 23) = w2 at hHeld h7 h6 ⊢
          have c0 := blk_cell h6 0
          have f0 := blk_frozen h6 0
          have c1 := blk_cell h6 1
          have f1 := blk_frozen h6 1
          refine last_ (i := 8) (N := none) #[true, true, true, true, true, true, true, true, true, false] rfl rfl (by kernel_rfl) (by decide) (fun K_ hK => ?_)
          rw [if_pos (by rfl)]
          go_wp2
          refine hK.out _ _ ?_
          clear hK c0 f0 c1 f1
          have h7 := (far1p (far1p h7 p6 (by omega) 0 (.int .i64 r1)) p6 (by omega) 1 (.int .i64 r2))
          have h6 := (blk_put (cs := #[.int .i64 r1, .int .i64 0]) (blk_put (cs := #[.int .i64 0, .int .i64 0]) h6 0 (.int .i64 r1) rfl) 1 (.int .i64 r2) rfl)
          have hHeld := (FaS.set (FaS.set hHeld p6 0 (.int .i64 r1)) p6 1 (.int .i64 r2))
          have c0 := blk_cell h7 0
          have f0 := blk_frozen h7 0
          have c1 := blk_cell h7 1
          have f1 := blk_frozen h7 1
          refine last_ (i := 9) (N := none) #[true, true, true, true, true, true, true, true, true, true] rfl rfl (by kernel_rfl) (by decide) (fun K_ hK => ?_)
          rw [if_pos (by rfl)]
          go_wp2
          refine hK.out _ _ ?_
          clear hK c0 f0 c1 f1
          have h6 := (far1p (far1p h6 p7 (by omega) 0 (.int .i64 s1)) p7 (by omega) 1 (.int .i64 s2))
          have h7 := (blk_put (cs := #[.int .i64 s1, .int .i64 0]) (blk_put (cs := #[.int .i64 0, .int .i64 0]) h7 0 (.int .i64 s1) rfl) 1 (.int .i64 s2) rfl)
          have hHeld := (FaS.set (FaS.set hHeld p7 0 (.int .i64 s1)) p7 1 (.int .i64 s2))
          refine done_ (by kernel_rfl) ?_
          go_wp2_with fail
          go_meet
          exact ⟨_, _, rfl, rfl, ⟨FbS.mk hHeld.1.out hHeld.2.1.out hHeld.2.2.1.out h6 h7 hHeld.2.2.2.1.out⟩⟩
        · skip
          have p6 := lt_blk hHeld.2.2.1.out
          rw [if_pos (by rfl)]
          go_wp2
          refine hK.out _ _ (FaS.keep hHeld (below_alloc (Below.refl _ _) _)) (fun hHeld => ?_)
          clear hK
          have q67 := lt_blk h7
          have h7 := blk_keep h7 (below_alloc (Below.refl _ _) (.cells #[.int .i64 0, .int .i64 0] 23))
          have h6 := blk_new w2 (.cells #[.int .i64 0, .int .i64 0] 23)
          generalize World.alloc w2 (.cells #[.int .i64 0, .int .i64 0] 23) = w2 at hHeld h7 h6 ⊢
          refine one_ (i := 5) (N := some 34) #[true, true, true, true, true, true, true, true, false, false] rfl rfl (by kernel_rfl) (by decide) (fun K_ hK => ?_)
          refine goes_ Try.func34 (by kernel_rfl) rfl #[.agg #[.int .i64 m1, .int .i64 m2, .int .i64 m3], .agg #[.int .i64 q1, .int .i64 q2]] (by rfl) rfl rfl (by (try simp only [List.map_toArray, List.map_cons, List.map_nil]); first | done | rfl) ?_
          with_reducible refine (Hq.out _).mono ?_
          rintro e w2 ⟨rfl, hb⟩
          refine ⟨_, rfl, ?_⟩
          have h7 := blk_keep h7 hb
          have h6 := blk_keep h6 hb
          refine hK.out _ _ (FaS.keep hHeld hb) (fun hHeld => ?_)
          clear hK hb
          refine norm_ (a' := ?_) ?_ ?_
          rotate_left
          · show Act.put _ (some 34) _ = _
            simp only [Act.put, List.setIfInBounds_toArray, List.set_cons_zero, List.set_cons_succ]
            rfl
          have c0 := blk_cell h6 0
          have f0 := blk_frozen h6 0
          have c1 := blk_cell h6 1
          have f1 := blk_frozen h6 1
          refine last_ (i := 8) (N := none) #[true, true, true, true, true, true, true, true, true, false] rfl rfl (by kernel_rfl) (by decide) (fun K_ hK => ?_)
          rw [if_pos (by rfl)]
          go_wp2
          refine hK.out _ _ ?_
          clear hK c0 f0 c1 f1
          have h7 := (far1p (far1p h7 p6 (by omega) 0 (.int .i64 r1)) p6 (by omega) 1 (.int .i64 r2))
          have h6 := (blk_put (cs := #[.int .i64 r1, .int .i64 0]) (blk_put (cs := #[.int .i64 0, .int .i64 0]) h6 0 (.int .i64 r1) rfl) 1 (.int .i64 r2) rfl)
          have hHeld := (FaS.set (FaS.set hHeld p6 0 (.int .i64 r1)) p6 1 (.int .i64 r2))
          have c0 := blk_cell h7 0
          have f0 := blk_frozen h7 0
          have c1 := blk_cell h7 1
          have f1 := blk_frozen h7 1
          refine last_ (i := 9) (N := none) #[true, true, true, true, true, true, true, true, true, true] rfl rfl (by kernel_rfl) (by decide) (fun K_ hK => ?_)
          rw [if_pos (by rfl)]
          go_wp2
          refine hK.out _ _ ?_
          clear hK c0 f0 c1 f1
          have h6 := (far1p (far1p h6 p7 (by omega) 0 (.int .i64 s1)) p7 (by omega) 1 (.int .i64 s2))
          have h7 := (blk_put (cs := #[.int .i64 s1, .int .i64 0]) (blk_put (cs := #[.int .i64 0, .int .i64 0]) h7 0 (.int .i64 s1) rfl) 1 (.int .i64 s2) rfl)
          have hHeld := (FaS.set (FaS.set hHeld p7 0 (.int .i64 s1)) p7 1 (.int .i64 s2))
          refine done_ (by kernel_rfl) ?_
          go_wp2_with fail
          go_meet
          exact ⟨_, _, rfl, rfl, ⟨FbS.mk hHeld.1.out hHeld.2.1.out hHeld.2.2.1.out h6 h7 hHeld.2.2.2.1.out⟩⟩
      · skip
        have p6 := lt_blk hHeld.2.2.1.out
        rw [if_pos (by rfl)]
        go_wp2
        refine hK.out _ _ (FaS.keep hHeld (below_alloc (Below.refl _ _) _)) (fun hHeld => ?_)
        clear hK
        have q67 := lt_blk h7
        have h7 := blk_keep h7 (below_alloc (Below.refl _ _) (.cells #[.int .i64 0, .int .i64 0] 23))
        have h6 := blk_new w2 (.cells #[.int .i64 0, .int .i64 0] 23)
        generalize World.alloc w2 (.cells #[.int .i64 0, .int .i64 0] 23) = w2 at hHeld h7 h6 ⊢
        refine one_ (i := 2) (N := some 31) #[true, true, true, true, true, false, true, true, false, false] rfl rfl (by kernel_rfl) (by decide) (fun K_ hK => ?_)
        refine goes_ Try.func34 (by kernel_rfl) rfl #[.agg #[.int .i64 m1, .int .i64 m2, .int .i64 m3], .agg #[.int .i64 p1, .int .i64 p2]] (by rfl) rfl rfl (by (try simp only [List.map_toArray, List.map_cons, List.map_nil]); first | done | rfl) ?_
        with_reducible refine (Hp.out _).mono ?_
        rintro e w2 ⟨rfl, hb⟩
        refine ⟨_, rfl, ?_⟩
        have h7 := blk_keep h7 hb
        have h6 := blk_keep h6 hb
        refine hK.out _ _ (FaS.keep hHeld hb) (fun hHeld => ?_)
        clear hK hb
        refine norm_ (a' := ?_) ?_ ?_
        rotate_left
        · show Act.put _ (some 31) _ = _
          simp only [Act.put, List.setIfInBounds_toArray, List.set_cons_zero, List.set_cons_succ]
          rfl
        refine one_ (i := 5) (N := some 34) #[true, true, true, true, true, true, true, true, false, false] rfl rfl (by kernel_rfl) (by decide) (fun K_ hK => ?_)
        refine goes_ Try.func34 (by kernel_rfl) rfl #[.agg #[.int .i64 m1, .int .i64 m2, .int .i64 m3], .agg #[.int .i64 q1, .int .i64 q2]] (by rfl) rfl rfl (by (try simp only [List.map_toArray, List.map_cons, List.map_nil]); first | done | rfl) ?_
        with_reducible refine (Hq.out _).mono ?_
        rintro e w2 ⟨rfl, hb⟩
        refine ⟨_, rfl, ?_⟩
        have h7 := blk_keep h7 hb
        have h6 := blk_keep h6 hb
        refine hK.out _ _ (FaS.keep hHeld hb) (fun hHeld => ?_)
        clear hK hb
        refine norm_ (a' := ?_) ?_ ?_
        rotate_left
        · show Act.put _ (some 34) _ = _
          simp only [Act.put, List.setIfInBounds_toArray, List.set_cons_zero, List.set_cons_succ]
          rfl
        have c0 := blk_cell h6 0
        have f0 := blk_frozen h6 0
        have c1 := blk_cell h6 1
        have f1 := blk_frozen h6 1
        refine last_ (i := 8) (N := none) #[true, true, true, true, true, true, true, true, true, false] rfl rfl (by kernel_rfl) (by decide) (fun K_ hK => ?_)
        rw [if_pos (by rfl)]
        go_wp2
        refine hK.out _ _ ?_
        clear hK c0 f0 c1 f1
        have h7 := (far1p (far1p h7 p6 (by omega) 0 (.int .i64 r1)) p6 (by omega) 1 (.int .i64 r2))
        have h6 := (blk_put (cs := #[.int .i64 r1, .int .i64 0]) (blk_put (cs := #[.int .i64 0, .int .i64 0]) h6 0 (.int .i64 r1) rfl) 1 (.int .i64 r2) rfl)
        have hHeld := (FaS.set (FaS.set hHeld p6 0 (.int .i64 r1)) p6 1 (.int .i64 r2))
        have c0 := blk_cell h7 0
        have f0 := blk_frozen h7 0
        have c1 := blk_cell h7 1
        have f1 := blk_frozen h7 1
        refine last_ (i := 9) (N := none) #[true, true, true, true, true, true, true, true, true, true] rfl rfl (by kernel_rfl) (by decide) (fun K_ hK => ?_)
        rw [if_pos (by rfl)]
        go_wp2
        refine hK.out _ _ ?_
        clear hK c0 f0 c1 f1
        have h6 := (far1p (far1p h6 p7 (by omega) 0 (.int .i64 s1)) p7 (by omega) 1 (.int .i64 s2))
        have h7 := (blk_put (cs := #[.int .i64 s1, .int .i64 0]) (blk_put (cs := #[.int .i64 0, .int .i64 0]) h7 0 (.int .i64 s1) rfl) 1 (.int .i64 s2) rfl)
        have hHeld := (FaS.set (FaS.set hHeld p7 0 (.int .i64 s1)) p7 1 (.int .i64 s2))
        refine done_ (by kernel_rfl) ?_
        go_wp2_with fail
        go_meet
        exact ⟨_, _, rfl, rfl, ⟨FbS.mk hHeld.1.out hHeld.2.1.out hHeld.2.2.1.out h6 h7 hHeld.2.2.2.1.out⟩⟩
  case rest =>
    obtain ⟨g1, g2, rfl, rfl, hF⟩ := hcut
    obtain ⟨_, _, _, _, _, _, k1, k2, k3, k4, k5, k6, k7, k8, k9, k10, k11⟩ := hF.out
    go_upto_region 5 with (go_at_call 44; (with_reducible refine (Hb.out _).mono ?_); rintro e w2 ⟨rfl, hb⟩; have HF2 := Aside0.mk (FbS.keep hF.out hb))
    clear k1 k2 k3 k4 k5 k6 k7 k8 k9 k10 k11
    have HS := FcS.mk (blk_keep HF2.out.1.out (below_alloc (Below.refl _ _) (.cells #[.int .i64 A1, .int .i64 A2, .int .i64 A3] 35))) (blk_keep HF2.out.2.1.out (below_alloc (Below.refl _ _) _)) (blk_keep HF2.out.2.2.1.out (below_alloc (Below.refl _ _) _)) (blk_keep HF2.out.2.2.2.1.out (below_alloc (Below.refl _ _) _)) (blk_keep HF2.out.2.2.2.2.1.out (below_alloc (Below.refl _ _) _)) (blk_new w2 (.cells #[.int .i64 A1, .int .i64 A2, .int .i64 A3] 35)) (below_alloc HF2.out.2.2.2.2.2.1.out (.cells #[.int .i64 A1, .int .i64 A2, .int .i64 A3] 35))
    go_cut [69] (fun s69 wx => s69 = .bool false ∧ Aside0 (FcS w g1 g2 w2.heap.size m1 m2 m3 p1 p2 q1 q2 r1 r2 s1 s2 A1 A2 A3 wx))
    case first =>
      have HU := Hu.out
      have HRS := Hrs.out
      have HF := Hf.out
      clear Hb Hs Ho H1 H2 H3 H4 Hl Hsm Hsp Hsq Hx Hf Hv Hr Hrs Hz1 Hz2 Hz3 Hz4 Hn Hp Hq
      cases u
      · clear HRS
        have HF := Aside0.mk (HF rfl)
        rename_i HF0
        clear HF0
        first | go_region_held3 (FcS w g1 g2 w2.heap.size m1 m2 m3 p1 p2 q1 q2 r1 r2 s1 s2 A1 A2 A3) (first | exact FcS.keep (by assumption) hb | exact FcS.drew HS | assumption) (first | (go_at_call 34; (with_reducible refine (Hap.out _).mono ?_); rintro e w' ⟨rfl, hb⟩) | (go_at_call 34; (with_reducible refine (Haq.out _).mono ?_); rintro e w' ⟨rfl, hb⟩) | (go_at_call 32; (with_reducible refine (HF.out _).mono ?_); rintro e w' ⟨rfl, hb⟩)) | fail
        all_goals (clear HS; rename_i HS)
        all_goals (go_wp2_with fail)
        all_goals (go_meet; exact ⟨rfl, ⟨HS⟩⟩)
      · clear HF
        simp only [Bool.and_eq_true, beq_iff_eq] at HU
        obtain ⟨rfl, rfl⟩ := HU
        obtain ⟨rfl, rfl⟩ := HRS rfl
        clear HRS
        refine start_ (n := 27) (S := FcS w g1 g2 w2.heap.size m1 m2 m3 p1 p2 p1 p2 r1 r2 r1 r2 A1 A2 A3) (ds := []) #[false, false, false, false, false, false, false, false, false, false, false, false, false, false, false, false, false, false, false, false, false, false, false, false, false, false, false] (by kernel_rfl) rfl rfl (FcS.drew HS) (fun hHeld => ?_)
        clear HS
        refine pure_ (i := 0) (N := some 43) (v := ?_) (a' := ?_) #[true, false, false, false, false, false, false, false, false, false, false, false, false, false, false, false, false, false, false, false, false, false, false, false, false, false, false] rfl rfl (by kernel_rfl) (fun _ _ _ h => h) (Or.inl ⟨by rfl, ?_⟩) ?_ ?_
        rotate_left
        · intro w'
          go_simp
          with_reducible rfl
        rotate_left
        · simp only [Act.put, List.setIfInBounds_toArray, List.set_cons_zero, List.set_cons_succ]
          rfl
        refine pure_ (i := 1) (N := some 44) (v := ?_) (a' := ?_) #[true, true, false, false, false, false, false, false, false, false, false, false, false, false, false, false, false, false, false, false, false, false, false, false, false, false, false] rfl rfl (by kernel_rfl) (fun _ _ _ h => h) (Or.inl ⟨by rfl, ?_⟩) ?_ ?_
        rotate_left
        · intro w'
          go_simp
          with_reducible rfl
        rotate_left
        · simp only [Act.put, List.setIfInBounds_toArray, List.set_cons_zero, List.set_cons_succ]
          rfl
        refine pure_ (i := 2) (N := some 45) (v := ?_) (a' := ?_) #[true, true, true, false, false, false, false, false, false, false, false, false, false, false, false, false, false, false, false, false, false, false, false, false, false, false, false] rfl rfl (by kernel_rfl) (fun _ _ _ h => h) (Or.inl ⟨by rfl, ?_⟩) ?_ ?_
        rotate_left
        · intro w'
          go_simp
          with_reducible rfl
        rotate_left
        · simp only [Act.put, List.setIfInBounds_toArray, List.set_cons_zero, List.set_cons_succ]
          rfl
        refine take_ (i := 3) (N := some 46) (v := ?_) (a' := ?_) #[true, true, true, true, false, false, false, false, false, false, false, false, false, false, false, false, false, false, false, false, false, false, false, false, false, false, false] rfl rfl (by kernel_rfl) (fun _ _ _ h => h) (Or.inl ⟨by rfl, ?_⟩) hHeld ?_ ?_
        rotate_left
        · rintro w' ⟨_, _, _, _, _, _, _, k1, k2, k3, k4, k5, k6, k7, k8, k9, k10, k11, k12, k13, k14⟩
          go_simp
          with_reducible rfl
        rotate_left
        · simp only [Act.put, List.setIfInBounds_toArray, List.set_cons_zero, List.set_cons_succ]
          rfl
        refine take_ (i := 4) (N := some 47) (v := ?_) (a' := ?_) #[true, true, true, true, true, false, false, false, false, false, false, false, false, false, false, false, false, false, false, false, false, false, false, false, false, false, false] rfl rfl (by kernel_rfl) (fun _ _ _ h => h) (Or.inl ⟨by rfl, ?_⟩) hHeld ?_ ?_
        rotate_left
        · rintro w' ⟨_, _, _, _, _, _, _, k1, k2, k3, k4, k5, k6, k7, k8, k9, k10, k11, k12, k13, k14⟩
          go_simp
          with_reducible rfl
        rotate_left
        · simp only [Act.put, List.setIfInBounds_toArray, List.set_cons_zero, List.set_cons_succ]
          rfl
        refine take_ (i := 6) (N := some 49) (v := ?_) (a' := ?_) #[true, true, true, true, true, false, true, false, false, false, false, false, false, false, false, false, false, false, false, false, false, false, false, false, false, false, false] rfl rfl (by kernel_rfl) (fun _ _ _ h => h) (Or.inl ⟨by rfl, ?_⟩) hHeld ?_ ?_
        rotate_left
        · rintro w' ⟨_, _, _, _, _, _, _, k1, k2, k3, k4, k5, k6, k7, k8, k9, k10, k11, k12, k13, k14⟩
          go_simp
          with_reducible rfl
        rotate_left
        · simp only [Act.put, List.setIfInBounds_toArray, List.set_cons_zero, List.set_cons_succ]
          rfl
        refine one_ (i := 5) (N := some 48) #[true, true, true, true, true, true, true, false, false, false, false, false, false, false, false, false, false, false, false, false, false, false, false, false, false, false, false] rfl rfl (by kernel_rfl) (by decide) (fun K_ hK => ?_)
        refine goes_ Try.func34 (by kernel_rfl) rfl #[.agg #[.int .i64 A1, .int .i64 A2, .int .i64 A3], .agg #[.int .i64 p1, .int .i64 p2]] (by rfl) rfl rfl (by (try simp only [List.map_toArray, List.map_cons, List.map_nil]); first | done | rfl) ?_
        with_reducible refine (Hap.out _).mono ?_
        rintro e w2 ⟨rfl, hb⟩
        refine ⟨_, rfl, ?_⟩
        refine hK.out _ _ (FcS.keep hHeld hb) (fun hHeld => ?_)
        clear hK hb
        refine norm_ (a' := ?_) ?_ ?_
        rotate_left
        · show Act.put _ (some 48) _ = _
          simp only [Act.put, List.setIfInBounds_toArray, List.set_cons_zero, List.set_cons_succ]
          rfl
        refine pure_ (i := 7) (N := some 50) (v := ?_) (a' := ?_) #[true, true, true, true, true, true, true, true, false, false, false, false, false, false, false, false, false, false, false, false, false, false, false, false, false, false, false] rfl rfl (by kernel_rfl) (fun _ _ _ h => h) (Or.inl ⟨by rfl, ?_⟩) ?_ ?_
        rotate_left
        · intro w'
          go_simp
          with_reducible rfl
        rotate_left
        · simp only [Act.put, List.setIfInBounds_toArray, List.set_cons_zero, List.set_cons_succ]
          rfl
        refine pure_ (i := 8) (N := some 51) (v := ?_) (a' := ?_) #[true, true, true, true, true, true, true, true, true, false, false, false, false, false, false, false, false, false, false, false, false, false, false, false, false, false, false] rfl rfl (by kernel_rfl) (fun _ _ _ h => h) (Or.inl ⟨by rfl, ?_⟩) ?_ ?_
        rotate_left
        · intro w'
          go_simp
          with_reducible rfl
        rotate_left
        · simp only [Act.put, List.setIfInBounds_toArray, List.set_cons_zero, List.set_cons_succ]
          rfl
        refine pure_ (i := 9) (N := some 52) (v := ?_) (a' := ?_) #[true, true, true, true, true, true, true, true, true, true, false, false, false, false, false, false, false, false, false, false, false, false, false, false, false, false, false] rfl rfl (by kernel_rfl) (fun _ _ _ h => h) (Or.inl ⟨by rfl, ?_⟩) ?_ ?_
        rotate_left
        · intro w'
          go_simp
          with_reducible rfl
        rotate_left
        · simp only [Act.put, List.setIfInBounds_toArray, List.set_cons_zero, List.set_cons_succ]
          rfl
        refine take_ (i := 10) (N := some 53) (v := ?_) (a' := ?_) #[true, true, true, true, true, true, true, true, true, true, true, false, false, false, false, false, false, false, false, false, false, false, false, false, false, false, false] rfl rfl (by kernel_rfl) (fun _ _ _ h => h) (Or.inl ⟨by rfl, ?_⟩) hHeld ?_ ?_
        rotate_left
        · rintro w' ⟨_, _, _, _, _, _, _, k1, k2, k3, k4, k5, k6, k7, k8, k9, k10, k11, k12, k13, k14⟩
          go_simp
          with_reducible rfl
        rotate_left
        · simp only [Act.put, List.setIfInBounds_toArray, List.set_cons_zero, List.set_cons_succ]
          rfl
        refine take_ (i := 11) (N := some 54) (v := ?_) (a' := ?_) #[true, true, true, true, true, true, true, true, true, true, true, true, false, false, false, false, false, false, false, false, false, false, false, false, false, false, false] rfl rfl (by kernel_rfl) (fun _ _ _ h => h) (Or.inl ⟨by rfl, ?_⟩) hHeld ?_ ?_
        rotate_left
        · rintro w' ⟨_, _, _, _, _, _, _, k1, k2, k3, k4, k5, k6, k7, k8, k9, k10, k11, k12, k13, k14⟩
          go_simp
          with_reducible rfl
        rotate_left
        · simp only [Act.put, List.setIfInBounds_toArray, List.set_cons_zero, List.set_cons_succ]
          rfl
        refine take_ (i := 13) (N := some 56) (v := ?_) (a' := ?_) #[true, true, true, true, true, true, true, true, true, true, true, true, false, true, false, false, false, false, false, false, false, false, false, false, false, false, false] rfl rfl (by kernel_rfl) (fun _ _ _ h => h) (Or.inl ⟨by rfl, ?_⟩) hHeld ?_ ?_
        rotate_left
        · rintro w' ⟨_, _, _, _, _, _, _, k1, k2, k3, k4, k5, k6, k7, k8, k9, k10, k11, k12, k13, k14⟩
          go_simp
          with_reducible rfl
        rotate_left
        · simp only [Act.put, List.setIfInBounds_toArray, List.set_cons_zero, List.set_cons_succ]
          rfl
        refine one_ (i := 12) (N := some 55) #[true, true, true, true, true, true, true, true, true, true, true, true, true, true, false, false, false, false, false, false, false, false, false, false, false, false, false] rfl rfl (by kernel_rfl) (by decide) (fun K_ hK => ?_)
        refine goes_ Try.func34 (by kernel_rfl) rfl #[.agg #[.int .i64 A1, .int .i64 A2, .int .i64 A3], .agg #[.int .i64 p1, .int .i64 p2]] (by rfl) rfl rfl (by (try simp only [List.map_toArray, List.map_cons, List.map_nil]); first | done | rfl) ?_
        with_reducible refine (Hap.out _).mono ?_
        rintro e w2 ⟨rfl, hb⟩
        refine ⟨_, rfl, ?_⟩
        refine hK.out _ _ (FcS.keep hHeld hb) (fun hHeld => ?_)
        clear hK hb
        refine norm_ (a' := ?_) ?_ ?_
        rotate_left
        · show Act.put _ (some 55) _ = _
          simp only [Act.put, List.setIfInBounds_toArray, List.set_cons_zero, List.set_cons_succ]
          rfl
        refine pure_ (i := 14) (N := some 57) (v := ?_) (a' := ?_) #[true, true, true, true, true, true, true, true, true, true, true, true, true, true, true, false, false, false, false, false, false, false, false, false, false, false, false] rfl rfl (by kernel_rfl) (fun _ _ _ h => h) (Or.inl ⟨by rfl, ?_⟩) ?_ ?_
        rotate_left
        · intro w'
          go_simp
          with_reducible rfl
        rotate_left
        · simp only [Act.put, List.setIfInBounds_toArray, List.set_cons_zero, List.set_cons_succ]
          rfl
        refine pure_ (i := 15) (N := some 58) (v := ?_) (a' := ?_) #[true, true, true, true, true, true, true, true, true, true, true, true, true, true, true, true, false, false, false, false, false, false, false, false, false, false, false] rfl rfl (by kernel_rfl) (fun _ _ _ h => h) (Or.inl ⟨by rfl, ?_⟩) ?_ ?_
        rotate_left
        · intro w'
          go_simp
          with_reducible rfl
        rotate_left
        · simp only [Act.put, List.setIfInBounds_toArray, List.set_cons_zero, List.set_cons_succ]
          rfl
        refine pure_ (i := 16) (N := some 59) (v := ?_) (a' := ?_) #[true, true, true, true, true, true, true, true, true, true, true, true, true, true, true, true, true, false, false, false, false, false, false, false, false, false, false] rfl rfl (by kernel_rfl) (fun _ _ _ h => h) (Or.inl ⟨by rfl, ?_⟩) ?_ ?_
        rotate_left
        · intro w'
          go_simp
          with_reducible rfl
        rotate_left
        · simp only [Act.put, List.setIfInBounds_toArray, List.set_cons_zero, List.set_cons_succ]
          rfl
        refine take_ (i := 17) (N := some 60) (v := ?_) (a' := ?_) #[true, true, true, true, true, true, true, true, true, true, true, true, true, true, true, true, true, true, false, false, false, false, false, false, false, false, false] rfl rfl (by kernel_rfl) (fun _ _ _ h => h) (Or.inl ⟨by rfl, ?_⟩) hHeld ?_ ?_
        rotate_left
        · rintro w' ⟨_, _, _, _, _, _, _, k1, k2, k3, k4, k5, k6, k7, k8, k9, k10, k11, k12, k13, k14⟩
          go_simp
          with_reducible rfl
        rotate_left
        · simp only [Act.put, List.setIfInBounds_toArray, List.set_cons_zero, List.set_cons_succ]
          rfl
        refine take_ (i := 18) (N := some 61) (v := ?_) (a' := ?_) #[true, true, true, true, true, true, true, true, true, true, true, true, true, true, true, true, true, true, true, false, false, false, false, false, false, false, false] rfl rfl (by kernel_rfl) (fun _ _ _ h => h) (Or.inl ⟨by rfl, ?_⟩) hHeld ?_ ?_
        rotate_left
        · rintro w' ⟨_, _, _, _, _, _, _, k1, k2, k3, k4, k5, k6, k7, k8, k9, k10, k11, k12, k13, k14⟩
          go_simp
          with_reducible rfl
        rotate_left
        · simp only [Act.put, List.setIfInBounds_toArray, List.set_cons_zero, List.set_cons_succ]
          rfl
        refine pure_ (i := 19) (N := some 62) (v := ?_) (a' := ?_) #[true, true, true, true, true, true, true, true, true, true, true, true, true, true, true, true, true, true, true, true, false, false, false, false, false, false, false] rfl rfl (by kernel_rfl) (fun _ _ _ h => h) (Or.inl ⟨by rfl, ?_⟩) ?_ ?_
        rotate_left
        · intro w'
          go_simp
          with_reducible rfl
        rotate_left
        · simp only [Act.put, List.setIfInBounds_toArray, List.set_cons_zero, List.set_cons_succ]
          rfl
        refine pure_ (i := 20) (N := some 63) (v := ?_) (a' := ?_) #[true, true, true, true, true, true, true, true, true, true, true, true, true, true, true, true, true, true, true, true, true, false, false, false, false, false, false] rfl rfl (by kernel_rfl) (fun _ _ _ h => h) (Or.inl ⟨by rfl, ?_⟩) ?_ ?_
        rotate_left
        · intro w'
          go_simp
          with_reducible rfl
        rotate_left
        · simp only [Act.put, List.setIfInBounds_toArray, List.set_cons_zero, List.set_cons_succ]
          rfl
        refine pure_ (i := 21) (N := some 64) (v := undef) (a' := ?_) #[true, true, true, true, true, true, true, true, true, true, true, true, true, true, true, true, true, true, true, true, true, true, false, false, false, false, false] rfl rfl (by kernel_rfl) (fun _ _ _ h => h) (Or.inr ⟨by rfl, rfl⟩) ?_ ?_
        rotate_left
        · simp only [Act.put, List.setIfInBounds_toArray, List.set_cons_zero, List.set_cons_succ]
          rfl
        refine pure_ (i := 22) (N := some 65) (v := undef) (a' := ?_) #[true, true, true, true, true, true, true, true, true, true, true, true, true, true, true, true, true, true, true, true, true, true, true, false, false, false, false] rfl rfl (by kernel_rfl) (fun _ _ _ h => h) (Or.inr ⟨by rfl, rfl⟩) ?_ ?_
        rotate_left
        · simp only [Act.put, List.setIfInBounds_toArray, List.set_cons_zero, List.set_cons_succ]
          rfl
        refine pure_ (i := 23) (N := some 66) (v := undef) (a' := ?_) #[true, true, true, true, true, true, true, true, true, true, true, true, true, true, true, true, true, true, true, true, true, true, true, true, false, false, false] rfl rfl (by kernel_rfl) (fun _ _ _ h => h) (Or.inr ⟨by rfl, rfl⟩) ?_ ?_
        rotate_left
        · simp only [Act.put, List.setIfInBounds_toArray, List.set_cons_zero, List.set_cons_succ]
          rfl
        refine pure_ (i := 24) (N := some 67) (v := undef) (a' := ?_) #[true, true, true, true, true, true, true, true, true, true, true, true, true, true, true, true, true, true, true, true, true, true, true, true, true, false, false] rfl rfl (by kernel_rfl) (fun _ _ _ h => h) (Or.inr ⟨by rfl, rfl⟩) ?_ ?_
        rotate_left
        · simp only [Act.put, List.setIfInBounds_toArray, List.set_cons_zero, List.set_cons_succ]
          rfl
        refine pure_ (i := 25) (N := some 68) (v := ?_) (a' := ?_) #[true, true, true, true, true, true, true, true, true, true, true, true, true, true, true, true, true, true, true, true, true, true, true, true, true, true, false] rfl rfl (by kernel_rfl) (fun _ _ _ h => h) (Or.inl ⟨by rfl, ?_⟩) ?_ ?_
        rotate_left
        · intro w'
          go_simp
          with_reducible rfl
        rotate_left
        · simp only [Act.put, List.setIfInBounds_toArray, List.set_cons_zero, List.set_cons_succ]
          rfl
        refine pure_ (i := 26) (N := some 69) (v := ?_) (a' := ?_) #[true, true, true, true, true, true, true, true, true, true, true, true, true, true, true, true, true, true, true, true, true, true, true, true, true, true, true] rfl rfl (by kernel_rfl) (fun _ _ _ h => h) (Or.inl ⟨by rfl, ?_⟩) ?_ ?_
        rotate_left
        · intro w'
          go_simp
          with_reducible rfl
        rotate_left
        · simp only [Act.put, List.setIfInBounds_toArray, List.set_cons_zero, List.set_cons_succ]
          rfl
        refine done_ (by kernel_rfl) ?_
        go_wp2_with fail
        go_meet
        exact ⟨rfl, ⟨hHeld⟩⟩
    case rest =>
      obtain ⟨rfl, hF⟩ := hcut
      obtain ⟨_, _, _, _, _, _, _, k1, k2, k3, k4, k5, k6, k7, k8, k9, k10, k11, k12, k13, k14⟩ := hF.out
      go_upto_region 8 with (go_at_call 45; (with_reducible refine (Hs.out _).mono ?_); rintro e w3 ⟨rfl, hb⟩; have HF3 := Aside0.mk (FcS.keep hF.out hb))
      have HS := FdS.mk (blk_keep HF3.out.1.out (below_alloc (Below.refl _ _) (.cells #[.int .i64 X1, .int .i64 X2] 23))) (blk_keep HF3.out.2.1.out (below_alloc (Below.refl _ _) _)) (blk_new w3 (.cells #[.int .i64 X1, .int .i64 X2] 23)) (below_alloc HF3.out.2.2.2.2.2.2.1.out (.cells #[.int .i64 X1, .int .i64 X2] 23))
      clear k1 k2 k3 k4 k5 k6 k7 k8 k9 k10 k11 k12 k13 k14
      go_cut [94] (fun s94 wx => s94 = .bool false ∧ Aside0 (FdS w w3.heap.size m1 m2 m3 p1 p2 X1 X2 wx))
      case first =>
        have HV := Hv.out
        have HX := Hx.out
        have HR := Hr.out
        clear Hb Hap Haq Hs Ho H1 H2 H3 H4 Hl Hsm Hsp Hsq Hx Hf Hrs Hu Hv Hr Hz1 Hz2 Hz3 Hz4 Hn Hq hF HF3 HF2
        cases st
        · clear HX HR HV
          have HS2 := fun n => Aside0.mk (FdS.keep HS (below_dN _ n))
          clear HS
          go_quiet (fail)
          go_wp2_with fail
          go_meet
          exact ⟨rfl, HS2 _⟩
        · have HX := Aside0.mk (HX rfl)
          rename_i HX0
          clear HX0
          cases v
          · have HR2 := HR rfl rfl
            clear HR
            first | go_region_held3 (FdS w w3.heap.size m1 m2 m3 p1 p2 X1 X2) (first | exact FdS.keep (by assumption) hb | exact FdS.drew HS | assumption) (first | (go_at_call 34; (with_reducible refine (HX.out _).mono ?_); rintro e w' ⟨rfl, hb⟩) | (go_at_call 34; (with_reducible refine (Hp.out _).mono ?_); rintro e w' ⟨rfl, hb⟩)) | fail
            all_goals (clear HS; rename_i HS)
            all_goals (go_wp2_with fail)
            all_goals (go_meet; exact ⟨rfl, ⟨HS⟩⟩)
          · clear HR
            simp only [Bool.and_eq_true, beq_iff_eq] at HV
            obtain ⟨rfl, rfl⟩ := HV
            refine start_ (n := 20) (S := FdS w w3.heap.size m1 m2 m3 p1 p2 p1 p2) (ds := []) #[false, false, false, false, false, false, false, false, false, false, false, false, false, false, false, false, false, false, false, false] (by kernel_rfl) rfl rfl (FdS.drew HS) (fun hHeld => ?_)
            clear HS
            refine pure_ (i := 0) (N := some 75) (v := ?_) (a' := ?_) #[true, false, false, false, false, false, false, false, false, false, false, false, false, false, false, false, false, false, false, false] rfl rfl (by kernel_rfl) (fun _ _ _ h => h) (Or.inl ⟨by rfl, ?_⟩) ?_ ?_
            rotate_left
            · intro w'
              go_simp
              with_reducible rfl
            rotate_left
            · simp only [Act.put, List.setIfInBounds_toArray, List.set_cons_zero, List.set_cons_succ]
              rfl
            refine pure_ (i := 1) (N := some 76) (v := ?_) (a' := ?_) #[true, true, false, false, false, false, false, false, false, false, false, false, false, false, false, false, false, false, false, false] rfl rfl (by kernel_rfl) (fun _ _ _ h => h) (Or.inl ⟨by rfl, ?_⟩) ?_ ?_
            rotate_left
            · intro w'
              go_simp
              with_reducible rfl
            rotate_left
            · simp only [Act.put, List.setIfInBounds_toArray, List.set_cons_zero, List.set_cons_succ]
              rfl
            refine take_ (i := 2) (N := some 77) (v := ?_) (a' := ?_) #[true, true, true, false, false, false, false, false, false, false, false, false, false, false, false, false, false, false, false, false] rfl rfl (by kernel_rfl) (fun _ _ _ h => h) (Or.inl ⟨by rfl, ?_⟩) hHeld ?_ ?_
            rotate_left
            · rintro w' ⟨_, _, _, _, k1, k2, k3, k4, k5, k6, k7⟩
              go_simp
              with_reducible rfl
            rotate_left
            · simp only [Act.put, List.setIfInBounds_toArray, List.set_cons_zero, List.set_cons_succ]
              rfl
            refine take_ (i := 3) (N := some 78) (v := ?_) (a' := ?_) #[true, true, true, true, false, false, false, false, false, false, false, false, false, false, false, false, false, false, false, false] rfl rfl (by kernel_rfl) (fun _ _ _ h => h) (Or.inl ⟨by rfl, ?_⟩) hHeld ?_ ?_
            rotate_left
            · rintro w' ⟨_, _, _, _, k1, k2, k3, k4, k5, k6, k7⟩
              go_simp
              with_reducible rfl
            rotate_left
            · simp only [Act.put, List.setIfInBounds_toArray, List.set_cons_zero, List.set_cons_succ]
              rfl
            refine take_ (i := 5) (N := some 80) (v := ?_) (a' := ?_) #[true, true, true, true, false, true, false, false, false, false, false, false, false, false, false, false, false, false, false, false] rfl rfl (by kernel_rfl) (fun _ _ _ h => h) (Or.inl ⟨by rfl, ?_⟩) hHeld ?_ ?_
            rotate_left
            · rintro w' ⟨_, _, _, _, k1, k2, k3, k4, k5, k6, k7⟩
              go_simp
              with_reducible rfl
            rotate_left
            · simp only [Act.put, List.setIfInBounds_toArray, List.set_cons_zero, List.set_cons_succ]
              rfl
            refine one_ (i := 4) (N := some 79) #[true, true, true, true, true, true, false, false, false, false, false, false, false, false, false, false, false, false, false, false] rfl rfl (by kernel_rfl) (by decide) (fun K_ hK => ?_)
            refine goes_ Try.func34 (by kernel_rfl) rfl #[.agg #[.int .i64 m1, .int .i64 m2, .int .i64 m3], .agg #[.int .i64 p1, .int .i64 p2]] (by rfl) rfl rfl (by (try simp only [List.map_toArray, List.map_cons, List.map_nil]); first | done | rfl) ?_
            with_reducible refine (HX.out _).mono ?_
            rintro e w2 ⟨rfl, hb⟩
            refine ⟨_, rfl, ?_⟩
            refine hK.out _ _ (FdS.keep hHeld hb) (fun hHeld => ?_)
            clear hK hb
            refine norm_ (a' := ?_) ?_ ?_
            rotate_left
            · show Act.put _ (some 79) _ = _
              simp only [Act.put, List.setIfInBounds_toArray, List.set_cons_zero, List.set_cons_succ]
              rfl
            refine pure_ (i := 6) (N := some 81) (v := ?_) (a' := ?_) #[true, true, true, true, true, true, true, false, false, false, false, false, false, false, false, false, false, false, false, false] rfl rfl (by kernel_rfl) (fun _ _ _ h => h) (Or.inl ⟨by rfl, ?_⟩) ?_ ?_
            rotate_left
            · intro w'
              go_simp
              with_reducible rfl
            rotate_left
            · simp only [Act.put, List.setIfInBounds_toArray, List.set_cons_zero, List.set_cons_succ]
              rfl
            refine pure_ (i := 7) (N := some 82) (v := ?_) (a' := ?_) #[true, true, true, true, true, true, true, true, false, false, false, false, false, false, false, false, false, false, false, false] rfl rfl (by kernel_rfl) (fun _ _ _ h => h) (Or.inl ⟨by rfl, ?_⟩) ?_ ?_
            rotate_left
            · intro w'
              go_simp
              with_reducible rfl
            rotate_left
            · simp only [Act.put, List.setIfInBounds_toArray, List.set_cons_zero, List.set_cons_succ]
              rfl
            refine take_ (i := 8) (N := some 83) (v := ?_) (a' := ?_) #[true, true, true, true, true, true, true, true, true, false, false, false, false, false, false, false, false, false, false, false] rfl rfl (by kernel_rfl) (fun _ _ _ h => h) (Or.inl ⟨by rfl, ?_⟩) hHeld ?_ ?_
            rotate_left
            · rintro w' ⟨_, _, _, _, k1, k2, k3, k4, k5, k6, k7⟩
              go_simp
              with_reducible rfl
            rotate_left
            · simp only [Act.put, List.setIfInBounds_toArray, List.set_cons_zero, List.set_cons_succ]
              rfl
            refine take_ (i := 9) (N := some 84) (v := ?_) (a' := ?_) #[true, true, true, true, true, true, true, true, true, true, false, false, false, false, false, false, false, false, false, false] rfl rfl (by kernel_rfl) (fun _ _ _ h => h) (Or.inl ⟨by rfl, ?_⟩) hHeld ?_ ?_
            rotate_left
            · rintro w' ⟨_, _, _, _, k1, k2, k3, k4, k5, k6, k7⟩
              go_simp
              with_reducible rfl
            rotate_left
            · simp only [Act.put, List.setIfInBounds_toArray, List.set_cons_zero, List.set_cons_succ]
              rfl
            refine pure_ (i := 10) (N := some 85) (v := ?_) (a' := ?_) #[true, true, true, true, true, true, true, true, true, true, true, false, false, false, false, false, false, false, false, false] rfl rfl (by kernel_rfl) (fun _ _ _ h => h) (Or.inl ⟨by rfl, ?_⟩) ?_ ?_
            rotate_left
            · intro w'
              go_simp
              with_reducible rfl
            rotate_left
            · simp only [Act.put, List.setIfInBounds_toArray, List.set_cons_zero, List.set_cons_succ]
              rfl
            refine pure_ (i := 11) (N := some 86) (v := ?_) (a' := ?_) #[true, true, true, true, true, true, true, true, true, true, true, true, false, false, false, false, false, false, false, false] rfl rfl (by kernel_rfl) (fun _ _ _ h => h) (Or.inl ⟨by rfl, ?_⟩) ?_ ?_
            rotate_left
            · intro w'
              go_simp
              with_reducible rfl
            rotate_left
            · simp only [Act.put, List.setIfInBounds_toArray, List.set_cons_zero, List.set_cons_succ]
              rfl
            refine pure_ (i := 12) (N := some 87) (v := undef) (a' := ?_) #[true, true, true, true, true, true, true, true, true, true, true, true, true, false, false, false, false, false, false, false] rfl rfl (by kernel_rfl) (fun _ _ _ h => h) (Or.inr ⟨by rfl, rfl⟩) ?_ ?_
            rotate_left
            · simp only [Act.put, List.setIfInBounds_toArray, List.set_cons_zero, List.set_cons_succ]
              rfl
            refine pure_ (i := 13) (N := some 88) (v := undef) (a' := ?_) #[true, true, true, true, true, true, true, true, true, true, true, true, true, true, false, false, false, false, false, false] rfl rfl (by kernel_rfl) (fun _ _ _ h => h) (Or.inr ⟨by rfl, rfl⟩) ?_ ?_
            rotate_left
            · simp only [Act.put, List.setIfInBounds_toArray, List.set_cons_zero, List.set_cons_succ]
              rfl
            refine pure_ (i := 14) (N := some 89) (v := undef) (a' := ?_) #[true, true, true, true, true, true, true, true, true, true, true, true, true, true, true, false, false, false, false, false] rfl rfl (by kernel_rfl) (fun _ _ _ h => h) (Or.inr ⟨by rfl, rfl⟩) ?_ ?_
            rotate_left
            · simp only [Act.put, List.setIfInBounds_toArray, List.set_cons_zero, List.set_cons_succ]
              rfl
            refine pure_ (i := 15) (N := some 90) (v := undef) (a' := ?_) #[true, true, true, true, true, true, true, true, true, true, true, true, true, true, true, true, false, false, false, false] rfl rfl (by kernel_rfl) (fun _ _ _ h => h) (Or.inr ⟨by rfl, rfl⟩) ?_ ?_
            rotate_left
            · simp only [Act.put, List.setIfInBounds_toArray, List.set_cons_zero, List.set_cons_succ]
              rfl
            refine pure_ (i := 16) (N := some 91) (v := undef) (a' := ?_) #[true, true, true, true, true, true, true, true, true, true, true, true, true, true, true, true, true, false, false, false] rfl rfl (by kernel_rfl) (fun _ _ _ h => h) (Or.inr ⟨by rfl, rfl⟩) ?_ ?_
            rotate_left
            · simp only [Act.put, List.setIfInBounds_toArray, List.set_cons_zero, List.set_cons_succ]
              rfl
            refine pure_ (i := 17) (N := some 92) (v := ?_) (a' := ?_) #[true, true, true, true, true, true, true, true, true, true, true, true, true, true, true, true, true, true, false, false] rfl rfl (by kernel_rfl) (fun _ _ _ h => h) (Or.inl ⟨by rfl, ?_⟩) ?_ ?_
            rotate_left
            · intro w'
              go_simp
              with_reducible rfl
            rotate_left
            · simp only [Act.put, List.setIfInBounds_toArray, List.set_cons_zero, List.set_cons_succ]
              rfl
            refine pure_ (i := 18) (N := some 93) (v := ?_) (a' := ?_) #[true, true, true, true, true, true, true, true, true, true, true, true, true, true, true, true, true, true, true, false] rfl rfl (by kernel_rfl) (fun _ _ _ h => h) (Or.inl ⟨by rfl, ?_⟩) ?_ ?_
            rotate_left
            · intro w'
              go_simp
              with_reducible rfl
            rotate_left
            · simp only [Act.put, List.setIfInBounds_toArray, List.set_cons_zero, List.set_cons_succ]
              rfl
            refine pure_ (i := 19) (N := some 94) (v := ?_) (a' := ?_) #[true, true, true, true, true, true, true, true, true, true, true, true, true, true, true, true, true, true, true, true] rfl rfl (by kernel_rfl) (fun _ _ _ h => h) (Or.inl ⟨by rfl, ?_⟩) ?_ ?_
            rotate_left
            · intro w'
              go_simp
              with_reducible rfl
            rotate_left
            · simp only [Act.put, List.setIfInBounds_toArray, List.set_cons_zero, List.set_cons_succ]
              rfl
            refine done_ (by kernel_rfl) ?_
            go_wp2_with fail
            go_meet
            exact ⟨rfl, ⟨hHeld⟩⟩
      case rest =>
        obtain ⟨rfl, hF⟩ := hcut
        have HS := FeS.mk hF.out.1.out hF.out.2.2.2.1.out
        obtain ⟨_, _, k1, k2, k3⟩ := id HS
        clear Hb Hap Haq Hs Hsm Hsp Hsq Hx Hf Hrs Hu Hv Hr Hp Hq HF3 HF2
        go_wp2_with (go_at_call 46; (with_reducible refine (Ho.out _).mono ?_); rintro e w4 ⟨rfl, hb4⟩; have HS4 := Aside0.mk (FeS.keep HS hb4))
        clear HS k1 k2 k3 hb4 Ho
        rcases Hn.out with ⟨rfl, rfl, rfl, rfl, rfl⟩ | ⟨rfl, rfl, rfl, rfl, rfl⟩ | ⟨rfl, rfl, rfl, rfl, rfl⟩ | ⟨rfl, rfl, rfl, rfl, rfl⟩
        · go_loopw [14] (fun i wx => ∃ k : Int, 1 ≤ k ∧ k ≤ 5 ∧ i = .int .i64 k ∧ Aside0 (FeS w m1 m2 m3 wx)) (fun i _ => (5 - intOf i).toNat)
          case atStart => exact ⟨1, by omega, by omega, rfl, HS4⟩
          case round =>
            obtain ⟨k, h1, h5, rfl, hF⟩ := hrel
            have HS := hF.out
            obtain ⟨_, _, k1, k2, k3⟩ := id HS
            rcases (show k = 1 ∨ k = 2 ∨ k = 3 ∨ k = 4 ∨ k = 5 by omega) with rfl | rfl | rfl | rfl | rfl
            · have hz := Hz1.out
              simp only [Bool.and_eq_true, beq_iff_eq] at hz
              obtain ⟨rfl, rfl, rfl⟩ := hz
              clear H2 Hz2 H3 Hz3 H4 Hz4
              go_wp2
              first | go_region_held3 (FeS w m1 m2 m3) (first | exact FeS.keep (by assumption) hb | exact FeS.drew HS | assumption) (first | (go_at_call 41; (with_reducible refine (H1.out _).mono ?_); rintro e w' ⟨rfl, hb⟩)) | fail
              all_goals (clear HS; rename_i HS)
              all_goals go_wp2
              all_goals go_roundw
              all_goals first | (exact ⟨2, by omega, by omega, rfl, ⟨HS⟩⟩) | (simp [intOf])
            · have hz := Hz2.out
              simp only [Bool.and_eq_true, beq_iff_eq] at hz
              obtain ⟨rfl, rfl, rfl⟩ := hz
              clear H1 Hz1 H3 Hz3 H4 Hz4
              go_wp2
              first | go_region_held3 (FeS w m1 m2 m3) (first | exact FeS.keep (by assumption) hb | exact FeS.drew HS | assumption) (first | (go_at_call 41; (with_reducible refine (H2.out _).mono ?_); rintro e w' ⟨rfl, hb⟩)) | fail
              all_goals (clear HS; rename_i HS)
              all_goals go_wp2
              all_goals go_roundw
              all_goals first | (exact ⟨3, by omega, by omega, rfl, ⟨HS⟩⟩) | (simp [intOf])
            · have hz := Hz3.out
              simp only [Bool.and_eq_true, beq_iff_eq] at hz
              obtain ⟨rfl, rfl, rfl⟩ := hz
              clear H1 Hz1 H2 Hz2 H4 Hz4
              go_wp2
              first | go_region_held3 (FeS w m1 m2 m3) (first | exact FeS.keep (by assumption) hb | exact FeS.drew HS | assumption) (first | (go_at_call 41; (with_reducible refine (H3.out _).mono ?_); rintro e w' ⟨rfl, hb⟩)) | fail
              all_goals (clear HS; rename_i HS)
              all_goals go_wp2
              all_goals go_roundw
              all_goals first | (exact ⟨4, by omega, by omega, rfl, ⟨HS⟩⟩) | (simp [intOf])
            · have hz := Hz4.out
              simp only [Bool.and_eq_true, beq_iff_eq] at hz
              obtain ⟨rfl, rfl, rfl⟩ := hz
              clear H1 Hz1 H2 Hz2 H3 Hz3
              go_wp2
              first | go_region_held3 (FeS w m1 m2 m3) (first | exact FeS.keep (by assumption) hb | exact FeS.drew HS | assumption) (first | (go_at_call 41; (with_reducible refine (H4.out _).mono ?_); rintro e w' ⟨rfl, hb⟩)) | fail
              all_goals (clear HS; rename_i HS)
              all_goals go_wp2
              all_goals go_roundw
              all_goals first | (exact ⟨5, by omega, by omega, rfl, ⟨HS⟩⟩) | (simp [intOf])
            · go_wp2_with (go_at_call 40; (with_reducible refine (Hl.out _).mono ?_); rintro e w5 ⟨rfl, hb5⟩; have HB5 := Aside0.mk (below_step HS.2.1.out hb5))
              go_ret
              exact ⟨rfl, HB5.out⟩
        · go_loopw [14] (fun i wx => ∃ k : Int, 1 ≤ k ∧ k ≤ 5 ∧ i = .int .i64 k ∧ Aside0 (FeS w m1 m2 m3 wx)) (fun i _ => (5 - intOf i).toNat)
          case atStart => exact ⟨1, by omega, by omega, rfl, HS4⟩
          case round =>
            obtain ⟨k, h1, h5, rfl, hF⟩ := hrel
            have HS := hF.out
            obtain ⟨_, _, k1, k2, k3⟩ := id HS
            rcases (show k = 1 ∨ k = 2 ∨ k = 3 ∨ k = 4 ∨ k = 5 by omega) with rfl | rfl | rfl | rfl | rfl
            · have hz := Hz1.out
              clear H2 Hz2 H3 Hz3 H4 Hz4
              go_wp2
              refine start_ (n := 15) (S := FeS w m1 m2 m3) (ds := []) #[false, false, false, false, false, false, false, false, false, false, false, false, false, false, false] (by kernel_rfl) rfl rfl (FeS.drew HS) (fun hHeld => ?_)
              clear HS
              refine take_ (i := 0) (N := some 101) (v := ?_) (a' := ?_) #[true, false, false, false, false, false, false, false, false, false, false, false, false, false, false] rfl rfl (by kernel_rfl) (fun _ _ _ h => h) (Or.inl ⟨by rfl, ?_⟩) hHeld ?_ ?_
              rotate_left
              · rintro w' ⟨_, _, k1, k2, k3⟩
                go_simp
                with_reducible rfl
              rotate_left
              · simp only [Act.put, List.setIfInBounds_toArray, List.set_cons_zero, List.set_cons_succ]
                rfl
              refine pure_ (i := 1) (N := some 102) (v := ?_) (a' := ?_) #[true, true, false, false, false, false, false, false, false, false, false, false, false, false, false] rfl rfl (by kernel_rfl) (fun _ _ _ h => h) (Or.inl ⟨by rfl, ?_⟩) ?_ ?_
              rotate_left
              · intro w'
                go_simp
                with_reducible rfl
              rotate_left
              · simp only [Act.put, List.setIfInBounds_toArray, List.set_cons_zero, List.set_cons_succ]
                rfl
              refine pure_ (i := 3) (N := some 104) (v := ?_) (a' := ?_) #[true, true, false, true, false, false, false, false, false, false, false, false, false, false, false] rfl rfl (by kernel_rfl) (fun _ _ _ h => h) (Or.inl ⟨by rfl, ?_⟩) ?_ ?_
              rotate_left
              · intro w'
                go_simp
                with_reducible rfl
              rotate_left
              · simp only [Act.put, List.setIfInBounds_toArray, List.set_cons_zero, List.set_cons_succ]
                rfl
              refine pure_ (i := 5) (N := some 106) (v := ?_) (a' := ?_) #[true, true, false, true, false, true, false, false, false, false, false, false, false, false, false] rfl rfl (by kernel_rfl) (fun _ _ _ h => h) (Or.inl ⟨by rfl, ?_⟩) ?_ ?_
              rotate_left
              · intro w'
                go_simp
                with_reducible rfl
              rotate_left
              · simp only [Act.put, List.setIfInBounds_toArray, List.set_cons_zero, List.set_cons_succ]
                rfl
              refine pure_ (i := 6) (N := some 107) (v := ?_) (a' := ?_) #[true, true, false, true, false, true, true, false, false, false, false, false, false, false, false] rfl rfl (by kernel_rfl) (fun _ _ _ h => h) (Or.inl ⟨by rfl, ?_⟩) ?_ ?_
              rotate_left
              · intro w'
                go_simp
                with_reducible rfl
              rotate_left
              · simp only [Act.put, List.setIfInBounds_toArray, List.set_cons_zero, List.set_cons_succ]
                rfl
              refine one_ (i := 2) (N := some 103) #[true, true, true, true, false, true, true, false, false, false, false, false, false, false, false] rfl rfl (by kernel_rfl) (by decide) (fun K_ hK => ?_)
              refine goes_ Try.func41 (by kernel_rfl) rfl #[.agg #[.int .i64 m1, .int .i64 m2, .int .i64 m3], .int .i64 1] (by rfl) rfl rfl (by (try simp only [List.map_toArray, List.map_cons, List.map_nil]); first | done | rfl) ?_
              with_reducible refine (H1.out _).mono ?_
              rintro e w2 ⟨rfl, hb⟩
              refine ⟨_, rfl, ?_⟩
              refine hK.out _ _ (FeS.keep hHeld hb) (fun hHeld => ?_)
              clear hK hb
              refine norm_ (a' := ?_) ?_ ?_
              rotate_left
              · show Act.put _ (some 103) _ = _
                simp only [Act.put, List.setIfInBounds_toArray, List.set_cons_zero, List.set_cons_succ]
                rfl
              refine pure_ (i := 4) (N := some 105) (v := ?_) (a' := ?_) #[true, true, true, true, true, true, true, false, false, false, false, false, false, false, false] rfl rfl (by kernel_rfl) (fun _ _ _ h => h) (Or.inl ⟨by rfl, ?_⟩) ?_ ?_
              rotate_left
              · intro w'
                go_simp
                with_reducible rfl
              rotate_left
              · simp only [Act.put, List.setIfInBounds_toArray, List.set_cons_zero, List.set_cons_succ]
                rfl
              refine pure_ (i := 7) (N := some 108) (v := ?_) (a' := ?_) #[true, true, true, true, true, true, true, true, false, false, false, false, false, false, false] rfl rfl (by kernel_rfl) (fun _ _ _ h => h) (Or.inl ⟨by rfl, ?_⟩) ?_ ?_
              rotate_left
              · intro w'
                go_simp
                with_reducible rfl
              rotate_left
              · simp only [Act.put, List.setIfInBounds_toArray, List.set_cons_zero, List.set_cons_succ]
                rfl
              refine pure_ (i := 8) (N := some 109) (v := undef) (a' := ?_) #[true, true, true, true, true, true, true, true, true, false, false, false, false, false, false] rfl rfl (by kernel_rfl) (fun _ _ _ h => h) (Or.inr ⟨by rfl, rfl⟩) ?_ ?_
              rotate_left
              · simp only [Act.put, List.setIfInBounds_toArray, List.set_cons_zero, List.set_cons_succ]
                rfl
              refine pure_ (i := 9) (N := some 110) (v := undef) (a' := ?_) #[true, true, true, true, true, true, true, true, true, true, false, false, false, false, false] rfl rfl (by kernel_rfl) (fun _ _ _ h => h) (Or.inr ⟨by rfl, rfl⟩) ?_ ?_
              rotate_left
              · simp only [Act.put, List.setIfInBounds_toArray, List.set_cons_zero, List.set_cons_succ]
                rfl
              refine pure_ (i := 10) (N := some 111) (v := undef) (a' := ?_) #[true, true, true, true, true, true, true, true, true, true, true, false, false, false, false] rfl rfl (by kernel_rfl) (fun _ _ _ h => h) (Or.inr ⟨by rfl, rfl⟩) ?_ ?_
              rotate_left
              · simp only [Act.put, List.setIfInBounds_toArray, List.set_cons_zero, List.set_cons_succ]
                rfl
              refine pure_ (i := 11) (N := some 112) (v := undef) (a' := ?_) #[true, true, true, true, true, true, true, true, true, true, true, true, false, false, false] rfl rfl (by kernel_rfl) (fun _ _ _ h => h) (Or.inr ⟨by rfl, rfl⟩) ?_ ?_
              rotate_left
              · simp only [Act.put, List.setIfInBounds_toArray, List.set_cons_zero, List.set_cons_succ]
                rfl
              refine pure_ (i := 12) (N := some 113) (v := undef) (a' := ?_) #[true, true, true, true, true, true, true, true, true, true, true, true, true, false, false] rfl rfl (by kernel_rfl) (fun _ _ _ h => h) (Or.inr ⟨by rfl, rfl⟩) ?_ ?_
              rotate_left
              · simp only [Act.put, List.setIfInBounds_toArray, List.set_cons_zero, List.set_cons_succ]
                rfl
              refine pure_ (i := 13) (N := some 114) (v := ?_) (a' := ?_) #[true, true, true, true, true, true, true, true, true, true, true, true, true, true, false] rfl rfl (by kernel_rfl) (fun _ _ _ h => h) (Or.inl ⟨by rfl, ?_⟩) ?_ ?_
              rotate_left
              · intro w'
                go_simp
                with_reducible rfl
              rotate_left
              · simp only [Act.put, List.setIfInBounds_toArray, List.set_cons_zero, List.set_cons_succ]
                rfl
              refine pure_ (i := 14) (N := some 115) (v := ?_) (a' := ?_) #[true, true, true, true, true, true, true, true, true, true, true, true, true, true, true] rfl rfl (by kernel_rfl) (fun _ _ _ h => h) (Or.inl ⟨by rfl, ?_⟩) ?_ ?_
              rotate_left
              · intro w'
                go_simp
                with_reducible rfl
              rotate_left
              · simp only [Act.put, List.setIfInBounds_toArray, List.set_cons_zero, List.set_cons_succ]
                rfl
              refine done_ (by kernel_rfl) ?_
              go_wp2
              go_roundw
              all_goals first | (exact ⟨2, by omega, by omega, rfl, ⟨hHeld⟩⟩) | (simp [intOf])
            · have hz := Hz2.out
              clear H1 Hz1 H3 Hz3 H4 Hz4
              go_wp2
              refine start_ (n := 15) (S := FeS w m1 m2 m3) (ds := []) #[false, false, false, false, false, false, false, false, false, false, false, false, false, false, false] (by kernel_rfl) rfl rfl (FeS.drew HS) (fun hHeld => ?_)
              clear HS
              refine take_ (i := 0) (N := some 101) (v := ?_) (a' := ?_) #[true, false, false, false, false, false, false, false, false, false, false, false, false, false, false] rfl rfl (by kernel_rfl) (fun _ _ _ h => h) (Or.inl ⟨by rfl, ?_⟩) hHeld ?_ ?_
              rotate_left
              · rintro w' ⟨_, _, k1, k2, k3⟩
                go_simp
                with_reducible rfl
              rotate_left
              · simp only [Act.put, List.setIfInBounds_toArray, List.set_cons_zero, List.set_cons_succ]
                rfl
              refine pure_ (i := 1) (N := some 102) (v := ?_) (a' := ?_) #[true, true, false, false, false, false, false, false, false, false, false, false, false, false, false] rfl rfl (by kernel_rfl) (fun _ _ _ h => h) (Or.inl ⟨by rfl, ?_⟩) ?_ ?_
              rotate_left
              · intro w'
                go_simp
                with_reducible rfl
              rotate_left
              · simp only [Act.put, List.setIfInBounds_toArray, List.set_cons_zero, List.set_cons_succ]
                rfl
              refine pure_ (i := 3) (N := some 104) (v := ?_) (a' := ?_) #[true, true, false, true, false, false, false, false, false, false, false, false, false, false, false] rfl rfl (by kernel_rfl) (fun _ _ _ h => h) (Or.inl ⟨by rfl, ?_⟩) ?_ ?_
              rotate_left
              · intro w'
                go_simp
                with_reducible rfl
              rotate_left
              · simp only [Act.put, List.setIfInBounds_toArray, List.set_cons_zero, List.set_cons_succ]
                rfl
              refine pure_ (i := 5) (N := some 106) (v := ?_) (a' := ?_) #[true, true, false, true, false, true, false, false, false, false, false, false, false, false, false] rfl rfl (by kernel_rfl) (fun _ _ _ h => h) (Or.inl ⟨by rfl, ?_⟩) ?_ ?_
              rotate_left
              · intro w'
                go_simp
                with_reducible rfl
              rotate_left
              · simp only [Act.put, List.setIfInBounds_toArray, List.set_cons_zero, List.set_cons_succ]
                rfl
              refine pure_ (i := 6) (N := some 107) (v := ?_) (a' := ?_) #[true, true, false, true, false, true, true, false, false, false, false, false, false, false, false] rfl rfl (by kernel_rfl) (fun _ _ _ h => h) (Or.inl ⟨by rfl, ?_⟩) ?_ ?_
              rotate_left
              · intro w'
                go_simp
                with_reducible rfl
              rotate_left
              · simp only [Act.put, List.setIfInBounds_toArray, List.set_cons_zero, List.set_cons_succ]
                rfl
              refine one_ (i := 2) (N := some 103) #[true, true, true, true, false, true, true, false, false, false, false, false, false, false, false] rfl rfl (by kernel_rfl) (by decide) (fun K_ hK => ?_)
              refine goes_ Try.func41 (by kernel_rfl) rfl #[.agg #[.int .i64 m1, .int .i64 m2, .int .i64 m3], .int .i64 2] (by rfl) rfl rfl (by (try simp only [List.map_toArray, List.map_cons, List.map_nil]); first | done | rfl) ?_
              with_reducible refine (H2.out _).mono ?_
              rintro e w2 ⟨rfl, hb⟩
              refine ⟨_, rfl, ?_⟩
              refine hK.out _ _ (FeS.keep hHeld hb) (fun hHeld => ?_)
              clear hK hb
              refine norm_ (a' := ?_) ?_ ?_
              rotate_left
              · show Act.put _ (some 103) _ = _
                simp only [Act.put, List.setIfInBounds_toArray, List.set_cons_zero, List.set_cons_succ]
                rfl
              refine pure_ (i := 4) (N := some 105) (v := ?_) (a' := ?_) #[true, true, true, true, true, true, true, false, false, false, false, false, false, false, false] rfl rfl (by kernel_rfl) (fun _ _ _ h => h) (Or.inl ⟨by rfl, ?_⟩) ?_ ?_
              rotate_left
              · intro w'
                go_simp
                with_reducible rfl
              rotate_left
              · simp only [Act.put, List.setIfInBounds_toArray, List.set_cons_zero, List.set_cons_succ]
                rfl
              refine pure_ (i := 7) (N := some 108) (v := ?_) (a' := ?_) #[true, true, true, true, true, true, true, true, false, false, false, false, false, false, false] rfl rfl (by kernel_rfl) (fun _ _ _ h => h) (Or.inl ⟨by rfl, ?_⟩) ?_ ?_
              rotate_left
              · intro w'
                go_simp
                with_reducible rfl
              rotate_left
              · simp only [Act.put, List.setIfInBounds_toArray, List.set_cons_zero, List.set_cons_succ]
                rfl
              refine pure_ (i := 8) (N := some 109) (v := undef) (a' := ?_) #[true, true, true, true, true, true, true, true, true, false, false, false, false, false, false] rfl rfl (by kernel_rfl) (fun _ _ _ h => h) (Or.inr ⟨by rfl, rfl⟩) ?_ ?_
              rotate_left
              · simp only [Act.put, List.setIfInBounds_toArray, List.set_cons_zero, List.set_cons_succ]
                rfl
              refine pure_ (i := 9) (N := some 110) (v := undef) (a' := ?_) #[true, true, true, true, true, true, true, true, true, true, false, false, false, false, false] rfl rfl (by kernel_rfl) (fun _ _ _ h => h) (Or.inr ⟨by rfl, rfl⟩) ?_ ?_
              rotate_left
              · simp only [Act.put, List.setIfInBounds_toArray, List.set_cons_zero, List.set_cons_succ]
                rfl
              refine pure_ (i := 10) (N := some 111) (v := undef) (a' := ?_) #[true, true, true, true, true, true, true, true, true, true, true, false, false, false, false] rfl rfl (by kernel_rfl) (fun _ _ _ h => h) (Or.inr ⟨by rfl, rfl⟩) ?_ ?_
              rotate_left
              · simp only [Act.put, List.setIfInBounds_toArray, List.set_cons_zero, List.set_cons_succ]
                rfl
              refine pure_ (i := 11) (N := some 112) (v := undef) (a' := ?_) #[true, true, true, true, true, true, true, true, true, true, true, true, false, false, false] rfl rfl (by kernel_rfl) (fun _ _ _ h => h) (Or.inr ⟨by rfl, rfl⟩) ?_ ?_
              rotate_left
              · simp only [Act.put, List.setIfInBounds_toArray, List.set_cons_zero, List.set_cons_succ]
                rfl
              refine pure_ (i := 12) (N := some 113) (v := undef) (a' := ?_) #[true, true, true, true, true, true, true, true, true, true, true, true, true, false, false] rfl rfl (by kernel_rfl) (fun _ _ _ h => h) (Or.inr ⟨by rfl, rfl⟩) ?_ ?_
              rotate_left
              · simp only [Act.put, List.setIfInBounds_toArray, List.set_cons_zero, List.set_cons_succ]
                rfl
              refine pure_ (i := 13) (N := some 114) (v := ?_) (a' := ?_) #[true, true, true, true, true, true, true, true, true, true, true, true, true, true, false] rfl rfl (by kernel_rfl) (fun _ _ _ h => h) (Or.inl ⟨by rfl, ?_⟩) ?_ ?_
              rotate_left
              · intro w'
                go_simp
                with_reducible rfl
              rotate_left
              · simp only [Act.put, List.setIfInBounds_toArray, List.set_cons_zero, List.set_cons_succ]
                rfl
              refine pure_ (i := 14) (N := some 115) (v := ?_) (a' := ?_) #[true, true, true, true, true, true, true, true, true, true, true, true, true, true, true] rfl rfl (by kernel_rfl) (fun _ _ _ h => h) (Or.inl ⟨by rfl, ?_⟩) ?_ ?_
              rotate_left
              · intro w'
                go_simp
                with_reducible rfl
              rotate_left
              · simp only [Act.put, List.setIfInBounds_toArray, List.set_cons_zero, List.set_cons_succ]
                rfl
              refine done_ (by kernel_rfl) ?_
              go_wp2
              go_roundw
              all_goals first | (exact ⟨3, by omega, by omega, rfl, ⟨hHeld⟩⟩) | (simp [intOf])
            · have hz := Hz3.out
              clear H1 Hz1 H2 Hz2 H4 Hz4
              go_wp2
              refine start_ (n := 15) (S := FeS w m1 m2 m3) (ds := []) #[false, false, false, false, false, false, false, false, false, false, false, false, false, false, false] (by kernel_rfl) rfl rfl (FeS.drew HS) (fun hHeld => ?_)
              clear HS
              refine take_ (i := 0) (N := some 101) (v := ?_) (a' := ?_) #[true, false, false, false, false, false, false, false, false, false, false, false, false, false, false] rfl rfl (by kernel_rfl) (fun _ _ _ h => h) (Or.inl ⟨by rfl, ?_⟩) hHeld ?_ ?_
              rotate_left
              · rintro w' ⟨_, _, k1, k2, k3⟩
                go_simp
                with_reducible rfl
              rotate_left
              · simp only [Act.put, List.setIfInBounds_toArray, List.set_cons_zero, List.set_cons_succ]
                rfl
              refine pure_ (i := 1) (N := some 102) (v := ?_) (a' := ?_) #[true, true, false, false, false, false, false, false, false, false, false, false, false, false, false] rfl rfl (by kernel_rfl) (fun _ _ _ h => h) (Or.inl ⟨by rfl, ?_⟩) ?_ ?_
              rotate_left
              · intro w'
                go_simp
                with_reducible rfl
              rotate_left
              · simp only [Act.put, List.setIfInBounds_toArray, List.set_cons_zero, List.set_cons_succ]
                rfl
              refine pure_ (i := 3) (N := some 104) (v := ?_) (a' := ?_) #[true, true, false, true, false, false, false, false, false, false, false, false, false, false, false] rfl rfl (by kernel_rfl) (fun _ _ _ h => h) (Or.inl ⟨by rfl, ?_⟩) ?_ ?_
              rotate_left
              · intro w'
                go_simp
                with_reducible rfl
              rotate_left
              · simp only [Act.put, List.setIfInBounds_toArray, List.set_cons_zero, List.set_cons_succ]
                rfl
              refine pure_ (i := 5) (N := some 106) (v := ?_) (a' := ?_) #[true, true, false, true, false, true, false, false, false, false, false, false, false, false, false] rfl rfl (by kernel_rfl) (fun _ _ _ h => h) (Or.inl ⟨by rfl, ?_⟩) ?_ ?_
              rotate_left
              · intro w'
                go_simp
                with_reducible rfl
              rotate_left
              · simp only [Act.put, List.setIfInBounds_toArray, List.set_cons_zero, List.set_cons_succ]
                rfl
              refine pure_ (i := 6) (N := some 107) (v := ?_) (a' := ?_) #[true, true, false, true, false, true, true, false, false, false, false, false, false, false, false] rfl rfl (by kernel_rfl) (fun _ _ _ h => h) (Or.inl ⟨by rfl, ?_⟩) ?_ ?_
              rotate_left
              · intro w'
                go_simp
                with_reducible rfl
              rotate_left
              · simp only [Act.put, List.setIfInBounds_toArray, List.set_cons_zero, List.set_cons_succ]
                rfl
              refine one_ (i := 2) (N := some 103) #[true, true, true, true, false, true, true, false, false, false, false, false, false, false, false] rfl rfl (by kernel_rfl) (by decide) (fun K_ hK => ?_)
              refine goes_ Try.func41 (by kernel_rfl) rfl #[.agg #[.int .i64 m1, .int .i64 m2, .int .i64 m3], .int .i64 3] (by rfl) rfl rfl (by (try simp only [List.map_toArray, List.map_cons, List.map_nil]); first | done | rfl) ?_
              with_reducible refine (H3.out _).mono ?_
              rintro e w2 ⟨rfl, hb⟩
              refine ⟨_, rfl, ?_⟩
              refine hK.out _ _ (FeS.keep hHeld hb) (fun hHeld => ?_)
              clear hK hb
              refine norm_ (a' := ?_) ?_ ?_
              rotate_left
              · show Act.put _ (some 103) _ = _
                simp only [Act.put, List.setIfInBounds_toArray, List.set_cons_zero, List.set_cons_succ]
                rfl
              refine pure_ (i := 4) (N := some 105) (v := ?_) (a' := ?_) #[true, true, true, true, true, true, true, false, false, false, false, false, false, false, false] rfl rfl (by kernel_rfl) (fun _ _ _ h => h) (Or.inl ⟨by rfl, ?_⟩) ?_ ?_
              rotate_left
              · intro w'
                go_simp
                with_reducible rfl
              rotate_left
              · simp only [Act.put, List.setIfInBounds_toArray, List.set_cons_zero, List.set_cons_succ]
                rfl
              refine pure_ (i := 7) (N := some 108) (v := ?_) (a' := ?_) #[true, true, true, true, true, true, true, true, false, false, false, false, false, false, false] rfl rfl (by kernel_rfl) (fun _ _ _ h => h) (Or.inl ⟨by rfl, ?_⟩) ?_ ?_
              rotate_left
              · intro w'
                go_simp
                with_reducible rfl
              rotate_left
              · simp only [Act.put, List.setIfInBounds_toArray, List.set_cons_zero, List.set_cons_succ]
                rfl
              refine pure_ (i := 8) (N := some 109) (v := undef) (a' := ?_) #[true, true, true, true, true, true, true, true, true, false, false, false, false, false, false] rfl rfl (by kernel_rfl) (fun _ _ _ h => h) (Or.inr ⟨by rfl, rfl⟩) ?_ ?_
              rotate_left
              · simp only [Act.put, List.setIfInBounds_toArray, List.set_cons_zero, List.set_cons_succ]
                rfl
              refine pure_ (i := 9) (N := some 110) (v := undef) (a' := ?_) #[true, true, true, true, true, true, true, true, true, true, false, false, false, false, false] rfl rfl (by kernel_rfl) (fun _ _ _ h => h) (Or.inr ⟨by rfl, rfl⟩) ?_ ?_
              rotate_left
              · simp only [Act.put, List.setIfInBounds_toArray, List.set_cons_zero, List.set_cons_succ]
                rfl
              refine pure_ (i := 10) (N := some 111) (v := undef) (a' := ?_) #[true, true, true, true, true, true, true, true, true, true, true, false, false, false, false] rfl rfl (by kernel_rfl) (fun _ _ _ h => h) (Or.inr ⟨by rfl, rfl⟩) ?_ ?_
              rotate_left
              · simp only [Act.put, List.setIfInBounds_toArray, List.set_cons_zero, List.set_cons_succ]
                rfl
              refine pure_ (i := 11) (N := some 112) (v := undef) (a' := ?_) #[true, true, true, true, true, true, true, true, true, true, true, true, false, false, false] rfl rfl (by kernel_rfl) (fun _ _ _ h => h) (Or.inr ⟨by rfl, rfl⟩) ?_ ?_
              rotate_left
              · simp only [Act.put, List.setIfInBounds_toArray, List.set_cons_zero, List.set_cons_succ]
                rfl
              refine pure_ (i := 12) (N := some 113) (v := undef) (a' := ?_) #[true, true, true, true, true, true, true, true, true, true, true, true, true, false, false] rfl rfl (by kernel_rfl) (fun _ _ _ h => h) (Or.inr ⟨by rfl, rfl⟩) ?_ ?_
              rotate_left
              · simp only [Act.put, List.setIfInBounds_toArray, List.set_cons_zero, List.set_cons_succ]
                rfl
              refine pure_ (i := 13) (N := some 114) (v := ?_) (a' := ?_) #[true, true, true, true, true, true, true, true, true, true, true, true, true, true, false] rfl rfl (by kernel_rfl) (fun _ _ _ h => h) (Or.inl ⟨by rfl, ?_⟩) ?_ ?_
              rotate_left
              · intro w'
                go_simp
                with_reducible rfl
              rotate_left
              · simp only [Act.put, List.setIfInBounds_toArray, List.set_cons_zero, List.set_cons_succ]
                rfl
              refine pure_ (i := 14) (N := some 115) (v := ?_) (a' := ?_) #[true, true, true, true, true, true, true, true, true, true, true, true, true, true, true] rfl rfl (by kernel_rfl) (fun _ _ _ h => h) (Or.inl ⟨by rfl, ?_⟩) ?_ ?_
              rotate_left
              · intro w'
                go_simp
                with_reducible rfl
              rotate_left
              · simp only [Act.put, List.setIfInBounds_toArray, List.set_cons_zero, List.set_cons_succ]
                rfl
              refine done_ (by kernel_rfl) ?_
              go_wp2
              go_roundw
              all_goals first | (exact ⟨4, by omega, by omega, rfl, ⟨hHeld⟩⟩) | (simp [intOf])
            · have hz := Hz4.out
              clear H1 Hz1 H2 Hz2 H3 Hz3
              go_wp2
              refine start_ (n := 15) (S := FeS w m1 m2 m3) (ds := []) #[false, false, false, false, false, false, false, false, false, false, false, false, false, false, false] (by kernel_rfl) rfl rfl (FeS.drew HS) (fun hHeld => ?_)
              clear HS
              refine take_ (i := 0) (N := some 101) (v := ?_) (a' := ?_) #[true, false, false, false, false, false, false, false, false, false, false, false, false, false, false] rfl rfl (by kernel_rfl) (fun _ _ _ h => h) (Or.inl ⟨by rfl, ?_⟩) hHeld ?_ ?_
              rotate_left
              · rintro w' ⟨_, _, k1, k2, k3⟩
                go_simp
                with_reducible rfl
              rotate_left
              · simp only [Act.put, List.setIfInBounds_toArray, List.set_cons_zero, List.set_cons_succ]
                rfl
              refine pure_ (i := 1) (N := some 102) (v := ?_) (a' := ?_) #[true, true, false, false, false, false, false, false, false, false, false, false, false, false, false] rfl rfl (by kernel_rfl) (fun _ _ _ h => h) (Or.inl ⟨by rfl, ?_⟩) ?_ ?_
              rotate_left
              · intro w'
                go_simp
                with_reducible rfl
              rotate_left
              · simp only [Act.put, List.setIfInBounds_toArray, List.set_cons_zero, List.set_cons_succ]
                rfl
              refine pure_ (i := 3) (N := some 104) (v := ?_) (a' := ?_) #[true, true, false, true, false, false, false, false, false, false, false, false, false, false, false] rfl rfl (by kernel_rfl) (fun _ _ _ h => h) (Or.inl ⟨by rfl, ?_⟩) ?_ ?_
              rotate_left
              · intro w'
                go_simp
                with_reducible rfl
              rotate_left
              · simp only [Act.put, List.setIfInBounds_toArray, List.set_cons_zero, List.set_cons_succ]
                rfl
              refine pure_ (i := 5) (N := some 106) (v := ?_) (a' := ?_) #[true, true, false, true, false, true, false, false, false, false, false, false, false, false, false] rfl rfl (by kernel_rfl) (fun _ _ _ h => h) (Or.inl ⟨by rfl, ?_⟩) ?_ ?_
              rotate_left
              · intro w'
                go_simp
                with_reducible rfl
              rotate_left
              · simp only [Act.put, List.setIfInBounds_toArray, List.set_cons_zero, List.set_cons_succ]
                rfl
              refine pure_ (i := 6) (N := some 107) (v := ?_) (a' := ?_) #[true, true, false, true, false, true, true, false, false, false, false, false, false, false, false] rfl rfl (by kernel_rfl) (fun _ _ _ h => h) (Or.inl ⟨by rfl, ?_⟩) ?_ ?_
              rotate_left
              · intro w'
                go_simp
                with_reducible rfl
              rotate_left
              · simp only [Act.put, List.setIfInBounds_toArray, List.set_cons_zero, List.set_cons_succ]
                rfl
              refine one_ (i := 2) (N := some 103) #[true, true, true, true, false, true, true, false, false, false, false, false, false, false, false] rfl rfl (by kernel_rfl) (by decide) (fun K_ hK => ?_)
              refine goes_ Try.func41 (by kernel_rfl) rfl #[.agg #[.int .i64 m1, .int .i64 m2, .int .i64 m3], .int .i64 4] (by rfl) rfl rfl (by (try simp only [List.map_toArray, List.map_cons, List.map_nil]); first | done | rfl) ?_
              with_reducible refine (H4.out _).mono ?_
              rintro e w2 ⟨rfl, hb⟩
              refine ⟨_, rfl, ?_⟩
              refine hK.out _ _ (FeS.keep hHeld hb) (fun hHeld => ?_)
              clear hK hb
              refine norm_ (a' := ?_) ?_ ?_
              rotate_left
              · show Act.put _ (some 103) _ = _
                simp only [Act.put, List.setIfInBounds_toArray, List.set_cons_zero, List.set_cons_succ]
                rfl
              refine pure_ (i := 4) (N := some 105) (v := ?_) (a' := ?_) #[true, true, true, true, true, true, true, false, false, false, false, false, false, false, false] rfl rfl (by kernel_rfl) (fun _ _ _ h => h) (Or.inl ⟨by rfl, ?_⟩) ?_ ?_
              rotate_left
              · intro w'
                go_simp
                with_reducible rfl
              rotate_left
              · simp only [Act.put, List.setIfInBounds_toArray, List.set_cons_zero, List.set_cons_succ]
                rfl
              refine pure_ (i := 7) (N := some 108) (v := ?_) (a' := ?_) #[true, true, true, true, true, true, true, true, false, false, false, false, false, false, false] rfl rfl (by kernel_rfl) (fun _ _ _ h => h) (Or.inl ⟨by rfl, ?_⟩) ?_ ?_
              rotate_left
              · intro w'
                go_simp
                with_reducible rfl
              rotate_left
              · simp only [Act.put, List.setIfInBounds_toArray, List.set_cons_zero, List.set_cons_succ]
                rfl
              refine pure_ (i := 8) (N := some 109) (v := undef) (a' := ?_) #[true, true, true, true, true, true, true, true, true, false, false, false, false, false, false] rfl rfl (by kernel_rfl) (fun _ _ _ h => h) (Or.inr ⟨by rfl, rfl⟩) ?_ ?_
              rotate_left
              · simp only [Act.put, List.setIfInBounds_toArray, List.set_cons_zero, List.set_cons_succ]
                rfl
              refine pure_ (i := 9) (N := some 110) (v := undef) (a' := ?_) #[true, true, true, true, true, true, true, true, true, true, false, false, false, false, false] rfl rfl (by kernel_rfl) (fun _ _ _ h => h) (Or.inr ⟨by rfl, rfl⟩) ?_ ?_
              rotate_left
              · simp only [Act.put, List.setIfInBounds_toArray, List.set_cons_zero, List.set_cons_succ]
                rfl
              refine pure_ (i := 10) (N := some 111) (v := undef) (a' := ?_) #[true, true, true, true, true, true, true, true, true, true, true, false, false, false, false] rfl rfl (by kernel_rfl) (fun _ _ _ h => h) (Or.inr ⟨by rfl, rfl⟩) ?_ ?_
              rotate_left
              · simp only [Act.put, List.setIfInBounds_toArray, List.set_cons_zero, List.set_cons_succ]
                rfl
              refine pure_ (i := 11) (N := some 112) (v := undef) (a' := ?_) #[true, true, true, true, true, true, true, true, true, true, true, true, false, false, false] rfl rfl (by kernel_rfl) (fun _ _ _ h => h) (Or.inr ⟨by rfl, rfl⟩) ?_ ?_
              rotate_left
              · simp only [Act.put, List.setIfInBounds_toArray, List.set_cons_zero, List.set_cons_succ]
                rfl
              refine pure_ (i := 12) (N := some 113) (v := undef) (a' := ?_) #[true, true, true, true, true, true, true, true, true, true, true, true, true, false, false] rfl rfl (by kernel_rfl) (fun _ _ _ h => h) (Or.inr ⟨by rfl, rfl⟩) ?_ ?_
              rotate_left
              · simp only [Act.put, List.setIfInBounds_toArray, List.set_cons_zero, List.set_cons_succ]
                rfl
              refine pure_ (i := 13) (N := some 114) (v := ?_) (a' := ?_) #[true, true, true, true, true, true, true, true, true, true, true, true, true, true, false] rfl rfl (by kernel_rfl) (fun _ _ _ h => h) (Or.inl ⟨by rfl, ?_⟩) ?_ ?_
              rotate_left
              · intro w'
                go_simp
                with_reducible rfl
              rotate_left
              · simp only [Act.put, List.setIfInBounds_toArray, List.set_cons_zero, List.set_cons_succ]
                rfl
              refine pure_ (i := 14) (N := some 115) (v := ?_) (a' := ?_) #[true, true, true, true, true, true, true, true, true, true, true, true, true, true, true] rfl rfl (by kernel_rfl) (fun _ _ _ h => h) (Or.inl ⟨by rfl, ?_⟩) ?_ ?_
              rotate_left
              · intro w'
                go_simp
                with_reducible rfl
              rotate_left
              · simp only [Act.put, List.setIfInBounds_toArray, List.set_cons_zero, List.set_cons_succ]
                rfl
              refine done_ (by kernel_rfl) ?_
              go_wp2
              go_roundw
              all_goals first | (exact ⟨5, by omega, by omega, rfl, ⟨hHeld⟩⟩) | (simp [intOf])
            · go_wp2_with (go_at_call 40; (with_reducible refine (Hl.out _).mono ?_); rintro e w5 ⟨rfl, hb5⟩; have HB5 := Aside0.mk (below_step HS.2.1.out hb5))
              go_ret
              exact ⟨rfl, HB5.out⟩
        · go_loopw [14] (fun i wx => ∃ k : Int, 1 ≤ k ∧ k ≤ 5 ∧ i = .int .i64 k ∧ Aside0 (FeS w m1 m2 m3 wx)) (fun i _ => (5 - intOf i).toNat)
          case atStart => exact ⟨1, by omega, by omega, rfl, HS4⟩
          case round =>
            obtain ⟨k, h1, h5, rfl, hF⟩ := hrel
            have HS := hF.out
            obtain ⟨_, _, k1, k2, k3⟩ := id HS
            rcases (show k = 1 ∨ k = 2 ∨ k = 3 ∨ k = 4 ∨ k = 5 by omega) with rfl | rfl | rfl | rfl | rfl
            · have hz := Hz1.out
              clear H2 Hz2 H3 Hz3 H4 Hz4
              go_wp2
              first | go_region_held3 (FeS w m1 m2 m3) (first | exact FeS.keep (by assumption) hb | exact FeS.drew HS | assumption) (first | (go_at_call 41; (with_reducible refine (H1.out _).mono ?_); rintro e w' ⟨rfl, hb⟩)) | fail
              all_goals (clear HS; rename_i HS)
              all_goals go_wp2
              all_goals go_roundw
              all_goals first | (exact ⟨2, by omega, by omega, rfl, ⟨HS⟩⟩) | (simp [intOf])
            · have hz := Hz2.out
              simp only [Bool.and_eq_true, beq_iff_eq] at hz
              obtain ⟨rfl, rfl, rfl⟩ := hz
              clear H1 Hz1 H3 Hz3 H4 Hz4
              go_wp2
              first | go_region_held3 (FeS w m1 m2 m3) (first | exact FeS.keep (by assumption) hb | exact FeS.drew HS | assumption) (first | (go_at_call 41; (with_reducible refine (H2.out _).mono ?_); rintro e w' ⟨rfl, hb⟩)) | fail
              all_goals (clear HS; rename_i HS)
              all_goals go_wp2
              all_goals go_roundw
              all_goals first | (exact ⟨3, by omega, by omega, rfl, ⟨HS⟩⟩) | (simp [intOf])
            · have hz := Hz3.out
              clear H1 Hz1 H2 Hz2 H4 Hz4
              go_wp2
              first | go_region_held3 (FeS w m1 m2 m3) (first | exact FeS.keep (by assumption) hb | exact FeS.drew HS | assumption) (first | (go_at_call 41; (with_reducible refine (H3.out _).mono ?_); rintro e w' ⟨rfl, hb⟩)) | fail
              all_goals (clear HS; rename_i HS)
              all_goals go_wp2
              all_goals go_roundw
              all_goals first | (exact ⟨4, by omega, by omega, rfl, ⟨HS⟩⟩) | (simp [intOf])
            · have hz := Hz4.out
              simp only [Bool.and_eq_true, beq_iff_eq] at hz
              obtain ⟨rfl, rfl, rfl⟩ := hz
              clear H1 Hz1 H2 Hz2 H3 Hz3
              go_wp2
              first | go_region_held3 (FeS w m1 m2 m3) (first | exact FeS.keep (by assumption) hb | exact FeS.drew HS | assumption) (first | (go_at_call 41; (with_reducible refine (H4.out _).mono ?_); rintro e w' ⟨rfl, hb⟩)) | fail
              all_goals (clear HS; rename_i HS)
              all_goals go_wp2
              all_goals go_roundw
              all_goals first | (exact ⟨5, by omega, by omega, rfl, ⟨HS⟩⟩) | (simp [intOf])
            · go_wp2_with (go_at_call 40; (with_reducible refine (Hl.out _).mono ?_); rintro e w5 ⟨rfl, hb5⟩; have HB5 := Aside0.mk (below_step HS.2.1.out hb5))
              go_ret
              exact ⟨rfl, HB5.out⟩
        · go_loopw [14] (fun i wx => ∃ k : Int, 1 ≤ k ∧ k ≤ 5 ∧ i = .int .i64 k ∧ Aside0 (FeS w m1 m2 m3 wx)) (fun i _ => (5 - intOf i).toNat)
          case atStart => exact ⟨1, by omega, by omega, rfl, HS4⟩
          case round =>
            obtain ⟨k, h1, h5, rfl, hF⟩ := hrel
            have HS := hF.out
            obtain ⟨_, _, k1, k2, k3⟩ := id HS
            rcases (show k = 1 ∨ k = 2 ∨ k = 3 ∨ k = 4 ∨ k = 5 by omega) with rfl | rfl | rfl | rfl | rfl
            · have hz := Hz1.out
              clear H2 Hz2 H3 Hz3 H4 Hz4
              go_wp2
              first | go_region_held3 (FeS w m1 m2 m3) (first | exact FeS.keep (by assumption) hb | exact FeS.drew HS | assumption) (first | (go_at_call 41; (with_reducible refine (H1.out _).mono ?_); rintro e w' ⟨rfl, hb⟩)) | fail
              all_goals (clear HS; rename_i HS)
              all_goals go_wp2
              all_goals go_roundw
              all_goals first | (exact ⟨2, by omega, by omega, rfl, ⟨HS⟩⟩) | (simp [intOf])
            · have hz := Hz2.out
              clear H1 Hz1 H3 Hz3 H4 Hz4
              go_wp2
              first | go_region_held3 (FeS w m1 m2 m3) (first | exact FeS.keep (by assumption) hb | exact FeS.drew HS | assumption) (first | (go_at_call 41; (with_reducible refine (H2.out _).mono ?_); rintro e w' ⟨rfl, hb⟩)) | fail
              all_goals (clear HS; rename_i HS)
              all_goals go_wp2
              all_goals go_roundw
              all_goals first | (exact ⟨3, by omega, by omega, rfl, ⟨HS⟩⟩) | (simp [intOf])
            · have hz := Hz3.out
              clear H1 Hz1 H2 Hz2 H4 Hz4
              go_wp2
              first | go_region_held3 (FeS w m1 m2 m3) (first | exact FeS.keep (by assumption) hb | exact FeS.drew HS | assumption) (first | (go_at_call 41; (with_reducible refine (H3.out _).mono ?_); rintro e w' ⟨rfl, hb⟩)) | fail
              all_goals (clear HS; rename_i HS)
              all_goals go_wp2
              all_goals go_roundw
              all_goals first | (exact ⟨4, by omega, by omega, rfl, ⟨HS⟩⟩) | (simp [intOf])
            · have hz := Hz4.out
              simp only [Bool.and_eq_true, beq_iff_eq] at hz
              obtain ⟨rfl, rfl, rfl⟩ := hz
              clear H1 Hz1 H2 Hz2 H3 Hz3
              go_wp2
              first | go_region_held3 (FeS w m1 m2 m3) (first | exact FeS.keep (by assumption) hb | exact FeS.drew HS | assumption) (first | (go_at_call 41; (with_reducible refine (H4.out _).mono ?_); rintro e w' ⟨rfl, hb⟩)) | fail
              all_goals (clear HS; rename_i HS)
              all_goals go_wp2
              all_goals go_roundw
              all_goals first | (exact ⟨5, by omega, by omega, rfl, ⟨HS⟩⟩) | (simp [intOf])
            · go_wp2_with (go_at_call 40; (with_reducible refine (Hl.out _).mono ?_); rintro e w5 ⟨rfl, hb5⟩; have HB5 := Aside0.mk (below_step HS.2.1.out hb5))
              go_ret
              exact ⟨rfl, HB5.out⟩
end Go.Proofs.Ytbkcdfiokjhcjaa.P
