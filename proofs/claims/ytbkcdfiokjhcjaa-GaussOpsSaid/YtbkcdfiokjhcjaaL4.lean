/- GaussOps: sums, differences, products and mirrors are the document's. -/
import Derived.Test.YtbkcdfiokjhcjaaGP
import Derived.Test.YtbkcdfiokjhcjaaF24
import Derived.Deep.RegionHeld3
set_option linter.unusedVariables false
set_option linter.unusedSimpArgs false
namespace Go.Proofs.Ytbkcdfiokjhcjaa.P
open Go.Proofs.Ytbkcdfiokjhcjaa.B Go.RowKit Go.Proofs.Ytbkcdfiokjhcjaa.Pure Go.Proofs.YtbkcdfiokjhcjaaW.PrintWords Go.Proofs.YtbkcdfiokjhcjaaW.PrintLast Go.Proofs.YtbkcdfiokjhcjaaW.PrintMore
attribute [local go_sem high] eqA23
abbrev Two (w0 : World) (g : Nat) (x1 y1 x2 y2 : Int) (w' : World) : Prop :=
  Aside0 (w'.heap[g]? = some (.cells #[.int .i64 x1, .int .i64 y1] 23 (0, 0))) ∧ Aside0 (w'.heap[g + 1]? = some (.cells #[.int .i64 x2, .int .i64 y2] 23 (0, 0))) ∧ Aside0 (Below w0.heap.size w0 w') ∧ w'.cell? ⟨g, 0, none⟩ = some (.int .i64 x1) ∧ w'.cell? ⟨g, 1, none⟩ = some (.int .i64 y1) ∧ w'.cell? ⟨g + 1, 0, none⟩ = some (.int .i64 x2) ∧ w'.cell? ⟨g + 1, 1, none⟩ = some (.int .i64 y2)
theorem Two.mk {w0 : World} {g : Nat} {x1 y1 x2 y2 : Int} {w' : World} (h1 : w'.heap[g]? = some (.cells #[.int .i64 x1, .int .i64 y1] 23 (0, 0))) (h2 : w'.heap[g + 1]? = some (.cells #[.int .i64 x2, .int .i64 y2] 23 (0, 0))) (hB : Below w0.heap.size w0 w') : Two w0 g x1 y1 x2 y2 w' :=
  ⟨⟨h1⟩, ⟨h2⟩, ⟨hB⟩, blk_cell h1 0, blk_cell h1 1, blk_cell h2 0, blk_cell h2 1⟩
theorem Two.keep {w0 : World} {g : Nat} {x1 y1 x2 y2 : Int} {w1 w2 : World} (h : Two w0 g x1 y1 x2 y2 w1) (hb : Below w1.heap.size w1 w2) : Two w0 g x1 y1 x2 y2 w2 :=
  Two.mk (blk_keep h.1.out hb) (blk_keep h.2.1.out hb) (below_step h.2.2.1.out hb)
theorem Two.drew {w0 : World} {g : Nat} {x1 y1 x2 y2 : Int} {w1 : World} (h : Two w0 g x1 y1 x2 y2 w1) : Two w0 g x1 y1 x2 y2 w1.drew :=
  Two.mk h.1.out h.2.1.out (below_drew h.2.2.1.out)
theorem Two.new (w : World) (x1 y1 x2 y2 : Int) : Two w w.heap.size x1 y1 x2 y2 ((w.alloc (.cells #[.int .i64 x1, .int .i64 y1] 23)).alloc (.cells #[.int .i64 x2, .int .i64 y2] 23)) := by
  have a1 := blk_new w (.cells #[.int .i64 x1, .int .i64 y1] 23)
  have a2 := blk_new (w.alloc (.cells #[.int .i64 x1, .int .i64 y1] 23)) (.cells #[.int .i64 x2, .int .i64 y2] 23)
  rw [alloc_size] at a2
  exact Two.mk (blk_keep a1 (below_alloc (Below.refl _ _) _)) a2 (below_alloc (below_alloc (Below.refl _ _) _) _)
theorem conj_ref (x y : Int) : tallymanref03_Conj.f x y = some (fx x, -fx y) := by
  have h2 := fx_le y
  unfold tallymanref03_Conj.f
  rw [fix_ref]
  simp only [Option.bind_some]
  rw [w64 (x := -fx y) (by omega) (by omega)]
set_option maxHeartbeats 4000000 in
set_option maxRecDepth 100000 in
theorem ops_calls (x1 y1 x2 y2 : Int) (w : World) : Calls Try.prog 4 #[.agg #[.int .i64 x1, .int .i64 y1], .agg #[.int .i64 x2, .int .i64 y2]] w fun e w' => e = .returned (.bool true) ∧ Below w.heap.size w w' := by
  have HS := Two.new w x1 y1 x2 y2
  have HF := fun W => Aside0.mk (fix_calls x1 y1 W)
  have HFr := fun W => Aside0.mk (tallymanref03_Fix.calls x1 y1 _ _ W (fix_ref x1 y1))
  have HA := fun W => Aside0.mk (add_calls x1 y1 x2 y2 W)
  have HAr := fun W => Aside0.mk (tallymanref03_Add.calls x1 y1 x2 y2 _ _ W (add_ref x1 y1 x2 y2))
  have HD := fun W => Aside0.mk (sub_calls x1 y1 x2 y2 W)
  have HDr := fun W => Aside0.mk (tallymanref03_Sub.calls x1 y1 x2 y2 _ _ W (sub_ref x1 y1 x2 y2))
  have HM := fun W => Aside0.mk (mul_calls x1 y1 x2 y2 W)
  have HMr := fun W => Aside0.mk (tallymanref03_Mul.calls x1 y1 x2 y2 _ _ W (mul_ref x1 y1 x2 y2))
  have HC := fun W => Aside0.mk (conj_calls x1 y1 W)
  have HCr := fun W => Aside0.mk (tallymanref03_Conj.calls x1 y1 _ _ W (conj_ref x1 y1))
  unfold AggPost at HF HA HD HM HC
  generalize fx x1 * fx x2 - fx y1 * fx y2 = m1 at HM HMr
  generalize fx x1 * fx y2 + fx y1 * fx x2 = m2 at HM HMr
  generalize fx x1 + fx x2 = s1 at HA HAr
  generalize fx y1 + fx y2 = s2 at HA HAr
  generalize fx x1 - fx x2 = d1 at HD HDr
  generalize fx y1 - fx y2 = d2 at HD HDr
  generalize -fx y1 = n1 at HC HCr
  generalize fx x1 = f1 at HF HFr HC HCr
  generalize fx y1 = f2 at HF HFr
  go_enter Try.func4, Try.ntmps4
  go_wp2
  go_region_held3 (Two w w.heap.size x1 y1 x2 y2)
    (first | exact Two.keep (by assumption) hb | exact Two.drew HS)
    (first | (go_at_call 19; (with_reducible refine ((HF _).out).mono ?_); rintro e w' ⟨rfl, hb⟩) | (go_at_call 20; (with_reducible refine ((HFr _).out).mono ?_); rintro e w' ⟨rfl, hb⟩) | (go_at_call 14; (with_reducible refine ((HA _).out).mono ?_); rintro e w' ⟨rfl, hb⟩) | (go_at_call 21; (with_reducible refine ((HAr _).out).mono ?_); rintro e w' ⟨rfl, hb⟩) | (go_at_call 16; (with_reducible refine ((HD _).out).mono ?_); rintro e w' ⟨rfl, hb⟩) | (go_at_call 22; (with_reducible refine ((HDr _).out).mono ?_); rintro e w' ⟨rfl, hb⟩) | (go_at_call 15; (with_reducible refine ((HM _).out).mono ?_); rintro e w' ⟨rfl, hb⟩) | (go_at_call 23; (with_reducible refine ((HMr _).out).mono ?_); rintro e w' ⟨rfl, hb⟩) | (go_at_call 18; (with_reducible refine ((HC _).out).mono ?_); rintro e w' ⟨rfl, hb⟩) | (go_at_call 24; (with_reducible refine ((HCr _).out).mono ?_); rintro e w' ⟨rfl, hb⟩) | (go_at_call 13; (with_reducible refine (tallymanlaw03_alive.calls true _ alive3).mono ?_); rintro e w' ⟨rfl, hb⟩))
  all_goals go_wp2
  all_goals go_ret
  all_goals refine ⟨?_, (show Two _ _ _ _ _ _ _ by assumption).2.2.1.out⟩
  all_goals simp
def tallymanlaw03_GaussOps.Pure : Prop := True
theorem tallymanlaw03_GaussOps.walk (P : tallymanlaw03_GaussOps.Pure) (a0_0 a0_1 a1_0 a1_1 : Int) (w : World) (w0_0 : (Lit.int .i64 a0_0).wf = true) (w0_1 : (Lit.int .i64 a0_1).wf = true) (w1_0 : (Lit.int .i64 a1_0).wf = true) (w1_1 : (Lit.int .i64 a1_1).wf = true) :
    Calls Try.prog 4 #[.agg #[.int .i64 a0_0, .int .i64 a0_1], .agg #[.int .i64 a1_0, .int .i64 a1_1]] w fun e w' => e = .returned (.bool true) ∧ Below w.heap.size w w' := ops_calls _ _ _ _ w
end Go.Proofs.Ytbkcdfiokjhcjaa.P
