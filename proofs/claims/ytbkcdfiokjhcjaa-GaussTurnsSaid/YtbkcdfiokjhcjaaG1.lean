import Derived.Test.YtbkcdfiokjhcjaaFX
import Derived.Test.YtbkcdfiokjhcjaaP0
import Derived.Test.YtbkcdfiokjhcjaaH
import Derived.RegionTactic
namespace Go.Proofs.Ytbkcdfiokjhcjaa.P
open Go.RowKit Go.Proofs.YtbkcdfiokjhcjaaW.PrintWords Go.Proofs.YtbkcdfiokjhcjaaW.PrintLast Go.Proofs.YtbkcdfiokjhcjaaW.PrintMore Go.Proofs.Ytbkcdfiokjhcjaa.FX
attribute [local go_sem] max2_int min2_int max_two min_two max_three min_three max_four min_four
set_option linter.unusedVariables false
set_option linter.unusedSimpArgs false
/-- A part that counts. -/
def fx (n : Int) : Int := if (if 1048576 < n then 1048576 else n) < -1048576 then -1048576 else (if 1048576 < n then 1048576 else n)
theorem fx_le (n : Int) : -1048576 ≤ fx n ∧ fx n ≤ 1048576 := by unfold fx; split <;> split <;> omega
set_option maxRecDepth 100000 in
theorem plane_calls (x y : Int) (w : World) : Calls Try.prog 52 #[.agg #[.int .i64 x, .int .i64 y]] w fun e w' => e = .returned (.complex .f64 (floatOfInt .f64 (fx x)) (floatOfInt .f64 (fx y))) ∧ Below w.heap.size w w' := by
  obtain ⟨fX, hX⟩ : ∃ f, fx x = f := ⟨_, rfl⟩
  obtain ⟨fY, hY⟩ : ∃ f, fx y = f := ⟨_, rfl⟩
  rw [hX, hY]
  unfold fx at hX hY
  obtain ⟨mX, h1⟩ : ∃ m, (if 1048576 < x then 1048576 else x) = m := ⟨_, rfl⟩
  obtain ⟨mY, h2⟩ : ∃ m, (if 1048576 < y then 1048576 else y) = m := ⟨_, rfl⟩
  rw [h1] at hX
  rw [h2] at hY
  go_enter Try.func52, Try.ntmps52
  go_wp2
  go_ret
  exact ⟨rfl, below_alloc (Below.refl _ _) _⟩
set_option maxRecDepth 100000 in
theorem point_calls (a b : Nat) (x y : Int) (w : World) (ha : floatToIntVal .f64 a .i64 = some x) (hb : floatToIntVal .f64 b .i64 = some y) : Calls Try.prog 51 #[.complex .f64 a b] w fun e w' => e = .returned (.agg #[.int .i64 x, .int .i64 y]) ∧ Below w.heap.size w w' := by
  have e1 : ∀ W : World, (convert 55 3 (.float .f64 a)).run Try.prog W = .ok (.int .i64 x) W := fun W => run_convert_float_int W 55 3 .f64 .i64 a x (by rw [Try.underlying55]; rfl) Try.underlying3 ha
  have e2 : ∀ W : World, (convert 55 3 (.float .f64 b)).run Try.prog W = .ok (.int .i64 y) W := fun W => run_convert_float_int W 55 3 .f64 .i64 b y (by rw [Try.underlying55]; rfl) Try.underlying3 hb
  go_enter Try.func51, Try.ntmps51
  go_wp2
  refine bodyPost_ret (results_cell_row rfl _ _ w.heap.size 23 #[.int .i64 x, .int .i64 y] (0, 0) _ rfl (blk_new w _) Try.underlying23 rfl (by kernel_rfl)) rfl ?_
  exact ⟨rfl, below_alloc (Below.refl _ _) _⟩
theorem point_at {a b : Nat} {x y : Int} (w : World) (ha : IsF a x) (hb : IsF b y) (hx : x.natAbs < 2 ^ 53) (hy : y.natAbs < 2 ^ 53) : Calls Try.prog 51 #[.complex .f64 a b] w fun e w' => e = .returned (.agg #[.int .i64 x, .int .i64 y]) ∧ Below w.heap.size w w' :=
  point_calls a b x y w (isF_int ha (by omega) (by omega)) (isF_int hb (by omega) (by omega))
theorem fx_isF (n : Int) : IsF (floatOfInt .f64 (fx n)) (fx n) := isF_of _ (by have := fx_le n; omega)
theorem blk_keep {w w' : World} {g : Nat} {o : Obj} (h : w.heap[g]? = some o) (hb : Below w.heap.size w w') : w'.heap[g]? = some o := (hb.block g (Array.getElem?_eq_some_iff.1 h).1).trans h
theorem alloc_size (w : World) (o : Obj) : (w.alloc o).heap.size = w.heap.size + 1 := by simp
def AggPost (x y : Int) (w : World) (e : Ending) (w' : World) : Prop := e = .returned (.agg #[.int .i64 x, .int .i64 y]) ∧ Below w.heap.size w w'
set_option maxRecDepth 100000 in
theorem fix_calls (x y : Int) (w : World) : Calls Try.prog 19 #[.agg #[.int .i64 x, .int .i64 y]] w (AggPost (fx x) (fx y) w) := by
  have hx := fx_le x
  have hy := fx_le y
  have HP := fun W => Aside0.mk (point_at (a := floatOfInt .f64 (fx x)) (b := floatOfInt .f64 (fx y)) W (fx_isF x) (fx_isF y) (by omega) (by omega))
  clear hx hy
  go_enter Try.func19, Try.ntmps19
  go_wp2_with (first | (go_at_call 52; (with_reducible refine (plane_calls x y _).mono ?_); rintro e w1 ⟨rfl, hb1⟩; have HB1 := Aside0.mk hb1; clear hb1) | (go_at_call 51; (with_reducible refine ((HP _).out).mono ?_); rintro e w2 ⟨rfl, hb2⟩; have hbk := blk_keep (blk_keep (blk_new (w.alloc (.cells #[.int .i64 x, .int .i64 y] 23)) (.cells #[.int .i64 0, .int .i64 0] 23)) HB1.out) hb2; rw [alloc_size] at hbk; have HBK := Aside0.mk hbk; have hc0 := blk_cell hbk 0; have hc1 := blk_cell hbk 1; have hf0 := blk_frozen hbk 0; have hf1 := blk_frozen hbk 1; have HB2 := Aside0.mk (below_step (below_step (below_alloc (below_alloc (Below.refl w.heap.size w) _) _) HB1.out) hb2); clear hb2 hbk HB1))
  refine bodyPost_ret (results_cell_row rfl _ _ (w.heap.size + 1) 23 #[.int .i64 (fx x), .int .i64 (fx y)] (0, 0) _ rfl (blk_put (cs := #[.int .i64 (fx x), .int .i64 0]) (blk_put (cs := #[.int .i64 0, .int .i64 0]) HBK.out 0 _ rfl) 1 _ rfl) Try.underlying23 rfl (by kernel_rfl)) rfl ?_
  exact ⟨rfl, below_set (below_set HB2.out (by simp)) (by simp)⟩
end Go.Proofs.Ytbkcdfiokjhcjaa.P
