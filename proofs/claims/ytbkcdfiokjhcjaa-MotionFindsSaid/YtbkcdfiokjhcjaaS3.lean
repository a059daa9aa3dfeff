/- Several texts in one. -/
import Derived.Test.YtbkcdfiokjhcjaaFX
import Derived.Test.YtbkcdfiokjhcjaaP0
import Derived.Test.YtbkcdfiokjhcjaaH
import Derived.RegionTactic
import Derived.Test.YtbkcdfiokjhcjaaB
namespace Go.Proofs.Ytbkcdfiokjhcjaa.P
open Go.RowKit Go.Proofs.YtbkcdfiokjhcjaaW.PrintWords Go.Proofs.YtbkcdfiokjhcjaaW.PrintLast Go.Proofs.YtbkcdfiokjhcjaaW.PrintMore Go.Proofs.Ytbkcdfiokjhcjaa.FX
attribute [local go_sem] max2_int min2_int max_two min_two max_three min_three max_four min_four
set_option linter.unusedVariables false
set_option linter.unusedSimpArgs false
/-- A part that counts. -/
def fx (n : Int) : Int := if (if 1048576 < n then 1048576 else n) < -1048576 then -1048576 else (if 1048576 < n then 1048576 else n)
theorem fx_le (n : Int) : -1048576 ≤ fx n ∧ fx n ≤ 1048576 := by unfold fx; split <;> split <;> omega
set_option maxRecDepth 100000 in
theorem plane_calls (x y : Int) (w : World) : Calls Try.prog 52 #[.agg #[.int .i64 x, .int .i64 y]] w fun e w' => e = .returned (.complex .f64 (floatOfInt .f64 (fx x)) (floatOfInt .f64 (fx y))) ∧ Below w.heap.size w w' := by
  obtain ⟨fX, hX⟩ : ∃ f, fx x = f := ⟨_, rfl⟩
  obtain ⟨fY, hY⟩ : ∃ f, fx y = f := ⟨_, rfl⟩
  rw [hX, hY]
  unfold fx at hX hY
  obtain ⟨mX, h1⟩ : ∃ m, (if 1048576 < x then 1048576 else x) = m := ⟨_, rfl⟩
  obtain ⟨mY, h2⟩ : ∃ m, (if 1048576 < y then 1048576 else y) = m := ⟨_, rfl⟩
  rw [h1] at hX
  rw [h2] at hY
  go_enter Try.func52, Try.ntmps52
  go_wp2
  go_ret
  exact ⟨rfl, below_alloc (Below.refl _ _) _⟩
set_option maxRecDepth 100000 in
theorem point_calls (a b : Nat) (x y : Int) (w : World) (ha : floatToIntVal .f64 a .i64 = some x) (hb : floatToIntVal .f64 b .i64 = some y) : Calls Try.prog 51 #[.complex .f64 a b] w fun e w' => e = .returned (.agg #[.int .i64 x, .int .i64 y]) ∧ Below w.heap.size w w' := by
  have e1 : ∀ W : World, (convert 55 3 (.float .f64 a)).run Try.prog W = .ok (.int .i64 x) W := fun W => run_convert_float_int W 55 3 .f64 .i64 a x (by rw [Try.underlying55]; rfl) Try.underlying3 ha
  have e2 : ∀ W : World, (convert 55 3 (.float .f64 b)).run Try.prog W = .ok (.int .i64 y) W := fun W => run_convert_float_int W 55 3 .f64 .i64 b y (by rw [Try.underlying55]; rfl) Try.underlying3 hb
  go_enter Try.func51, Try.ntmps51
  go_wp2
  refine bodyPost_ret (results_cell_row rfl _ _ w.heap.size 23 #[.int .i64 x, .int .i64 y] (0, 0) _ rfl (blk_new w _) Try.underlying23 rfl (by kernel_rfl)) rfl ?_
  exact ⟨rfl, below_alloc (Below.refl _ _) _⟩
theorem point_at {a b : Nat} {x y : Int} (w : World) (ha : IsF a x) (hb : IsF b y) (hx : x.natAbs < 2 ^ 53) (hy : y.natAbs < 2 ^ 53) : Calls Try.prog 51 #[.complex .f64 a b] w fun e w' => e = .returned (.agg #[.int .i64 x, .int .i64 y]) ∧ Below w.heap.size w w' :=
  point_calls a b x y w (isF_int ha (by omega) (by omega)) (isF_int hb (by omega) (by omega))
theorem fx_isF (n : Int) : IsF (floatOfInt .f64 (fx n)) (fx n) := isF_of _ (by have := fx_le n; omega)
theorem blk_keep {w w' : World} {g : Nat} {o : Obj} (h : w.heap[g]? = some o) (hb : Below w.heap.size w w') : w'.heap[g]? = some o := (hb.block g (Array.getElem?_eq_some_iff.1 h).1).trans h
theorem alloc_size (w : World) (o : Obj) : (w.alloc o).heap.size = w.heap.size + 1 := by simp
def AggPost (x y : Int) (w : World) (e : Ending) (w' : World) : Prop := e = .returned (.agg #[.int .i64 x, .int .i64 y]) ∧ Below w.heap.size w w'
set_option maxRecDepth 100000 in
theorem fix_calls (x y : Int) (w : World) : Calls Try.prog 19 #[.agg #[.int .i64 x, .int .i64 y]] w (AggPost (fx x) (fx y) w) := by
  have hx := fx_le x
  have hy := fx_le y
  have HP := fun W => Aside0.mk (point_at (a := floatOfInt .f64 (fx x)) (b := floatOfInt .f64 (fx y)) W (fx_isF x) (fx_isF y) (by omega) (by omega))
  clear hx hy
  go_enter Try.func19, Try.ntmps19
  go_wp2_with (first | (go_at_call 52; (with_reducible refine (plane_calls x y _).mono ?_); rintro e w1 ⟨rfl, hb1⟩; have HB1 := Aside0.mk hb1; clear hb1) | (go_at_call 51; (with_reducible refine ((HP _).out).mono ?_); rintro e w2 ⟨rfl, hb2⟩; have hbk := blk_keep (blk_keep (blk_new (w.alloc (.cells #[.int .i64 x, .int .i64 y] 23)) (.cells #[.int .i64 0, .int .i64 0] 23)) HB1.out) hb2; rw [alloc_size] at hbk; have HBK := Aside0.mk hbk; have hc0 := blk_cell hbk 0; have hc1 := blk_cell hbk 1; have hf0 := blk_frozen hbk 0; have hf1 := blk_frozen hbk 1; have HB2 := Aside0.mk (below_step (below_step (below_alloc (below_alloc (Below.refl w.heap.size w) _) _) HB1.out) hb2); clear hb2 hbk HB1))
  refine bodyPost_ret (results_cell_row rfl _ _ (w.heap.size + 1) 23 #[.int .i64 (fx x), .int .i64 (fx y)] (0, 0) _ rfl (blk_put (cs := #[.int .i64 (fx x), .int .i64 0]) (blk_put (cs := #[.int .i64 0, .int .i64 0]) HBK.out 0 _ rfl) 1 _ rfl) Try.underlying23 rfl (by kernel_rfl)) rfl ?_
  exact ⟨rfl, below_set (below_set HB2.out (by simp)) (by simp)⟩
end Go.Proofs.Ytbkcdfiokjhcjaa.P

namespace Go.Proofs.Ytbkcdfiokjhcjaa.P
open Go.RowKit Go.Proofs.YtbkcdfiokjhcjaaW.PrintWords Go.Proofs.YtbkcdfiokjhcjaaW.PrintLast Go.Proofs.YtbkcdfiokjhcjaaW.PrintMore Go.Proofs.Ytbkcdfiokjhcjaa.FX
set_option linter.unusedVariables false
set_option linter.unusedSimpArgs false
/-- Two boxed points and the cell of a result. -/
abbrev BoxS (w0 : World) (g : Nat) (x1 y1 x2 y2 : Int) (w' : World) : Prop :=
  Aside0 (w'.heap[g]? = some (.cells #[.int .i64 x1, .int .i64 y1] 23 (0, 0))) ∧ Aside0 (w'.heap[g + 1]? = some (.cells #[.int .i64 x2, .int .i64 y2] 23 (0, 0))) ∧ Aside0 (w'.heap[g + 2]? = some (.cells #[.int .i64 0, .int .i64 0] 23 (0, 0))) ∧ Aside0 (Below w0.heap.size w0 w') ∧
  w'.cell? ⟨g, 0, none⟩ = some (.int .i64 x1) ∧ w'.cell? ⟨g, 1, none⟩ = some (.int .i64 y1) ∧ w'.cell? ⟨g + 1, 0, none⟩ = some (.int .i64 x2) ∧ w'.cell? ⟨g + 1, 1, none⟩ = some (.int .i64 y2) ∧ w'.cell? ⟨g + 2, 0, none⟩ = some (.int .i64 0) ∧ w'.cell? ⟨g + 2, 1, none⟩ = some (.int .i64 0) ∧ w'.frozen? ⟨g + 2, 0, none⟩ = false ∧ w'.frozen? ⟨g + 2, 1, none⟩ = false
theorem box_mk {w0 : World} {g : Nat} {x1 y1 x2 y2 : Int} {w' : World} (h1 : w'.heap[g]? = some (.cells #[.int .i64 x1, .int .i64 y1] 23 (0, 0))) (h2 : w'.heap[g + 1]? = some (.cells #[.int .i64 x2, .int .i64 y2] 23 (0, 0))) (h3 : w'.heap[g + 2]? = some (.cells #[.int .i64 0, .int .i64 0] 23 (0, 0))) (h4 : Below w0.heap.size w0 w') : BoxS w0 g x1 y1 x2 y2 w' :=
  ⟨⟨h1⟩, ⟨h2⟩, ⟨h3⟩, ⟨h4⟩, blk_cell h1 0, blk_cell h1 1, blk_cell h2 0, blk_cell h2 1, blk_cell h3 0, blk_cell h3 1, blk_frozen h3 0, blk_frozen h3 1⟩
theorem box_keep {w0 : World} {g : Nat} {x1 y1 x2 y2 : Int} {w1 w2 : World} (h : BoxS w0 g x1 y1 x2 y2 w1) (hb : Below w1.heap.size w1 w2) : BoxS w0 g x1 y1 x2 y2 w2 :=
  box_mk (blk_keep h.1.out hb) (blk_keep h.2.1.out hb) (blk_keep h.2.2.1.out hb) (below_step h.2.2.2.1.out hb)
theorem box_drew {w0 : World} {g : Nat} {x1 y1 x2 y2 : Int} {w1 : World} (h : BoxS w0 g x1 y1 x2 y2 w1) : BoxS w0 g x1 y1 x2 y2 w1.drew :=
  box_mk h.1.out h.2.1.out h.2.2.1.out (below_drew h.2.2.2.1.out)
theorem box_new (w : World) (x1 y1 x2 y2 : Int) : BoxS w w.heap.size x1 y1 x2 y2 (((w.alloc (.cells #[.int .i64 x1, .int .i64 y1] 23)).alloc (.cells #[.int .i64 x2, .int .i64 y2] 23)).alloc (.cells #[.int .i64 0, .int .i64 0] 23)) := by
  have a1 := blk_new w (.cells #[.int .i64 x1, .int .i64 y1] 23)
  have a2 := blk_new (w.alloc (.cells #[.int .i64 x1, .int .i64 y1] 23)) (.cells #[.int .i64 x2, .int .i64 y2] 23)
  have a3 := blk_new ((w.alloc (.cells #[.int .i64 x1, .int .i64 y1] 23)).alloc (.cells #[.int .i64 x2, .int .i64 y2] 23)) (.cells #[.int .i64 0, .int .i64 0] 23)
  rw [alloc_size] at a2
  rw [alloc_size, alloc_size] at a3
  exact box_mk (blk_keep (blk_keep a1 (below_alloc (Below.refl _ _) _)) (below_alloc (Below.refl _ _) _)) (blk_keep a2 (below_alloc (Below.refl _ _) _)) a3 (below_alloc (below_alloc (below_alloc (Below.refl _ _) _) _) _)
theorem mul_le (x y : Int) : -1099511627776 ≤ fx x * fx y ∧ fx x * fx y ≤ 1099511627776 := by
  have h1 := fx_le x
  have h2 := fx_le y
  have h3 : (fx x).natAbs * (fx y).natAbs ≤ 1048576 * 1048576 := Nat.mul_le_mul (by omega) (by omega)
  rw [← Int.natAbs_mul] at h3
  omega
set_option maxHeartbeats 1000000 in
set_option maxRecDepth 100000 in
theorem add_calls (x1 y1 x2 y2 : Int) (w : World) : Calls Try.prog 14 #[.agg #[.int .i64 x1, .int .i64 y1], .agg #[.int .i64 x2, .int .i64 y2]] w (AggPost (fx x1 + fx x2) (fx y1 + fx y2) w) := by
  have b1 := fx_le x1
  have b2 := fx_le y1
  have b3 := fx_le x2
  have b4 := fx_le y2
  obtain ⟨re, f1, hre⟩ := isF_add (fx_isF x1) (fx_isF x2) (by omega)
  obtain ⟨im, f2, him⟩ := isF_add (fx_isF y1) (fx_isF y2) (by omega)
  have hA : (fx x1 + fx x2).natAbs < 2 ^ 53 := by omega
  have hB : (fx y1 + fx y2).natAbs < 2 ^ 53 := by omega
  have HP := fun W => Aside0.mk (point_at W hre him hA hB)
  have hrun : ∀ W : World, (binOp .add 53 (.complex .f64 (floatOfInt .f64 (fx x1)) (floatOfInt .f64 (fx y1))) (.complex .f64 (floatOfInt .f64 (fx x2)) (floatOfInt .f64 (fx y2)))).run Try.prog W = .ok (.complex .f64 re im) W := fun W => run_complex_sum W .add (.inl rfl) 53 .f64 _ _ _ _ re im (by unfold cSumBits; rw [f1, Option.bind_some, f2, Option.bind_some])
  have HS := box_new w x1 y1 x2 y2
  obtain ⟨X, hX⟩ : ∃ X, (fx x1 + fx x2) = X := ⟨_, rfl⟩
  obtain ⟨Y, hY⟩ : ∃ Y, (fx y1 + fx y2) = Y := ⟨_, rfl⟩
  rw [hX, hY] at HP
  rw [hX, hY]
  clear hX hY hre him
  go_enter Try.func14, Try.ntmps14
  go_wp2
  refine start_ (n := 7) (S := BoxS w w.heap.size x1 y1 x2 y2) (ds := [6]) #[false, false, false, false, false, false, false] (by kernel_rfl) rfl rfl (box_drew HS) (fun hHeld => ?_)
  clear HS
  refine take_ (i := 0) (N := some 5) (v := ?_) (a' := ?_) #[true, false, false, false, false, false, false] rfl rfl (by kernel_rfl) (fun _ _ _ h => h) (Or.inl ⟨by rfl, ?_⟩) hHeld ?_ ?_
  rotate_left
  · rintro w' ⟨_, _, _, _, k1, k2, k3, k4, k5, k6, k7, k8⟩
    go_simp
    with_reducible rfl
  rotate_left
  · simp only [Act.put, List.setIfInBounds_toArray, List.set_cons_zero, List.set_cons_succ]
    rfl
  refine take_ (i := 2) (N := some 7) (v := ?_) (a' := ?_) #[true, false, true, false, false, false, false] rfl rfl (by kernel_rfl) (fun _ _ _ h => h) (Or.inl ⟨by rfl, ?_⟩) hHeld ?_ ?_
  rotate_left
  · rintro w' ⟨_, _, _, _, k1, k2, k3, k4, k5, k6, k7, k8⟩
    go_simp
    with_reducible rfl
  rotate_left
  · simp only [Act.put, List.setIfInBounds_toArray, List.set_cons_zero, List.set_cons_succ]
    rfl
  refine one_ (i := 1) (N := some 6) #[true, true, true, false, false, false, false] rfl rfl (by kernel_rfl) (by decide) (fun K hK => ?_)
  refine goes_ Try.func52 (by kernel_rfl) rfl #[.agg #[.int .i64 x1, .int .i64 y1]] (by rfl) rfl rfl (by (try simp only [List.map_toArray, List.map_cons, List.map_nil]); first | done | rfl) ?_
  with_reducible refine (plane_calls x1 y1 _).mono ?_
  rintro e w2 ⟨rfl, hb⟩
  refine ⟨_, rfl, ?_⟩
  have hHeld2 := box_keep hHeld hb
  clear hHeld hb
  refine hK.out _ _ hHeld2 (fun hHeld => ?_)
  clear hK hHeld2
  refine norm_ (a' := ?_) ?_ ?_
  rotate_left
  · show Act.put _ (some 6) _ = _
    simp only [Act.put, List.setIfInBounds_toArray, List.set_cons_zero, List.set_cons_succ]
    rfl
  refine one_ (i := 3) (N := some 8) #[true, true, true, true, false, false, false] rfl rfl (by kernel_rfl) (by decide) (fun K hK => ?_)
  refine goes_ Try.func52 (by kernel_rfl) rfl #[.agg #[.int .i64 x2, .int .i64 y2]] (by rfl) rfl rfl (by (try simp only [List.map_toArray, List.map_cons, List.map_nil]); first | done | rfl) ?_
  with_reducible refine (plane_calls x2 y2 _).mono ?_
  rintro e w2 ⟨rfl, hb⟩
  refine ⟨_, rfl, ?_⟩
  have hHeld2 := box_keep hHeld hb
  clear hHeld hb
  refine hK.out _ _ hHeld2 (fun hHeld => ?_)
  clear hK hHeld2
  refine norm_ (a' := ?_) ?_ ?_
  rotate_left
  · show Act.put _ (some 8) _ = _
    simp only [Act.put, List.setIfInBounds_toArray, List.set_cons_zero, List.set_cons_succ]
    rfl
  refine pure_ (i := 4) (N := some 9) (v := ?_) (a' := ?_) #[true, true, true, true, true, false, false] rfl rfl (by kernel_rfl) (fun _ _ _ h => h) (Or.inl ⟨by rfl, ?_⟩) ?_ ?_
  rotate_left
  · intro w'
    go_simp
    with_reducible rfl
  rotate_left
  · simp only [Act.put, List.setIfInBounds_toArray, List.set_cons_zero, List.set_cons_succ]
    rfl
  refine one_ (i := 5) (N := some 10) #[true, true, true, true, true, true, false] rfl rfl (by kernel_rfl) (by decide) (fun K hK => ?_)
  refine goes_ Try.func51 (by kernel_rfl) rfl #[.complex .f64 re im] (by rfl) rfl rfl (by (try simp only [List.map_toArray, List.map_cons, List.map_nil]); first | done | rfl) ?_
  with_reducible refine ((HP _).out).mono ?_
  rintro e w2 ⟨rfl, hb⟩
  refine ⟨_, rfl, ?_⟩
  have hHeld2 := box_keep hHeld hb
  clear hHeld hb
  refine hK.out _ _ hHeld2 (fun hHeld => ?_)
  clear hK hHeld2
  refine norm_ (a' := ?_) ?_ ?_
  rotate_left
  · show Act.put _ (some 10) _ = _
    simp only [Act.put, List.setIfInBounds_toArray, List.set_cons_zero, List.set_cons_succ]
    rfl
  refine last_ (i := 6) (N := none) #[true, true, true, true, true, true, true] rfl rfl (by kernel_rfl) (by decide) (fun K hK => ?_)
  obtain ⟨_, _, HR, HB, k1, k2, k3, k4, k5, k6, k7, k8⟩ := hHeld
  rw [if_pos (by rfl)]
  go_wp2
  refine hK.out _ _ ?_
  refine done_ (by kernel_rfl) ?_
  go_wp2
  refine bodyPost_ret (results_cell_row rfl _ _ (w.heap.size + 2) 23 #[.int .i64 X, .int .i64 Y] (0, 0) _ rfl (blk_put (cs := #[.int .i64 X, .int .i64 0]) (blk_put (cs := #[.int .i64 0, .int .i64 0]) HR.out 0 _ rfl) 1 _ rfl) Try.underlying23 rfl (by kernel_rfl)) rfl ?_
  exact ⟨rfl, below_set (below_set HB.out (by omega)) (by omega)⟩
set_option maxHeartbeats 1000000 in
set_option maxRecDepth 100000 in
theorem sub_calls (x1 y1 x2 y2 : Int) (w : World) : Calls Try.prog 16 #[.agg #[.int .i64 x1, .int .i64 y1], .agg #[.int .i64 x2, .int .i64 y2]] w (AggPost (fx x1 - fx x2) (fx y1 - fx y2) w) := by
  have b1 := fx_le x1
  have b2 := fx_le y1
  have b3 := fx_le x2
  have b4 := fx_le y2
  obtain ⟨re, f1, hre⟩ := isF_sub (fx_isF x1) (fx_isF x2) (by omega)
  obtain ⟨im, f2, him⟩ := isF_sub (fx_isF y1) (fx_isF y2) (by omega)
  have hA : (fx x1 - fx x2).natAbs < 2 ^ 53 := by omega
  have hB : (fx y1 - fx y2).natAbs < 2 ^ 53 := by omega
  have HP := fun W => Aside0.mk (point_at W hre him hA hB)
  have hrun : ∀ W : World, (binOp .sub 53 (.complex .f64 (floatOfInt .f64 (fx x1)) (floatOfInt .f64 (fx y1))) (.complex .f64 (floatOfInt .f64 (fx x2)) (floatOfInt .f64 (fx y2)))).run Try.prog W = .ok (.complex .f64 re im) W := fun W => run_complex_sum W .sub (.inr rfl) 53 .f64 _ _ _ _ re im (by unfold cSumBits; rw [f1, Option.bind_some, f2, Option.bind_some])
  have HS := box_new w x1 y1 x2 y2
  obtain ⟨X, hX⟩ : ∃ X, (fx x1 - fx x2) = X := ⟨_, rfl⟩
  obtain ⟨Y, hY⟩ : ∃ Y, (fx y1 - fx y2) = Y := ⟨_, rfl⟩
  rw [hX, hY] at HP
  rw [hX, hY]
  clear hX hY hre him
  go_enter Try.func16, Try.ntmps16
  go_wp2
  refine start_ (n := 7) (S := BoxS w w.heap.size x1 y1 x2 y2) (ds := [6]) #[false, false, false, false, false, false, false] (by kernel_rfl) rfl rfl (box_drew HS) (fun hHeld => ?_)
  clear HS
  refine take_ (i := 0) (N := some 5) (v := ?_) (a' := ?_) #[true, false, false, false, false, false, false] rfl rfl (by kernel_rfl) (fun _ _ _ h => h) (Or.inl ⟨by rfl, ?_⟩) hHeld ?_ ?_
  rotate_left
  · rintro w' ⟨_, _, _, _, k1, k2, k3, k4, k5, k6, k7, k8⟩
    go_simp
    with_reducible rfl
  rotate_left
  · simp only [Act.put, List.setIfInBounds_toArray, List.set_cons_zero, List.set_cons_succ]
    rfl
  refine take_ (i := 2) (N := some 7) (v := ?_) (a' := ?_) #[true, false, true, false, false, false, false] rfl rfl (by kernel_rfl) (fun _ _ _ h => h) (Or.inl ⟨by rfl, ?_⟩) hHeld ?_ ?_
  rotate_left
  · rintro w' ⟨_, _, _, _, k1, k2, k3, k4, k5, k6, k7, k8⟩
    go_simp
    with_reducible rfl
  rotate_left
  · simp only [Act.put, List.setIfInBounds_toArray, List.set_cons_zero, List.set_cons_succ]
    rfl
  refine one_ (i := 1) (N := some 6) #[true, true, true, false, false, false, false] rfl rfl (by kernel_rfl) (by decide) (fun K hK => ?_)
  refine goes_ Try.func52 (by kernel_rfl) rfl #[.agg #[.int .i64 x1, .int .i64 y1]] (by rfl) rfl rfl (by (try simp only [List.map_toArray, List.map_cons, List.map_nil]); first | done | rfl) ?_
  with_reducible refine (plane_calls x1 y1 _).mono ?_
  rintro e w2 ⟨rfl, hb⟩
  refine ⟨_, rfl, ?_⟩
  have hHeld2 := box_keep hHeld hb
  clear hHeld hb
  refine hK.out _ _ hHeld2 (fun hHeld => ?_)
  clear hK hHeld2
  refine norm_ (a' := ?_) ?_ ?_
  rotate_left
  · show Act.put _ (some 6) _ = _
    simp only [Act.put, List.setIfInBounds_toArray, List.set_cons_zero, List.set_cons_succ]
    rfl
  refine one_ (i := 3) (N := some 8) #[true, true, true, true, false, false, false] rfl rfl (by kernel_rfl) (by decide) (fun K hK => ?_)
  refine goes_ Try.func52 (by kernel_rfl) rfl #[.agg #[.int .i64 x2, .int .i64 y2]] (by rfl) rfl rfl (by (try simp only [List.map_toArray, List.map_cons, List.map_nil]); first | done | rfl) ?_
  with_reducible refine (plane_calls x2 y2 _).mono ?_
  rintro e w2 ⟨rfl, hb⟩
  refine ⟨_, rfl, ?_⟩
  have hHeld2 := box_keep hHeld hb
  clear hHeld hb
  refine hK.out _ _ hHeld2 (fun hHeld => ?_)
  clear hK hHeld2
  refine norm_ (a' := ?_) ?_ ?_
  rotate_left
  · show Act.put _ (some 8) _ = _
    simp only [Act.put, List.setIfInBounds_toArray, List.set_cons_zero, List.set_cons_succ]
    rfl
  refine pure_ (i := 4) (N := some 9) (v := ?_) (a' := ?_) #[true, true, true, true, true, false, false] rfl rfl (by kernel_rfl) (fun _ _ _ h => h) (Or.inl ⟨by rfl, ?_⟩) ?_ ?_
  rotate_left
  · intro w'
    go_simp
    with_reducible rfl
  rotate_left
  · simp only [Act.put, List.setIfInBounds_toArray, List.set_cons_zero, List.set_cons_succ]
    rfl
  refine one_ (i := 5) (N := some 10) #[true, true, true, true, true, true, false] rfl rfl (by kernel_rfl) (by decide) (fun K hK => ?_)
  refine goes_ Try.func51 (by kernel_rfl) rfl #[.complex .f64 re im] (by rfl) rfl rfl (by (try simp only [List.map_toArray, List.map_cons, List.map_nil]); first | done | rfl) ?_
  with_reducible refine ((HP _).out).mono ?_
  rintro e w2 ⟨rfl, hb⟩
  refine ⟨_, rfl, ?_⟩
  have hHeld2 := box_keep hHeld hb
  clear hHeld hb
  refine hK.out _ _ hHeld2 (fun hHeld => ?_)
  clear hK hHeld2
  refine norm_ (a' := ?_) ?_ ?_
  rotate_left
  · show Act.put _ (some 10) _ = _
    simp only [Act.put, List.setIfInBounds_toArray, List.set_cons_zero, List.set_cons_succ]
    rfl
  refine last_ (i := 6) (N := none) #[true, true, true, true, true, true, true] rfl rfl (by kernel_rfl) (by decide) (fun K hK => ?_)
  obtain ⟨_, _, HR, HB, k1, k2, k3, k4, k5, k6, k7, k8⟩ := hHeld
  rw [if_pos (by rfl)]
  go_wp2
  refine hK.out _ _ ?_
  refine done_ (by kernel_rfl) ?_
  go_wp2
  refine bodyPost_ret (results_cell_row rfl _ _ (w.heap.size + 2) 23 #[.int .i64 X, .int .i64 Y] (0, 0) _ rfl (blk_put (cs := #[.int .i64 X, .int .i64 0]) (blk_put (cs := #[.int .i64 0, .int .i64 0]) HR.out 0 _ rfl) 1 _ rfl) Try.underlying23 rfl (by kernel_rfl)) rfl ?_
  exact ⟨rfl, below_set (below_set HB.out (by omega)) (by omega)⟩
set_option maxHeartbeats 1000000 in
set_option maxRecDepth 100000 in
theorem mul_calls (x1 y1 x2 y2 : Int) (w : World) : Calls Try.prog 15 #[.agg #[.int .i64 x1, .int .i64 y1], .agg #[.int .i64 x2, .int .i64 y2]] w (AggPost (fx x1 * fx x2 - fx y1 * fx y2) (fx x1 * fx y2 + fx y1 * fx x2) w) := by
  have b1 := fx_le x1
  have b2 := fx_le y1
  have b3 := fx_le x2
  have b4 := fx_le y2
  have m1 := mul_le x1 x2
  have m2 := mul_le y1 y2
  have m3 := mul_le x1 y2
  have m4 := mul_le y1 x2
  obtain ⟨p1, f1, h1⟩ := isF_mul (fx_isF x1) (fx_isF x2) (by omega)
  obtain ⟨p2, f2, h2⟩ := isF_mul (fx_isF y1) (fx_isF y2) (by omega)
  obtain ⟨re, f3, hre⟩ := isF_sub h1 h2 (by omega)
  obtain ⟨p3, f4, h3⟩ := isF_mul (fx_isF x1) (fx_isF y2) (by omega)
  obtain ⟨p4, f5, h4⟩ := isF_mul (fx_isF y1) (fx_isF x2) (by omega)
  obtain ⟨im, f6, him⟩ := isF_add h3 h4 (by omega)
  have hA : (fx x1 * fx x2 - fx y1 * fx y2).natAbs < 2 ^ 53 := by omega
  have hB : (fx x1 * fx y2 + fx y1 * fx x2).natAbs < 2 ^ 53 := by omega
  clear h1 h2 h3 h4 m1 m2 m3 m4
  have HP := fun W => Aside0.mk (point_at W hre him hA hB)
  have hrun : ∀ W : World, (binOp .mul 53 (.complex .f64 (floatOfInt .f64 (fx x1)) (floatOfInt .f64 (fx y1))) (.complex .f64 (floatOfInt .f64 (fx x2)) (floatOfInt .f64 (fx y2)))).run Try.prog W = .ok (.complex .f64 re im) W := fun W => run_complex_mul W 53 _ _ _ _ re im (by unfold cMulBits; rw [f1, Option.bind_some, f2, Option.bind_some, f3, Option.bind_some, f4, Option.bind_some, f5, Option.bind_some, f6, Option.bind_some])
  have HS := box_new w x1 y1 x2 y2
  obtain ⟨X, hX⟩ : ∃ X, (fx x1 * fx x2 - fx y1 * fx y2) = X := ⟨_, rfl⟩
  obtain ⟨Y, hY⟩ : ∃ Y, (fx x1 * fx y2 + fx y1 * fx x2) = Y := ⟨_, rfl⟩
  rw [hX, hY] at HP
  rw [hX, hY]
  clear hX hY hre him
  go_enter Try.func15, Try.ntmps15
  go_wp2
  refine start_ (n := 7) (S := BoxS w w.heap.size x1 y1 x2 y2) (ds := [6]) #[false, false, false, false, false, false, false] (by kernel_rfl) rfl rfl (box_drew HS) (fun hHeld => ?_)
  clear HS
  refine take_ (i := 0) (N := some 5) (v := ?_) (a' := ?_) #[true, false, false, false, false, false, false] rfl rfl (by kernel_rfl) (fun _ _ _ h => h) (Or.inl ⟨by rfl, ?_⟩) hHeld ?_ ?_
  rotate_left
  · rintro w' ⟨_, _, _, _, k1, k2, k3, k4, k5, k6, k7, k8⟩
    go_simp
    with_reducible rfl
  rotate_left
  · simp only [Act.put, List.setIfInBounds_toArray, List.set_cons_zero, List.set_cons_succ]
    rfl
  refine take_ (i := 2) (N := some 7) (v := ?_) (a' := ?_) #[true, false, true, false, false, false, false] rfl rfl (by kernel_rfl) (fun _ _ _ h => h) (Or.inl ⟨by rfl, ?_⟩) hHeld ?_ ?_
  rotate_left
  · rintro w' ⟨_, _, _, _, k1, k2, k3, k4, k5, k6, k7, k8⟩
    go_simp
    with_reducible rfl
  rotate_left
  · simp only [Act.put, List.setIfInBounds_toArray, List.set_cons_zero, List.set_cons_succ]
    rfl
  refine one_ (i := 1) (N := some 6) #[true, true, true, false, false, false, false] rfl rfl (by kernel_rfl) (by decide) (fun K hK => ?_)
  refine goes_ Try.func52 (by kernel_rfl) rfl #[.agg #[.int .i64 x1, .int .i64 y1]] (by rfl) rfl rfl (by (try simp only [List.map_toArray, List.map_cons, List.map_nil]); first | done | rfl) ?_
  with_reducible refine (plane_calls x1 y1 _).mono ?_
  rintro e w2 ⟨rfl, hb⟩
  refine ⟨_, rfl, ?_⟩
  have hHeld2 := box_keep hHeld hb
  clear hHeld hb
  refine hK.out _ _ hHeld2 (fun hHeld => ?_)
  clear hK hHeld2
  refine norm_ (a' := ?_) ?_ ?_
  rotate_left
  · show Act.put _ (some 6) _ = _
    simp only [Act.put, List.setIfInBounds_toArray, List.set_cons_zero, List.set_cons_succ]
    rfl
  refine one_ (i := 3) (N := some 8) #[true, true, true, true, false, false, false] rfl rfl (by kernel_rfl) (by decide) (fun K hK => ?_)
  refine goes_ Try.func52 (by kernel_rfl) rfl #[.agg #[.int .i64 x2, .int .i64 y2]] (by rfl) rfl rfl (by (try simp only [List.map_toArray, List.map_cons, List.map_nil]); first | done | rfl) ?_
  with_reducible refine (plane_calls x2 y2 _).mono ?_
  rintro e w2 ⟨rfl, hb⟩
  refine ⟨_, rfl, ?_⟩
  have hHeld2 := box_keep hHeld hb
  clear hHeld hb
  refine hK.out _ _ hHeld2 (fun hHeld => ?_)
  clear hK hHeld2
  refine norm_ (a' := ?_) ?_ ?_
  rotate_left
  · show Act.put _ (some 8) _ = _
    simp only [Act.put, List.setIfInBounds_toArray, List.set_cons_zero, List.set_cons_succ]
    rfl
  refine pure_ (i := 4) (N := some 9) (v := ?_) (a' := ?_) #[true, true, true, true, true, false, false] rfl rfl (by kernel_rfl) (fun _ _ _ h => h) (Or.inl ⟨by rfl, ?_⟩) ?_ ?_
  rotate_left
  · intro w'
    go_simp
    with_reducible rfl
  rotate_left
  · simp only [Act.put, List.setIfInBounds_toArray, List.set_cons_zero, List.set_cons_succ]
    rfl
  refine one_ (i := 5) (N := some 10) #[true, true, true, true, true, true, false] rfl rfl (by kernel_rfl) (by decide) (fun K hK => ?_)
  refine goes_ Try.func51 (by kernel_rfl) rfl #[.complex .f64 re im] (by rfl) rfl rfl (by (try simp only [List.map_toArray, List.map_cons, List.map_nil]); first | done | rfl) ?_
  with_reducible refine ((HP _).out).mono ?_
  rintro e w2 ⟨rfl, hb⟩
  refine ⟨_, rfl, ?_⟩
  have hHeld2 := box_keep hHeld hb
  clear hHeld hb
  refine hK.out _ _ hHeld2 (fun hHeld => ?_)
  clear hK hHeld2
  refine norm_ (a' := ?_) ?_ ?_
  rotate_left
  · show Act.put _ (some 10) _ = _
    simp only [Act.put, List.setIfInBounds_toArray, List.set_cons_zero, List.set_cons_succ]
    rfl
  refine last_ (i := 6) (N := none) #[true, true, true, true, true, true, true] rfl rfl (by kernel_rfl) (by decide) (fun K hK => ?_)
  obtain ⟨_, _, HR, HB, k1, k2, k3, k4, k5, k6, k7, k8⟩ := hHeld
  rw [if_pos (by rfl)]
  go_wp2
  refine hK.out _ _ ?_
  refine done_ (by kernel_rfl) ?_
  go_wp2
  refine bodyPost_ret (results_cell_row rfl _ _ (w.heap.size + 2) 23 #[.int .i64 X, .int .i64 Y] (0, 0) _ rfl (blk_put (cs := #[.int .i64 X, .int .i64 0]) (blk_put (cs := #[.int .i64 0, .int .i64 0]) HR.out 0 _ rfl) 1 _ rfl) Try.underlying23 rfl (by kernel_rfl)) rfl ?_
  exact ⟨rfl, below_set (below_set HB.out (by omega)) (by omega)⟩
theorem xor_mod2 (a b : Nat) : (a ^^^ b) % 2 = (a + b) % 2 := by
  have h := Nat.xor_mod_two_pow (a := a) (b := b) (n := 1)
  simp only [Nat.pow_one] at h
  rw [h]
  rcases Nat.mod_two_eq_zero_or_one a with ha | ha <;> rcases Nat.mod_two_eq_zero_or_one b with hb | hb <;> rw [ha, hb] <;> simp <;> omega
theorem negF_read (b : Nat) : Ieee.double.read (Op.negFloat .f64 b) = match Ieee.double.read b with | .number s m p => .number (!s) m p | .infinity s => .infinity (!s) | .nan s f => .nan (!s) f := by
  have hW : Ieee.double.signWeight = 2 ^ 63 := by decide
  have e1 : Op.negFloat .f64 b % 2 ^ 63 = b % 2 ^ 63 := by
    show (b ^^^ 2 ^ 63) % 2 ^ 63 = _
    rw [Nat.xor_mod_two_pow, Nat.mod_self, Nat.xor_zero]
  have e2 : (Op.negFloat .f64 b / 2 ^ 63 % 2 == 1) = !(b / 2 ^ 63 % 2 == 1) := by
    show ((b ^^^ 2 ^ 63) / 2 ^ 63 % 2 == 1) = _
    rw [Nat.xor_div_two_pow, Nat.div_self (by decide)]
    have : (b / 2 ^ 63 ^^^ 1) % 2 = (b / 2 ^ 63 + 1) % 2 := xor_mod2 _ _
    rw [this]
    rcases Nat.mod_two_eq_zero_or_one (b / 2 ^ 63) with h | h
    · rw [h, Nat.add_mod, h]; rfl
    · rw [h, Nat.add_mod, h]; rfl
  unfold Ieee.Format.read
  simp only [hW, e1, e2]
  split
  · rfl
  · split
    · rfl
    · split <;> rfl
theorem negF_isF {b : Nat} {n : Int} (h : IsF b n) : IsF (Op.negFloat .f64 b) (-n) := by
  obtain ⟨s, m, p, hd, hv, hs⟩ := h
  unfold IsF
  rw [negF_read, hd]
  exact opp_val ⟨s, m, p, rfl, hv, hs⟩
set_option maxRecDepth 100000 in
theorem mirror_calls (a b : Nat) (w : World) : Calls Try.prog 53 #[.complex .f64 a b] w fun e w' => e = .returned (.complex .f64 a (Op.negFloat .f64 b)) ∧ Below w.heap.size w w' := by
  have hneg : ∀ W : World, (Op.unary .neg (.float .f64 b)).run Try.prog W = .ok (.float .f64 (Op.negFloat .f64 b)) W := fun W => rfl
  go_enter Try.func53, Try.ntmps53
  go_wp2
  go_ret
  exact ⟨rfl, Below.refl _ _⟩
set_option maxRecDepth 100000 in
theorem conj_calls (x y : Int) (w : World) : Calls Try.prog 18 #[.agg #[.int .i64 x, .int .i64 y]] w (AggPost (fx x) (-fx y) w) := by
  have hx := fx_le x
  have hy := fx_le y
  have HP := fun W => Aside0.mk (point_at (a := floatOfInt .f64 (fx x)) (b := Op.negFloat .f64 (floatOfInt .f64 (fx y))) W (fx_isF x) (negF_isF (fx_isF y)) (by omega) (by omega))
  obtain ⟨X, hX⟩ : ∃ X, fx x = X := ⟨_, rfl⟩
  obtain ⟨Y, hY⟩ : ∃ Y, -fx y = Y := ⟨_, rfl⟩
  have HPP : ∀ W : World, Aside0 (Calls Try.prog 51 #[.complex .f64 (floatOfInt .f64 (fx x)) (Op.negFloat .f64 (floatOfInt .f64 (fx y)))] W fun e w' => e = .returned (.agg #[.int .i64 X, .int .i64 Y]) ∧ Below W.heap.size W w') := fun W => by have := HP W; rw [hY] at this; subst hX; exact this
  rw [hX, hY]
  clear hx hy HP hX hY
  go_enter Try.func18, Try.ntmps18
  go_wp2_with (first | (go_at_call 52; (with_reducible refine (plane_calls x y _).mono ?_); rintro e w1 ⟨rfl, hb1⟩; have HB1 := Aside0.mk hb1; clear hb1) | (go_at_call 53; (with_reducible refine (mirror_calls _ _ _).mono ?_); rintro e w3 ⟨rfl, hb3⟩; have HB3 := Aside0.mk hb3; clear hb3) | (go_at_call 51; (with_reducible refine ((HPP _).out).mono ?_); rintro e w2 ⟨rfl, hb2⟩; have hbk := blk_keep (blk_keep (blk_keep (blk_new (w.alloc (.cells #[.int .i64 x, .int .i64 y] 23)) (.cells #[.int .i64 0, .int .i64 0] 23)) HB1.out) HB3.out) hb2; rw [alloc_size] at hbk; have HBK := Aside0.mk hbk; have hc0 := blk_cell hbk 0; have hc1 := blk_cell hbk 1; have hf0 := blk_frozen hbk 0; have hf1 := blk_frozen hbk 1; have HB2 := Aside0.mk (below_step (below_step (below_step (below_alloc (below_alloc (Below.refl w.heap.size w) _) _) HB1.out) HB3.out) hb2); clear hb2 hbk HB1 HB3))
  refine bodyPost_ret (results_cell_row rfl _ _ (w.heap.size + 1) 23 #[.int .i64 X, .int .i64 Y] (0, 0) _ rfl (blk_put (cs := #[.int .i64 X, .int .i64 0]) (blk_put (cs := #[.int .i64 0, .int .i64 0]) HBK.out 0 _ rfl) 1 _ rfl) Try.underlying23 rfl (by kernel_rfl)) rfl ?_
  exact ⟨rfl, below_set (below_set HB2.out (by simp)) (by simp)⟩
set_option maxHeartbeats 1000000 in
set_option maxRecDepth 100000 in
theorem norm_calls (x y : Int) (w : World) : Calls Try.prog 17 #[.agg #[.int .i64 x, .int .i64 y]] w fun e w' => e = .returned (.int .i64 (fx x * fx x + fx y * fx y)) ∧ Below w.heap.size w w' := by
  have b1 := fx_le x
  have b2 := fx_le y
  have m1 := mul_le x x
  have m2 := mul_le y y
  have m3 := mul_le x y
  have m4 := mul_le y x
  have n2 : fx y * -fx y = -(fx y * fx y) := Int.mul_neg _ _
  have n3 : fx x * -fx y = -(fx x * fx y) := Int.mul_neg _ _
  obtain ⟨p1, f1, h1⟩ := isF_mul (fx_isF x) (fx_isF x) (by omega)
  obtain ⟨p2, f2, h2⟩ := isF_mul (fx_isF y) (negF_isF (fx_isF y)) (by omega)
  obtain ⟨re, f3, hre⟩ := isF_sub h1 h2 (by omega)
  obtain ⟨p3, f4, h3⟩ := isF_mul (fx_isF x) (negF_isF (fx_isF y)) (by omega)
  obtain ⟨p4, f5, h4⟩ := isF_mul (fx_isF y) (fx_isF x) (by omega)
  obtain ⟨im, f6, him⟩ := isF_add h3 h4 (by omega)
  have hn : fx x * fx x - fx y * -fx y = fx x * fx x + fx y * fx y := by omega
  rw [hn] at hre
  have hv := isF_int hre (by omega) (by omega)
  have hrun : ∀ W : World, (binOp .mul 53 (.complex .f64 (floatOfInt .f64 (fx x)) (floatOfInt .f64 (fx y))) (.complex .f64 (floatOfInt .f64 (fx x)) (Op.negFloat .f64 (floatOfInt .f64 (fx y))))).run Try.prog W = .ok (.complex .f64 re im) W := fun W => run_complex_mul W 53 _ _ _ _ re im (by unfold cMulBits; rw [f1, Option.bind_some, f2, Option.bind_some, f3, Option.bind_some, f4, Option.bind_some, f5, Option.bind_some, f6, Option.bind_some])
  obtain ⟨X, hX⟩ : ∃ X, fx x * fx x + fx y * fx y = X := ⟨_, rfl⟩
  rw [hX] at hv ⊢
  have e1 : ∀ W : World, (convert 55 3 (.float .f64 re)).run Try.prog W = .ok (.int .i64 X) W := fun W => run_convert_float_int W 55 3 .f64 .i64 re X (by rw [Try.underlying55]; rfl) Try.underlying3 hv
  clear h1 h2 h3 h4 m1 m2 m3 m4 n2 n3 hn hre him hX hv b1 b2 f1 f2 f3 f4 f5 f6
  go_enter Try.func17, Try.ntmps17
  go_wp2_with (first | (go_at_call 52; (with_reducible refine (plane_calls x y _).mono ?_); rintro e w1 ⟨rfl, hb1⟩; have HB1 := Aside0.mk hb1; clear hb1) | (go_at_call 53; (with_reducible refine (mirror_calls _ _ _).mono ?_); rintro e w3 ⟨rfl, hb3⟩; have HB3 := Aside0.mk hb3; clear hb3))
  all_goals go_ret
  all_goals exact ⟨rfl, below_step (below_step (below_alloc (Below.refl w.heap.size w) _) HB1.out) HB3.out⟩
end Go.Proofs.Ytbkcdfiokjhcjaa.P

namespace Go.Proofs.Ytbkcdfiokjhcjaa.P
open Go.Proofs.Ytbkcdfiokjhcjaa.B Go.RowKit Go.Proofs.YtbkcdfiokjhcjaaW.PrintWords Go.Proofs.YtbkcdfiokjhcjaaW.PrintLast Go.Proofs.YtbkcdfiokjhcjaaW.PrintMore Go.Proofs.Ytbkcdfiokjhcjaa.FX Go.Proofs.Ytbkcdfiokjhcjaa.H
set_option linter.unusedVariables false
set_option linter.unusedSimpArgs false
theorem and_three (n : Int) : bits .and .i64 n 3 = n % 4 := by
  show IntKind.i64.wrap (((BitVec.ofInt 64 n &&& BitVec.ofInt 64 3).toNat : Nat) : Int) = _
  rw [BitVec.toNat_and, BitVec.toNat_ofInt, BitVec.toNat_ofInt, show ((3 : Int) % ((2 ^ 64 : Nat) : Int)).toNat = 2 ^ 2 - 1 from by decide, Nat.and_two_pow_sub_one_eq_mod, wrap_i64]
  unfold wrap64
  omega
def rot : Nat → Int → Int → Int × Int
  | 0, x, y => (x, y)
  | m + 1, x, y => rot m (-y) x
theorem isF_zero : IsF 0 0 := ⟨false, 0, -1074, by decide, by rw [Int.natAbs_zero, Nat.zero_mul, Nat.zero_mul], fun h => absurd rfl h⟩
theorem isF_one : IsF 4607182418800017408 1 := ⟨false, 2 ^ 52, -52, by decide, by decide, fun _ => rfl⟩
/-- A quarter. -/
theorem quarter {a b : Nat} {x y : Int} (ha : IsF a x) (hb : IsF b y) (hx : x.natAbs ≤ 1048576) (hy : y.natAbs ≤ 1048576) : ∃ re im, IsF re (-y) ∧ IsF im x ∧ ∀ (P : Program) (t : TypeId) (W : World), (binOp .mul t (.complex .f64 a b) (.complex .f64 0 4607182418800017408)).run P W = .ok (.complex .f64 re im) W := by
  obtain ⟨p1, f1, h1⟩ := isF_mul ha isF_zero (by omega)
  obtain ⟨p2, f2, h2⟩ := isF_mul hb isF_one (by omega)
  obtain ⟨re, f3, hre⟩ := isF_sub h1 h2 (by omega)
  obtain ⟨p3, f4, h3⟩ := isF_mul ha isF_one (by omega)
  obtain ⟨p4, f5, h4⟩ := isF_mul hb isF_zero (by omega)
  obtain ⟨im, f6, him⟩ := isF_add h3 h4 (by omega)
  refine ⟨re, im, ?_, ?_, fun P t W => run_complex_mul W t _ _ _ _ re im (by unfold cMulBits; rw [f1, Option.bind_some, f2, Option.bind_some, f3, Option.bind_some, f4, Option.bind_some, f5, Option.bind_some, f6, Option.bind_some])⟩
  · rw [show x * 0 - y * 1 = -y from by omega] at hre; exact hre
  · rw [show x * 1 + y * 0 = x from by omega] at him; exact him
set_option maxHeartbeats 2000000 in
set_option maxRecDepth 100000 in
theorem turn_calls (x y n : Int) (w : World) : Calls Try.prog 25 #[.agg #[.int .i64 x, .int .i64 y], .int .i64 n] w (AggPost (rot (n % 4).toNat (fx x) (fx y)).1 (rot (n % 4).toNat (fx x) (fx y)).2 w) := by
  obtain ⟨m0, hm0⟩ : ∃ m : Nat, n % 4 = m := ⟨(n % 4).toNat, by omega⟩
  have hm4 : m0 < 4 := by omega
  have hand := and_three n
  rw [hm0] at hand
  rw [hm0, Int.toNat_natCast]
  obtain ⟨X, Y, hR⟩ : ∃ X Y, rot m0 (fx x) (fx y) = (X, Y) := ⟨_, _, rfl⟩
  rw [hR]
  have hx := fx_le x
  have hy := fx_le y
  have HR := Aside0.mk hR; clear hR hm0
  have HX := Aside0.mk (show (fx x).natAbs ≤ 1048576 by omega)
  have HY := Aside0.mk (show (fx y).natAbs ≤ 1048576 by omega)
  have HFX := Aside0.mk (fx_isF x)
  have HFY := Aside0.mk (fx_isF y)
  clear hx hy
  obtain ⟨pa, hpa⟩ : ∃ pa, floatOfInt .f64 (fx x) = pa := ⟨_, rfl⟩
  obtain ⟨pb, hpb⟩ : ∃ pb, floatOfInt .f64 (fx y) = pb := ⟨_, rfl⟩
  have HPL := fun W => Aside0.mk (plane_calls x y W)
  rw [hpa] at HFX HPL
  rw [hpb] at HFY HPL
  obtain ⟨FX0, hFX0⟩ : ∃ f, fx x = f := ⟨_, rfl⟩
  obtain ⟨FY0, hFY0⟩ : ∃ f, fx y = f := ⟨_, rfl⟩
  rw [hFX0] at HFX HX HR
  rw [hFY0] at HFY HY HR
  clear hpa hpb hFX0 hFY0
  go_enter Try.func25, Try.ntmps25
  go_wp2
  refine wp_scope_enter 0 rfl ?_
  go_wp2_with (go_at_call 52; (with_reducible refine ((HPL _).out).mono ?_); rintro e w1 ⟨rfl, hb1⟩; have HB1 := Aside0.mk hb1; have hbk := blk_keep (blk_new (w.alloc (.cells #[.int .i64 x, .int .i64 y] 23)) (.cells #[.int .i64 0, .int .i64 0] 23)) hb1; rw [alloc_size] at hbk; have HBK := Aside0.mk hbk; clear hb1 hbk)
  go_step3
  simp only [Exit.then]
  rename_i hk
  refine hk _ _ ?_
  clear hk
  refine wp_label_slots 0 (by rfl) (List.range' 0 18) (fun k us wr => ∃ (m a b : Nat) (x' y' : Int), k = m ∧ m < 4 ∧ us.getD 1 undef = .int .i64 m ∧ us.getD 4 undef = .pointer (some ⟨w.heap.size + 1, 0, none⟩) ∧ us.getD 5 undef = .complex .f64 a b ∧ Aside0 (IsF a x') ∧ Aside0 (IsF b y') ∧ Aside0 (x'.natAbs ≤ 1048576) ∧ Aside0 (y'.natAbs ≤ 1048576) ∧ Aside0 (rot m x' y' = (X, Y)) ∧ Aside0 (wr.heap[w.heap.size + 1]? = some (.cells #[.int .i64 0, .int .i64 0] 23 (0, 0))) ∧ Aside0 (Below w.heap.size w wr)) m0 ?_ ?_
  · exact ⟨m0, pa, pb, FX0, FY0, rfl, hm4, rfl, rfl, rfl, HFX, HFY, HX, HY, HR, HBK, ⟨below_step (below_alloc (below_alloc (Below.refl w.heap.size w) _) _) HB1.out⟩⟩
  · rintro k us wr hl ⟨m, a, b, x', y', rfl, hm, h1, h4, h5, HA, HB, HX', HY', HR', HBK', HBE⟩ J K hJ hK
    clear HFX HFY HX HY HR HBK HB1 HPL hand
    simp only [List.length_range'] at hl
    match us, hl with
    | u0 :: u1 :: u2 :: u3 :: u4 :: u5 :: u6 :: u7 :: u8 :: u9 :: u10 :: u11 :: u12 :: u13 :: u14 :: u15 :: u16 :: u17 :: [], _ =>
    simp only [List.getD_cons_succ, List.getD_cons_zero] at h1 h4 h5
    subst h1 h4 h5
    simp only [List.range', putS, Act.put, List.setIfInBounds_toArray, List.set_cons_zero, List.set_cons_succ]
    rename_i hx
    clear hx
    have hJ2 := fun (k : Nat) (v0 v1 v2 v3 v4 v5 v6 v7 v8 v9 v10 v11 v12 v13 v14 v15 v16 v17 : Value) (w' : World) => hJ k (v0 :: v1 :: v2 :: v3 :: v4 :: v5 :: v6 :: v7 :: v8 :: v9 :: v10 :: v11 :: v12 :: v13 :: v14 :: v15 :: v16 :: v17 :: []) _ w' rfl rfl
    clear hJ
    simp only [List.range', putS, Act.put, List.setIfInBounds_toArray, List.set_cons_zero, List.set_cons_succ] at hJ2
    have HJ := Aside0.mk hJ2; clear hJ2
    have HK := Aside0.mk hK; clear hK
    cases k with
    | zero =>
      have hr := HR'.out
      rw [rot] at hr
      obtain ⟨rfl, rfl⟩ := Prod.mk.inj hr
      have HP := fun W => Aside0.mk (point_at W HA.out HB.out (by have := HX'.out; omega) (by have := HY'.out; omega))
      clear hr HR' HA HB HX' HY'
      go_wp2_with (go_at_call 51; (with_reducible refine ((HP _).out).mono ?_); rintro e w2 ⟨rfl, hb2⟩; have hbk := blk_keep HBK'.out hb2; have HBK := Aside0.mk hbk; have hc0 := blk_cell hbk 0; have hc1 := blk_cell hbk 1; have hf0 := blk_frozen hbk 0; have hf1 := blk_frozen hbk 1; have HB2 := Aside0.mk (below_step HBE.out hb2); clear hb2 hbk)
      simp only [Exit.jump]
      refine bodyPost_ret (results_cell_row rfl _ _ (w.heap.size + 1) 23 #[.int .i64 x', .int .i64 y'] (0, 0) _ rfl (blk_put (cs := #[.int .i64 x', .int .i64 0]) (blk_put (cs := #[.int .i64 0, .int .i64 0]) HBK.out 0 _ rfl) 1 _ rfl) Try.underlying23 rfl (by kernel_rfl)) rfl ?_
      exact ⟨rfl, below_set (below_set HB2.out (by simp)) (by simp)⟩
    | succ m =>
      obtain ⟨re, im, hre, him, hrun⟩ := quarter HA.out HB.out HX'.out HY'.out
      have hrun2 : ∀ W : World, (binOp .mul 53 (.complex .f64 a b) (.complex .f64 0 4607182418800017408)).run Try.prog W = .ok (.complex .f64 re im) W := fun W => hrun Try.prog 53 W
      have HRE := Aside0.mk hre
      have HIM := Aside0.mk him
      clear hrun hre him
      have g0 : (((m + 1 : Nat) : Int) == 0) = false := by simp; omega
      go_wp2
      go_step3
      exact ⟨rfl, HK.out _ _ (Handed.intro m (by omega) (HJ.out _ _ _ _ _ _ _ _ _ _ _ _ _ _ _ _ _ _ _ _ ⟨m, re, im, -y', x', rfl, by omega, by go_num, rfl, rfl, HRE, HIM, ⟨by have := HY'.out; omega⟩, HX', ⟨by have := HR'.out; rw [rot] at this; exact this⟩, HBK', HBE⟩))⟩
end Go.Proofs.Ytbkcdfiokjhcjaa.P

namespace Go.Proofs.Ytbkcdfiokjhcjaa.P
open Go.RowKit Go.Proofs.YtbkcdfiokjhcjaaW.PrintWords Go.Proofs.YtbkcdfiokjhcjaaW.PrintLast Go.Proofs.YtbkcdfiokjhcjaaW.PrintMore
def gauss_Mul.f (a0_0 : Int) (a0_1 : Int) (a1_0 : Int) (a1_1 : Int) : Option (Int × Int) := some (fx a0_0 * fx a1_0 - fx a0_1 * fx a1_1, fx a0_0 * fx a1_1 + fx a0_1 * fx a1_0)
theorem gauss_Mul.calls (a0_0 : Int) (a0_1 : Int) (a1_0 : Int) (a1_1 : Int) (r1 : Int) (r2 : Int) (w : World) (h : gauss_Mul.f a0_0 a0_1 a1_0 a1_1 = some (r1, r2)) :
    Calls Try.prog 15 #[.agg #[.int .i64 a0_0, .int .i64 a0_1], .agg #[.int .i64 a1_0, .int .i64 a1_1]] w fun e w' => e = .returned (.agg #[.int .i64 r1, .int .i64 r2]) ∧ Below w.heap.size w w' := by
  obtain ⟨rfl, rfl⟩ := Prod.mk.inj (Option.some.inj h)
  exact mul_calls a0_0 a0_1 a1_0 a1_1 w
def gauss_Add.f (a0_0 : Int) (a0_1 : Int) (a1_0 : Int) (a1_1 : Int) : Option (Int × Int) := some (fx a0_0 + fx a1_0, fx a0_1 + fx a1_1)
theorem gauss_Add.calls (a0_0 : Int) (a0_1 : Int) (a1_0 : Int) (a1_1 : Int) (r1 : Int) (r2 : Int) (w : World) (h : gauss_Add.f a0_0 a0_1 a1_0 a1_1 = some (r1, r2)) :
    Calls Try.prog 14 #[.agg #[.int .i64 a0_0, .int .i64 a0_1], .agg #[.int .i64 a1_0, .int .i64 a1_1]] w fun e w' => e = .returned (.agg #[.int .i64 r1, .int .i64 r2]) ∧ Below w.heap.size w w' := by
  obtain ⟨rfl, rfl⟩ := Prod.mk.inj (Option.some.inj h)
  exact add_calls a0_0 a0_1 a1_0 a1_1 w
def gauss_Sub.f (a0_0 : Int) (a0_1 : Int) (a1_0 : Int) (a1_1 : Int) : Option (Int × Int) := some (fx a0_0 - fx a1_0, fx a0_1 - fx a1_1)
theorem gauss_Sub.calls (a0_0 : Int) (a0_1 : Int) (a1_0 : Int) (a1_1 : Int) (r1 : Int) (r2 : Int) (w : World) (h : gauss_Sub.f a0_0 a0_1 a1_0 a1_1 = some (r1, r2)) :
    Calls Try.prog 16 #[.agg #[.int .i64 a0_0, .int .i64 a0_1], .agg #[.int .i64 a1_0, .int .i64 a1_1]] w fun e w' => e = .returned (.agg #[.int .i64 r1, .int .i64 r2]) ∧ Below w.heap.size w w' := by
  obtain ⟨rfl, rfl⟩ := Prod.mk.inj (Option.some.inj h)
  exact sub_calls a0_0 a0_1 a1_0 a1_1 w
def gauss_Conj.f (a0_0 : Int) (a0_1 : Int) : Option (Int × Int) := some (fx a0_0, -fx a0_1)
theorem gauss_Conj.calls (a0_0 : Int) (a0_1 : Int) (r1 : Int) (r2 : Int) (w : World) (h : gauss_Conj.f a0_0 a0_1 = some (r1, r2)) :
    Calls Try.prog 18 #[.agg #[.int .i64 a0_0, .int .i64 a0_1]] w fun e w' => e = .returned (.agg #[.int .i64 r1, .int .i64 r2]) ∧ Below w.heap.size w w' := by
  obtain ⟨rfl, rfl⟩ := Prod.mk.inj (Option.some.inj h)
  exact conj_calls a0_0 a0_1 w
def gauss_Fix.f (a0_0 : Int) (a0_1 : Int) : Option (Int × Int) := some (fx a0_0, fx a0_1)
theorem gauss_Fix.calls (a0_0 : Int) (a0_1 : Int) (r1 : Int) (r2 : Int) (w : World) (h : gauss_Fix.f a0_0 a0_1 = some (r1, r2)) :
    Calls Try.prog 19 #[.agg #[.int .i64 a0_0, .int .i64 a0_1]] w fun e w' => e = .returned (.agg #[.int .i64 r1, .int .i64 r2]) ∧ Below w.heap.size w w' := by
  obtain ⟨rfl, rfl⟩ := Prod.mk.inj (Option.some.inj h)
  exact fix_calls a0_0 a0_1 w
def gauss_Norm.f (a0_0 : Int) (a0_1 : Int) : Option (Int) := some (fx a0_0 * fx a0_0 + fx a0_1 * fx a0_1)
theorem gauss_Norm.calls (a0_0 : Int) (a0_1 : Int) (r : Int) (w : World) (h : gauss_Norm.f a0_0 a0_1 = some r) :
    Calls Try.prog 17 #[.agg #[.int .i64 a0_0, .int .i64 a0_1]] w fun e w' => e = .returned (.int .i64 r) ∧ Below w.heap.size w w' := by
  obtain rfl := Option.some.inj h
  exact norm_calls a0_0 a0_1 w
def gauss_Turn.f (a0_0 : Int) (a0_1 : Int) (a1 : Int) : Option (Int × Int) := some (rot (a1 % 4).toNat (fx a0_0) (fx a0_1))
theorem gauss_Turn.calls (a0_0 : Int) (a0_1 : Int) (a1 : Int) (r1 : Int) (r2 : Int) (w : World) (h : gauss_Turn.f a0_0 a0_1 a1 = some (r1, r2)) :
    Calls Try.prog 25 #[.agg #[.int .i64 a0_0, .int .i64 a0_1], .int .i64 a1] w fun e w' => e = .returned (.agg #[.int .i64 r1, .int .i64 r2]) ∧ Below w.heap.size w w' := by
  have := turn_calls a0_0 a0_1 a1 w
  rw [show rot (a1 % 4).toNat (fx a0_0) (fx a0_1) = (r1, r2) from Option.some.inj h] at this
  exact this
end Go.Proofs.Ytbkcdfiokjhcjaa.P
