/- Several texts in one. -/
import Derived.Test.YtbkcdfiokjhcjaaMB
section
/- Motions: Order. -/
namespace Go.Proofs.Ytbkcdfiokjhcjaa.P
open Go.Proofs.Ytbkcdfiokjhcjaa.B Go.RowKit Go.Proofs.YtbkcdfiokjhcjaaW.PrintWords Go.Proofs.YtbkcdfiokjhcjaaW.PrintLast Go.Proofs.YtbkcdfiokjhcjaaW.PrintMore Go.Proofs.Ytbkcdfiokjhcjaa.FX Go.Proofs.Ytbkcdfiokjhcjaa.H
set_option linter.unusedVariables false
set_option linter.unusedSimpArgs false
attribute [local go_sem] run_store_complex
theorem eq_test {a : Nat} {n : Int} {b : Nat} {k : Int} (ha : IsF a n) (hb : IsF b k) : (FloatKind.f64.format.order a b == some Ordering.eq) = (n == k) := floatEq_is ha hb
theorem mv_tests {a b c d q : Nat} {F1 F2 : Int} (hq : q < 4) (h : MV a b c d (ip q) (F1, F2)) :
    ∃ r i, (FloatKind.f64.format.order a 4607182418800017408 == some Ordering.eq) = (q == 0) ∧ (q = 0 → (FloatKind.f64.format.order b 0 == some Ordering.eq) = true) ∧ (FloatKind.f64.format.order c 0 == some Ordering.eq) = (F1 == 0) ∧ (FloatKind.f64.format.order d 0 == some Ordering.eq) = (F2 == 0) ∧ (∀ W : World, (binOp .mul 53 (.complex .f64 a b) (.complex .f64 a b)).run Try.prog W = .ok (.complex .f64 r i) W) ∧ (FloatKind.f64.format.order r 4607182418800017408 == some Ordering.eq) = (q == 0 || q == 2) ∧ (FloatKind.f64.format.order i 0 == some Ordering.eq) = true := by
  obtain ⟨ha, hb, hc, hd⟩ := h
  have hs := (ip_small q).1
  obtain ⟨r, i, hr, hi, k1⟩ := cmul_run ha hb ha hb (by rw [Int.natAbs_mul]; have := Nat.mul_le_mul hs.1 hs.1; omega) (by rw [Int.natAbs_mul]; have := Nat.mul_le_mul hs.2 hs.2; omega) (by rw [Int.natAbs_mul]; have := Nat.mul_le_mul hs.1 hs.2; omega) (by rw [Int.natAbs_mul]; have := Nat.mul_le_mul hs.2 hs.1; omega)
  have d1 : ∀ q, q < 4 → ((ip q).1 == 1) = (q == 0) := by decide
  have d2 : ∀ q, q < 4 → ((ip q).1 * (ip q).1 - (ip q).2 * (ip q).2 == 1) = (q == 0 || q == 2) := by decide
  have d4 : ∀ q, q < 4 → ((ip q).1 * (ip q).2 + (ip q).2 * (ip q).1 == 0) = true := by decide
  refine ⟨r, i, ?_, ?_, eq_test hc isF_zero, eq_test hd isF_zero, fun W => k1 Try.prog 53 W, ?_, ?_⟩
  · rw [eq_test ha isF_one]
    exact d1 q hq
  · rw [eq_test hb isF_zero]
    rintro rfl
    rfl
  · rw [eq_test hr isF_one]
    exact d2 q hq
  · rw [eq_test hi isF_zero]
    exact d4 q hq
theorem mv_cases {a b c d q : Nat} {F1 F2 : Int} (hq : q < 4) (h : MV a b c d (ip q) (F1, F2)) :
    ∃ r i, (∀ W : World, (binOp .mul 53 (.complex .f64 a b) (.complex .f64 a b)).run Try.prog W = .ok (.complex .f64 r i) W) ∧ (((q = 0 ∧ F1 = 0 ∧ F2 = 0) ∧ (FloatKind.f64.format.order a 4607182418800017408 == some Ordering.eq) = true ∧ (FloatKind.f64.format.order b 0 == some Ordering.eq) = true ∧ (FloatKind.f64.format.order c 0 == some Ordering.eq) = true ∧ (FloatKind.f64.format.order d 0 == some Ordering.eq) = true) ∨ ((q = 0 ∧ ¬ (F1 = 0 ∧ F2 = 0)) ∧ (FloatKind.f64.format.order a 4607182418800017408 == some Ordering.eq) = true ∧ (FloatKind.f64.format.order b 0 == some Ordering.eq) = true ∧ (FloatKind.f64.format.order c 0 == some Ordering.eq) = false) ∨ ((q = 0 ∧ ¬ (F1 = 0 ∧ F2 = 0)) ∧ (FloatKind.f64.format.order a 4607182418800017408 == some Ordering.eq) = true ∧ (FloatKind.f64.format.order b 0 == some Ordering.eq) = true ∧ (FloatKind.f64.format.order c 0 == some Ordering.eq) = true ∧ (FloatKind.f64.format.order d 0 == some Ordering.eq) = false) ∨ ((q ≠ 0 ∧ q = 2) ∧ (FloatKind.f64.format.order a 4607182418800017408 == some Ordering.eq) = false ∧ (FloatKind.f64.format.order r 4607182418800017408 == some Ordering.eq) = true ∧ (FloatKind.f64.format.order i 0 == some Ordering.eq) = true) ∨ ((q ≠ 0 ∧ q ≠ 2) ∧ (FloatKind.f64.format.order a 4607182418800017408 == some Ordering.eq) = false ∧ (FloatKind.f64.format.order r 4607182418800017408 == some Ordering.eq) = false ∧ (FloatKind.f64.format.order i 0 == some Ordering.eq) = true)) := by
  obtain ⟨r, i, t1, t2, t3, t4, t5, t6, t7⟩ := mv_tests hq h
  refine ⟨r, i, t5, ?_⟩
  rw [t1, t3, t4, t6, t7]
  by_cases h0 : q = 0
  · rw [t2 h0]
    by_cases h1 : F1 = 0
    · by_cases h2 : F2 = 0
      · left; simp [h0, h1, h2]
      · right; right; left; simp [h0, h1, h2]
    · right; left; simp [h0, h1]
  · by_cases h1 : q = 2
    · right; right; right; left; simp [h0, h1]
    · right; right; right; right; simp [h0, h1]
/-- How often a motion must be done to be none. -/
def mord (n x y : Int) : Int := if qt n = 0 then (if fx x = 0 ∧ fx y = 0 then 1 else 0) else if qt n = 2 then 2 else 4
set_option maxHeartbeats 1000000 in
set_option maxRecDepth 100000 in
theorem mord_calls (n x y : Int) (w : World) : Calls Try.prog 46 #[.agg #[.int .i64 n, .int .i64 x, .int .i64 y]] w fun e w' => e = .returned (.int .i64 (mord n x y)) ∧ Below w.heap.size w w' := by
  have HO := fun W => Aside0.mk (mof_calls n x y W)
  have hq := qt_lt n
  unfold mord
  generalize qt n = q at HO hq ⊢
  generalize fx x = F1 at HO ⊢
  generalize fx y = F2 at HO ⊢
  go_enter Try.func46, Try.ntmps46
  go_wp2_with (go_at_call 58; (with_reducible refine ((HO _).out).mono ?_); rintro e w1 ⟨a, b, c, d, rfl, hMV, hb1⟩; obtain ⟨r, i, t5, tc⟩ := mv_cases hq hMV; have HB1 := Aside0.mk (below_step (below_alloc (Below.refl _ _) _) hb1); clear hMV hb1 HO; rcases tc with ⟨tq, t1, t2, t3, t4⟩ | ⟨tq, t1, t2, t3⟩ | ⟨tq, t1, t2, t3, t4⟩ | ⟨tq, t1, t2, t3⟩ | ⟨tq, t1, t2, t3⟩)
  all_goals go_ret
  all_goals refine ⟨?_, below_step HB1.out (below_alloc (Below.refl _ _) _)⟩
  all_goals simp [tq]
end Go.Proofs.Ytbkcdfiokjhcjaa.P
end

section
/- Motions: Still. -/
namespace Go.Proofs.Ytbkcdfiokjhcjaa.P
open Go.Proofs.Ytbkcdfiokjhcjaa.B Go.RowKit Go.Proofs.YtbkcdfiokjhcjaaW.PrintWords Go.Proofs.YtbkcdfiokjhcjaaW.PrintLast Go.Proofs.YtbkcdfiokjhcjaaW.PrintMore Go.Proofs.Ytbkcdfiokjhcjaa.FX Go.Proofs.Ytbkcdfiokjhcjaa.H
set_option linter.unusedVariables false
set_option linter.unusedSimpArgs false
attribute [local go_sem] run_store_complex
theorem results_row_tmp {fn : Func} {p u : Tmp} {ty : TypeId} {P : Program} (h : fn.results = #[.cell p ty, .tmp u]) (tmps : Array Value) (w : World) (g : Nat) (cs : Array Value)
    (hp : tmps.getD p undef = .pointer (some ⟨g, 0, none⟩)) (hl : (loadVar ty ⟨g, 0, none⟩).run P w = .ok (.agg cs) w) {r : Value} (hr : tmps.getD u undef = r) :
    (results fn tmps).run P w = .ok (.tuple #[.agg cs, r]) w := by
  subst hr
  rw [results_cell_tmp h, hp]
  simp [asAddr, Result.andThen, hl]
/-- Twice the point that stays (or four times it), and how often. -/
def stillN (q : Nat) : Int := (1 - (ip q).1) * (1 - (ip q).1) + (ip q).2 * (ip q).2
def stillZ (q : Nat) (F : Int × Int) : Int × Int := cm F (1 - (ip q).1, (ip q).2)
theorem still_tests {a b c d q : Nat} {F1 F2 : Int} (hq : q < 4) (hq0 : q ≠ 0) (h : MV a b c d (ip q) (F1, F2)) (hF : near 1048576 (F1, F2)) :
    ∃ s1 s2 s3 z1 z2 m1 m2, (FloatKind.f64.format.order a 4607182418800017408 == some Ordering.eq) = false ∧
      (∀ W : World, (binOp .sub 53 (.complex .f64 4607182418800017408 0) (.complex .f64 a b)).run Try.prog W = .ok (.complex .f64 s1 s2) W) ∧
      (∀ W : World, (Op.unary .neg (.float .f64 s2)).run Try.prog W = .ok (.float .f64 s3) W) ∧
      (∀ W : World, (binOp .mul 53 (.complex .f64 c d) (.complex .f64 s1 s3)).run Try.prog W = .ok (.complex .f64 z1 z2) W) ∧
      (∀ W : World, (binOp .mul 53 (.complex .f64 s1 s2) (.complex .f64 s1 s3)).run Try.prog W = .ok (.complex .f64 m1 m2) W) ∧
      (∀ W : World, (convert 55 3 (.float .f64 m1)).run Try.prog W = .ok (.int .i64 (stillN q)) W) ∧
      ∀ W : World, Calls Try.prog 60 #[.complex .f64 z1 z2] W (AggPost (stillZ q (F1, F2)).1 (stillZ q (F1, F2)).2 W) := by
  obtain ⟨r0, i0, t1, -⟩ := mv_tests hq h
  obtain ⟨ha, hb, hc, hd⟩ := h
  have hs := (ip_small q).1
  obtain ⟨s1, s2, hs1, hs2, k1⟩ := csub_run isF_one isF_zero ha hb (by omega) (by omega)
  have hs3 := negF_isF hs2
  rw [show -(0 - (ip q).2) = (ip q).2 from by omega] at hs3
  have n1 : (1 - (ip q).1).natAbs ≤ 2 := by omega
  have n2 : (ip q).2.natAbs ≤ 2 := by omega
  have n3 : (0 - (ip q).2).natAbs ≤ 2 := by omega
  obtain ⟨f1, f2⟩ := hF
  simp only [] at f1 f2 hc hd
  have mb : ∀ {x y : Int} {n : Nat}, x.natAbs ≤ n → y.natAbs ≤ 2 → (x * y).natAbs ≤ n * 2 := fun h1 h2 => by rw [Int.natAbs_mul]; exact Nat.mul_le_mul h1 h2
  have b1 := mb f1 n1; have b2 := mb f2 n2; have b3 := mb f1 n2; have b4 := mb f2 n1
  have c1 := mb n1 n1; have c2 := mb n3 n2; have c3 := mb n1 n2; have c4 := mb n3 n1
  obtain ⟨z1, z2, hz1, hz2, k2⟩ := cmul_run hc hd hs1 hs3 (by omega) (by omega) (by omega) (by omega)
  obtain ⟨m1, m2, hm1, hm2, k3⟩ := cmul_run hs1 hs2 hs1 hs3 (by omega) (by omega) (by omega) (by omega)
  have dn : ∀ q, q < 4 → stillN q = (1 - (ip q).1) * (1 - (ip q).1) - (0 - (ip q).2) * (ip q).2 := by decide
  rw [← dn q hq] at hm1
  have dl : ∀ q, q < 4 → (stillN q).natAbs ≤ 4 := by decide
  have dl' := dl q hq
  refine ⟨s1, s2, _, z1, z2, m1, m2, by rw [t1]; simp [hq0], fun W => k1 Try.prog 53 W, fun W => rfl, fun W => k2 Try.prog 53 W, fun W => k3 Try.prog 53 W, fun W => ?_, fun W => ?_⟩
  · exact run_convert_float_int W 55 3 .f64 .i64 m1 _ (by rw [Try.underlying55]; rfl) Try.underlying3 (isF_int hm1 (by omega) (by omega))
  · exact mpoint_at W hz1 hz2 (by unfold stillZ cm; simp only []; omega) (by unfold stillZ cm; simp only []; omega)
theorem tdiv_le (a b : Int) : (a.tdiv b).natAbs ≤ a.natAbs := by
  rw [Int.natAbs_tdiv]
  exact Nat.div_le_self _ _
def mstill (n x y : Int) : Int × Int × Bool :=
  if qt n = 0 then (0, 0, false) else
  let Z := stillZ (qt n) (fx x, fx y)
  let N := stillN (qt n)
  if Z.1.tmod N ≠ 0 ∨ Z.2.tmod N ≠ 0 then (0, 0, false) else (Z.1.tdiv N, Z.2.tdiv N, true)
abbrev StS (w0 : World) (g : Nat) (Z1 Z2 : Int) (w' : World) : Prop :=
  Aside0 (w'.heap[w0.heap.size + 1]? = some (.cells #[.int .i64 0, .int .i64 0] 23 (0, 0))) ∧ Aside0 (w'.heap[g]? = some (.cells #[.int .i64 Z1, .int .i64 Z2] 23 (0, 0))) ∧ Aside0 (Below w0.heap.size w0 w') ∧ w'.cell? ⟨w0.heap.size + 1, 0, none⟩ = some (.int .i64 0) ∧ w'.cell? ⟨w0.heap.size + 1, 1, none⟩ = some (.int .i64 0) ∧ w'.cell? ⟨g, 0, none⟩ = some (.int .i64 Z1) ∧ w'.cell? ⟨g, 1, none⟩ = some (.int .i64 Z2) ∧ w'.frozen? ⟨w0.heap.size + 1, 0, none⟩ = false ∧ w'.frozen? ⟨w0.heap.size + 1, 1, none⟩ = false
theorem StS.mk {w0 : World} {g : Nat} {Z1 Z2 : Int} {w' : World} (h0 : w'.heap[w0.heap.size + 1]? = some (.cells #[.int .i64 0, .int .i64 0] 23 (0, 0))) (h1 : w'.heap[g]? = some (.cells #[.int .i64 Z1, .int .i64 Z2] 23 (0, 0))) (hB : Below w0.heap.size w0 w') : StS w0 g Z1 Z2 w' :=
  ⟨⟨h0⟩, ⟨h1⟩, ⟨hB⟩, blk_cell h0 0, blk_cell h0 1, blk_cell h1 0, blk_cell h1 1, blk_frozen h0 0, blk_frozen h0 1⟩
theorem StS.keep {w0 : World} {g : Nat} {Z1 Z2 : Int} {w1 w2 : World} (h : StS w0 g Z1 Z2 w1) (hb : Below w1.heap.size w1 w2) : StS w0 g Z1 Z2 w2 :=
  StS.mk (blk_keep h.1.out hb) (blk_keep h.2.1.out hb) (below_step h.2.2.1.out hb)
theorem StS.drew {w0 : World} {g : Nat} {Z1 Z2 : Int} {w1 : World} (h : StS w0 g Z1 Z2 w1) : StS w0 g Z1 Z2 w1.drew :=
  StS.mk h.1.out h.2.1.out (below_drew h.2.2.1.out)
set_option maxHeartbeats 2000000 in
set_option maxRecDepth 100000 in
theorem mstill_calls (n x y : Int) (w : World) : Calls Try.prog 45 #[.agg #[.int .i64 n, .int .i64 x, .int .i64 y]] w fun e w' => e = .returned (.tuple #[.agg #[.int .i64 (mstill n x y).1, .int .i64 (mstill n x y).2.1], .bool (mstill n x y).2.2]) ∧ Below w.heap.size w w' := by
  have HO := fun W => Aside0.mk (mof_calls n x y W)
  have HF := near_fx x y
  have hq := qt_lt n
  unfold mstill
  generalize qt n = q at HO hq ⊢
  generalize fx x = F1 at HO HF ⊢
  generalize fx y = F2 at HO HF ⊢
  by_cases hq0 : q = 0
  · subst hq0
    rw [if_pos rfl]
    go_enter Try.func45, Try.ntmps45
    go_wp2_with (go_at_call 58; (with_reducible refine ((HO _).out).mono ?_); rintro e w1 ⟨a, b, c, d, rfl, hMV, hb1⟩; obtain ⟨r, i, t1, t2, -⟩ := mv_tests hq hMV; have t2' := t2 rfl; have t1' : (FloatKind.f64.format.order a 4607182418800017408 == some Ordering.eq) = true := t1; have HB1 := Aside0.mk (below_step (below_alloc (below_alloc (Below.refl _ _) _) _) hb1); clear t1 t2; have hR := blk_keep (blk_keep (move_new2 w (.cells #[.int .i64 n, .int .i64 x, .int .i64 y] 35) (.cells #[.int .i64 0, .int .i64 0] 23)) hb1) (below_alloc (Below.refl _ _) (.cells #[.complex .f64 a b, .complex .f64 c d] 61)); have HR := Aside0.mk hR; have c0 := blk_cell hR 0; have c1 := blk_cell hR 1; have g0 := blk_frozen hR 0; have g1 := blk_frozen hR 1; clear hR hMV hb1 HO)
    refine bodyPost_ret (results_row_tmp rfl _ _ (w.heap.size + 1) #[.int .i64 0, .int .i64 0] rfl (run_loadVar_row _ _ _ _ _ (0, 0) _ (blk_put (cs := #[.int .i64 0, .int .i64 0]) (blk_put (cs := #[.int .i64 0, .int .i64 0]) HR.out 0 _ rfl) 1 _ rfl) Try.underlying23 rfl (by kernel_rfl)) rfl) rfl ?_
    exact ⟨rfl, below_set (below_set (below_step HB1.out (below_alloc (Below.refl _ _) _)) (by omega)) (by omega)⟩
  ·
    rw [if_neg hq0]
    simp only []
    have HT := fun (a b c d : Nat) (h : MV a b c d (ip q) (F1, F2)) => Aside0.mk (still_tests hq hq0 h HF)
    have hN : stillN q ≠ 0 ∧ (stillN q).natAbs ≤ 4 := by
      have : ∀ q, q < 4 → q ≠ 0 → stillN q ≠ 0 ∧ (stillN q).natAbs ≤ 4 := by decide
      exact this q hq hq0
    have hZb : ((stillZ q (F1, F2)).1.natAbs ≤ 4194304 ∧ (stillZ q (F1, F2)).2.natAbs ≤ 4194304) := by
      have hs := (ip_small q).1
      have n1 : (1 - (ip q).1).natAbs ≤ 2 := by omega
      have n2 : (ip q).2.natAbs ≤ 2 := by omega
      obtain ⟨f1, f2⟩ := HF
      simp only [] at f1 f2
      have mb : ∀ {x y : Int} {n : Nat}, x.natAbs ≤ n → y.natAbs ≤ 2 → (x * y).natAbs ≤ n * 2 := fun h1 h2 => by rw [Int.natAbs_mul]; exact Nat.mul_le_mul h1 h2
      have b1 := mb f1 n1; have b2 := mb f2 n2; have b3 := mb f1 n2; have b4 := mb f2 n1
      exact ⟨by unfold stillZ cm; simp only []; omega, by unfold stillZ cm; simp only []; omega⟩
    generalize stillN q = N at HT hN ⊢
    obtain ⟨⟨Z1, Z2⟩, hZ⟩ : ∃ Z, stillZ q (F1, F2) = Z := ⟨_, rfl⟩
    simp only [hZ] at HT hZb ⊢
    clear hZ
    have hw1 : IntKind.i64.wrap (Z1.tdiv N) = Z1.tdiv N := by have := tdiv_le Z1 N; rw [IntKind.wrap_i64]; omega
    have hw2 : IntKind.i64.wrap (Z2.tdiv N) = Z2.tdiv N := by have := tdiv_le Z2 N; rw [IntKind.wrap_i64]; omega
    have hN0 := hN.1
    clear hZb hN
    go_enter Try.func45, Try.ntmps45
    go_wp2_with (first | (go_at_call 58; (with_reducible refine ((HO _).out).mono ?_); rintro e w1 ⟨a, b, c, d, rfl, hMV, hb1⟩; obtain ⟨s1, s2, s3, z1, z2, m1, m2, t1, t2, t3, t4, t5, t6, hp⟩ := (HT _ _ _ _ hMV).out; have HP := Aside0.mk hp; clear hp hMV HT HF; have HB1 := Aside0.mk hb1; clear hb1 HO) | (go_at_call 60; (with_reducible refine ((HP.out _)).mono ?_); rintro e w2 ⟨rfl, hb2⟩; have hR := blk_keep (blk_keep (blk_keep (blk_keep (move_new2 w (.cells #[.int .i64 n, .int .i64 x, .int .i64 y] 35) (.cells #[.int .i64 0, .int .i64 0] 23)) HB1.out) (below_alloc (Below.refl _ _) (.cells #[.complex .f64 a b, .complex .f64 c d] 61))) hb2) (below_alloc (Below.refl _ _) (.cells #[.int .i64 Z1, .int .i64 Z2] 23)); have HR := Aside0.mk hR; have c0 := blk_cell hR 0; have c1 := blk_cell hR 1; have g0 := blk_frozen hR 0; have g1 := blk_frozen hR 1; have HB2 := Aside0.mk (below_step (below_step (below_step (below_step (below_alloc (below_alloc (Below.refl w.heap.size w) _) _) HB1.out) (below_alloc (Below.refl _ _) (.cells #[.complex .f64 a b, .complex .f64 c d] 61))) hb2) (below_alloc (Below.refl _ _) (.cells #[.int .i64 Z1, .int .i64 Z2] 23))); clear hR hb2 HP; by_cases hm1 : Z1.tmod N = 0 <;> by_cases hm2 : Z2.tmod N = 0))
    · have HS : StS w w2.heap.size Z1 Z2 (w2.alloc (.cells #[.int .i64 Z1, .int .i64 Z2] 23)) := StS.mk HR.out (blk_new w2 _) HB2.out
      clear HR HB2 HB1
      generalize w2.heap.size = g at HS ⊢
      generalize w2.alloc (.cells #[.int .i64 Z1, .int .i64 Z2] 23) = w3 at HS ⊢
      refine start_ (n := 11) (S := StS w g Z1 Z2) (ds := [9, 10]) #[false, false, false, false, false, false, false, false, false, false, false] (by kernel_rfl) rfl rfl (StS.drew HS) (fun hHeld => ?_)
      clear HS
      generalize w3.drew = w4 at hHeld ⊢
      refine pure_ (i := 0) (N := some 49) (v := ?_) (a' := ?_) #[true, false, false, false, false, false, false, false, false, false, false] rfl rfl (by kernel_rfl) (fun _ _ _ h => h) (Or.inl ⟨by rfl, ?_⟩) ?_ ?_
      rotate_left
      · intro w'
        go_simp
        with_reducible rfl
      rotate_left
      · simp only [Act.put, List.setIfInBounds_toArray, List.set_cons_zero, List.set_cons_succ]
        rfl
      refine take_ (i := 1) (N := some 50) (v := ?_) (a' := ?_) #[true, true, false, false, false, false, false, false, false, false, false] rfl rfl (by kernel_rfl) (fun _ _ _ h => h) (Or.inl ⟨by rfl, ?_⟩) hHeld ?_ ?_
      rotate_left
      · rintro w' ⟨_, _, _, k1, k2, k3, k4, k5, k6⟩
        go_simp
        with_reducible rfl
      rotate_left
      · simp only [Act.put, List.setIfInBounds_toArray, List.set_cons_zero, List.set_cons_succ]
        rfl
      refine pure_ (i := 2) (N := some 51) (v := ?_) (a' := ?_) #[true, true, true, false, false, false, false, false, false, false, false] rfl rfl (by kernel_rfl) (fun _ _ _ h => h) (Or.inl ⟨by rfl, ?_⟩) ?_ ?_
      rotate_left
      · intro w'
        go_simp
        with_reducible rfl
      rotate_left
      · simp only [Act.put, List.setIfInBounds_toArray, List.set_cons_zero, List.set_cons_succ]
        rfl
      refine pure_ (i := 3) (N := some 52) (v := ?_) (a' := ?_) #[true, true, true, true, false, false, false, false, false, false, false] rfl rfl (by kernel_rfl) (fun _ _ _ h => h) (Or.inl ⟨by rfl, ?_⟩) ?_ ?_
      rotate_left
      · intro w'
        go_simp
        with_reducible rfl
      rotate_left
      · simp only [Act.put, List.setIfInBounds_toArray, List.set_cons_zero, List.set_cons_succ]
        rfl
      refine pure_ (i := 4) (N := some 53) (v := ?_) (a' := ?_) #[true, true, true, true, true, false, false, false, false, false, false] rfl rfl (by kernel_rfl) (fun _ _ _ h => h) (Or.inl ⟨by rfl, ?_⟩) ?_ ?_
      rotate_left
      · intro w'
        go_simp
        with_reducible rfl
      rotate_left
      · simp only [Act.put, List.setIfInBounds_toArray, List.set_cons_zero, List.set_cons_succ]
        rfl
      refine take_ (i := 5) (N := some 54) (v := ?_) (a' := ?_) #[true, true, true, true, true, true, false, false, false, false, false] rfl rfl (by kernel_rfl) (fun _ _ _ h => h) (Or.inl ⟨by rfl, ?_⟩) hHeld ?_ ?_
      rotate_left
      · rintro w' ⟨_, _, _, k1, k2, k3, k4, k5, k6⟩
        go_simp
        with_reducible rfl
      rotate_left
      · simp only [Act.put, List.setIfInBounds_toArray, List.set_cons_zero, List.set_cons_succ]
        rfl
      refine pure_ (i := 6) (N := some 55) (v := ?_) (a' := ?_) #[true, true, true, true, true, true, true, false, false, false, false] rfl rfl (by kernel_rfl) (fun _ _ _ h => h) (Or.inl ⟨by rfl, ?_⟩) ?_ ?_
      rotate_left
      · intro w'
        go_simp
        with_reducible rfl
      rotate_left
      · simp only [Act.put, List.setIfInBounds_toArray, List.set_cons_zero, List.set_cons_succ]
        rfl
      refine pure_ (i := 7) (N := some 56) (v := ?_) (a' := ?_) #[true, true, true, true, true, true, true, true, false, false, false] rfl rfl (by kernel_rfl) (fun _ _ _ h => h) (Or.inl ⟨by rfl, ?_⟩) ?_ ?_
      rotate_left
      · intro w'
        go_simp
        with_reducible rfl
      rotate_left
      · simp only [Act.put, List.setIfInBounds_toArray, List.set_cons_zero, List.set_cons_succ]
        rfl
      refine pure_ (i := 8) (N := some 57) (v := ?_) (a' := ?_) #[true, true, true, true, true, true, true, true, true, false, false] rfl rfl (by kernel_rfl) (fun _ _ _ h => h) (Or.inl ⟨by rfl, ?_⟩) ?_ ?_
      rotate_left
      · intro w'
        go_simp
        with_reducible rfl
      rotate_left
      · simp only [Act.put, List.setIfInBounds_toArray, List.set_cons_zero, List.set_cons_succ]
        rfl
      refine last_ (i := 9) (N := none) #[true, true, true, true, true, true, true, true, true, true, false] rfl rfl (by kernel_rfl) (by decide) (fun K hK => ?_)
      obtain ⟨H0, H1, HB, k1, k2, k3, k4, k5, k6⟩ := hHeld
      rw [if_pos (by rfl)]
      go_wp2
      refine hK.out _ _ ?_
      refine pure_ (i := 10) (N := some 3) (v := ?_) (a' := ?_) #[true, true, true, true, true, true, true, true, true, true, true] rfl rfl (by kernel_rfl) (fun _ _ _ h => h) (Or.inl ⟨by rfl, ?_⟩) ?_ ?_
      rotate_left
      · intro w'
        go_simp
        with_reducible rfl
      rotate_left
      · simp only [Act.put, List.setIfInBounds_toArray, List.set_cons_zero, List.set_cons_succ]
        rfl
      refine done_ (by kernel_rfl) ?_
      go_wp2
      refine bodyPost_ret (results_row_tmp rfl _ _ (w.heap.size + 1) #[.int .i64 (Z1.tdiv N), .int .i64 (Z2.tdiv N)] rfl (run_loadVar_row _ _ _ _ _ (0, 0) _ (blk_put (cs := #[.int .i64 (Z1.tdiv N), .int .i64 0]) (blk_put (cs := #[.int .i64 0, .int .i64 0]) H0.out 0 _ rfl) 1 _ rfl) Try.underlying23 rfl (by kernel_rfl)) rfl) rfl ?_
      exact ⟨by simp [hm1, hm2], below_set (below_set HB.out (by omega)) (by omega)⟩
    all_goals
      refine bodyPost_ret (results_row_tmp rfl _ _ (w.heap.size + 1) #[.int .i64 0, .int .i64 0] rfl (run_loadVar_row _ _ _ _ _ (0, 0) _ (blk_put (cs := #[.int .i64 0, .int .i64 0]) (blk_put (cs := #[.int .i64 0, .int .i64 0]) HR.out 0 _ rfl) 1 _ rfl) Try.underlying23 rfl (by kernel_rfl)) rfl) rfl ?_
      exact ⟨by simp [hm1, hm2], below_set (below_set HB2.out (by omega)) (by omega)⟩
end Go.Proofs.Ytbkcdfiokjhcjaa.P
end

section
/- Motions: what must come at any rate. -/
namespace Go.Proofs.Ytbkcdfiokjhcjaa.P
open Go.Proofs.Ytbkcdfiokjhcjaa.B Go.RowKit Go.Proofs.YtbkcdfiokjhcjaaW.PrintWords Go.Proofs.YtbkcdfiokjhcjaaW.PrintLast Go.Proofs.YtbkcdfiokjhcjaaW.PrintMore Go.Proofs.Ytbkcdfiokjhcjaa.FX Go.Proofs.Ytbkcdfiokjhcjaa.H
set_option linter.unusedVariables false
set_option linter.unusedSimpArgs false
set_option maxHeartbeats 1000000 in
set_option maxRecDepth 100000 in
theorem alive4_calls (w : World) : Calls Try.prog 40 #[] w fun e w' => e = .returned (.bool true) ∧ Below w.heap.size w w' := by
  have HS := fun W => Aside0.mk (show Calls Try.prog 45 #[.agg #[.int .i64 2, .int .i64 2, .int .i64 0]] W fun e w' => e = .returned (.tuple #[.agg #[.int .i64 1, .int .i64 0], .bool true]) ∧ Below W.heap.size W w' from by
    have h := mstill_calls 2 2 0 W
    rw [show mstill 2 2 0 = (1, 0, true) from by decide] at h
    exact h)
  have HO := fun W => Aside0.mk (show Calls Try.prog 46 #[.agg #[.int .i64 2, .int .i64 2, .int .i64 0]] W fun e w' => e = .returned (.int .i64 2) ∧ Below W.heap.size W w' from by
    have h := mord_calls 2 2 0 W
    rw [show mord 2 2 0 = 2 from by decide] at h
    exact h)
  have HD := fun W => Aside0.mk (show Calls Try.prog 34 #[.agg #[.int .i64 2, .int .i64 2, .int .i64 0], .agg #[.int .i64 5, .int .i64 1]] W fun e w' => e = .returned (.agg #[.int .i64 (-3), .int .i64 (-1)]) ∧ Below W.heap.size W w' from by
    have h := mdo_calls 2 2 0 5 1 W
    rw [show doBy 2 2 0 5 1 = (-3, -1) from by decide] at h
    exact h)
  go_enter Try.func40, Try.ntmps40
  go_wp2_with (first | (go_at_call 45; (with_reducible refine ((HS _).out).mono ?_); rintro e w1 ⟨rfl, hb1⟩; have hM := blk_keep (blk_keep (blk_new w (.cells #[.int .i64 2, .int .i64 2, .int .i64 0] 35)) hb1) (below_alloc (Below.refl _ _) (.cells #[.int .i64 1, .int .i64 0] 23)); have HM := Aside0.mk hM; have c0 := blk_cell hM 0; have c1 := blk_cell hM 1; have c2 := blk_cell hM 2; have HB := Aside0.mk (below_step (below_step (below_alloc (Below.refl w.heap.size w) (.cells #[.int .i64 2, .int .i64 2, .int .i64 0] 35)) hb1) (below_alloc (Below.refl _ _) (.cells #[.int .i64 1, .int .i64 0] 23))); clear hM hb1) | (go_at_call 46; (with_reducible refine ((HO _).out).mono ?_); rintro e w2 ⟨rfl, hb2⟩; have hM2 := blk_keep HM.out hb2; have d0 := blk_cell hM2 0; have d1 := blk_cell hM2 1; have d2 := blk_cell hM2 2; have HB2 := Aside0.mk (below_step HB.out hb2); clear hM2 hb2 HB) | (go_at_call 34; (with_reducible refine ((HD _).out).mono ?_); rintro e w3 ⟨rfl, hb3⟩; have HB3 := Aside0.mk (below_step HB2.out hb3); clear hb3 HB2))
  go_ret
  exact ⟨rfl, HB3.out⟩
end Go.Proofs.Ytbkcdfiokjhcjaa.P
end

section
/- Motions: the walked functions as plain functions with their contracts. -/
namespace Go.Proofs.Ytbkcdfiokjhcjaa.P
open Go.Proofs.Ytbkcdfiokjhcjaa.B Go.RowKit Go.Proofs.YtbkcdfiokjhcjaaW.PrintWords Go.Proofs.YtbkcdfiokjhcjaaW.PrintLast Go.Proofs.YtbkcdfiokjhcjaaW.PrintMore Go.Proofs.Ytbkcdfiokjhcjaa.FX Go.Proofs.Ytbkcdfiokjhcjaa.H
set_option linter.unusedVariables false
set_option linter.unusedSimpArgs false
def motion_Fix.f (a0_0 : Int) (a0_1 : Int) (a0_2 : Int) : Option (Int × Int × Int) := some ((qt a0_0 : Nat), fx a0_1, fx a0_2)
theorem motion_Fix.calls (a0_0 : Int) (a0_1 : Int) (a0_2 : Int) (r1 : Int) (r2 : Int) (r3 : Int) (w : World) (h : motion_Fix.f a0_0 a0_1 a0_2 = some (r1, r2, r3)) :
    Calls Try.prog 32 #[.agg #[.int .i64 a0_0, .int .i64 a0_1, .int .i64 a0_2]] w fun e w' => e = .returned (.agg #[.int .i64 r1, .int .i64 r2, .int .i64 r3]) ∧ Below w.heap.size w w' := by
  simp only [motion_Fix.f, Option.some.injEq, Prod.mk.injEq] at h
  obtain ⟨rfl, rfl, rfl⟩ := h
  exact mfix_calls _ _ _ w
def motion_Do.f (a0_0 : Int) (a0_1 : Int) (a0_2 : Int) (a1_0 : Int) (a1_1 : Int) : Option (Int × Int) := some (doBy a0_0 a0_1 a0_2 a1_0 a1_1)
theorem motion_Do.calls (a0_0 : Int) (a0_1 : Int) (a0_2 : Int) (a1_0 : Int) (a1_1 : Int) (r1 : Int) (r2 : Int) (w : World) (h : motion_Do.f a0_0 a0_1 a0_2 a1_0 a1_1 = some (r1, r2)) :
    Calls Try.prog 34 #[.agg #[.int .i64 a0_0, .int .i64 a0_1, .int .i64 a0_2], .agg #[.int .i64 a1_0, .int .i64 a1_1]] w fun e w' => e = .returned (.agg #[.int .i64 r1, .int .i64 r2]) ∧ Below w.heap.size w w' := by
  have h2 := mdo_calls a0_0 a0_1 a0_2 a1_0 a1_1 w
  rw [Option.some.inj h] at h2
  exact h2
def motion_Then.f (a0_0 : Int) (a0_1 : Int) (a0_2 : Int) (a1_0 : Int) (a1_1 : Int) (a1_2 : Int) : Option (Int × Int × Int) := some (((qt a0_0 + qt a1_0) % 4 : Nat), thenBy a0_1 a0_2 a1_0 a1_1 a1_2)
theorem motion_Then.calls (a0_0 : Int) (a0_1 : Int) (a0_2 : Int) (a1_0 : Int) (a1_1 : Int) (a1_2 : Int) (r1 : Int) (r2 : Int) (r3 : Int) (w : World) (h : motion_Then.f a0_0 a0_1 a0_2 a1_0 a1_1 a1_2 = some (r1, r2, r3)) :
    Calls Try.prog 36 #[.agg #[.int .i64 a0_0, .int .i64 a0_1, .int .i64 a0_2], .agg #[.int .i64 a1_0, .int .i64 a1_1, .int .i64 a1_2]] w fun e w' => e = .returned (.agg #[.int .i64 r1, .int .i64 r2, .int .i64 r3]) ∧ Below w.heap.size w w' := by
  have h2 := mthenm_calls a0_0 a0_1 a0_2 a1_0 a1_1 a1_2 w
  simp only [motion_Then.f, Option.some.injEq, Prod.mk.injEq] at h
  rw [h.1, h.2] at h2
  exact h2
def motion_Back.f (a0_0 : Int) (a0_1 : Int) (a0_2 : Int) : Option (Int × Int × Int) := some ((ipBack (qt a0_0) : Nat), backBy a0_0 a0_1 a0_2)
theorem motion_Back.calls (a0_0 : Int) (a0_1 : Int) (a0_2 : Int) (r1 : Int) (r2 : Int) (r3 : Int) (w : World) (h : motion_Back.f a0_0 a0_1 a0_2 = some (r1, r2, r3)) :
    Calls Try.prog 38 #[.agg #[.int .i64 a0_0, .int .i64 a0_1, .int .i64 a0_2]] w fun e w' => e = .returned (.agg #[.int .i64 r1, .int .i64 r2, .int .i64 r3]) ∧ Below w.heap.size w w' := by
  have h2 := mbackm_calls a0_0 a0_1 a0_2 w
  simp only [motion_Back.f, Option.some.injEq, Prod.mk.injEq] at h
  rw [h.1, h.2] at h2
  exact h2
def motion_Still.f (a0_0 : Int) (a0_1 : Int) (a0_2 : Int) : Option (Int × Int × Bool) := some (mstill a0_0 a0_1 a0_2)
theorem motion_Still.calls (a0_0 : Int) (a0_1 : Int) (a0_2 : Int) (r1 : Int) (r2 : Int) (r3 : Bool) (w : World) (h : motion_Still.f a0_0 a0_1 a0_2 = some (r1, r2, r3)) :
    Calls Try.prog 45 #[.agg #[.int .i64 a0_0, .int .i64 a0_1, .int .i64 a0_2]] w fun e w' => e = .returned (.tuple #[.agg #[.int .i64 r1, .int .i64 r2], .bool r3]) ∧ Below w.heap.size w w' := by
  have h2 := mstill_calls a0_0 a0_1 a0_2 w
  rw [Option.some.inj h] at h2
  exact h2
def motion_Order.f (a0_0 : Int) (a0_1 : Int) (a0_2 : Int) : Option (Int) := some (mord a0_0 a0_1 a0_2)
theorem motion_Order.calls (a0_0 : Int) (a0_1 : Int) (a0_2 : Int) (r : Int) (w : World) (h : motion_Order.f a0_0 a0_1 a0_2 = some r) :
    Calls Try.prog 46 #[.agg #[.int .i64 a0_0, .int .i64 a0_1, .int .i64 a0_2]] w fun e w' => e = .returned (.int .i64 r) ∧ Below w.heap.size w w' := by
  have h2 := mord_calls a0_0 a0_1 a0_2 w
  rw [Option.some.inj h] at h2
  exact h2
def tallymanlaw04_alive.f : Option (Bool) := some true
theorem tallymanlaw04_alive.calls (r : Bool) (w : World) (h : tallymanlaw04_alive.f = some r) :
    Calls Try.prog 40 #[] w fun e w' => e = .returned (.bool r) ∧ Below w.heap.size w w' := by
  have h2 := alive4_calls w
  rw [Option.some.inj h] at h2
  exact h2
def motion_Times.f (a0_0 : Int) (a0_1 : Int) (a0_2 : Int) (a1 : Int) : Option (Int × Int × Int) := some (mtimes (a0_0, a0_1, a0_2) (tcount a1))
theorem motion_Times.calls (a0_0 : Int) (a0_1 : Int) (a0_2 : Int) (a1 : Int) (r1 : Int) (r2 : Int) (r3 : Int) (w : World) (h : motion_Times.f a0_0 a0_1 a0_2 a1 = some (r1, r2, r3)) :
    Calls Try.prog 41 #[.agg #[.int .i64 a0_0, .int .i64 a0_1, .int .i64 a0_2], .int .i64 a1] w fun e w' => e = .returned (.agg #[.int .i64 r1, .int .i64 r2, .int .i64 r3]) ∧ Below w.heap.size w w' := by
  have h2 := mtimes_calls (a0_0, a0_1, a0_2) a1 w
  rw [Option.some.inj h] at h2
  exact h2
end Go.Proofs.Ytbkcdfiokjhcjaa.P
end
