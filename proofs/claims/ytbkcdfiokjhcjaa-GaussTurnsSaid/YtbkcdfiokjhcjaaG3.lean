import Derived.Test.YtbkcdfiokjhcjaaG2
import Derived.Test.YtbkcdfiokjhcjaaB
namespace Go.Proofs.Ytbkcdfiokjhcjaa.P
open Go.Proofs.Ytbkcdfiokjhcjaa.B Go.RowKit Go.Proofs.YtbkcdfiokjhcjaaW.PrintWords Go.Proofs.YtbkcdfiokjhcjaaW.PrintLast Go.Proofs.YtbkcdfiokjhcjaaW.PrintMore Go.Proofs.Ytbkcdfiokjhcjaa.FX Go.Proofs.Ytbkcdfiokjhcjaa.H
set_option linter.unusedVariables false
set_option linter.unusedSimpArgs false
theorem and_three (n : Int) : bits .and .i64 n 3 = n % 4 := by
  show IntKind.i64.wrap (((BitVec.ofInt 64 n &&& BitVec.ofInt 64 3).toNat : Nat) : Int) = _
  rw [BitVec.toNat_and, BitVec.toNat_ofInt, BitVec.toNat_ofInt, show ((3 : Int) % ((2 ^ 64 : Nat) : Int)).toNat = 2 ^ 2 - 1 from by decide, Nat.and_two_pow_sub_one_eq_mod, wrap_i64]
  unfold wrap64
  omega
def rot : Nat → Int → Int → Int × Int
  | 0, x, y => (x, y)
  | m + 1, x, y => rot m (-y) x
theorem isF_zero : IsF 0 0 := ⟨false, 0, -1074, by decide, by rw [Int.natAbs_zero, Nat.zero_mul, Nat.zero_mul], fun h => absurd rfl h⟩
theorem isF_one : IsF 4607182418800017408 1 := ⟨false, 2 ^ 52, -52, by decide, by decide, fun _ => rfl⟩
/-- A quarter. -/
theorem quarter {a b : Nat} {x y : Int} (ha : IsF a x) (hb : IsF b y) (hx : x.natAbs ≤ 1048576) (hy : y.natAbs ≤ 1048576) : ∃ re im, IsF re (-y) ∧ IsF im x ∧ ∀ (P : Program) (t : TypeId) (W : World), (binOp .mul t (.complex .f64 a b) (.complex .f64 0 4607182418800017408)).run P W = .ok (.complex .f64 re im) W := by
  obtain ⟨p1, f1, h1⟩ := isF_mul ha isF_zero (by omega)
  obtain ⟨p2, f2, h2⟩ := isF_mul hb isF_one (by omega)
  obtain ⟨re, f3, hre⟩ := isF_sub h1 h2 (by omega)
  obtain ⟨p3, f4, h3⟩ := isF_mul ha isF_one (by omega)
  obtain ⟨p4, f5, h4⟩ := isF_mul hb isF_zero (by omega)
  obtain ⟨im, f6, him⟩ := isF_add h3 h4 (by omega)
  refine ⟨re, im, ?_, ?_, fun P t W => run_complex_mul W t _ _ _ _ re im (by unfold cMulBits; rw [f1, Option.bind_some, f2, Option.bind_some, f3, Option.bind_some, f4, Option.bind_some, f5, Option.bind_some, f6, Option.bind_some])⟩
  · rw [show x * 0 - y * 1 = -y from by omega] at hre; exact hre
  · rw [show x * 1 + y * 0 = x from by omega] at him; exact him
set_option maxHeartbeats 2000000 in
set_option maxRecDepth 100000 in
theorem turn_calls (x y n : Int) (w : World) : Calls Try.prog 25 #[.agg #[.int .i64 x, .int .i64 y], .int .i64 n] w (AggPost (rot (n % 4).toNat (fx x) (fx y)).1 (rot (n % 4).toNat (fx x) (fx y)).2 w) := by
  obtain ⟨m0, hm0⟩ : ∃ m : Nat, n % 4 = m := ⟨(n % 4).toNat, by omega⟩
  have hm4 : m0 < 4 := by omega
  have hand := and_three n
  rw [hm0] at hand
  rw [hm0, Int.toNat_natCast]
  obtain ⟨X, Y, hR⟩ : ∃ X Y, rot m0 (fx x) (fx y) = (X, Y) := ⟨_, _, rfl⟩
  rw [hR]
  have hx := fx_le x
  have hy := fx_le y
  have HR := Aside0.mk hR; clear hR hm0
  have HX := Aside0.mk (show (fx x).natAbs ≤ 1048576 by omega)
  have HY := Aside0.mk (show (fx y).natAbs ≤ 1048576 by omega)
  have HFX := Aside0.mk (fx_isF x)
  have HFY := Aside0.mk (fx_isF y)
  clear hx hy
  obtain ⟨pa, hpa⟩ : ∃ pa, floatOfInt .f64 (fx x) = pa := ⟨_, rfl⟩
  obtain ⟨pb, hpb⟩ : ∃ pb, floatOfInt .f64 (fx y) = pb := ⟨_, rfl⟩
  have HPL := fun W => Aside0.mk (plane_calls x y W)
  rw [hpa] at HFX HPL
  rw [hpb] at HFY HPL
  obtain ⟨FX0, hFX0⟩ : ∃ f, fx x = f := ⟨_, rfl⟩
  obtain ⟨FY0, hFY0⟩ : ∃ f, fx y = f := ⟨_, rfl⟩
  rw [hFX0] at HFX HX HR
  rw [hFY0] at HFY HY HR
  clear hpa hpb hFX0 hFY0
  go_enter Try.func25, Try.ntmps25
  go_wp2
  refine wp_scope_enter 0 rfl ?_
  go_wp2_with (go_at_call 52; (with_reducible refine ((HPL _).out).mono ?_); rintro e w1 ⟨rfl, hb1⟩; have HB1 := Aside0.mk hb1; have hbk := blk_keep (blk_new (w.alloc (.cells #[.int .i64 x, .int .i64 y] 23)) (.cells #[.int .i64 0, .int .i64 0] 23)) hb1; rw [alloc_size] at hbk; have HBK := Aside0.mk hbk; clear hb1 hbk)
  go_step3
  simp only [Exit.then]
  rename_i hk
  refine hk _ _ ?_
  clear hk
  refine wp_label_slots 0 (by rfl) (List.range' 0 18) (fun k us wr => ∃ (m a b : Nat) (x' y' : Int), k = m ∧ m < 4 ∧ us.getD 1 undef = .int .i64 m ∧ us.getD 4 undef = .pointer (some ⟨w.heap.size + 1, 0, none⟩) ∧ us.getD 5 undef = .complex .f64 a b ∧ Aside0 (IsF a x') ∧ Aside0 (IsF b y') ∧ Aside0 (x'.natAbs ≤ 1048576) ∧ Aside0 (y'.natAbs ≤ 1048576) ∧ Aside0 (rot m x' y' = (X, Y)) ∧ Aside0 (wr.heap[w.heap.size + 1]? = some (.cells #[.int .i64 0, .int .i64 0] 23 (0, 0))) ∧ Aside0 (Below w.heap.size w wr)) m0 ?_ ?_
  · exact ⟨m0, pa, pb, FX0, FY0, rfl, hm4, rfl, rfl, rfl, HFX, HFY, HX, HY, HR, HBK, ⟨below_step (below_alloc (below_alloc (Below.refl w.heap.size w) _) _) HB1.out⟩⟩
  · rintro k us wr hl ⟨m, a, b, x', y', rfl, hm, h1, h4, h5, HA, HB, HX', HY', HR', HBK', HBE⟩ J K hJ hK
    clear HFX HFY HX HY HR HBK HB1 HPL hand
    simp only [List.length_range'] at hl
    match us, hl with
    | u0 :: u1 :: u2 :: u3 :: u4 :: u5 :: u6 :: u7 :: u8 :: u9 :: u10 :: u11 :: u12 :: u13 :: u14 :: u15 :: u16 :: u17 :: [], _ =>
    simp only [List.getD_cons_succ, List.getD_cons_zero] at h1 h4 h5
    subst h1 h4 h5
    simp only [List.range', putS, Act.put, List.setIfInBounds_toArray, List.set_cons_zero, List.set_cons_succ]
    rename_i hx
    clear hx
    have hJ2 := fun (k : Nat) (v0 v1 v2 v3 v4 v5 v6 v7 v8 v9 v10 v11 v12 v13 v14 v15 v16 v17 : Value) (w' : World) => hJ k (v0 :: v1 :: v2 :: v3 :: v4 :: v5 :: v6 :: v7 :: v8 :: v9 :: v10 :: v11 :: v12 :: v13 :: v14 :: v15 :: v16 :: v17 :: []) _ w' rfl rfl
    clear hJ
    simp only [List.range', putS, Act.put, List.setIfInBounds_toArray, List.set_cons_zero, List.set_cons_succ] at hJ2
    have HJ := Aside0.mk hJ2; clear hJ2
    have HK := Aside0.mk hK; clear hK
    cases k with
    | zero =>
      have hr := HR'.out
      rw [rot] at hr
      obtain ⟨rfl, rfl⟩ := Prod.mk.inj hr
      have HP := fun W => Aside0.mk (point_at W HA.out HB.out (by have := HX'.out; omega) (by have := HY'.out; omega))
      clear hr HR' HA HB HX' HY'
      go_wp2_with (go_at_call 51; (with_reducible refine ((HP _).out).mono ?_); rintro e w2 ⟨rfl, hb2⟩; have hbk := blk_keep HBK'.out hb2; have HBK := Aside0.mk hbk; have hc0 := blk_cell hbk 0; have hc1 := blk_cell hbk 1; have hf0 := blk_frozen hbk 0; have hf1 := blk_frozen hbk 1; have HB2 := Aside0.mk (below_step HBE.out hb2); clear hb2 hbk)
      simp only [Exit.jump]
      refine bodyPost_ret (results_cell_row rfl _ _ (w.heap.size + 1) 23 #[.int .i64 x', .int .i64 y'] (0, 0) _ rfl (blk_put (cs := #[.int .i64 x', .int .i64 0]) (blk_put (cs := #[.int .i64 0, .int .i64 0]) HBK.out 0 _ rfl) 1 _ rfl) Try.underlying23 rfl (by kernel_rfl)) rfl ?_
      exact ⟨rfl, below_set (below_set HB2.out (by simp)) (by simp)⟩
    | succ m =>
      obtain ⟨re, im, hre, him, hrun⟩ := quarter HA.out HB.out HX'.out HY'.out
      have hrun2 : ∀ W : World, (binOp .mul 53 (.complex .f64 a b) (.complex .f64 0 4607182418800017408)).run Try.prog W = .ok (.complex .f64 re im) W := fun W => hrun Try.prog 53 W
      have HRE := Aside0.mk hre
      have HIM := Aside0.mk him
      clear hrun hre him
      have g0 : (((m + 1 : Nat) : Int) == 0) = false := by simp; omega
      go_wp2
      go_step3
      exact ⟨rfl, HK.out _ _ (Handed.intro m (by omega) (HJ.out _ _ _ _ _ _ _ _ _ _ _ _ _ _ _ _ _ _ _ _ ⟨m, re, im, -y', x', rfl, by omega, by go_num, rfl, rfl, HRE, HIM, ⟨by have := HY'.out; omega⟩, HX', ⟨by have := HR'.out; rw [rot] at this; exact this⟩, HBK', HBE⟩))⟩
end Go.Proofs.Ytbkcdfiokjhcjaa.P
