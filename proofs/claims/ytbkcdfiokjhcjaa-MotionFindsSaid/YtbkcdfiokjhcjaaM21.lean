/- Motions: Between. -/
import Derived.Test.YtbkcdfiokjhcjaaMC
import Derived.Deep.RegionHeld3
namespace Go.Proofs.Ytbkcdfiokjhcjaa.P
open Go.Proofs.Ytbkcdfiokjhcjaa.B Go.RowKit Go.Proofs.YtbkcdfiokjhcjaaW.PrintWords Go.Proofs.YtbkcdfiokjhcjaaW.PrintLast Go.Proofs.YtbkcdfiokjhcjaaW.PrintMore Go.Proofs.Ytbkcdfiokjhcjaa.FX Go.Proofs.Ytbkcdfiokjhcjaa.H
set_option linter.unusedVariables false
set_option linter.unusedSimpArgs false
attribute [local go_sem] run_store_complex
abbrev BtS (w0 : World) (x1 y1 x2 y2 x3 y3 x4 y4 : Int) (w' : World) : Prop :=
  Aside0 (w'.heap[w0.heap.size]? = some (.cells #[.int .i64 x1, .int .i64 y1] 23 (0, 0))) ∧ Aside0 (w'.heap[w0.heap.size + 1]? = some (.cells #[.int .i64 x2, .int .i64 y2] 23 (0, 0))) ∧ Aside0 (w'.heap[w0.heap.size + 1 + 1]? = some (.cells #[.int .i64 x3, .int .i64 y3] 23 (0, 0))) ∧ Aside0 (w'.heap[w0.heap.size + 1 + 1 + 1]? = some (.cells #[.int .i64 x4, .int .i64 y4] 23 (0, 0))) ∧ Aside0 (w'.heap[w0.heap.size + 1 + 1 + 1 + 1]? = some (.cells #[.int .i64 0, .int .i64 0, .int .i64 0] 35 (0, 0))) ∧ Aside0 (Below w0.heap.size w0 w') ∧ w'.cell? ⟨w0.heap.size, 0, none⟩ = some (.int .i64 x1) ∧ w'.cell? ⟨w0.heap.size, 1, none⟩ = some (.int .i64 y1) ∧ w'.cell? ⟨w0.heap.size + 1, 0, none⟩ = some (.int .i64 x2) ∧ w'.cell? ⟨w0.heap.size + 1, 1, none⟩ = some (.int .i64 y2) ∧ w'.cell? ⟨w0.heap.size + 1 + 1, 0, none⟩ = some (.int .i64 x3) ∧ w'.cell? ⟨w0.heap.size + 1 + 1, 1, none⟩ = some (.int .i64 y3) ∧ w'.cell? ⟨w0.heap.size + 1 + 1 + 1, 0, none⟩ = some (.int .i64 x4) ∧ w'.cell? ⟨w0.heap.size + 1 + 1 + 1, 1, none⟩ = some (.int .i64 y4) ∧ w'.cell? ⟨w0.heap.size + 1 + 1 + 1 + 1, 0, none⟩ = some (.int .i64 0) ∧ w'.cell? ⟨w0.heap.size + 1 + 1 + 1 + 1, 1, none⟩ = some (.int .i64 0) ∧ w'.cell? ⟨w0.heap.size + 1 + 1 + 1 + 1, 2, none⟩ = some (.int .i64 0) ∧ w'.frozen? ⟨w0.heap.size + 1 + 1 + 1 + 1, 0, none⟩ = false ∧ w'.frozen? ⟨w0.heap.size + 1 + 1 + 1 + 1, 1, none⟩ = false ∧ w'.frozen? ⟨w0.heap.size + 1 + 1 + 1 + 1, 2, none⟩ = false
theorem BtS.mk {w0 : World} {x1 y1 x2 y2 x3 y3 x4 y4 : Int} {w' : World} (h0 : w'.heap[w0.heap.size]? = some (.cells #[.int .i64 x1, .int .i64 y1] 23 (0, 0))) (h1 : w'.heap[w0.heap.size + 1]? = some (.cells #[.int .i64 x2, .int .i64 y2] 23 (0, 0))) (h2 : w'.heap[w0.heap.size + 1 + 1]? = some (.cells #[.int .i64 x3, .int .i64 y3] 23 (0, 0))) (h3 : w'.heap[w0.heap.size + 1 + 1 + 1]? = some (.cells #[.int .i64 x4, .int .i64 y4] 23 (0, 0))) (h4 : w'.heap[w0.heap.size + 1 + 1 + 1 + 1]? = some (.cells #[.int .i64 0, .int .i64 0, .int .i64 0] 35 (0, 0))) (hB : Below w0.heap.size w0 w') : BtS w0 x1 y1 x2 y2 x3 y3 x4 y4 w' :=
  ⟨⟨h0⟩, ⟨h1⟩, ⟨h2⟩, ⟨h3⟩, ⟨h4⟩, ⟨hB⟩, blk_cell h0 0, blk_cell h0 1, blk_cell h1 0, blk_cell h1 1, blk_cell h2 0, blk_cell h2 1, blk_cell h3 0, blk_cell h3 1, blk_cell h4 0, blk_cell h4 1, blk_cell h4 2, blk_frozen h4 0, blk_frozen h4 1, blk_frozen h4 2⟩
theorem BtS.keep {w0 : World} {x1 y1 x2 y2 x3 y3 x4 y4 : Int} {w1 w2 : World} (h : BtS w0 x1 y1 x2 y2 x3 y3 x4 y4 w1) (hb : Below w1.heap.size w1 w2) : BtS w0 x1 y1 x2 y2 x3 y3 x4 y4 w2 :=
  BtS.mk (blk_keep h.1.out hb) (blk_keep h.2.1.out hb) (blk_keep h.2.2.1.out hb) (blk_keep h.2.2.2.1.out hb) (blk_keep h.2.2.2.2.1.out hb) (below_step h.2.2.2.2.2.1.out hb)
theorem BtS.drew {w0 : World} {x1 y1 x2 y2 x3 y3 x4 y4 : Int} {w1 : World} (h : BtS w0 x1 y1 x2 y2 x3 y3 x4 y4 w1) : BtS w0 x1 y1 x2 y2 x3 y3 x4 y4 w1.drew :=
  BtS.mk h.1.out h.2.1.out h.2.2.1.out h.2.2.2.1.out h.2.2.2.2.1.out (below_drew h.2.2.2.2.2.1.out)
theorem BtS.new (w : World) (x1 y1 x2 y2 x3 y3 x4 y4 : Int) : BtS w x1 y1 x2 y2 x3 y3 x4 y4 (((((w.alloc (.cells #[.int .i64 x1, .int .i64 y1] 23)).alloc (.cells #[.int .i64 x2, .int .i64 y2] 23)).alloc (.cells #[.int .i64 x3, .int .i64 y3] 23)).alloc (.cells #[.int .i64 x4, .int .i64 y4] 23)).alloc (.cells #[.int .i64 0, .int .i64 0, .int .i64 0] 35)) := by
  have a0 := blk_new w (.cells #[.int .i64 x1, .int .i64 y1] 23)
  have a1 := blk_new (w.alloc (.cells #[.int .i64 x1, .int .i64 y1] 23)) (.cells #[.int .i64 x2, .int .i64 y2] 23)
  rw [alloc_size] at a1
  have a2 := blk_new ((w.alloc (.cells #[.int .i64 x1, .int .i64 y1] 23)).alloc (.cells #[.int .i64 x2, .int .i64 y2] 23)) (.cells #[.int .i64 x3, .int .i64 y3] 23)
  rw [alloc_size, alloc_size] at a2
  have a3 := blk_new (((w.alloc (.cells #[.int .i64 x1, .int .i64 y1] 23)).alloc (.cells #[.int .i64 x2, .int .i64 y2] 23)).alloc (.cells #[.int .i64 x3, .int .i64 y3] 23)) (.cells #[.int .i64 x4, .int .i64 y4] 23)
  rw [alloc_size, alloc_size, alloc_size] at a3
  have a4 := blk_new ((((w.alloc (.cells #[.int .i64 x1, .int .i64 y1] 23)).alloc (.cells #[.int .i64 x2, .int .i64 y2] 23)).alloc (.cells #[.int .i64 x3, .int .i64 y3] 23)).alloc (.cells #[.int .i64 x4, .int .i64 y4] 23)) (.cells #[.int .i64 0, .int .i64 0, .int .i64 0] 35)
  rw [alloc_size, alloc_size, alloc_size, alloc_size] at a4
  exact BtS.mk (blk_keep (blk_keep (blk_keep (blk_keep a0 (below_alloc (Below.refl _ _) _)) (below_alloc (Below.refl _ _) _)) (below_alloc (Below.refl _ _) _)) (below_alloc (Below.refl _ _) _)) (blk_keep (blk_keep (blk_keep a1 (below_alloc (Below.refl _ _) _)) (below_alloc (Below.refl _ _) _)) (below_alloc (Below.refl _ _) _)) (blk_keep (blk_keep a2 (below_alloc (Below.refl _ _) _)) (below_alloc (Below.refl _ _) _)) (blk_keep a3 (below_alloc (Below.refl _ _) _)) a4 (below_alloc (below_alloc (below_alloc (below_alloc (below_alloc (Below.refl _ _) _) _) _) _) _)
def hit1 (P Q R S : Int × Int) (k : Nat) : Bool := (cm (Q.1 - P.1, Q.2 - P.2) (ip k)).1 == S.1 - R.1
def hit2 (P Q R S : Int × Int) (k : Nat) : Bool := (cm (Q.1 - P.1, Q.2 - P.2) (ip k)).2 == S.2 - R.2
def btwFrom (P Q R S : Int × Int) : Nat → Nat → Int × Int × Int × Bool
  | _, 0 => (0, 0, 0, false)
  | k, n + 1 => if hit1 P Q R S k = true ∧ hit2 P Q R S k = true then ((k : Int), R.1 - (cm P (ip k)).1, R.2 - (cm P (ip k)).2, true) else btwFrom P Q R S (k + 1) n
/-- The motion that brings two points to two others. -/
def btw (x1 y1 x2 y2 x3 y3 x4 y4 : Int) : Int × Int × Int × Bool := btwFrom (fx x1, fx y1) (fx x2, fx y2) (fx x3, fx y3) (fx x4, fx y4) 0 4
theorem nb {x : Int} {n : Nat} (h : x.natAbs ≤ n) : -(n : Int) ≤ x ∧ x ≤ n := by omega
theorem mb {x y : Int} {n : Nat} (h1 : -(n : Int) ≤ x ∧ x ≤ n) (h2 : -1 ≤ y ∧ y ≤ 1) : -(n : Int) ≤ x * y ∧ x * y ≤ n := by
  have : (x * y).natAbs ≤ n * 1 := by rw [Int.natAbs_mul]; exact Nat.mul_le_mul (by omega) (by omega)
  omega
theorem btw_round {a1 b1 a2 b2 a3 b3 a4 b4 u v k : Nat} {P Q R S : Int × Int} (hk : k < 4) (f1 : IsF a1 P.1) (g1 : IsF b1 P.2) (f2 : IsF a2 Q.1) (g2 : IsF b2 Q.2) (f3 : IsF a3 R.1) (g3 : IsF b3 R.2) (f4 : IsF a4 S.1) (g4 : IsF b4 S.2)
    (n1 : near 1048576 P) (n2 : near 1048576 Q) (n3 : near 1048576 R) (n4 : near 1048576 S) (fu : IsF u (ip k).1) (fv : IsF v (ip k).2) :
    ∃ s1 s2 z1 z2 e1 e2 m1 m2 o1 o2 u2 v2,
      (∀ W : World, (binOp .sub 53 (.complex .f64 a2 b2) (.complex .f64 a1 b1)).run Try.prog W = .ok (.complex .f64 s1 s2) W) ∧
      (∀ W : World, (binOp .mul 53 (.complex .f64 s1 s2) (.complex .f64 u v)).run Try.prog W = .ok (.complex .f64 z1 z2) W) ∧
      (∀ W : World, (binOp .sub 53 (.complex .f64 a4 b4) (.complex .f64 a3 b3)).run Try.prog W = .ok (.complex .f64 e1 e2) W) ∧
      (FloatKind.f64.format.order z1 e1 == some Ordering.eq) = hit1 P Q R S k ∧ (FloatKind.f64.format.order z2 e2 == some Ordering.eq) = hit2 P Q R S k ∧
      (∀ W : World, (binOp .mul 53 (.complex .f64 a1 b1) (.complex .f64 u v)).run Try.prog W = .ok (.complex .f64 m1 m2) W) ∧
      (∀ W : World, (binOp .sub 53 (.complex .f64 a3 b3) (.complex .f64 m1 m2)).run Try.prog W = .ok (.complex .f64 o1 o2) W) ∧
      (∀ W : World, Calls Try.prog 59 #[mv u v o1 o2] W (MotPost (k : Nat) (R.1 - (cm P (ip k)).1) (R.2 - (cm P (ip k)).2) W)) ∧
      (∀ W : World, (binOp .mul 53 (.complex .f64 u v) (.complex .f64 0 4607182418800017408)).run Try.prog W = .ok (.complex .f64 u2 v2) W) ∧ IsF u2 (ip (k + 1)).1 ∧ IsF v2 (ip (k + 1)).2 := by
  have p1 := nb n1.1; have p2 := nb n1.2; have q1 := nb n2.1; have q2 := nb n2.2; have r1 := nb n3.1; have r2 := nb n3.2; have t1 := nb n4.1; have t2 := nb n4.2
  have i1 := nb (ip_small k).1.1; have i2 := nb (ip_small k).1.2
  clear n1 n2 n3 n4
  have d1 : -((2097152 : Nat) : Int) ≤ Q.1 - P.1 ∧ Q.1 - P.1 ≤ (2097152 : Nat) := by omega
  have d2 : -((2097152 : Nat) : Int) ≤ Q.2 - P.2 ∧ Q.2 - P.2 ≤ (2097152 : Nat) := by omega
  obtain ⟨s1, s2, hs1, hs2, k1⟩ := csub_run f2 g2 f1 g1 (by omega) (by omega)
  have b1 := mb d1 i1; have b2 := mb d2 i2; have b3 := mb d1 i2; have b4 := mb d2 i1
  have c1 := mb (n := 1048576) p1 i1; have c2 := mb (n := 1048576) p2 i2; have c3 := mb (n := 1048576) p1 i2; have c4 := mb (n := 1048576) p2 i1
  obtain ⟨z1, z2, hz1, hz2, k2⟩ := cmul_run hs1 hs2 fu fv (by omega) (by omega) (by omega) (by omega)
  obtain ⟨e1, e2, he1, he2, k3⟩ := csub_run f4 g4 f3 g3 (by omega) (by omega)
  obtain ⟨m1, m2, hm1, hm2, k4⟩ := cmul_run f1 g1 fu fv (by omega) (by omega) (by omega) (by omega)
  obtain ⟨o1, o2, ho1, ho2, k5⟩ := csub_run f3 g3 hm1 hm2 (by omega) (by omega)
  obtain ⟨u2, v2, hu2, hv2, k6⟩ := quarter fu fv (by omega) (by omega)
  refine ⟨s1, s2, z1, z2, e1, e2, m1, m2, o1, o2, u2, v2, fun W => k1 Try.prog 53 W, fun W => k2 Try.prog 53 W, fun W => k3 Try.prog 53 W, ?_, ?_, fun W => k4 Try.prog 53 W, fun W => k5 Try.prog 53 W, fun W => ?_, fun W => k6 Try.prog 53 W, hu2, hv2⟩
  · exact eq_test hz1 he1
  · exact eq_test hz2 he2
  · exact motion_calls u v o1 o2 k (R.1 - (cm P (ip k)).1, R.2 - (cm P (ip k)).2) W hk ⟨fu, fv, ho1, ho2⟩ ⟨by unfold cm; simp only []; omega, by unfold cm; simp only []; omega⟩
set_option maxHeartbeats 4000000 in
set_option maxRecDepth 100000 in
theorem btw_calls (x1 y1 x2 y2 x3 y3 x4 y4 : Int) (w : World) : Calls Try.prog 44 #[.agg #[.int .i64 x1, .int .i64 y1], .agg #[.int .i64 x2, .int .i64 y2], .agg #[.int .i64 x3, .int .i64 y3], .agg #[.int .i64 x4, .int .i64 y4]] w fun e w' => e = .returned (.tuple #[.agg #[.int .i64 (btw x1 y1 x2 y2 x3 y3 x4 y4).1, .int .i64 (btw x1 y1 x2 y2 x3 y3 x4 y4).2.1, .int .i64 (btw x1 y1 x2 y2 x3 y3 x4 y4).2.2.1], .bool (btw x1 y1 x2 y2 x3 y3 x4 y4).2.2.2]) ∧ Below w.heap.size w w' := by
  have HF := fun x y W => Aside0.mk (fix_calls x y W)
  have fo : ∀ n : Int, ∃ f, floatOfInt .f64 (fx n) = f ∧ IsF f (fx n) := fun n => ⟨_, rfl, isF_of _ (by have := fx_le n; omega)⟩
  obtain ⟨a1, ea1, ha1⟩ := fo x1; obtain ⟨b1, eb1, hb1⟩ := fo y1; obtain ⟨a2, ea2, ha2⟩ := fo x2; obtain ⟨b2, eb2, hb2⟩ := fo y2
  obtain ⟨a3, ea3, ha3⟩ := fo x3; obtain ⟨b3, eb3, hb3⟩ := fo y3; obtain ⟨a4, ea4, ha4⟩ := fo x4; obtain ⟨b4, eb4, hb4⟩ := fo y4
  have HP1 := fun W => Aside0.mk (mplane_calls (fx x1) (fx y1) W)
  have HP2 := fun W => Aside0.mk (mplane_calls (fx x2) (fx y2) W)
  have HP3 := fun W => Aside0.mk (mplane_calls (fx x3) (fx y3) W)
  have HP4 := fun W => Aside0.mk (mplane_calls (fx x4) (fx y4) W)
  rw [ea1, eb1] at HP1; rw [ea2, eb2] at HP2; rw [ea3, eb3] at HP3; rw [ea4, eb4] at HP4
  clear ea1 eb1 ea2 eb2 ea3 eb3 ea4 eb4 fo
  have n1 := near_fx x1 y1; have n2 := near_fx x2 y2; have n3 := near_fx x3 y3; have n4 := near_fx x4 y4
  have HR := fun (k u v : Nat) (hk : k < 4) (fu : IsF u (ip k).1) (fv : IsF v (ip k).2) => Aside0.mk (btw_round (P := (fx x1, fx y1)) (Q := (fx x2, fx y2)) (R := (fx x3, fx y3)) (S := (fx x4, fx y4)) hk ha1 hb1 ha2 hb2 ha3 hb3 ha4 hb4 n1 n2 n3 n4 fu fv)
  clear ha1 hb1 ha2 hb2 ha3 hb3 ha4 hb4 n1 n2 n3 n4
  obtain ⟨B, hB⟩ : ∃ B, btw x1 y1 x2 y2 x3 y3 x4 y4 = B := ⟨_, rfl⟩
  rw [hB]
  have HB := Aside0.mk hB
  clear hB
  have HS := BtS.new w x1 y1 x2 y2 x3 y3 x4 y4
  go_enter Try.func44, Try.ntmps44
  go_wp2
  go_region_held3 (BtS w x1 y1 x2 y2 x3 y3 x4 y4)
    (first | exact BtS.keep (by assumption) hb | exact BtS.drew HS)
    (first | (go_at_call 19; (with_reducible refine ((HF _ _ _).out).mono ?_); rintro e w' ⟨rfl, hb⟩) | (go_at_call 61; (first | (with_reducible refine ((HP1 _).out).mono ?_) | (with_reducible refine ((HP2 _).out).mono ?_) | (with_reducible refine ((HP3 _).out).mono ?_) | (with_reducible refine ((HP4 _).out).mono ?_)); rintro e w' ⟨rfl, hb⟩))
  clear HS HF HP1 HP2 HP3 HP4
  rename_i HS
  obtain ⟨_, _, _, _, G4, GB, _, _, _, _, _, _, _, _, c0, c1, c2, f0, f1, f2⟩ := HS
  go_wp2
  go_loop [14, 27] (fun t i => ∃ k u v : Nat, k ≤ 4 ∧ i = .int .i64 k ∧ t = .complex .f64 u v ∧ Aside0 (IsF u (ip k).1 ∧ IsF v (ip k).2 ∧ btwFrom (fx x1, fx y1) (fx x2, fx y2) (fx x3, fx y3) (fx x4, fx y4) k (4 - k) = B)) (fun _ i => 4 - (intOf i).toNat)
  case atStart => exact ⟨0, _, _, by omega, rfl, rfl, ⟨isF_one, isF_zero, HB.out⟩⟩
  case round =>
    obtain ⟨k, u, v, hk, rfl, rfl, hI⟩ := hrel
    by_cases hlt : k < 4
    · obtain ⟨s1, s2, z1, z2, e1, e2, m1, m2, o1, o2, u2, v2, r1, r2, r3, t1, t2, r4, r5, HM, r6, iu, iv⟩ := (HR k u v hlt hI.out.1 hI.out.2.1).out
      have HI := Aside0.mk hI.out.2.2
      have HU := Aside0.mk (And.intro iu iv)
      have HM := fun W => Aside0.mk (HM W)
      rename_i HM0
      clear HM0 HR iu iv hI
      have hs : 4 - k = (4 - (k + 1)) + 1 := by omega
      rw [hs, btwFrom] at HI
      clear hs
      cases h1 : hit1 (fx x1, fx y1) (fx x2, fx y2) (fx x3, fx y3) (fx x4, fx y4) k
      · rw [h1] at t1 HI
        clear h1
        rw [if_neg (by simp)] at HI
        go_wp2
        go_round
        case rel => exact ⟨k + 1, u2, v2, by omega, by go_num, rfl, ⟨HU.out.1, HU.out.2, HI.out⟩⟩
        case measure => simp [intOf]; omega
      · cases h2 : hit2 (fx x1, fx y1) (fx x2, fx y2) (fx x3, fx y3) (fx x4, fx y4) k
        · rw [h1] at t1 HI
          rw [h2] at t2 HI
          clear h1 h2
          rw [if_neg (by simp)] at HI
          go_wp2
          go_round
          case rel => exact ⟨k + 1, u2, v2, by omega, by go_num, rfl, ⟨HU.out.1, HU.out.2, HI.out⟩⟩
          case measure => simp [intOf]; omega
        · rw [h1] at t1 HI
          rw [h2] at t2 HI
          clear h1 h2
          rw [if_pos ⟨rfl, rfl⟩] at HI
          have HI := HI.out
          subst HI
          go_wp2_with (go_at_call 59; (with_reducible refine ((HM _).out).mono ?_); rintro e w2 ⟨rfl, hb2⟩; have GG := blk_keep G4.out hb2; have c0 := blk_cell GG 0; have c1 := blk_cell GG 1; have c2 := blk_cell GG 2; have f0 := blk_frozen GG 0; have f1 := blk_frozen GG 1; have f2 := blk_frozen GG 2)
          refine bodyPost_ret (results_row_tmp rfl _ _ (w.heap.size + 1 + 1 + 1 + 1) _ rfl (run_loadVar_row _ _ _ _ _ (0, 0) _ (blk_put (cs := #[.int .i64 k, .int .i64 (fx x3 - (cm (fx x1, fx y1) (ip k)).1), .int .i64 0]) (blk_put (cs := #[.int .i64 k, .int .i64 0, .int .i64 0]) (blk_put (cs := #[.int .i64 0, .int .i64 0, .int .i64 0]) GG 0 _ rfl) 1 _ rfl) 2 _ rfl) Try.underlying35 rfl (by kernel_rfl)) rfl) rfl ?_
          exact ⟨rfl, below_set (below_set (below_set (below_step GB.out hb2) (by omega)) (by omega)) (by omega)⟩
    · have hI := hI.out.2.2
      obtain rfl : k = 4 := by omega
      rw [show 4 - 4 = 0 from rfl, btwFrom] at hI
      subst hI
      clear HR
      go_wp2
      refine bodyPost_ret (results_row_tmp rfl _ _ (w.heap.size + 1 + 1 + 1 + 1) #[.int .i64 0, .int .i64 0, .int .i64 0] rfl (run_loadVar_row _ _ _ _ _ (0, 0) _ (blk_put (cs := #[.int .i64 0, .int .i64 0, .int .i64 0]) (blk_put (cs := #[.int .i64 0, .int .i64 0, .int .i64 0]) (blk_put (cs := #[.int .i64 0, .int .i64 0, .int .i64 0]) G4.out 0 _ rfl) 1 _ rfl) 2 _ rfl) Try.underlying35 rfl (by kernel_rfl)) rfl) rfl ?_
      exact ⟨rfl, below_set (below_set (below_set GB.out (by omega)) (by omega)) (by omega)⟩
def motion_Between.f (a0_0 : Int) (a0_1 : Int) (a1_0 : Int) (a1_1 : Int) (a2_0 : Int) (a2_1 : Int) (a3_0 : Int) (a3_1 : Int) : Option (Int × Int × Int × Bool) := some (btw a0_0 a0_1 a1_0 a1_1 a2_0 a2_1 a3_0 a3_1)
theorem motion_Between.calls (a0_0 : Int) (a0_1 : Int) (a1_0 : Int) (a1_1 : Int) (a2_0 : Int) (a2_1 : Int) (a3_0 : Int) (a3_1 : Int) (r1 : Int) (r2 : Int) (r3 : Int) (r4 : Bool) (w : World) (h : motion_Between.f a0_0 a0_1 a1_0 a1_1 a2_0 a2_1 a3_0 a3_1 = some (r1, r2, r3, r4)) :
    Calls Try.prog 44 #[.agg #[.int .i64 a0_0, .int .i64 a0_1], .agg #[.int .i64 a1_0, .int .i64 a1_1], .agg #[.int .i64 a2_0, .int .i64 a2_1], .agg #[.int .i64 a3_0, .int .i64 a3_1]] w fun e w' => e = .returned (.tuple #[.agg #[.int .i64 r1, .int .i64 r2, .int .i64 r3], .bool r4]) ∧ Below w.heap.size w w' := by
  have h2 := btw_calls a0_0 a0_1 a1_0 a1_1 a2_0 a2_1 a3_0 a3_1 w
  rw [Option.some.inj h] at h2
  exact h2
end Go.Proofs.Ytbkcdfiokjhcjaa.P
