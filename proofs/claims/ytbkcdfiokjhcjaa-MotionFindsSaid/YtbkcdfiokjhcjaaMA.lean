/- Several texts in one. -/
import Derived.Test.YtbkcdfiokjhcjaaS3
section
/- Motions: numbers of the plane. -/
namespace Go.Proofs.Ytbkcdfiokjhcjaa.P
open Go.Proofs.Ytbkcdfiokjhcjaa.B Go.RowKit Go.Proofs.YtbkcdfiokjhcjaaW.PrintWords Go.Proofs.YtbkcdfiokjhcjaaW.PrintLast Go.Proofs.YtbkcdfiokjhcjaaW.PrintMore Go.Proofs.Ytbkcdfiokjhcjaa.FX Go.Proofs.Ytbkcdfiokjhcjaa.H
set_option linter.unusedVariables false
set_option linter.unusedSimpArgs false
set_option maxRecDepth 100000 in
theorem mplane_calls (x y : Int) (w : World) : Calls Try.prog 61 #[.agg #[.int .i64 x, .int .i64 y]] w fun e w' => e = .returned (.complex .f64 (floatOfInt .f64 x) (floatOfInt .f64 y)) ∧ Below w.heap.size w w' := by
  go_enter Try.func61, Try.ntmps61
  go_wp2
  go_ret
  exact ⟨rfl, below_alloc (Below.refl _ _) _⟩
set_option maxRecDepth 100000 in
theorem mpoint_calls (a b : Nat) (x y : Int) (w : World) (ha : floatToIntVal .f64 a .i64 = some x) (hb : floatToIntVal .f64 b .i64 = some y) : Calls Try.prog 60 #[.complex .f64 a b] w (AggPost x y w) := by
  have e1 : ∀ W : World, (convert 55 3 (.float .f64 a)).run Try.prog W = .ok (.int .i64 x) W := fun W => run_convert_float_int W 55 3 .f64 .i64 a x (by rw [Try.underlying55]; rfl) Try.underlying3 ha
  have e2 : ∀ W : World, (convert 55 3 (.float .f64 b)).run Try.prog W = .ok (.int .i64 y) W := fun W => run_convert_float_int W 55 3 .f64 .i64 b y (by rw [Try.underlying55]; rfl) Try.underlying3 hb
  go_enter Try.func60, Try.ntmps60
  go_wp2
  refine bodyPost_ret (results_cell_row rfl _ _ w.heap.size 23 #[.int .i64 x, .int .i64 y] (0, 0) _ rfl (blk_new w _) Try.underlying23 rfl (by kernel_rfl)) rfl ?_
  exact ⟨rfl, below_alloc (Below.refl _ _) _⟩
theorem mpoint_at {a b : Nat} {x y : Int} (w : World) (ha : IsF a x) (hb : IsF b y) (hx : x.natAbs < 2 ^ 53) (hy : y.natAbs < 2 ^ 53) : Calls Try.prog 60 #[.complex .f64 a b] w (AggPost x y w) :=
  mpoint_calls a b x y w (isF_int ha (by omega) (by omega)) (isF_int hb (by omega) (by omega))
/-- A product of numbers of the plane. -/
theorem cmul_run {a b c d : Nat} {x y u v : Int} (ha : IsF a x) (hb : IsF b y) (hc : IsF c u) (hd : IsF d v) (h1 : (x * u).natAbs < 2 ^ 51) (h2 : (y * v).natAbs < 2 ^ 51) (h3 : (x * v).natAbs < 2 ^ 51) (h4 : (y * u).natAbs < 2 ^ 51) :
    ∃ re im, IsF re (x * u - y * v) ∧ IsF im (x * v + y * u) ∧ ∀ (P : Program) (t : TypeId) (W : World), (binOp .mul t (.complex .f64 a b) (.complex .f64 c d)).run P W = .ok (.complex .f64 re im) W := by
  obtain ⟨p1, f1, g1⟩ := isF_mul ha hc (by omega)
  obtain ⟨p2, f2, g2⟩ := isF_mul hb hd (by omega)
  obtain ⟨re, f3, hre⟩ := isF_sub g1 g2 (by omega)
  obtain ⟨p3, f4, g3⟩ := isF_mul ha hd (by omega)
  obtain ⟨p4, f5, g4⟩ := isF_mul hb hc (by omega)
  obtain ⟨im, f6, him⟩ := isF_add g3 g4 (by omega)
  exact ⟨re, im, hre, him, fun P t W => run_complex_mul W t _ _ _ _ re im (by unfold cMulBits; rw [f1, Option.bind_some, f2, Option.bind_some, f3, Option.bind_some, f4, Option.bind_some, f5, Option.bind_some, f6, Option.bind_some])⟩
theorem cadd_run {a b c d : Nat} {x y u v : Int} (ha : IsF a x) (hb : IsF b y) (hc : IsF c u) (hd : IsF d v) (h1 : (x + u).natAbs < 2 ^ 53) (h2 : (y + v).natAbs < 2 ^ 53) :
    ∃ re im, IsF re (x + u) ∧ IsF im (y + v) ∧ ∀ (P : Program) (t : TypeId) (W : World), (binOp .add t (.complex .f64 a b) (.complex .f64 c d)).run P W = .ok (.complex .f64 re im) W := by
  obtain ⟨re, f1, hre⟩ := isF_add ha hc h1
  obtain ⟨im, f2, him⟩ := isF_add hb hd h2
  exact ⟨re, im, hre, him, fun P t W => run_complex_sum W .add (.inl rfl) t .f64 _ _ _ _ re im (by unfold cSumBits; rw [f1, Option.bind_some, f2, Option.bind_some])⟩
theorem csub_run {a b c d : Nat} {x y u v : Int} (ha : IsF a x) (hb : IsF b y) (hc : IsF c u) (hd : IsF d v) (h1 : (x - u).natAbs < 2 ^ 53) (h2 : (y - v).natAbs < 2 ^ 53) :
    ∃ re im, IsF re (x - u) ∧ IsF im (y - v) ∧ ∀ (P : Program) (t : TypeId) (W : World), (binOp .sub t (.complex .f64 a b) (.complex .f64 c d)).run P W = .ok (.complex .f64 re im) W := by
  obtain ⟨re, f1, hre⟩ := isF_sub ha hc h1
  obtain ⟨im, f2, him⟩ := isF_sub hb hd h2
  exact ⟨re, im, hre, him, fun P t W => run_complex_sum W .sub (.inr rfl) t .f64 _ _ _ _ re im (by unfold cSumBits; rw [f1, Option.bind_some, f2, Option.bind_some])⟩
theorem order_is {a b : Nat} {n k : Int} (ha : IsF a n) (hb : IsF b k) : Ieee.double.order a b = some (compare n k) := by
  obtain ⟨s, m, i, hd, hv, hs⟩ := ha
  obtain ⟨t, m', j, hd', hv', hs'⟩ := hb
  unfold Ieee.Format.order
  rw [hd, hd']
  show some (compare (Ieee.signed s m (i - min i j).toNat) (Ieee.signed t m' (j - min i j).toNat)) = _
  have e1 := scaled (base := min i j) hv hs (by omega)
  have e2 := scaled (base := min i j) hv' hs' (by omega)
  have p1 : (0 : Int) < ((2 ^ (min i j).toNat : Nat) : Int) := by have := Nat.two_pow_pos (min i j).toNat; omega
  have p2 : (0 : Int) < ((2 ^ (-(min i j)).toNat : Nat) : Int) := by have := Nat.two_pow_pos (-(min i j)).toNat; omega
  generalize Ieee.signed s m (i - min i j).toNat = X at *
  generalize Ieee.signed t m' (j - min i j).toNat = Y at *
  congr 1
  have lt : X < Y ↔ n < k := by
    constructor
    · intro h
      have := Int.mul_lt_mul_of_pos_right h p1
      rw [e1, e2] at this
      exact Int.lt_of_mul_lt_mul_right this (Int.le_of_lt p2)
    · intro h
      have := Int.mul_lt_mul_of_pos_right h p2
      rw [← e1, ← e2] at this
      exact Int.lt_of_mul_lt_mul_right this (Int.le_of_lt p1)
  have gt : Y < X ↔ k < n := by
    constructor
    · intro h
      have := Int.mul_lt_mul_of_pos_right h p1
      rw [e1, e2] at this
      exact Int.lt_of_mul_lt_mul_right this (Int.le_of_lt p2)
    · intro h
      have := Int.mul_lt_mul_of_pos_right h p2
      rw [← e1, ← e2] at this
      exact Int.lt_of_mul_lt_mul_right this (Int.le_of_lt p1)
  show compareOfLessAndEq X Y = compareOfLessAndEq n k
  unfold compareOfLessAndEq
  by_cases h1 : X < Y
  · rw [if_pos h1, if_pos (lt.1 h1)]
  · rw [if_neg h1, if_neg (fun h => h1 (lt.2 h))]
    by_cases h2 : Y < X
    · rw [if_neg (by omega), if_neg (by have := gt.1 h2; omega)]
    · have h3 : X = Y := by omega
      have h4 : ¬ k < n := fun h => h2 (gt.2 h)
      have h5 : ¬ n < k := fun h => h1 (lt.2 h)
      rw [if_pos h3, if_pos (by omega)]
end Go.Proofs.Ytbkcdfiokjhcjaa.P
end

section
/- Motions: quarters, and moves one behind the other. -/
namespace Go.Proofs.Ytbkcdfiokjhcjaa.P
open Go.Proofs.Ytbkcdfiokjhcjaa.B Go.RowKit Go.Proofs.YtbkcdfiokjhcjaaW.PrintWords Go.Proofs.YtbkcdfiokjhcjaaW.PrintLast Go.Proofs.YtbkcdfiokjhcjaaW.PrintMore Go.Proofs.Ytbkcdfiokjhcjaa.FX Go.Proofs.Ytbkcdfiokjhcjaa.H
set_option linter.unusedVariables false
set_option linter.unusedSimpArgs false
theorem floatEq_is {a b : Nat} {n k : Int} (ha : IsF a n) (hb : IsF b k) : Op.floatEq .f64 a b = (n == k) := by
  show (Ieee.double.order a b == some .eq) = _
  rw [order_is ha hb]
  show (some (compareOfLessAndEq n k) == some .eq) = _
  unfold compareOfLessAndEq
  by_cases h1 : n < k
  · rw [if_pos h1, show (n == k) = false from by simp; omega]; rfl
  · rw [if_neg h1]
    by_cases h2 : n = k
    · rw [if_pos h2, h2]; simp
    · rw [if_neg h2, show (n == k) = false from by simp; omega]; rfl
theorem ceq_run {a b c d : Nat} {x y u v : Int} (ha : IsF a x) (hb : IsF b y) (hc : IsF c u) (hd : IsF d v) (t : TypeId) (W : World) (ht : t = 53) : (binOp .eql t (.complex .f64 a b) (.complex .f64 c d)).run Try.prog W = .ok (.bool (x == u && y == v)) W := by
  subst ht
  have e : (binOp .eql 53 (.complex .f64 a b) (.complex .f64 c d)).run Try.prog W = .ok (.bool (Op.floatEq .f64 a c && Op.floatEq .f64 b d)) W := by rfl
  rw [e, floatEq_is ha hc, floatEq_is hb hd]
/-- A quarter's number. -/
def ip : Nat → Int × Int
  | 0 => (1, 0)
  | m + 1 => (-(ip m).2, (ip m).1)
theorem isF_neg1 : IsF 13830554455654793216 (-1) := ⟨true, 2 ^ 52, -52, by decide, by decide, fun _ => rfl⟩
theorem ip_small (m : Nat) : ((ip m).1.natAbs ≤ 1 ∧ (ip m).2.natAbs ≤ 1) ∧ (m < 4 → ((ip m).1 = 1 ∧ (ip m).2 = 0 ↔ m = 0)) := by
  constructor
  · induction m with
    | zero => decide
    | succ m ih => rw [ip]; simp only []; omega
  · intro h
    match m, h with
    | 0, _ => decide
    | 1, _ => decide
    | 2, _ => decide
    | 3, _ => decide
theorem ip_back {a b : Nat} {m : Nat} (ha : IsF a (ip (m + 1)).1) (hb : IsF b (ip (m + 1)).2) : ∃ re im, IsF re (ip m).1 ∧ IsF im (ip m).2 ∧ ∀ (P : Program) (t : TypeId) (W : World), (binOp .mul t (.complex .f64 a b) (.complex .f64 0 13830554455654793216)).run P W = .ok (.complex .f64 re im) W := by
  have hs := (ip_small m).1
  rw [ip] at ha hb
  simp only [] at ha hb
  obtain ⟨re, im, h1, h2, h3⟩ := cmul_run ha hb isF_zero isF_neg1 (by omega) (by omega) (by omega) (by omega)
  refine ⟨re, im, ?_, ?_, h3⟩
  · rw [show -(ip m).2 * 0 - (ip m).1 * -1 = (ip m).1 from by omega] at h1; exact h1
  · rw [show -(ip m).2 * -1 + (ip m).1 * 0 = (ip m).2 from by omega] at h2; exact h2
set_option maxHeartbeats 2000000 in
set_option maxRecDepth 100000 in
theorem quarters_calls (a b m0 : Nat) (w : World) (hm0 : m0 < 4) (ha : IsF a (ip m0).1) (hb : IsF b (ip m0).2) : Calls Try.prog 70 #[.complex .f64 a b] w fun e w' => e = .returned (.int .i64 m0) ∧ Below w.heap.size w w' := by
  have HA0 := Aside0.mk ha; clear ha
  have HB0 := Aside0.mk hb; clear hb
  go_enter Try.func70, Try.ntmps70
  go_wp2
  refine wp_scope_enter 0 rfl ?_
  go_wp2
  go_step3
  simp only [Exit.then]
  rename_i hk
  refine hk _ _ ?_
  clear hk
  refine wp_label_slots 0 (by rfl) (List.range' 0 11) (fun k us wr => ∃ (a b : Nat), k < 4 ∧ k ≤ m0 ∧ us.getD 0 undef = .complex .f64 a b ∧ us.getD 3 undef = .int .i64 ((m0 - k : Nat) : Int) ∧ Aside0 (IsF a (ip k).1) ∧ Aside0 (IsF b (ip k).2) ∧ wr = w) m0 ?_ ?_
  · exact ⟨a, b, hm0, Nat.le_refl _, rfl, by rw [Nat.sub_self]; rfl, HA0, HB0, rfl⟩
  · rintro k us wr hl ⟨a, b, hk4, hkm, h0, h3, HA, HB, rfl⟩ J K hJ hK
    clear HA0 HB0
    simp only [List.length_range'] at hl
    match us, hl with
    | u0 :: u1 :: u2 :: u3 :: u4 :: u5 :: u6 :: u7 :: u8 :: u9 :: u10 :: [], _ =>
    simp only [List.getD_cons_succ, List.getD_cons_zero] at h0 h3
    subst h0 h3
    simp only [List.range', putS, Act.put, List.setIfInBounds_toArray, List.set_cons_zero, List.set_cons_succ]
    rename_i hx
    clear hx
    have hJ2 := fun (k : Nat) (v0 v1 v2 v3 v4 v5 v6 v7 v8 v9 v10 : Value) (w' : World) => hJ k (v0 :: v1 :: v2 :: v3 :: v4 :: v5 :: v6 :: v7 :: v8 :: v9 :: v10 :: []) _ w' rfl rfl
    clear hJ
    simp only [List.range', putS, Act.put, List.setIfInBounds_toArray, List.set_cons_zero, List.set_cons_succ] at hJ2
    have HJ := Aside0.mk hJ2; clear hJ2
    have HK := Aside0.mk hK; clear hK
    have q1 : (FloatKind.f64.format.order a 4607182418800017408 == some Ordering.eq) = ((ip k).1 == 1) := floatEq_is HA.out isF_one
    have q2 : (FloatKind.f64.format.order b 0 == some Ordering.eq) = ((ip k).2 == 0) := floatEq_is HB.out isF_zero
    have hz := (ip_small k).2 hk4
    cases k with
    | zero =>
      rw [show ((ip 0).1 == 1) = true from by decide] at q1
      rw [show ((ip 0).2 == 0) = true from by decide] at q2
      clear hz
      go_wp2
      simp only [Exit.jump]
      go_ret
      exact ⟨by simp, Below.refl _ _⟩
    | succ k =>
      have hne : ((ip (k + 1)).1 == 1) = false := by
        match k, hk4 with
        | 0, _ => decide
        | 1, _ => decide
        | 2, _ => decide
      rw [hne] at q1
      clear q2
      obtain ⟨re, im, hre, him, hrun⟩ := ip_back HA.out HB.out
      have hrun2 : ∀ W : World, (binOp .mul 53 (.complex .f64 a b) (.complex .f64 0 13830554455654793216)).run Try.prog W = .ok (.complex .f64 re im) W := fun W => hrun Try.prog 53 W
      have HRE := Aside0.mk hre
      have HIM := Aside0.mk him
      clear hrun hre him hz hne
      go_wp2
      go_step3
      exact ⟨rfl, HK.out _ _ (Handed.intro k (by omega) (HJ.out _ _ _ _ _ _ _ _ _ _ _ _ _ ⟨re, im, by omega, by omega, rfl, by simp; omega, HRE, HIM, rfl⟩))⟩
end Go.Proofs.Ytbkcdfiokjhcjaa.P
end

section
/- Motions: moves one behind the other, and what undoes one. -/
namespace Go.Proofs.Ytbkcdfiokjhcjaa.P
open Go.Proofs.Ytbkcdfiokjhcjaa.B Go.RowKit Go.Proofs.YtbkcdfiokjhcjaaW.PrintWords Go.Proofs.YtbkcdfiokjhcjaaW.PrintLast Go.Proofs.YtbkcdfiokjhcjaaW.PrintMore Go.Proofs.Ytbkcdfiokjhcjaa.FX Go.Proofs.Ytbkcdfiokjhcjaa.H
set_option linter.unusedVariables false
set_option linter.unusedSimpArgs false
theorem run_store_complex {P : Program} {w : World} {ad : Addr} {m : Mode} (k : FloatKind) (a b : Nat) : (store ad (.complex k a b) m).run P w = stored P w ad (.complex k a b) m := run_store P w ad _ m rfl
attribute [local go_sem] run_store_complex
/-- Bits that are a move: what it turns by, and what it adds. -/
def MV (a b c d : Nat) (t p : Int × Int) : Prop := IsF a t.1 ∧ IsF b t.2 ∧ IsF c p.1 ∧ IsF d p.2
abbrev mv (a b c d : Nat) : Value := .agg #[.complex .f64 a b, .complex .f64 c d]
def MovePost (t p : Int × Int) (w : World) (e : Ending) (w' : World) : Prop := ∃ a b c d, e = .returned (mv a b c d) ∧ MV a b c d t p ∧ Below w.heap.size w w'
def cm (x y : Int × Int) : Int × Int := (x.1 * y.1 - x.2 * y.2, x.1 * y.2 + x.2 * y.1)
def near (n : Nat) (x : Int × Int) : Prop := x.1.natAbs ≤ n ∧ x.2.natAbs ≤ n
theorem near_mul {n : Nat} {x y : Int} (h1 : x.natAbs ≤ n) (h2 : y.natAbs ≤ 1) : (x * y).natAbs ≤ n := by
  rw [Int.natAbs_mul]
  exact Nat.le_trans (Nat.mul_le_mul h1 h2) (by omega)
theorem move_new3 (w : World) (o1 o2 o3 : Obj) : (((w.alloc o1).alloc o2).alloc o3).heap[w.heap.size + 1 + 1]? = some o3 := by
  have h := blk_new ((w.alloc o1).alloc o2) o3
  rw [alloc_size, alloc_size] at h
  exact h
theorem move_new2 (w : World) (o1 o2 : Obj) : ((w.alloc o1).alloc o2).heap[w.heap.size + 1]? = some o2 := by
  have h := blk_new (w.alloc o1) o2
  rw [alloc_size] at h
  exact h
set_option maxHeartbeats 1000000 in
set_option maxRecDepth 100000 in
theorem mthen_calls (a b c d a' b' c' d' : Nat) (t p u q : Int × Int) (w : World) (h1 : MV a b c d t p) (h2 : MV a' b' c' d' u q) (ht : near 1 t) (hu : near 1 u) (hp : near 1000000000 p) (hq : near 1000000000 q) :
    Calls Try.prog 62 #[mv a b c d, mv a' b' c' d'] w (MovePost (cm t u) ((cm p u).1 + q.1, (cm p u).2 + q.2) w) := by
  obtain ⟨ha, hb, hc, hd⟩ := h1
  obtain ⟨ha', hb', hc', hd'⟩ := h2
  have n1 := near_mul ht.1 hu.1; have n2 := near_mul ht.2 hu.2; have n3 := near_mul ht.1 hu.2; have n4 := near_mul ht.2 hu.1
  have n5 := near_mul hp.1 hu.1; have n6 := near_mul hp.2 hu.2; have n7 := near_mul hp.1 hu.2; have n8 := near_mul hp.2 hu.1
  have q1 := hq.1; have q2 := hq.2
  obtain ⟨r1, i1, hr1, hi1, k1⟩ := cmul_run ha hb ha' hb' (by omega) (by omega) (by omega) (by omega)
  obtain ⟨r2, i2, hr2, hi2, k2⟩ := cmul_run hc hd ha' hb' (by omega) (by omega) (by omega) (by omega)
  obtain ⟨r3, i3, hr3, hi3, k3⟩ := cadd_run hr2 hi2 hc' hd' (by omega) (by omega)
  have e1 : ∀ W : World, (binOp .mul 53 (.complex .f64 a b) (.complex .f64 a' b')).run Try.prog W = .ok (.complex .f64 r1 i1) W := fun W => k1 Try.prog 53 W
  have e2 : ∀ W : World, (binOp .mul 53 (.complex .f64 c d) (.complex .f64 a' b')).run Try.prog W = .ok (.complex .f64 r2 i2) W := fun W => k2 Try.prog 53 W
  have e3 : ∀ W : World, (binOp .add 53 (.complex .f64 r2 i2) (.complex .f64 c' d')).run Try.prog W = .ok (.complex .f64 r3 i3) W := fun W => k3 Try.prog 53 W
  have HR := Aside0.mk (show MV r1 i1 r3 i3 (cm t u) ((cm p u).1 + q.1, (cm p u).2 + q.2) from ⟨hr1, hi1, hr3, hi3⟩)
  clear ha hb hc hd ha' hb' hc' hd' ht hu hp hq n1 n2 n3 n4 n5 n6 n7 n8 q1 q2 hr1 hi1 hr2 hi2 hr3 hi3 k1 k2 k3
  go_enter Try.func62, Try.ntmps62
  go_wp2
  refine bodyPost_ret (results_cell_row rfl _ _ (w.heap.size + 1 + 1) 61 #[.complex .f64 r1 i1, .complex .f64 r3 i3] (0, 0) _ rfl (move_new3 w _ _ _) Try.underlying61 rfl (by kernel_rfl)) rfl ?_
  exact ⟨r1, i1, r3, i3, rfl, HR.out, below_alloc (below_alloc (below_alloc (Below.refl _ _) _) _) _⟩
set_option maxHeartbeats 1000000 in
set_option maxRecDepth 100000 in
theorem mback_calls (a b c d : Nat) (t p : Int × Int) (w : World) (h1 : MV a b c d t p) (ht : near 1 t) (hp : near 1000000000 p) :
    Calls Try.prog 63 #[mv a b c d] w (MovePost (t.1, -t.2) (cm (-p.1, -p.2) (t.1, -t.2)) w) := by
  obtain ⟨ha, hb, hc, hd⟩ := h1
  have hb' := negF_isF hb
  have hc' := negF_isF hc
  have hd' := negF_isF hd
  have m1 : (-t.2).natAbs ≤ 1 := by have := ht.2; omega
  have m2 : (-p.1).natAbs ≤ 1000000000 := by have := hp.1; omega
  have m3 : (-p.2).natAbs ≤ 1000000000 := by have := hp.2; omega
  have n1 := near_mul m2 ht.1; have n2 := near_mul m3 m1; have n3 := near_mul m2 m1; have n4 := near_mul m3 ht.1
  obtain ⟨r2, i2, hr2, hi2, k2⟩ := cmul_run hc' hd' ha hb' (by omega) (by omega) (by omega) (by omega)
  have e0 : ∀ W : World, (Op.unary .neg (.float .f64 b)).run Try.prog W = .ok (.float .f64 (Op.negFloat .f64 b)) W := fun W => rfl
  have e1 : ∀ W : World, (Op.unary .neg (.complex .f64 c d)).run Try.prog W = .ok (.complex .f64 (Op.negFloat .f64 c) (Op.negFloat .f64 d)) W := fun W => rfl
  have e2 : ∀ W : World, (binOp .mul 53 (.complex .f64 (Op.negFloat .f64 c) (Op.negFloat .f64 d)) (.complex .f64 a (Op.negFloat .f64 b))).run Try.prog W = .ok (.complex .f64 r2 i2) W := fun W => k2 Try.prog 53 W
  have HR := Aside0.mk (show MV a (Op.negFloat .f64 b) r2 i2 (t.1, -t.2) (cm (-p.1, -p.2) (t.1, -t.2)) from ⟨ha, hb', hr2, hi2⟩)
  clear ha hb hc hd hb' hc' hd' ht hp n1 n2 n3 n4 m1 m2 m3 hr2 hi2 k2
  generalize Op.negFloat .f64 b = nb at *
  generalize Op.negFloat .f64 c = nc at *
  generalize Op.negFloat .f64 d = nd at *
  go_enter Try.func63, Try.ntmps63
  go_wp2
  refine bodyPost_ret (results_cell_row rfl _ _ (w.heap.size + 1) 61 #[.complex .f64 a nb, .complex .f64 r2 i2] (0, 0) _ rfl (move_new2 w _ _) Try.underlying61 rfl (by kernel_rfl)) rfl ?_
  exact ⟨a, nb, r2, i2, rfl, HR.out, below_alloc (below_alloc (Below.refl _ _) _) _⟩
end Go.Proofs.Ytbkcdfiokjhcjaa.P
end

section
/- Motions: a move as a motion. -/
namespace Go.Proofs.Ytbkcdfiokjhcjaa.P
open Go.Proofs.Ytbkcdfiokjhcjaa.B Go.RowKit Go.Proofs.YtbkcdfiokjhcjaaW.PrintWords Go.Proofs.YtbkcdfiokjhcjaaW.PrintLast Go.Proofs.YtbkcdfiokjhcjaaW.PrintMore Go.Proofs.Ytbkcdfiokjhcjaa.FX Go.Proofs.Ytbkcdfiokjhcjaa.H
set_option linter.unusedVariables false
set_option linter.unusedSimpArgs false
attribute [local go_sem] run_store_complex
abbrev MoS (w0 : World) (a b c d : Nat) (w' : World) : Prop :=
  Aside0 (w'.heap[w0.heap.size]? = some (.cells #[.complex .f64 a b, .complex .f64 c d] 61 (0, 0))) ∧ Aside0 (w'.heap[w0.heap.size + 1]? = some (.cells #[.int .i64 0, .int .i64 0, .int .i64 0] 35 (0, 0))) ∧ Aside0 (Below w0.heap.size w0 w') ∧
  w'.cell? ⟨w0.heap.size, 0, none⟩ = some (.complex .f64 a b) ∧ w'.cell? ⟨w0.heap.size, 1, none⟩ = some (.complex .f64 c d) ∧ w'.cell? ⟨w0.heap.size + 1, 0, none⟩ = some (.int .i64 0) ∧ w'.cell? ⟨w0.heap.size + 1, 1, none⟩ = some (.int .i64 0) ∧ w'.cell? ⟨w0.heap.size + 1, 2, none⟩ = some (.int .i64 0) ∧
  w'.frozen? ⟨w0.heap.size + 1, 0, none⟩ = false ∧ w'.frozen? ⟨w0.heap.size + 1, 1, none⟩ = false ∧ w'.frozen? ⟨w0.heap.size + 1, 2, none⟩ = false
theorem MoS.mk {w0 : World} {a b c d : Nat} {w' : World} (h1 : w'.heap[w0.heap.size]? = some (.cells #[.complex .f64 a b, .complex .f64 c d] 61 (0, 0))) (h2 : w'.heap[w0.heap.size + 1]? = some (.cells #[.int .i64 0, .int .i64 0, .int .i64 0] 35 (0, 0))) (h3 : Below w0.heap.size w0 w') : MoS w0 a b c d w' :=
  ⟨⟨h1⟩, ⟨h2⟩, ⟨h3⟩, blk_cell h1 0, blk_cell h1 1, blk_cell h2 0, blk_cell h2 1, blk_cell h2 2, blk_frozen h2 0, blk_frozen h2 1, blk_frozen h2 2⟩
theorem MoS.keep {w0 : World} {a b c d : Nat} {w1 w2 : World} (h : MoS w0 a b c d w1) (hb : Below w1.heap.size w1 w2) : MoS w0 a b c d w2 := MoS.mk (blk_keep h.1.out hb) (blk_keep h.2.1.out hb) (below_step h.2.2.1.out hb)
theorem MoS.drew {w0 : World} {a b c d : Nat} {w1 : World} (h : MoS w0 a b c d w1) : MoS w0 a b c d w1.drew := MoS.mk h.1.out h.2.1.out (below_drew h.2.2.1.out)
def MotPost (m : Int) (x y : Int) (w : World) (e : Ending) (w' : World) : Prop := e = .returned (.agg #[.int .i64 m, .int .i64 x, .int .i64 y]) ∧ Below w.heap.size w w'
set_option maxHeartbeats 1000000 in
set_option maxRecDepth 100000 in
theorem motion_calls (a b c d m : Nat) (p : Int × Int) (w : World) (hm : m < 4) (h1 : MV a b c d (ip m) p) (hp : near 4000000000 p) :
    Calls Try.prog 59 #[mv a b c d] w (MotPost m p.1 p.2 w) := by
  obtain ⟨ha, hb, hc, hd⟩ := h1
  have q1 := hp.1
  have q2 := hp.2
  have HQ := fun W => Aside0.mk (quarters_calls a b m W hm ha hb)
  have HP := fun W => Aside0.mk (mpoint_at W hc hd (by omega) (by omega))
  have HS : MoS w a b c d ((w.alloc (.cells #[.complex .f64 a b, .complex .f64 c d] 61)).alloc (.cells #[.int .i64 0, .int .i64 0, .int .i64 0] 35)) := MoS.mk (blk_keep (blk_new w _) (below_alloc (Below.refl _ _) _)) (move_new2 w _ _) (below_alloc (below_alloc (Below.refl _ _) _) _)
  clear ha hb hc hd q1 q2 hp
  obtain ⟨X, Y⟩ := p
  simp only [] at HP ⊢
  go_enter Try.func59, Try.ntmps59
  go_wp2
  refine start_ (n := 8) (S := MoS w a b c d) (ds := [7]) #[false, false, false, false, false, false, false, false] (by kernel_rfl) rfl rfl (MoS.drew HS) (fun hHeld => ?_)
  clear HS
  refine pure_ (i := 0) (N := some 3) (v := ?_) (a' := ?_) #[true, false, false, false, false, false, false, false] rfl rfl (by kernel_rfl) (fun _ _ _ h => h) (Or.inl ⟨by rfl, ?_⟩) ?_ ?_
  rotate_left
  · intro w'
    go_simp
    with_reducible rfl
  rotate_left
  · simp only [Act.put, List.setIfInBounds_toArray, List.set_cons_zero, List.set_cons_succ]
    rfl
  refine take_ (i := 1) (N := some 4) (v := ?_) (a' := ?_) #[true, true, false, false, false, false, false, false] rfl rfl (by kernel_rfl) (fun _ _ _ h => h) (Or.inl ⟨by rfl, ?_⟩) hHeld ?_ ?_
  rotate_left
  · rintro w' ⟨_, _, _, k1, k2, k3, k4, k5, k6, k7, k8⟩
    go_simp
    with_reducible rfl
  rotate_left
  · simp only [Act.put, List.setIfInBounds_toArray, List.set_cons_zero, List.set_cons_succ]
    rfl
  refine pure_ (i := 3) (N := some 6) (v := ?_) (a' := ?_) #[true, true, false, true, false, false, false, false] rfl rfl (by kernel_rfl) (fun _ _ _ h => h) (Or.inl ⟨by rfl, ?_⟩) ?_ ?_
  rotate_left
  · intro w'
    go_simp
    with_reducible rfl
  rotate_left
  · simp only [Act.put, List.setIfInBounds_toArray, List.set_cons_zero, List.set_cons_succ]
    rfl
  refine take_ (i := 4) (N := some 7) (v := ?_) (a' := ?_) #[true, true, false, true, true, false, false, false] rfl rfl (by kernel_rfl) (fun _ _ _ h => h) (Or.inl ⟨by rfl, ?_⟩) hHeld ?_ ?_
  rotate_left
  · rintro w' ⟨_, _, _, k1, k2, k3, k4, k5, k6, k7, k8⟩
    go_simp
    with_reducible rfl
  rotate_left
  · simp only [Act.put, List.setIfInBounds_toArray, List.set_cons_zero, List.set_cons_succ]
    rfl
  refine one_ (i := 2) (N := some 5) #[true, true, true, true, true, false, false, false] rfl rfl (by kernel_rfl) (by decide) (fun K hK => ?_)
  refine goes_ Try.func70 (by kernel_rfl) rfl #[.complex .f64 a b] (by rfl) rfl rfl (by (try simp only [List.map_toArray, List.map_cons, List.map_nil]); first | done | rfl) ?_
  with_reducible refine ((HQ _).out).mono ?_
  rintro e w2 ⟨rfl, hb⟩
  refine ⟨_, rfl, ?_⟩
  have hHeld2 := MoS.keep hHeld hb
  clear hHeld hb
  refine hK.out _ _ hHeld2 (fun hHeld => ?_)
  clear hK hHeld2
  refine norm_ (a' := ?_) ?_ ?_
  rotate_left
  · show Act.put _ (some 5) _ = _
    simp only [Act.put, List.setIfInBounds_toArray, List.set_cons_zero, List.set_cons_succ]
    rfl
  refine one_ (i := 5) (N := some 8) #[true, true, true, true, true, true, false, false] rfl rfl (by kernel_rfl) (by decide) (fun K hK => ?_)
  refine goes_ Try.func60 (by kernel_rfl) rfl #[.complex .f64 c d] (by rfl) rfl rfl (by (try simp only [List.map_toArray, List.map_cons, List.map_nil]); first | done | rfl) ?_
  with_reducible refine ((HP _).out).mono ?_
  rintro e w2 ⟨rfl, hb⟩
  refine ⟨_, rfl, ?_⟩
  have hHeld2 := MoS.keep hHeld hb
  clear hHeld hb
  refine hK.out _ _ hHeld2 (fun hHeld => ?_)
  clear hK hHeld2
  refine norm_ (a' := ?_) ?_ ?_
  rotate_left
  · show Act.put _ (some 8) _ = _
    simp only [Act.put, List.setIfInBounds_toArray, List.set_cons_zero, List.set_cons_succ]
    rfl
  refine pure_ (i := 6) (N := some 9) (v := ?_) (a' := ?_) #[true, true, true, true, true, true, true, false] rfl rfl (by kernel_rfl) (fun _ _ _ h => h) (Or.inl ⟨by rfl, ?_⟩) ?_ ?_
  rotate_left
  · intro w'
    go_simp
    with_reducible rfl
  rotate_left
  · simp only [Act.put, List.setIfInBounds_toArray, List.set_cons_zero, List.set_cons_succ]
    rfl
  refine last_ (i := 7) (N := none) #[true, true, true, true, true, true, true, true] rfl rfl (by kernel_rfl) (by decide) (fun K hK => ?_)
  obtain ⟨_, HR, HB, k1, k2, k3, k4, k5, k6, k7, k8⟩ := hHeld
  rw [if_pos (by rfl)]
  go_wp2
  refine hK.out _ _ ?_
  refine done_ (by kernel_rfl) ?_
  go_wp2
  refine bodyPost_ret (results_cell_row rfl _ _ (w.heap.size + 1) 35 #[.int .i64 m, .int .i64 X, .int .i64 Y] (0, 0) _ rfl (blk_put (cs := #[.int .i64 m, .int .i64 X, .int .i64 0]) (blk_put (cs := #[.int .i64 m, .int .i64 0, .int .i64 0]) (blk_put (cs := #[.int .i64 0, .int .i64 0, .int .i64 0]) HR.out 0 _ rfl) 1 _ rfl) 2 _ rfl) Try.underlying35 rfl (by kernel_rfl)) rfl ?_
  exact ⟨rfl, below_set (below_set (below_set HB.out (by omega)) (by omega)) (by omega)⟩
end Go.Proofs.Ytbkcdfiokjhcjaa.P
end
