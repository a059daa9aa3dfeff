/- Several texts of this proof in one: what the law's functions come to, and the lemmas (some as the kit's print.sh printed them, what is not used struck). -/
import Derived.Test.YtpoghhcpoimepaaM3
import Derived.Deep.RegionHeld3
import Derived.Shelf.Abstract
import Derived.Shelf.Strings.Builder1
import Derived.Test.YtpoghhcpoimepaaM2
import Derived.Shelf.Small.Strs
import Derived.Shelf.Strings.Search1
import Derived.Test.YtpoghhcpoimepaaProg
section
/- walk.Trace. -/
namespace Go.Proofs.Ytpoghhcpoimepaa.P
open Go.Proofs.Ytpoghhcpoimepaa.B Go.RowKit Go.Proofs.YtpoghhcpoimepaaW.PrintWords Go.Proofs.YtpoghhcpoimepaaW.PrintLast Go.Proofs.YtpoghhcpoimepaaW.PrintMore Go.Proofs.Ytpoghhcpoimepaa.FX Go.Proofs.Ytpoghhcpoimepaa.H
set_option linter.unusedVariables false
set_option linter.unusedSimpArgs false
attribute [local go_sem] run_store_complex
abbrev TrS (go : Nat) (v : Value) (w' : World) : Prop := Aside0 (w'.heap[go]? = some (.cells #[v] 22 (0, 0))) ∧ w'.cell? ⟨go, 0, none⟩ = some v ∧ w'.frozen? ⟨go, 0, none⟩ = false
theorem TrS.mk {go : Nat} {v : Value} {w' : World} (h : w'.heap[go]? = some (.cells #[v] 22 (0, 0))) : TrS go v w' := ⟨⟨h⟩, blk_cell h 0, blk_frozen h 0⟩
set_option maxHeartbeats 2000000 in
set_option maxRecDepth 100000 in
theorem trace1_calls (go a b base : Nat) (x y : Int) (w : World) (v : Value) (xs : List S24) (hg : w.heap[go]? = some (.cells #[v] 22 (0, 0))) (hR : Kd.R k24 24 w base (fun k => k ≠ go) v xs) (ha : IsF a x) (hb : IsF b y) (hx : x.natAbs < 2 ^ 53) (hy : y.natAbs < 2 ^ 53) (hbase : base ≤ w.heap.size) (hgo : base ≤ go) (hl : xs.length ≤ 100000) :
    Calls Try.prog 77 #[.complex .f64 a b, .pointer (some ⟨go, 0, none⟩)] w fun e w' => e = .returned (.tuple #[]) ∧ (∃ v', w'.heap[go]? = some (.cells #[v'] 22 (0, 0)) ∧ Kd.R k24 24 w' base (fun k => k ≠ go) v' (xs ++ [⟨x, y⟩])) ∧ Below base w w' := by
  have HP := fun W => Aside0.mk (wpoint_at W ha hb hx hy)
  obtain ⟨A, c, rfl⟩ := Kd.R_slice hR
  have HO := Aside0.mk hR
  have hg0 : w.drew.heap[go]? = some (.cells #[.slice A xs.length c] 22 (0, 0)) := hg
  clear hR ha hb hx hy hg
  go_enter Try.func77, Try.ntmps77
  go_wp2
  refine start_ (n := 6) (S := TrS go (.slice A xs.length c)) (ds := [5]) #[false, false, false, false, false, false] (by kernel_rfl) rfl rfl (TrS.mk hg0) (fun hHeld => ?_)
  refine take_ (i := 0) (N := some 3) (v := ?_) (a' := ?_) #[true, false, false, false, false, false] rfl rfl (by kernel_rfl) (fun _ _ _ h => h) (Or.inl ⟨by rfl, ?_⟩) hHeld ?_ ?_
  rotate_left
  · rintro w' ⟨_, k1, k2⟩
    go_simp
    with_reducible rfl
  rotate_left
  · simp only [Act.put, List.setIfInBounds_toArray, List.set_cons_zero, List.set_cons_succ]
    rfl
  refine pure_ (i := 1) (N := some 4) (v := ?_) (a' := ?_) #[true, true, false, false, false, false] rfl rfl (by kernel_rfl) (fun _ _ _ h => h) (Or.inl ⟨by rfl, ?_⟩) ?_ ?_
  rotate_left
  · intro w'
    go_simp
    with_reducible rfl
  rotate_left
  · simp only [Act.put, List.setIfInBounds_toArray, List.set_cons_zero, List.set_cons_succ]
    rfl
  refine one_ (i := 2) (N := some 5) #[true, true, true, false, false, false] rfl rfl (by kernel_rfl) (by decide) (fun K_ hK => ?_)
  refine goes_ Try.func75 (by kernel_rfl) rfl #[.complex .f64 a b] (by rfl) rfl rfl (by (try simp only [List.map_toArray, List.map_cons, List.map_nil]); first | done | rfl) ?_
  with_reducible refine (HP _).out.mono ?_
  rintro e w2 ⟨rfl, hb⟩
  refine ⟨_, rfl, ?_⟩
  have hO1 := Kd.R_below (Kd.R_drew HO.out) hb
  have hB1 : Below base w w2 := (below_drew (Below.refl base w)).trans (hb.mono hbase)
  have hg1 := blk_keep hHeld.1.out hb
  refine hK.out _ _ (TrS.mk hg1) (fun hHeld => ?_)
  clear hK hb
  refine norm_ (a' := ?_) ?_ ?_
  rotate_left
  · show Act.put _ (some 5) _ = _
    simp only [Act.put, List.setIfInBounds_toArray, List.set_cons_zero, List.set_cons_succ]
    rfl
  refine one_ (i := 3) (N := some 6) #[true, true, true, true, false, false] rfl rfl (by kernel_rfl) (by decide) (fun K_ hK => ?_)
  refine value_ (w1 := ?_) (v := ?_) (by rfl) rfl ?_ ?_
  rotate_left 2
  · go_simp
    constructor
    · rfl
    · rfl
  refine hK.out _ _ (TrS.mk (blk_alloc hg1 _)) (fun hHeld => ?_)
  clear hK
  refine norm_ (a' := ?_) ?_ ?_
  rotate_left
  · show Act.put _ (some 6) _ = _
    simp only [Act.put, List.setIfInBounds_toArray, List.set_cons_zero, List.set_cons_succ]
    rfl
  refine one_ (i := 4) (N := some 7) #[true, true, true, true, true, false] rfl rfl (by kernel_rfl) (by decide) (fun K_ hK => ?_)
  refine Kd.R_append_step k24 (w0 := w) base (by rfl) (.tmp 3) (.tmp 6) 22 24 (.agg #[(.int .i64 0), (.int .i64 0)]) 16 rfl Try.underlying22 info24 rfl (by decide) (by omega) (.slice A xs.length c) xs (⟨x, y⟩ : S24) [.int .i64 x, .int .i64 y] (fun k => k ≠ go) (fun _ => False) rfl rfl ?aP (fun _ hk => hk.elim) ?aF ?aO ?aB ?aS ?aL ?_
  case aP => exact k24_mkM _ _ _ (⟨x, y⟩ : S24)
  case aB => exact hB1
  case aF => intro k hk he; have := lt_blk hg1; omega
  case aO => exact hO1
  case aS => have := hB1.size; omega
  case aL => omega
  intro v1 w3 ho hb hg hat
  have hgA := blk_alloc hg1 (.cells #[.int .i64 x, .int .i64 y] 24)
  have hg3 := blk_grown (blk_keep hg1 (Below.refl _ _)) hg (Kd.R_away hO1 (fun k hk => hk))
  refine hK.out _ _ (TrS.mk hg3) (fun hHeld => ?_)
  clear hK
  refine norm_ (a' := ?_) ?_ ?_
  rotate_left
  · show Act.put _ (some 7) _ = _
    simp only [Act.put, List.setIfInBounds_toArray, List.set_cons_zero, List.set_cons_succ]
    rfl
  refine last_ (i := 5) (N := none) #[true, true, true, true, true, true] rfl rfl (by kernel_rfl) (by decide) (fun K_ hK => ?_)
  obtain ⟨_, k1, k2⟩ := hHeld
  obtain ⟨A1, c1, rfl⟩ := Kd.R_slice ho
  have ho2 : Kd.R k24 24 w3 base (fun k => k ≠ go) (.slice A1 (xs.length + 1) c1) (xs ++ [⟨x, y⟩]) := by rw [List.length_append] at ho; exact ho
  rw [if_pos (by rfl)]
  go_wp2
  refine hK.out _ _ ?_
  refine done_ (by kernel_rfl) ?_
  go_end0
  refine ⟨rfl, ⟨_, blk_set hg3 0 _, Kd.R_far ho2 (fun k hk => hk) _⟩, hb.setCell hgo _⟩
/-- The points that a move comes to. -/
def ptsFrom (x y dx dy : Int) : Nat → List S24
  | 0 => []
  | j + 1 => ptsFrom x y dx dy j ++ [⟨x + (j + 1 : Nat) * dx, y + (j + 1 : Nat) * dy⟩]
theorem ptsFrom_len (x y dx dy : Int) : ∀ j, (ptsFrom x y dx dy j).length = j
  | 0 => rfl
  | j + 1 => by rw [ptsFrom, List.length_append, ptsFrom_len x y dx dy j]; rfl
def stepPts (s : Nat × Int × Int) (k n : Int) : List S24 :=
  if k = 3 ∨ k = 4 then [] else if k = 2 then ptsFrom s.2.1 s.2.2 (-(ip s.1).1) (-(ip s.1).2) (ofV k n) else ptsFrom s.2.1 s.2.2 (ip s.1).1 (ip s.1).2 (ofV k n)
def OutI (go base : Nat) (xs : List S24) (W : World) : Prop := ∃ v, W.heap[go]? = some (.cells #[v] 22 (0, 0)) ∧ Kd.R k24 24 W base (fun k => k ≠ go) v xs
theorem OutI.keep {go base : Nat} {xs : List S24} {W W' : World} (h : OutI go base xs W) (hk : ∀ k, k < W.heap.size → base ≤ k → W'.heap[k]? = W.heap[k]?) (hgo : base ≤ go) : OutI go base xs W' := by
  obtain ⟨v, h1, h2⟩ := h
  refine ⟨v, (hk go (lt_blk h1) hgo).trans h1, Kd.R_mono (Kd.R_step (Kd.R_bound h2) (fun k hk' hlt => hk k hlt hk'.2.1)) (fun k hk' => hk'.1)⟩
set_option maxHeartbeats 4000000 in
set_option maxRecDepth 100000 in
theorem do_see1 (g0 go base lr li sb s1 s2 : Nat) (k n x y dx dy : Int) (m : Nat) (w : World) (xs : List S24) (a0 b0 : Nat) (hg : w.heap[g0]? = some (.cells #[.complex .f64 a0 b0, .complex .f64 lr li] 101 (0, 0))) (hO : OutI go base xs w) (hgb : g0 < base) (hgo : base ≤ go) (hbase : base ≤ w.heap.size)
    (hof : walk_often.f k n = some (m : Int)) (hm : m ≤ 1048576) (hk3 : k ≠ 3) (hk4 : k ≠ 4) (hsb : sb = if k = 2 then 13830554455654793216 else 4607182418800017408) (hxl : xs.length + m ≤ 100000)
    (e1 : ∀ W : World, (binOp .mul 61 (.complex .f64 lr li) (.complex .f64 sb 0)).run Try.prog W = .ok (.complex .f64 s1 s2) W)
    (ha0 : IsF a0 x) (hb0 : IsF b0 y) (hs1 : IsF s1 dx) (hs2 : IsF s2 dy) (hx : x.natAbs ≤ 2000000000000) (hy : y.natAbs ≤ 2000000000000) (hdx : dx.natAbs ≤ 1) (hdy : dy.natAbs ≤ 1) :
    Calls Try.prog 73 #[.pointer (some ⟨g0, 0, none⟩), .agg #[.int .i64 k, .int .i64 n], .func (.func 77) #[] #[.pointer (some ⟨go, 0, none⟩)]] w fun e w' => e = .returned (.tuple #[]) ∧ (∃ a b, w'.heap[g0]? = some (.cells #[.complex .f64 a b, .complex .f64 lr li] 101 (0, 0)) ∧ IsF a (x + m * dx) ∧ IsF b (y + m * dy)) ∧ OutI go base (xs ++ ptsFrom x y dx dy m) w' ∧ Below g0 w w' := by
  have HG := Aside0.mk hg; clear hg
  have HO := Aside0.mk hO; clear hO
  have HOF := Aside0.mk hof; clear hof
  have k3 : (k == 3) = false := beq_eq_false_iff_ne.2 hk3
  have k4 : (k == 4) = false := beq_eq_false_iff_ne.2 hk4
  clear hk3 hk4
  have e0 : ∀ W : World, (binOp .eql 106 (.func (.func 77) #[] #[.pointer (some ⟨go, 0, none⟩)]) .nilFunc).run Try.prog W = .ok (.bool false) W := fun W => by rfl
  have HA := Aside0.mk (show IsF a0 x ∧ IsF b0 y ∧ IsF s1 dx ∧ IsF s2 dy from ⟨ha0, hb0, hs1, hs2⟩)
  clear ha0 hb0 hs1 hs2
  have e77 : ∀ args W, (callFunc 77 args).run Try.prog W = .ok (.enter 77 args) W := enters_of Try.func77 (by kernel_rfl) rfl
  have HE := Aside0.mk e77; clear e77
  by_cases hk2 : k = 2
  · rw [if_pos hk2] at hsb
    subst hsb
    subst hk2
    go_enter Try.func73, Try.ntmps73
    go_wp2_with (go_at_call 60; (with_reducible refine (walk_often.calls 2 n _ _ HOF.out).mono ?_); rintro e w1 ⟨rfl, hb1⟩; have bk1 := blk_keep (blk_new w (.cells #[.int .i64 2, .int .i64 n] 56)) hb1; have hc0 := blk_cell bk1 0; have HG1 := Aside0.mk (blk_keep (blk_keep HG.out (below_alloc (Below.refl _ _) _)) hb1); have HBB := Aside0.mk (below_step (below_alloc (Below.refl w.heap.size w) _) hb1); clear hb1 bk1)
    go_loopw [57] (fun v wr => ∃ j : Nat, j ≤ m ∧ v = .int .i64 j ∧ Aside0 (∃ a b, wr.heap[g0]? = some (.cells #[.complex .f64 a b, .complex .f64 lr li] 101 (0, 0)) ∧ IsF a (x + j * dx) ∧ IsF b (y + j * dy)) ∧ Aside0 (OutI go base (xs ++ ptsFrom x y dx dy j) wr) ∧ Aside0 (Below g0 w wr) ∧ Aside0 (base ≤ wr.heap.size)) (fun v _ => m - (intOf v).toNat)
    case atStart => exact ⟨0, Nat.zero_le _, rfl, ⟨⟨a0, b0, HG1.out, by rw [show x + ((0 : Nat) : Int) * dx = x by simp]; exact HA.out.1, by rw [show y + ((0 : Nat) : Int) * dy = y by simp]; exact HA.out.2.1⟩⟩, ⟨by rw [ptsFrom, List.append_nil]; exact HO.out.keep (fun k hk _ => HBB.out.block k hk) hgo⟩, ⟨HBB.out.mono (by omega)⟩, ⟨Nat.le_trans hbase HBB.out.size⟩⟩
    case round =>
      obtain ⟨j, hj, rfl, HI, HOO, HB, HS⟩ := hrel
      by_cases hlt : j < m
      · obtain ⟨a, b, hgw, hia, hib⟩ := HI.out
        have h1 : ((j : Int) * dx).natAbs ≤ 1048576 := by rw [Int.natAbs_mul]; exact Nat.le_trans (Nat.mul_le_mul_left _ hdx) (by omega)
        have h2 : ((j : Int) * dy).natAbs ≤ 1048576 := by rw [Int.natAbs_mul]; exact Nat.le_trans (Nat.mul_le_mul_left _ hdy) (by omega)
        obtain ⟨r1, r2, d1, d2, hr3⟩ := cadd_run hia hib HA.out.2.2.1 HA.out.2.2.2 (by omega) (by omega)
        have e3 : ∀ W : World, (binOp .add 61 (.complex .f64 a b) (.complex .f64 s1 s2)).run Try.prog W = .ok (.complex .f64 r1 r2) W := fun W => hr3 Try.prog 61 W
        have q1 : x + (j : Int) * dx + dx = x + ((j + 1 : Nat) : Int) * dx := by rw [Int.natCast_add, Int.add_mul]; simp; omega
        have q2 : y + (j : Int) * dy + dy = y + ((j + 1 : Nat) : Int) * dy := by rw [Int.natCast_add, Int.add_mul]; simp; omega
        rw [q1] at d1
        rw [q2] at d2
        have HD := Aside0.mk (show IsF r1 (x + ((j + 1 : Nat) : Int) * dx) ∧ IsF r2 (y + ((j + 1 : Nat) : Int) * dy) from ⟨d1, d2⟩)
        have HBD := Aside0.mk (show (x + ((j + 1 : Nat) : Int) * dx).natAbs < 2 ^ 53 ∧ (y + ((j + 1 : Nat) : Int) * dy).natAbs < 2 ^ 53 by rw [← q1, ← q2]; omega)
        have HS1 : WkS wr g0 a b lr li wr := WkS.mk hgw (BelB.of (Below.refl _ _) (Nat.le_of_lt (lt_blk hgw)))
        have HSx := HS1
        have HGW := Aside0.mk hgw
        clear hia hib h1 h2 hr3 d1 d2 q1 q2 hgw HI HS1
        have HS := HS
        have HS' := HS; clear HS
        have HS := HSx; clear HSx
        go_wp2
        refine start_ (n := 14) (S := WkS wr g0 a b lr li) (ds := [13]) #[false, false, false, false, false, false, false, false, false, false, false, false, false, false] (by kernel_rfl) rfl rfl (WkS.drew HS) (fun hHeld => ?_)
        clear HS
        refine pure_ (i := 0) (N := some 59) (v := ?_) (a' := ?_) #[true, false, false, false, false, false, false, false, false, false, false, false, false, false] rfl rfl (by kernel_rfl) (fun _ _ _ h => h) (Or.inl ⟨by rfl, ?_⟩) ?_ ?_
        rotate_left
        · intro w'
          go_simp
          with_reducible rfl
        rotate_left
        · simp only [Act.put, List.setIfInBounds_toArray, List.set_cons_zero, List.set_cons_succ]
          rfl
        refine pure_ (i := 1) (N := some 60) (v := ?_) (a' := ?_) #[true, true, false, false, false, false, false, false, false, false, false, false, false, false] rfl rfl (by kernel_rfl) (fun _ _ _ h => h) (Or.inl ⟨by rfl, ?_⟩) ?_ ?_
        rotate_left
        · intro w'
          go_simp
          with_reducible rfl
        rotate_left
        · simp only [Act.put, List.setIfInBounds_toArray, List.set_cons_zero, List.set_cons_succ]
          rfl
        refine pure_ (i := 2) (N := some 61) (v := ?_) (a' := ?_) #[true, true, true, false, false, false, false, false, false, false, false, false, false, false] rfl rfl (by kernel_rfl) (fun _ _ _ h => h) (Or.inl ⟨by rfl, ?_⟩) ?_ ?_
        rotate_left
        · intro w'
          go_simp
          with_reducible rfl
        rotate_left
        · simp only [Act.put, List.setIfInBounds_toArray, List.set_cons_zero, List.set_cons_succ]
          rfl
        refine take_ (i := 3) (N := some 62) (v := ?_) (a' := ?_) #[true, true, true, true, false, false, false, false, false, false, false, false, false, false] rfl rfl (by kernel_rfl) (fun _ _ _ h => h) (Or.inl ⟨by rfl, ?_⟩) hHeld ?_ ?_
        rotate_left
        · rintro w' ⟨_, _, k1, k2, k3, k4⟩
          go_simp
          with_reducible rfl
        rotate_left
        · simp only [Act.put, List.setIfInBounds_toArray, List.set_cons_zero, List.set_cons_succ]
          rfl
        refine pure_ (i := 4) (N := some 63) (v := ?_) (a' := ?_) #[true, true, true, true, true, false, false, false, false, false, false, false, false, false] rfl rfl (by kernel_rfl) (fun _ _ _ h => h) (Or.inl ⟨by rfl, ?_⟩) ?_ ?_
        rotate_left
        · intro w'
          go_simp
          with_reducible rfl
        rotate_left
        · simp only [Act.put, List.setIfInBounds_toArray, List.set_cons_zero, List.set_cons_succ]
          rfl
        refine pure_ (i := 5) (N := some 64) (v := ?_) (a' := ?_) #[true, true, true, true, true, true, false, false, false, false, false, false, false, false] rfl rfl (by kernel_rfl) (fun _ _ _ h => h) (Or.inl ⟨by rfl, ?_⟩) ?_ ?_
        rotate_left
        · intro w'
          go_simp
          with_reducible rfl
        rotate_left
        · simp only [Act.put, List.setIfInBounds_toArray, List.set_cons_zero, List.set_cons_succ]
          rfl
        refine pure_ (i := 6) (N := some 65) (v := ?_) (a' := ?_) #[true, true, true, true, true, true, true, false, false, false, false, false, false, false] rfl rfl (by kernel_rfl) (fun _ _ _ h => h) (Or.inl ⟨by rfl, ?_⟩) ?_ ?_
        rotate_left
        · intro w'
          go_simp
          with_reducible rfl
        rotate_left
        · simp only [Act.put, List.setIfInBounds_toArray, List.set_cons_zero, List.set_cons_succ]
          rfl
        refine take_ (i := 7) (N := some 66) (v := ?_) (a' := ?_) #[true, true, true, true, true, true, true, true, false, false, false, false, false, false] rfl rfl (by kernel_rfl) (fun _ _ _ h => h) (Or.inl ⟨by rfl, ?_⟩) hHeld ?_ ?_
        rotate_left
        · rintro w' ⟨_, _, k1, k2, k3, k4⟩
          go_simp
          with_reducible rfl
        rotate_left
        · simp only [Act.put, List.setIfInBounds_toArray, List.set_cons_zero, List.set_cons_succ]
          rfl
        refine pure_ (i := 8) (N := some 67) (v := ?_) (a' := ?_) #[true, true, true, true, true, true, true, true, true, false, false, false, false, false] rfl rfl (by kernel_rfl) (fun _ _ _ h => h) (Or.inl ⟨by rfl, ?_⟩) ?_ ?_
        rotate_left
        · intro w'
          go_simp
          with_reducible rfl
        rotate_left
        · simp only [Act.put, List.setIfInBounds_toArray, List.set_cons_zero, List.set_cons_succ]
          rfl
        refine pure_ (i := 9) (N := some 68) (v := ?_) (a' := ?_) #[true, true, true, true, true, true, true, true, true, true, false, false, false, false] rfl rfl (by kernel_rfl) (fun _ _ _ h => h) (Or.inl ⟨by rfl, ?_⟩) ?_ ?_
        rotate_left
        · intro w'
          go_simp
          with_reducible rfl
        rotate_left
        · simp only [Act.put, List.setIfInBounds_toArray, List.set_cons_zero, List.set_cons_succ]
          rfl
        refine pure_ (i := 10) (N := some 69) (v := ?_) (a' := ?_) #[true, true, true, true, true, true, true, true, true, true, true, false, false, false] rfl rfl (by kernel_rfl) (fun _ _ _ h => h) (Or.inl ⟨by rfl, ?_⟩) ?_ ?_
        rotate_left
        · intro w'
          go_simp
          with_reducible rfl
        rotate_left
        · simp only [Act.put, List.setIfInBounds_toArray, List.set_cons_zero, List.set_cons_succ]
          rfl
        refine pure_ (i := 11) (N := some 70) (v := ?_) (a' := ?_) #[true, true, true, true, true, true, true, true, true, true, true, true, false, false] rfl rfl (by kernel_rfl) (fun _ _ _ h => h) (Or.inl ⟨by rfl, ?_⟩) ?_ ?_
        rotate_left
        · intro w'
          go_simp
          with_reducible rfl
        rotate_left
        · simp only [Act.put, List.setIfInBounds_toArray, List.set_cons_zero, List.set_cons_succ]
          rfl
        refine pure_ (i := 12) (N := some 71) (v := ?_) (a' := ?_) #[true, true, true, true, true, true, true, true, true, true, true, true, true, false] rfl rfl (by kernel_rfl) (fun _ _ _ h => h) (Or.inl ⟨by rfl, ?_⟩) ?_ ?_
        rotate_left
        · intro w'
          go_simp
          with_reducible rfl
        rotate_left
        · simp only [Act.put, List.setIfInBounds_toArray, List.set_cons_zero, List.set_cons_succ]
          rfl
        refine last_ (i := 13) (N := none) #[true, true, true, true, true, true, true, true, true, true, true, true, true, true] rfl rfl (by kernel_rfl) (by decide) (fun K_ hK => ?_)
        have HS2 := hHeld
        obtain ⟨_, _, k1, k2, k3, k4⟩ := hHeld
        rw [if_pos (by rfl)]
        go_wp2
        refine hK.out _ _ ?_
        refine done_ (by kernel_rfl) ?_
        have hgn : (wr.setCell ⟨g0, 0, none⟩ (.complex .f64 r1 r2)).drew.heap[g0]? = some (.cells #[.complex .f64 r1 r2, .complex .f64 lr li] 101 (0, 0)) := blk_set HGW.out 0 (.complex .f64 r1 r2)
        have hOn := HOO.out.keep (W' := (wr.setCell ⟨g0, 0, none⟩ (.complex .f64 r1 r2)).drew) (fun k hk hbk => Below.heap_setCell wr ⟨g0, 0, none⟩ _ k (fun e => by have e2 : k = g0 := e; omega)) hgo
        have hBn : Below g0 wr (wr.setCell ⟨g0, 0, none⟩ (.complex .f64 r1 r2)).drew := ((Below.refl g0 wr).setCell (Nat.le_refl g0) _).drew
        obtain ⟨vO, hgoO, hRO⟩ := hOn
        have HT := Aside0.mk (trace1_calls go r1 r2 base _ _ _ vO _ hgoO hRO HD.out.1 HD.out.2 HBD.out.1 HBD.out.2 (by have := HS'.out; have := hBn.size; omega) hgo (by rw [List.length_append, ptsFrom_len]; omega))
        have HBN := Aside0.mk (HB.out.trans hBn)
        have HGN := Aside0.mk hgn
        have HZ := Aside0.mk (Nat.le_trans HS'.out hBn.size)
        have c0 : (wr.setCell ⟨g0, 0, none⟩ (.complex .f64 r1 r2)).cell? ⟨g0, 0, none⟩ = some (.complex .f64 r1 r2) := blk_cell (blk_set HGW.out 0 (.complex .f64 r1 r2)) 0
        clear hgn hBn hgoO hRO k1 k2 k3 k4 HS2
        go_wp2_with (go_at_call 77; (with_reducible refine HT.out.mono ?_); rintro e w6 ⟨rfl, ⟨v6, hv6, hr6⟩, hb6⟩; have HV6 := Aside0.mk hv6; have HR6 := Aside0.mk hr6; have HB6 := Aside0.mk hb6; clear hv6 hr6 hb6)
        go_roundw
        case rel => exact ⟨j + 1, by omega, by go_num, ⟨⟨r1, r2, (HB6.out.block g0 (by omega)).trans HGN.out, HD.out.1, HD.out.2⟩⟩, ⟨⟨v6, HV6.out, by rw [ptsFrom, ← List.append_assoc]; exact HR6.out⟩⟩, ⟨HBN.out.trans (HB6.out.mono (by omega))⟩, ⟨Nat.le_trans HZ.out HB6.out.size⟩⟩
        case measure => simp [intOf]; omega
      · obtain rfl : j = m := by omega
        go_wp2
        go_end0
        exact ⟨rfl, HI.out, HOO.out, HB.out⟩
  · rw [if_neg hk2] at hsb
    subst hsb
    have k2 : (k == 2) = false := beq_eq_false_iff_ne.2 hk2
    clear hk2
    go_enter Try.func73, Try.ntmps73
    go_wp2_with (go_at_call 60; (with_reducible refine (walk_often.calls k n _ _ HOF.out).mono ?_); rintro e w1 ⟨rfl, hb1⟩; have bk1 := blk_keep (blk_new w (.cells #[.int .i64 k, .int .i64 n] 56)) hb1; have hc0 := blk_cell bk1 0; have HG1 := Aside0.mk (blk_keep (blk_keep HG.out (below_alloc (Below.refl _ _) _)) hb1); have HBB := Aside0.mk (below_step (below_alloc (Below.refl w.heap.size w) _) hb1); clear hb1 bk1)
    go_loopw [57] (fun v wr => ∃ j : Nat, j ≤ m ∧ v = .int .i64 j ∧ Aside0 (∃ a b, wr.heap[g0]? = some (.cells #[.complex .f64 a b, .complex .f64 lr li] 101 (0, 0)) ∧ IsF a (x + j * dx) ∧ IsF b (y + j * dy)) ∧ Aside0 (OutI go base (xs ++ ptsFrom x y dx dy j) wr) ∧ Aside0 (Below g0 w wr) ∧ Aside0 (base ≤ wr.heap.size)) (fun v _ => m - (intOf v).toNat)
    case atStart => exact ⟨0, Nat.zero_le _, rfl, ⟨⟨a0, b0, HG1.out, by rw [show x + ((0 : Nat) : Int) * dx = x by simp]; exact HA.out.1, by rw [show y + ((0 : Nat) : Int) * dy = y by simp]; exact HA.out.2.1⟩⟩, ⟨by rw [ptsFrom, List.append_nil]; exact HO.out.keep (fun k hk _ => HBB.out.block k hk) hgo⟩, ⟨HBB.out.mono (by omega)⟩, ⟨Nat.le_trans hbase HBB.out.size⟩⟩
    case round =>
      obtain ⟨j, hj, rfl, HI, HOO, HB, HS⟩ := hrel
      by_cases hlt : j < m
      · obtain ⟨a, b, hgw, hia, hib⟩ := HI.out
        have h1 : ((j : Int) * dx).natAbs ≤ 1048576 := by rw [Int.natAbs_mul]; exact Nat.le_trans (Nat.mul_le_mul_left _ hdx) (by omega)
        have h2 : ((j : Int) * dy).natAbs ≤ 1048576 := by rw [Int.natAbs_mul]; exact Nat.le_trans (Nat.mul_le_mul_left _ hdy) (by omega)
        obtain ⟨r1, r2, d1, d2, hr3⟩ := cadd_run hia hib HA.out.2.2.1 HA.out.2.2.2 (by omega) (by omega)
        have e3 : ∀ W : World, (binOp .add 61 (.complex .f64 a b) (.complex .f64 s1 s2)).run Try.prog W = .ok (.complex .f64 r1 r2) W := fun W => hr3 Try.prog 61 W
        have q1 : x + (j : Int) * dx + dx = x + ((j + 1 : Nat) : Int) * dx := by rw [Int.natCast_add, Int.add_mul]; simp; omega
        have q2 : y + (j : Int) * dy + dy = y + ((j + 1 : Nat) : Int) * dy := by rw [Int.natCast_add, Int.add_mul]; simp; omega
        rw [q1] at d1
        rw [q2] at d2
        have HD := Aside0.mk (show IsF r1 (x + ((j + 1 : Nat) : Int) * dx) ∧ IsF r2 (y + ((j + 1 : Nat) : Int) * dy) from ⟨d1, d2⟩)
        have HBD := Aside0.mk (show (x + ((j + 1 : Nat) : Int) * dx).natAbs < 2 ^ 53 ∧ (y + ((j + 1 : Nat) : Int) * dy).natAbs < 2 ^ 53 by rw [← q1, ← q2]; omega)
        have HS1 : WkS wr g0 a b lr li wr := WkS.mk hgw (BelB.of (Below.refl _ _) (Nat.le_of_lt (lt_blk hgw)))
        have HSx := HS1
        have HGW := Aside0.mk hgw
        clear hia hib h1 h2 hr3 d1 d2 q1 q2 hgw HI HS1
        have HS := HS
        have HS' := HS; clear HS
        have HS := HSx; clear HSx
        go_wp2
        refine start_ (n := 14) (S := WkS wr g0 a b lr li) (ds := [13]) #[false, false, false, false, false, false, false, false, false, false, false, false, false, false] (by kernel_rfl) rfl rfl (WkS.drew HS) (fun hHeld => ?_)
        clear HS
        refine pure_ (i := 0) (N := some 59) (v := ?_) (a' := ?_) #[true, false, false, false, false, false, false, false, false, false, false, false, false, false] rfl rfl (by kernel_rfl) (fun _ _ _ h => h) (Or.inl ⟨by rfl, ?_⟩) ?_ ?_
        rotate_left
        · intro w'
          go_simp
          with_reducible rfl
        rotate_left
        · simp only [Act.put, List.setIfInBounds_toArray, List.set_cons_zero, List.set_cons_succ]
          rfl
        refine pure_ (i := 1) (N := some 60) (v := ?_) (a' := ?_) #[true, true, false, false, false, false, false, false, false, false, false, false, false, false] rfl rfl (by kernel_rfl) (fun _ _ _ h => h) (Or.inl ⟨by rfl, ?_⟩) ?_ ?_
        rotate_left
        · intro w'
          go_simp
          with_reducible rfl
        rotate_left
        · simp only [Act.put, List.setIfInBounds_toArray, List.set_cons_zero, List.set_cons_succ]
          rfl
        refine pure_ (i := 2) (N := some 61) (v := ?_) (a' := ?_) #[true, true, true, false, false, false, false, false, false, false, false, false, false, false] rfl rfl (by kernel_rfl) (fun _ _ _ h => h) (Or.inl ⟨by rfl, ?_⟩) ?_ ?_
        rotate_left
        · intro w'
          go_simp
          with_reducible rfl
        rotate_left
        · simp only [Act.put, List.setIfInBounds_toArray, List.set_cons_zero, List.set_cons_succ]
          rfl
        refine take_ (i := 3) (N := some 62) (v := ?_) (a' := ?_) #[true, true, true, true, false, false, false, false, false, false, false, false, false, false] rfl rfl (by kernel_rfl) (fun _ _ _ h => h) (Or.inl ⟨by rfl, ?_⟩) hHeld ?_ ?_
        rotate_left
        · rintro w' ⟨_, _, k1, k2, k3, k4⟩
          go_simp
          with_reducible rfl
        rotate_left
        · simp only [Act.put, List.setIfInBounds_toArray, List.set_cons_zero, List.set_cons_succ]
          rfl
        refine pure_ (i := 4) (N := some 63) (v := ?_) (a' := ?_) #[true, true, true, true, true, false, false, false, false, false, false, false, false, false] rfl rfl (by kernel_rfl) (fun _ _ _ h => h) (Or.inl ⟨by rfl, ?_⟩) ?_ ?_
        rotate_left
        · intro w'
          go_simp
          with_reducible rfl
        rotate_left
        · simp only [Act.put, List.setIfInBounds_toArray, List.set_cons_zero, List.set_cons_succ]
          rfl
        refine pure_ (i := 5) (N := some 64) (v := ?_) (a' := ?_) #[true, true, true, true, true, true, false, false, false, false, false, false, false, false] rfl rfl (by kernel_rfl) (fun _ _ _ h => h) (Or.inl ⟨by rfl, ?_⟩) ?_ ?_
        rotate_left
        · intro w'
          go_simp
          with_reducible rfl
        rotate_left
        · simp only [Act.put, List.setIfInBounds_toArray, List.set_cons_zero, List.set_cons_succ]
          rfl
        refine pure_ (i := 6) (N := some 65) (v := ?_) (a' := ?_) #[true, true, true, true, true, true, true, false, false, false, false, false, false, false] rfl rfl (by kernel_rfl) (fun _ _ _ h => h) (Or.inl ⟨by rfl, ?_⟩) ?_ ?_
        rotate_left
        · intro w'
          go_simp
          with_reducible rfl
        rotate_left
        · simp only [Act.put, List.setIfInBounds_toArray, List.set_cons_zero, List.set_cons_succ]
          rfl
        refine take_ (i := 7) (N := some 66) (v := ?_) (a' := ?_) #[true, true, true, true, true, true, true, true, false, false, false, false, false, false] rfl rfl (by kernel_rfl) (fun _ _ _ h => h) (Or.inl ⟨by rfl, ?_⟩) hHeld ?_ ?_
        rotate_left
        · rintro w' ⟨_, _, k1, k2, k3, k4⟩
          go_simp
          with_reducible rfl
        rotate_left
        · simp only [Act.put, List.setIfInBounds_toArray, List.set_cons_zero, List.set_cons_succ]
          rfl
        refine pure_ (i := 8) (N := some 67) (v := ?_) (a' := ?_) #[true, true, true, true, true, true, true, true, true, false, false, false, false, false] rfl rfl (by kernel_rfl) (fun _ _ _ h => h) (Or.inl ⟨by rfl, ?_⟩) ?_ ?_
        rotate_left
        · intro w'
          go_simp
          with_reducible rfl
        rotate_left
        · simp only [Act.put, List.setIfInBounds_toArray, List.set_cons_zero, List.set_cons_succ]
          rfl
        refine pure_ (i := 9) (N := some 68) (v := ?_) (a' := ?_) #[true, true, true, true, true, true, true, true, true, true, false, false, false, false] rfl rfl (by kernel_rfl) (fun _ _ _ h => h) (Or.inl ⟨by rfl, ?_⟩) ?_ ?_
        rotate_left
        · intro w'
          go_simp
          with_reducible rfl
        rotate_left
        · simp only [Act.put, List.setIfInBounds_toArray, List.set_cons_zero, List.set_cons_succ]
          rfl
        refine pure_ (i := 10) (N := some 69) (v := ?_) (a' := ?_) #[true, true, true, true, true, true, true, true, true, true, true, false, false, false] rfl rfl (by kernel_rfl) (fun _ _ _ h => h) (Or.inl ⟨by rfl, ?_⟩) ?_ ?_
        rotate_left
        · intro w'
          go_simp
          with_reducible rfl
        rotate_left
        · simp only [Act.put, List.setIfInBounds_toArray, List.set_cons_zero, List.set_cons_succ]
          rfl
        refine pure_ (i := 11) (N := some 70) (v := ?_) (a' := ?_) #[true, true, true, true, true, true, true, true, true, true, true, true, false, false] rfl rfl (by kernel_rfl) (fun _ _ _ h => h) (Or.inl ⟨by rfl, ?_⟩) ?_ ?_
        rotate_left
        · intro w'
          go_simp
          with_reducible rfl
        rotate_left
        · simp only [Act.put, List.setIfInBounds_toArray, List.set_cons_zero, List.set_cons_succ]
          rfl
        refine pure_ (i := 12) (N := some 71) (v := ?_) (a' := ?_) #[true, true, true, true, true, true, true, true, true, true, true, true, true, false] rfl rfl (by kernel_rfl) (fun _ _ _ h => h) (Or.inl ⟨by rfl, ?_⟩) ?_ ?_
        rotate_left
        · intro w'
          go_simp
          with_reducible rfl
        rotate_left
        · simp only [Act.put, List.setIfInBounds_toArray, List.set_cons_zero, List.set_cons_succ]
          rfl
        refine last_ (i := 13) (N := none) #[true, true, true, true, true, true, true, true, true, true, true, true, true, true] rfl rfl (by kernel_rfl) (by decide) (fun K_ hK => ?_)
        have HS2 := hHeld
        obtain ⟨_, _, k1, k2, k3, k4⟩ := hHeld
        rw [if_pos (by rfl)]
        go_wp2
        refine hK.out _ _ ?_
        refine done_ (by kernel_rfl) ?_
        have hgn : (wr.setCell ⟨g0, 0, none⟩ (.complex .f64 r1 r2)).drew.heap[g0]? = some (.cells #[.complex .f64 r1 r2, .complex .f64 lr li] 101 (0, 0)) := blk_set HGW.out 0 (.complex .f64 r1 r2)
        have hOn := HOO.out.keep (W' := (wr.setCell ⟨g0, 0, none⟩ (.complex .f64 r1 r2)).drew) (fun k hk hbk => Below.heap_setCell wr ⟨g0, 0, none⟩ _ k (fun e => by have e2 : k = g0 := e; omega)) hgo
        have hBn : Below g0 wr (wr.setCell ⟨g0, 0, none⟩ (.complex .f64 r1 r2)).drew := ((Below.refl g0 wr).setCell (Nat.le_refl g0) _).drew
        obtain ⟨vO, hgoO, hRO⟩ := hOn
        have HT := Aside0.mk (trace1_calls go r1 r2 base _ _ _ vO _ hgoO hRO HD.out.1 HD.out.2 HBD.out.1 HBD.out.2 (by have := HS'.out; have := hBn.size; omega) hgo (by rw [List.length_append, ptsFrom_len]; omega))
        have HBN := Aside0.mk (HB.out.trans hBn)
        have HGN := Aside0.mk hgn
        have HZ := Aside0.mk (Nat.le_trans HS'.out hBn.size)
        have c0 : (wr.setCell ⟨g0, 0, none⟩ (.complex .f64 r1 r2)).cell? ⟨g0, 0, none⟩ = some (.complex .f64 r1 r2) := blk_cell (blk_set HGW.out 0 (.complex .f64 r1 r2)) 0
        clear hgn hBn hgoO hRO k1 k2 k3 k4 HS2
        go_wp2_with (go_at_call 77; (with_reducible refine HT.out.mono ?_); rintro e w6 ⟨rfl, ⟨v6, hv6, hr6⟩, hb6⟩; have HV6 := Aside0.mk hv6; have HR6 := Aside0.mk hr6; have HB6 := Aside0.mk hb6; clear hv6 hr6 hb6)
        go_roundw
        case rel => exact ⟨j + 1, by omega, by go_num, ⟨⟨r1, r2, (HB6.out.block g0 (by omega)).trans HGN.out, HD.out.1, HD.out.2⟩⟩, ⟨⟨v6, HV6.out, by rw [ptsFrom, ← List.append_assoc]; exact HR6.out⟩⟩, ⟨HBN.out.trans (HB6.out.mono (by omega))⟩, ⟨Nat.le_trans HZ.out HB6.out.size⟩⟩
        case measure => simp [intOf]; omega
      · obtain rfl : j = m := by omega
        go_wp2
        go_end0
        exact ⟨rfl, HI.out, HOO.out, HB.out⟩
end Go.Proofs.Ytpoghhcpoimepaa.P
end
section
/- walk.Trace, second part. -/
namespace Go.Proofs.Ytpoghhcpoimepaa.P
open Go.Proofs.Ytpoghhcpoimepaa.B Go.RowKit Go.Proofs.YtpoghhcpoimepaaW.PrintWords Go.Proofs.YtpoghhcpoimepaaW.PrintLast Go.Proofs.YtpoghhcpoimepaaW.PrintMore Go.Proofs.Ytpoghhcpoimepaa.FX Go.Proofs.Ytpoghhcpoimepaa.H
set_option linter.unusedVariables false
set_option linter.unusedSimpArgs false
theorem do_see (g0 go base : Nat) (s : Nat × Int × Int) (k n : Int) (w : World) (xs : List S24) (hI : WkI g0 s w) (hO : OutI go base xs w) (hgb : g0 < base) (hgo : base ≤ go) (hbase : base ≤ w.heap.size) (hq : s.1 < 4) (hb : near 1000000000000 s.2) (hxl : xs.length + ofV k n ≤ 100000 ∨ k = 3 ∨ k = 4) :
    Calls Try.prog 73 #[.pointer (some ⟨g0, 0, none⟩), .agg #[.int .i64 k, .int .i64 n], .func (.func 77) #[] #[.pointer (some ⟨go, 0, none⟩)]] w fun e w' => e = .returned (.tuple #[]) ∧ WkI g0 (stepW s k n) w' ∧ OutI go base (xs ++ stepPts s k n) w' ∧ Below g0 w w' := by
  obtain ⟨ar, ai, lr, li, hg, h1, h2, h3, h4⟩ := hI
  obtain ⟨q, x, y⟩ := s
  simp only [] at hq hb h1 h2 h3 h4
  have hm := ofV_le k n
  have sm := ip_small q
  by_cases c3 : k = 3
  · subst c3
    obtain ⟨q1, q2⟩ := q_is ((ofV 3 n : Int) % 4).toNat (by omega)
    obtain ⟨sr, si⟩ := (ip_small ((ofV 3 n : Int) % 4).toNat).1
    obtain ⟨re, im, r1, r2, hrun⟩ := cmul_run h3 h4 q1 q2 (by have := near_mul (n := 1) sm.1.1 sr; omega) (by have := near_mul (n := 1) sm.1.2 si; omega) (by have := near_mul (n := 1) sm.1.1 si; omega) (by have := near_mul (n := 1) sm.1.2 sr; omega)
    refine (do_left g0 ar ai lr li re im n (ofV 3 n) _ _ w hg (often_v 3 n) hm rfl (fun W => hrun Try.prog 61 W)).mono ?_
    rintro e w' ⟨rfl, h5, h6⟩
    have hc := cm_ip q ((ofV 3 n : Int) % 4).toNat hq (by omega)
    have hs : stepW (q, x, y) 3 n = ((q + ((ofV 3 n : Int) % 4).toNat) % 4, x, y) := by unfold stepW; rw [if_pos rfl]; simp only [Prod.mk.injEq, and_true]; omega
    refine ⟨rfl, ⟨ar, ai, re, im, h5, ?_⟩, ?_, h6.b⟩
    · rw [hs]
      simp only []
      rw [← hc]
      exact ⟨h1, h2, r1, r2⟩
    · rw [stepPts, if_pos (.inl rfl), List.append_nil]
      exact hO.keep (fun k hk hbk => h6.k k hk (by omega)) hgo
  by_cases c4 : k = 4
  · subst c4
    obtain ⟨q1, q2⟩ := q_is (-(ofV 4 n : Int) % 4).toNat (by omega)
    obtain ⟨sr, si⟩ := (ip_small (-(ofV 4 n : Int) % 4).toNat).1
    obtain ⟨re, im, r1, r2, hrun⟩ := cmul_run h3 h4 q1 q2 (by have := near_mul (n := 1) sm.1.1 sr; omega) (by have := near_mul (n := 1) sm.1.2 si; omega) (by have := near_mul (n := 1) sm.1.1 si; omega) (by have := near_mul (n := 1) sm.1.2 sr; omega)
    refine (do_right g0 ar ai lr li re im n (ofV 4 n) _ _ w hg (often_v 4 n) hm rfl (fun W => hrun Try.prog 61 W)).mono ?_
    rintro e w' ⟨rfl, h5, h6⟩
    have hc := cm_ip q (-(ofV 4 n : Int) % 4).toNat hq (by omega)
    have hs : stepW (q, x, y) 4 n = ((q + (-(ofV 4 n : Int) % 4).toNat) % 4, x, y) := by unfold stepW; rw [if_neg (by decide), if_pos rfl]; simp only [Prod.mk.injEq, and_true]; omega
    refine ⟨rfl, ⟨ar, ai, re, im, h5, ?_⟩, ?_, h6.b⟩
    · rw [hs]
      simp only []
      rw [← hc]
      exact ⟨h1, h2, r1, r2⟩
    · rw [stepPts, if_pos (.inr rfl), List.append_nil]
      exact hO.keep (fun k hk hbk => h6.k k hk (by omega)) hgo
  have hxl2 : xs.length + ofV k n ≤ 100000 := by omega
  obtain ⟨hb1, hb2⟩ := hb
  simp only [] at hb1 hb2
  by_cases c2 : k = 2
  · obtain ⟨s1, s2, a1, a2, hr1⟩ := cmul_run h3 h4 isF_neg1 isF_zero (by omega) (by omega) (by omega) (by omega)
    rw [show (ip q).1 * -1 - (ip q).2 * 0 = -(ip q).1 by omega] at a1
    rw [show (ip q).1 * 0 + (ip q).2 * -1 = -(ip q).2 by omega] at a2
    refine (do_see1 g0 go base lr li 13830554455654793216 s1 s2 k n x y (-(ip q).1) (-(ip q).2) (ofV k n) w xs ar ai hg hO hgb hgo hbase (often_v k n) hm c3 c4 (by rw [if_pos c2]) hxl2 (fun W => hr1 Try.prog 61 W) h1 h2 a1 a2 (by omega) (by omega) (by omega) (by omega)).mono ?_
    rintro e w' ⟨rfl, ⟨a, b, h5, h6, h7⟩, h8, h9⟩
    refine ⟨rfl, ⟨a, b, lr, li, h5, ?_⟩, ?_, h9⟩
    · unfold stepW
      rw [if_neg c3, if_neg c4, if_pos c2]
      simp only []
      rw [Int.sub_eq_add_neg, Int.sub_eq_add_neg, ← Int.mul_neg, ← Int.mul_neg]
      exact ⟨h6, h7, h3, h4⟩
    · rw [stepPts, if_neg (by omega), if_pos c2]
      exact h8
  · obtain ⟨s1, s2, a1, a2, hr1⟩ := cmul_run h3 h4 isF_one isF_zero (by omega) (by omega) (by omega) (by omega)
    rw [show (ip q).1 * 1 - (ip q).2 * 0 = (ip q).1 by omega] at a1
    rw [show (ip q).1 * 0 + (ip q).2 * 1 = (ip q).2 by omega] at a2
    refine (do_see1 g0 go base lr li 4607182418800017408 s1 s2 k n x y (ip q).1 (ip q).2 (ofV k n) w xs ar ai hg hO hgb hgo hbase (often_v k n) hm c3 c4 (by rw [if_neg c2]) hxl2 (fun W => hr1 Try.prog 61 W) h1 h2 a1 a2 (by omega) (by omega) (by omega) (by omega)).mono ?_
    rintro e w' ⟨rfl, ⟨a, b, h5, h6, h7⟩, h8, h9⟩
    refine ⟨rfl, ⟨a, b, lr, li, h5, ?_⟩, ?_, h9⟩
    · unfold stepW
      rw [if_neg c3, if_neg c4, if_neg c2]
      exact ⟨h6, h7, h3, h4⟩
    · rw [stepPts, if_neg (by omega), if_neg c2]
      exact h8
/-- The points that a walk comes to. -/
def ptsW : List S56 → Nat × Int × Int → List S24
  | [], _ => []
  | m :: l, s => stepPts s m.f0 m.f1 ++ ptsW l (stepW s m.f0 m.f1)
theorem ptsW_snoc (m : S56) : ∀ (l : List S56) (s : Nat × Int × Int), ptsW (l ++ [m]) s = ptsW l s ++ stepPts (l.foldl (fun s m => stepW s m.f0 m.f1) s) m.f0 m.f1
  | [], s => by simp [ptsW]
  | x :: l, s => by rw [List.cons_append, ptsW, ptsW_snoc m l, ptsW, List.append_assoc, List.foldl_cons]
/-- How many steps a move has. -/
def goesV (k n : Int) : Nat := if k = 1 ∨ k = 2 then ofV k n else 0
def sumG : List S56 → Nat
  | [] => 0
  | m :: l => goesV m.f0 m.f1 + sumG l
theorem sumG_snoc (m : S56) : ∀ l : List S56, sumG (l ++ [m]) = sumG l + goesV m.f0 m.f1
  | [] => by simp [sumG]
  | x :: l => by rw [List.cons_append, sumG, sumG_snoc m l, sumG]; omega
theorem ofV_goes (k n : Int) (h : k ≠ 3 ∧ k ≠ 4) : goesV k n = ofV k n := by
  unfold goesV
  by_cases h2 : k = 1 ∨ k = 2
  · rw [if_pos h2]
  · rw [if_neg h2]
    cases h3 : ofV k n with
    | zero => rfl
    | succ m => have := ofV_kind (k := k) (n := n) (by omega); omega
theorem stepPts_len (s : Nat × Int × Int) (k n : Int) : (stepPts s k n).length = goesV k n := by
  unfold stepPts
  by_cases h : k = 3 ∨ k = 4
  · rw [if_pos h, goesV, if_neg (by omega)]; rfl
  · rw [if_neg h, ofV_goes k n (by omega)]
    split <;> rw [ptsFrom_len]
theorem ptsW_len : ∀ (l : List S56) (s : Nat × Int × Int), (ptsW l s).length = sumG l
  | [], s => rfl
  | m :: l, s => by rw [ptsW, List.length_append, stepPts_len, ptsW_len l, sumG]
theorem sumG_take (l : List S56) (i : Nat) : sumG (l.take i) ≤ sumG l := by
  have : ∀ a b : List S56, sumG (a ++ b) = sumG a + sumG b := by
    intro a b
    induction a with
    | nil => simp [sumG]
    | cons x a ih => rw [List.cons_append, sumG, sumG, ih]; omega
  have h2 := this (l.take i) (l.drop i)
  rw [List.take_append_drop] at h2
  omega
def traceV (l : List S56) : List S24 × Int := if sumG l ≤ 10000 then (⟨0, 0⟩ :: ptsW l (0, 0, 0), 0) else ([], 15)
def TrPost (w : World) (r : List S24 × Int) (e : Ending) (w' : World) : Prop := ∃ v : Value, e = .returned (.tuple #[v, .int .i64 r.2]) ∧ Kd.R k24 24 w' w.heap.size (fun _ => True) v r.1 ∧ Below w.heap.size w w'
theorem goes_code (k n : Int) : walk_goes.f k n = some (decide (k = 1 ∨ k = 2)) := by
  unfold walk_goes.f
  by_cases c1 : k = 1
  · rw [if_pos c1, decide_eq_true (.inl c1)]
  · rw [if_neg c1]
    congr 1
    rw [Bool.eq_iff_iff, beq_iff_eq, decide_eq_true_iff]
    omega
end Go.Proofs.Ytpoghhcpoimepaa.P
end
section
/- walk.Trace. -/
namespace Go.Proofs.Ytpoghhcpoimepaa.P
open Go.Proofs.Ytpoghhcpoimepaa.B Go.RowKit Go.Proofs.YtpoghhcpoimepaaW.PrintWords Go.Proofs.YtpoghhcpoimepaaW.PrintLast Go.Proofs.YtpoghhcpoimepaaW.PrintMore Go.Proofs.Ytpoghhcpoimepaa.FX Go.Proofs.Ytpoghhcpoimepaa.H
set_option linter.unusedVariables false
set_option linter.unusedSimpArgs false
theorem lit24 (W : World) (base : Nat) (hb : base ≤ W.heap.size) : Kd.R k24 24 (W.alloc (.cells #[.int .i64 0, .int .i64 0] 24)) base (fun k => k ≠ W.heap.size + 1) (.slice (some ⟨W.heap.size, 0, none⟩) 1 1) [(⟨0, 0⟩ : S24)] := by
  refine ⟨fun k hk => ?_, [.int .i64 0, .int .i64 0], World.ownsRow_lit (base := base) (e := 24) (size := 2) W #[.int .i64 0, .int .i64 0] 1 hb (by decide) rfl, Reps.c2 (k24_mkM _ _ _ (⟨0, 0⟩ : S24)) (Reps.none _ _)⟩
  have : W.heap.size = k := by simpa [Value.ownBlock] using hk
  omega
theorem out_new (W1 : World) (o : Obj) : OutI (W1.heap.size + 2) (W1.heap.size + 1) [(⟨0, 0⟩ : S24)] (((W1.alloc o).alloc (.cells #[.int .i64 0, .int .i64 0] 24)).alloc (.cells #[.slice (some ⟨W1.heap.size + 1, 0, none⟩) 1 1] 22)) := by
  refine ⟨.slice (some ⟨W1.heap.size + 1, 0, none⟩) 1 1, ?_, ?_⟩
  · have h := blk_new ((W1.alloc o).alloc (.cells #[.int .i64 0, .int .i64 0] 24)) (.cells #[.slice (some ⟨W1.heap.size + 1, 0, none⟩) 1 1] 22)
    rw [alloc_size, alloc_size] at h
    exact h
  · have h := lit24 (W1.alloc o) (W1.heap.size + 1) (by rw [alloc_size]; exact Nat.le_refl _)
    rw [alloc_size] at h
    exact Kd.R_alloc h _
set_option maxHeartbeats 4000000 in
set_option maxRecDepth 100000 in
theorem trace_calls (A : Option Addr) (c : Nat) (l : List S56) (w : World) (hC : Kd.C k56 w A l.length l) (hl : l.length ≤ 1000) : Calls Try.prog 41 #[.slice A l.length c] w (TrPost w (traceV l)) := by
  have HC := Aside0.mk hC; clear hC
  go_enter Try.func41, Try.ntmps41
  go_wp2
  go_loopw [4, 13] (fun v4 v wr => ∃ i t : Nat, i ≤ l.length ∧ v = .int .i64 i ∧ v4 = .int .i64 (10000 - (t : Int)) ∧ t ≤ 10000 ∧ Aside0 (sumG (l.take i) = t) ∧ Aside0 (Below w.heap.size w wr)) (fun _ v _ => l.length - (intOf v).toNat)
  case atStart => exact ⟨0, 0, by omega, rfl, rfl, by omega, ⟨rfl⟩, ⟨Below.refl _ _⟩⟩
  case round =>
    obtain ⟨i, t, hi, rfl, rfl, ht, HS, HB⟩ := hrel
    by_cases hlt : i < l.length
    · obtain ⟨ad, hA, x0, x1⟩ := at_T56 (Kd.C_below HC.out HB.out) (i : Int) (by omega) (by omega)
      subst hA
      rw [Int.toNat_natCast, rd56 l i hlt] at x0 x1
      have HSN := Aside0.mk (show sumG (l.take (i + 1)) = t + goesV l[i].f0 l[i].f1 by rw [take_more l i hlt, sumG_snoc, HS.out])
      have HTK := Aside0.mk (sumG_take l (i + 1))
      obtain ⟨k, hk⟩ : ∃ k, l[i].f0 = k := ⟨_, rfl⟩
      obtain ⟨n, hn⟩ : ∃ n, l[i].f1 = n := ⟨_, rfl⟩
      have HSN := Aside0.mk (by have := HSN.out; rw [hk, hn] at this; exact this)
      rw [hk] at x0
      rw [hn] at x1
      clear hk hn
      have HGO := Aside0.mk (goes_code k n)
      have HOF := Aside0.mk (often_v k n)
      have hle := ofV_le k n
      obtain ⟨m, hm⟩ : ∃ m, ofV k n = m := ⟨_, rfl⟩
      have HOF := Aside0.mk (by have := HOF.out; rw [hm] at this; exact this)
      rw [hm] at hle
      by_cases hg : k = 1 ∨ k = 2
      · have HGO := Aside0.mk (by have := HGO.out; rw [decide_eq_true hg] at this; exact this)
        have HSN := Aside0.mk (by have := HSN.out; rw [goesV, if_pos hg, hm] at this; exact this)
        have hsb : IntKind.i64.wrap (10000 - (t : Int) - (m : Int)) = 10000 - ((t + m : Nat) : Int) := by rw [IntKind.wrap_i64]; omega
        clear hg hm
        by_cases hov : t + m ≤ 10000
        · have d1 : decide (10000 - ((t + m : Nat) : Int) < 0) = false := decide_eq_false (by omega)
          go_wp2_with (first | (go_at_call 76; (with_reducible refine (walk_goes.calls k n _ _ HGO.out).mono ?_); rintro e w1 ⟨rfl, hb1⟩; have bk1 := blk_keep (blk_new wr (.cells #[.int .i64 k, .int .i64 n] 56)) (show Below (wr.alloc (.cells #[.int .i64 k, .int .i64 n] 56)).heap.size (wr.alloc (.cells #[.int .i64 k, .int .i64 n] 56)) w1 by first | exact hb1 | exact hb1.below); have HB1 := Aside0.mk (below_step (below_alloc HB.out (.cells #[.int .i64 k, .int .i64 n] 56)) (show Below (wr.alloc (.cells #[.int .i64 k, .int .i64 n] 56)).heap.size (wr.alloc (.cells #[.int .i64 k, .int .i64 n] 56)) w1 by first | exact hb1 | exact hb1.below)); have hc0 := blk_cell bk1 0; have hc1 := blk_cell bk1 1; clear hb1 bk1) | (go_at_call 60; (with_reducible refine (walk_often.calls k n _ _ HOF.out).mono ?_); rintro e w2 ⟨rfl, hb2⟩; have HB2 := Aside0.mk (below_step HB1.out hb2); clear hb2))
          go_roundw
          case rel => exact ⟨i + 1, t + m, by omega, by go_num, by first | rfl | go_num, hov, HSN, HB2⟩
          case measure => simp [intOf]; omega
        · have d1 : decide (10000 - ((t + m : Nat) : Int) < 0) = true := decide_eq_true (by omega)
          have HTR := Aside0.mk (show traceV l = ([], 15) by rw [traceV, if_neg (by have := HSN.out; have := HTK.out; omega)])
          go_wp2_with (first | (go_at_call 76; (with_reducible refine (walk_goes.calls k n _ _ HGO.out).mono ?_); rintro e w1 ⟨rfl, hb1⟩; have bk1 := blk_keep (blk_new wr (.cells #[.int .i64 k, .int .i64 n] 56)) (show Below (wr.alloc (.cells #[.int .i64 k, .int .i64 n] 56)).heap.size (wr.alloc (.cells #[.int .i64 k, .int .i64 n] 56)) w1 by first | exact hb1 | exact hb1.below); have HB1 := Aside0.mk (below_step (below_alloc HB.out (.cells #[.int .i64 k, .int .i64 n] 56)) (show Below (wr.alloc (.cells #[.int .i64 k, .int .i64 n] 56)).heap.size (wr.alloc (.cells #[.int .i64 k, .int .i64 n] 56)) w1 by first | exact hb1 | exact hb1.below)); have hc0 := blk_cell bk1 0; have hc1 := blk_cell bk1 1; clear hb1 bk1) | (go_at_call 60; (with_reducible refine (walk_often.calls k n _ _ HOF.out).mono ?_); rintro e w2 ⟨rfl, hb2⟩; have HB2 := Aside0.mk (below_step HB1.out hb2); clear hb2))
          go_ret2
          exact ⟨.slice none 0 0, by rw [HTR.out]; rfl, by rw [HTR.out]; exact Kd.R_nil _ _ _ _ _, HB2.out⟩
      · have HGO := Aside0.mk (by have := HGO.out; rw [decide_eq_false hg] at this; exact this)
        have HSN := Aside0.mk (by have := HSN.out; rw [goesV, if_neg hg, Nat.add_zero] at this; exact this)
        have d1 : decide (10000 - (t : Int) < 0) = false := decide_eq_false (by omega)
        clear hg hm
        go_wp2_with (go_at_call 76; (with_reducible refine (walk_goes.calls k n _ _ HGO.out).mono ?_); rintro e w1 ⟨rfl, hb1⟩; have HB1 := Aside0.mk (below_step (below_alloc HB.out (.cells #[.int .i64 k, .int .i64 n] 56)) (show Below (wr.alloc (.cells #[.int .i64 k, .int .i64 n] 56)).heap.size (wr.alloc (.cells #[.int .i64 k, .int .i64 n] 56)) w1 by first | exact hb1 | exact hb1.below)); clear hb1)
        go_roundw
        case rel => exact ⟨i + 1, t, by omega, by go_num, rfl, ht, HSN, HB1⟩
        case measure => simp [intOf]; omega
    · obtain rfl : i = l.length := by omega
      have hsum : sumG l = t := by have := HS.out; rw [List.take_length] at this; exact this
      have HTR := Aside0.mk (show traceV l = (⟨0, 0⟩ :: ptsW l (0, 0, 0), 0) by rw [traceV, if_pos (by omega)])
      have HST := Aside0.mk (show sumG l ≤ 10000 by omega)
      obtain ⟨W1, hW⟩ : ∃ W1, W1 = wr := ⟨_, rfl⟩
      subst hW
      have HWW := Aside0.mk (show w.heap.size ≤ W1.heap.size from HB.out.size)
      have HWL := Aside0.mk (show w.heap.size ≤ W1.heap.size + 1 from Nat.le_succ_of_le HB.out.size)
      clear hsum HS
      go_wp2
      go_loopw [32] (fun v wr => ∃ i : Nat, i ≤ l.length ∧ v = .int .i64 i ∧ Aside0 (WkI W1.heap.size (foldW (l.take i)) wr) ∧ Aside0 (OutI (W1.heap.size + 2) (W1.heap.size + 1) (⟨0, 0⟩ :: ptsW (l.take i) (0, 0, 0)) wr) ∧ Aside0 (Below w.heap.size w wr) ∧ Aside0 (W1.heap.size + 1 ≤ wr.heap.size)) (fun v _ => l.length - (intOf v).toNat)
      case atStart =>
        exact ⟨0, Nat.zero_le _, rfl, ⟨⟨0, 0, 4607182418800017408, 0, blk_keep (blk_keep (blk_new W1 _) (below_alloc (Below.refl _ _) _)) (below_alloc (Below.refl _ _) _), isF_zero, isF_zero, isF_one, isF_zero⟩⟩, ⟨out_new W1 _⟩, ⟨below_alloc (below_alloc (below_alloc HB.out _) _) _⟩, ⟨by rw [alloc_size, alloc_size, alloc_size]; omega⟩⟩
      case round =>
        obtain ⟨i, hi, rfl, HI, HO, HB, HZ⟩ := hrel
        by_cases hlt : i < l.length
        · obtain ⟨ad, hA, x0, x1⟩ := at_T56 (Kd.C_below HC.out HB.out) (i : Int) (by omega) (by omega)
          subst hA
          rw [Int.toNat_natCast, rd56 l i hlt] at x0 x1
          have HT := Aside0.mk (show foldW (l.take (i + 1)) = stepW (foldW (l.take i)) l[i].f0 l[i].f1 by rw [take_more l i hlt, foldW_snoc])
          have HP := Aside0.mk (show ptsW (l.take (i + 1)) (0, 0, 0) = ptsW (l.take i) (0, 0, 0) ++ stepPts (foldW (l.take i)) l[i].f0 l[i].f1 by rw [take_more l i hlt, ptsW_snoc]; rfl)
          have HL := Aside0.mk (show (ptsW (l.take i) (0, 0, 0)).length + goesV l[i].f0 l[i].f1 ≤ 10000 by rw [ptsW_len, ← sumG_snoc, ← take_more l i hlt]; exact Nat.le_trans (sumG_take l _) HST.out)
          have hok := foldW_ok (l.take i)
          have hln : (l.take i).length ≤ 1000 := by rw [List.length_take]; omega
          have HN := Aside0.mk (near_le (n := 1000000000000) hok.2 (by omega))
          have HQ := Aside0.mk hok.1
          obtain ⟨k, hk⟩ : ∃ k, l[i].f0 = k := ⟨_, rfl⟩
          obtain ⟨n, hn⟩ : ∃ n, l[i].f1 = n := ⟨_, rfl⟩
          have HT := Aside0.mk (by have := HT.out; rw [hk, hn] at this; exact this)
          have HP := Aside0.mk (by have := HP.out; rw [hk, hn] at this; exact this)
          have HL := Aside0.mk (by have := HL.out; rw [hk, hn] at this; exact this)
          rw [hk] at x0
          rw [hn] at x1
          have HX := Aside0.mk (show (⟨0, 0⟩ :: ptsW (l.take i) (0, 0, 0) : List S24).length + ofV k n ≤ 100000 ∨ k = 3 ∨ k = 4 by
            have := HL.out
            rw [List.length_cons]
            by_cases h3 : k = 3 ∨ k = 4
            · exact .inr h3
            · rw [ofV_goes k n (by omega)] at this; omega)
          clear hk hn hok hln
          go_wp2_with (go_at_call 73; (with_reducible refine (do_see W1.heap.size (W1.heap.size + 2) (W1.heap.size + 1) (foldW (l.take i)) k n _ _ (WkI.keep HI.out (below_alloc (Below.refl _ _) _)) (HO.out.keep (fun k hk _ => (below_alloc (Below.refl _ _) _).block k hk) (by omega)) (by omega) (by omega) (by have := HZ.out; rw [alloc_size]; omega) HQ.out HN.out HX.out).mono ?_); rintro e w1 ⟨rfl, hI1, hO1, hb1⟩; have hbb := (below_alloc (Below.refl wr.heap.size wr) (.cells #[.int .i64 k, .int .i64 n] 56)); have HI1 := Aside0.mk hI1; have HO1 := Aside0.mk hO1; have HZ1 := Aside0.mk (Nat.le_trans HZ.out (Nat.le_trans hbb.size hb1.size)); have HB1 := Aside0.mk ((below_step HB.out hbb).trans (hb1.mono HWW.out)); clear hI1 hO1 hb1 hbb)
          go_roundw
          case rel => exact ⟨i + 1, by omega, by go_num, ⟨by rw [HT.out]; exact HI1.out⟩, ⟨by rw [HP.out]; exact HO1.out⟩, HB1, HZ1⟩
          case measure => simp [intOf]; omega
        · obtain rfl : i = l.length := by omega
          have HO := Aside0.mk (by have := HO.out; rw [List.take_length] at this; exact this)
          obtain ⟨v, hv, hR⟩ := HO.out
          obtain ⟨Av, cv, rfl⟩ := Kd.R_slice hR
          have HR := Aside0.mk (Kd.R_mono (Kd.R_lower hR HWL.out) (fun _ _ => trivial))
          have hc0 := blk_cell hv 0
          clear hR hv HO
          go_wp2
          go_ret2
          rw [HTR.out]
          exact ⟨_, rfl, HR.out, HB.out⟩
def walk_Trace.f (l0 : List (S56)) : Option (List (S24) × Int) := if l0.length ≤ 1000 then some (traceV l0) else none
theorem walk_Trace.calls (A0 : Option Addr) (c0 : Nat) (l0 : List (S56)) (r1 : List (S24)) (r2 : Int) (w : World) (hr0 : Kd.C k56 w A0 l0.length l0) (hc0 : l0.length ≤ c0) (h : walk_Trace.f l0 = some (r1, r2)) :
    Calls Try.prog 41 #[.slice A0 l0.length c0] w fun e w' => ∃ v0_ : Value, e = .returned (.tuple #[v0_, .int .i64 r2]) ∧ Kd.R k24 24 w' w.heap.size (fun _ => True) v0_ r1 ∧ Below w.heap.size w w' := by
  unfold walk_Trace.f at h
  split at h
  · rename_i hl
    have h2 := trace_calls A0 c0 l0 w hr0 hl
    have h3 := Option.some.inj h
    unfold TrPost at h2
    rw [h3] at h2
    exact h2
  · cases h
end Go.Proofs.Ytpoghhcpoimepaa.P
end
section
/- strings.Builder: WriteByte and WriteString at this dump. -/
namespace Go.Proofs.Ytpoghhcpoimepaa.P
open Go.Shelf Go.RowKit
set_option linter.unusedVariables false
set_option linter.unusedSimpArgs false
set_option maxHeartbeats 1000000 in
set_option maxRecDepth 100000 in
theorem Bw.Builder_copyCheck_used (b : Nat) (w : World) (h0 : w.cell? ⟨b, 0, none⟩ = some (.pointer (some ⟨b, 0, none⟩))) :
    Calls Try.prog 90 #[.pointer (some ⟨b, 0, none⟩)] w fun e w' => e = .returned (.tuple #[]) ∧ w' = w := by
  obtain ⟨j, hj, _⟩ := Option.map_eq_some_iff.1 (show (Try.prog.info? 76).map (·.size) = some 2 by kernel_rfl)
  go_enter Try.func90, Try.ntmps90
  go_wp2
  rw [Lib.run_neq_ptr_same w _ Try.underlying73 hj]
  go_wp2
  go_end0
  exact ⟨rfl, rfl⟩
set_option maxHeartbeats 1000000 in
set_option maxRecDepth 100000 in
theorem Bw.Builder_copyCheck_fresh (b : Nat) (w : World) (h0 : w.cell? ⟨b, 0, none⟩ = some (.pointer none)) (hsh : w.shape? b = some (76, 2)) (hfz : w.frozen? ⟨b, 0, none⟩ = false) :
    Calls Try.prog 90 #[.pointer (some ⟨b, 0, none⟩)] w fun e w' => e = .returned (.tuple #[]) ∧ w' = w.setCell ⟨b, 0, none⟩ (.pointer (some ⟨b, 0, none⟩)) := by
  obtain ⟨j, hj, hjs⟩ := Option.map_eq_some_iff.1 (show (Try.prog.info? 76).map (·.size) = some 2 by kernel_rfl)
  go_enter Try.func90, Try.ntmps90
  go_wp2
  rw [Lib.run_to_unsafe w ⟨b, 0, none⟩ Try.underlying73 Try.underlying123 hj (by rw [hjs]; decide) hsh (Nat.zero_lt_succ 1)]
  simp only [Result.andThen]
  rw [Oper.upon_value]
  go_wp2
  rw [run_callFunc_extern Try.func98 (by kernel_rfl) (by kernel_rfl) (by kernel_rfl) (e := Extern.AbiNoEscape.same) (by kernel_rfl)]
  rw [Lib.run_noEscape]
  simp only [Result.andThen]
  rw [Oper.upon_value]
  go_wp2
  rw [Lib.run_from_unsafe w ⟨b, 0, none⟩ Try.underlying123 Try.underlying73 hj hsh (show liesAt Try.prog Try.prog.depth 76 (2 / Try.prog.cellsOf 76) 0 76 1 = true by kernel_rfl)]
  simp only [Result.andThen]
  rw [Oper.upon_value]
  go_wp2
  go_end0
  exact ⟨rfl, rfl⟩
theorem Bw.Builder_copyCheck (B b : Nat) (bs : List Value) (w : World) (h : Lib.IsBuilder 76 5 B b bs w) :
    Calls Try.prog 90 #[.pointer (some ⟨b, 0, none⟩)] w fun e w' => e = .returned (.tuple #[]) ∧ (Lib.BuilderAt 76 5 B b (.pointer (some ⟨b, 0, none⟩)) bs w' ∧ Below B w w') := by
  rcases h with h | h
  · refine (Bw.Builder_copyCheck_fresh b w h.cell0 h.shape h.frozen0).mono ?_
    rintro e w' ⟨rfl, rfl⟩
    exact ⟨rfl, h.used _, (Below.refl B w).setCell (p := ⟨b, 0, none⟩) h.1 _⟩
  · refine (Bw.Builder_copyCheck_used b w h.cell0).mono ?_
    rintro e w' ⟨rfl, rfl⟩
    exact ⟨rfl, h, Below.refl B _⟩
set_option maxHeartbeats 2000000 in
set_option maxRecDepth 100000 in
theorem Bw.Builder_WriteByte (B b : Nat) (bs : List Value) (c : Int) (w : World) (h : Lib.IsBuilder 76 5 B b bs w) (hlen : bs.length + 1 ≤ 140737488355328) (hBw : B ≤ w.heap.size) :
    Calls Try.prog 61 #[.pointer (some ⟨b, 0, none⟩), .int .u8 c] w fun e w' => e = .returned .nilIface ∧ (Lib.BuilderAt 76 5 B b (.pointer (some ⟨b, 0, none⟩)) (bs ++ [.int .u8 c]) w' ∧ Below B w w') := by
  obtain ⟨i0, hi, hz0, hz1, hz2⟩ := info_parts (show (Try.prog.info? 5).map (fun i => (i.zero, i.size, i.bytes)) = some (some (.int .u8 0), 1, 1) by kernel_rfl)
  have e240 : ∀ args w, (callFunc 90 args).run Try.prog w = .ok (.enter 90 args) w := enters_of Try.func90 (by kernel_rfl) rfl
  go_enter Try.func61, Try.ntmps61
  go_wp2_with (go_at_fn 90; refine (Bw.Builder_copyCheck B b bs _ h).mono ?_)
  rintro e w1 ⟨rfl, h1, hb1⟩
  obtain ⟨hB, v, hbk, hown, hne⟩ := h1
  have c0 : w1.cell? ⟨b, 0, none⟩ = some (.pointer (some ⟨b, 0, none⟩)) := by rw [Lib.cell_of_heap hbk]; rfl
  have c1 : w1.cell? ⟨b, 1, none⟩ = some v := by rw [Lib.cell_of_heap hbk]; rfl
  go_wp2_with (at_builtin; refine wpList_append_own _ rfl _ _ 74 rfl B 5 i0 (.int .u8 0) 1 1 Try.underlying74 hi hz0 hz1 hz2 rfl (by decide) _ _ _ rfl (hown.alloc _) ⟨w1.heap.size, 0, none⟩ 1 1 [.int .u8 c] rfl rfl ?c1 ?c2 ?c3 ?c4 ?c5 ?_)
  case c1 =>
    intro j u hj
    match j, hj with
    | 0, hj => simp at hj; subst hj; simp [Addr.add]
  case c2 => intro u hu; simp at hu; subst hu; rfl
  case c3 => unfold maxLen; omega
  case c4 => omega
  case c5 => have := hb1.size; simp; omega
  intro v' w2 hown' hgrow _
  have hlt : b < w1.heap.size := by
    rcases Nat.lt_or_ge b w1.heap.size with h' | h'
    · exact h'
    · simp [Array.getElem?_eq_none h'] at hbk
  have hb2 : w2.heap[b]? = some (.cells #[.pointer (some ⟨b, 0, none⟩), v] 76 (0, 0)) := by
    rw [hgrow.block b (by simp; omega) (fun e => hne e.symm), Lib.alloc_old w1 _ b hlt]
    exact hbk
  have d0 : w2.cell? ⟨b, 0, none⟩ = some (.pointer (some ⟨b, 0, none⟩)) := by rw [Lib.cell_of_heap hb2]; rfl
  have d1 : w2.cell? ⟨b, 1, none⟩ = some v := by rw [Lib.cell_of_heap hb2]; rfl
  have f1 : w2.frozen? ⟨b, 1, none⟩ = false := Lib.frozen_of_heap hb2 1
  obtain ⟨g, cap, rfl⟩ : ∃ g cap, v' = .slice (some ⟨g, 0, none⟩) (bs.length + 1) cap := by
    rcases hown'.2 with ⟨_, h0⟩ | ⟨g, cap, cur, hv, _⟩
    · omega
    · exact ⟨g, cap, hv⟩
  go_wp2
  go_ret
  refine ⟨rfl, ?_, ?_⟩
  · exact Lib.BuilderAt.put (T := 76) (e := 5) hB hb2 (bs' := bs ++ [.int .u8 c]) (by simpa using hown') (by decide)
  · exact ((hb1.alloc (by have := hb1.size; omega) _).grown hgrow (by have := hb1.size; simp; omega) (fun k hk => (hown.lt k hk).1)).setCell (p := ⟨b, 1, none⟩) hB _
set_option maxHeartbeats 2000000 in
set_option maxRecDepth 100000 in
theorem Bw.Builder_WriteString (B b : Nat) (bs : List Value) (s : ByteArray) (w : World) (h : Lib.IsBuilder 76 5 B b bs w) (hlen : bs.length + s.size ≤ 140737488355328) (hBw : B ≤ w.heap.size) :
    Calls Try.prog 62 #[.pointer (some ⟨b, 0, none⟩), .string s] w fun e w' => e = .returned (.tuple #[.int .i64 s.size, .nilIface]) ∧ (Lib.BuilderAt 76 5 B b (.pointer (some ⟨b, 0, none⟩)) (bs ++ Lib.strCells s) w' ∧ Below B w w') := by
  obtain ⟨i0, hi, hz0, hz1, hz2⟩ := info_parts (show (Try.prog.info? 5).map (fun i => (i.zero, i.size, i.bytes)) = some (some (.int .u8 0), 1, 1) by kernel_rfl)
  have e240 : ∀ args w, (callFunc 90 args).run Try.prog w = .ok (.enter 90 args) w := enters_of Try.func90 (by kernel_rfl) rfl
  go_enter Try.func62, Try.ntmps62
  go_wp2_with (go_at_fn 90; refine (Bw.Builder_copyCheck B b bs _ h).mono ?_)
  rintro e w1 ⟨rfl, h1, hb1⟩
  obtain ⟨hB, v, hbk, hown, hne⟩ := h1
  have c0 : w1.cell? ⟨b, 0, none⟩ = some (.pointer (some ⟨b, 0, none⟩)) := by rw [Lib.cell_of_heap hbk]; rfl
  have c1 : w1.cell? ⟨b, 1, none⟩ = some v := by rw [Lib.cell_of_heap hbk]; rfl
  go_wp2_with (at_builtin; refine Lib.wpList_append_own_string _ rfl _ _ 74 9 rfl B 5 i0 Try.underlying74 Try.underlying9 hi hz0 hz1 hz2 _ _ _ rfl hown s rfl ?c3 ?c4 ?c5 ?_)
  case c3 => unfold maxLen; omega
  case c4 => omega
  case c5 => have := hb1.size; omega
  intro v' w2 hown' hgrow _
  have hlt : b < w1.heap.size := by
    rcases Nat.lt_or_ge b w1.heap.size with h' | h'
    · exact h'
    · simp [Array.getElem?_eq_none h'] at hbk
  have hb2 : w2.heap[b]? = some (.cells #[.pointer (some ⟨b, 0, none⟩), v] 76 (0, 0)) := by
    rw [hgrow.block b hlt (fun e => hne e.symm)]
    exact hbk
  have d0 : w2.cell? ⟨b, 0, none⟩ = some (.pointer (some ⟨b, 0, none⟩)) := by rw [Lib.cell_of_heap hb2]; rfl
  have d1 : w2.cell? ⟨b, 1, none⟩ = some v := by rw [Lib.cell_of_heap hb2]; rfl
  have f1 : w2.frozen? ⟨b, 1, none⟩ = false := Lib.frozen_of_heap hb2 1
  obtain ⟨ao, n', cap, rfl⟩ : ∃ ao n' cap, v' = .slice ao n' cap := by
    rcases hown'.2 with ⟨hv, _⟩ | ⟨g, cap, cur, hv, _⟩
    · exact ⟨_, _, _, hv⟩
    · exact ⟨_, _, _, hv⟩
  go_wp2
  go_ret2
  refine ⟨rfl, ?_, ?_⟩
  · exact Lib.BuilderAt.put (T := 76) (e := 5) hB hb2 (bs' := bs ++ Lib.strCells s) (by simpa [Lib.strCells_length] using hown') (by decide)
  · exact (hb1.grown hgrow (by have := hb1.size; omega) (fun k hk => (hown.lt k hk).1)).setCell (p := ⟨b, 1, none⟩) hB _
end Go.Proofs.Ytpoghhcpoimepaa.P
end
section
/-
  DERIVED: THE SHELF's CONTRACTS AT THIS DUMP, IN PLAIN WORDS (tools/lay-plain.mjs out of 'TryShelf.lean', which tools/lay-shelf.mjs wrote): THE SAME DECLARATIONS UNDER THE SAME NAMES: 'import', 'namespace', 'open', 'def', 'theorem' AND NOTHING ELSE: no command of the shelf's: FOR A HAND-IN. Each laying: the table of numbers ('.._ren') and one theorem, a field a fact of the dump's own or the kernel's comparison; each contract: ONE APPLICATION.
-/
namespace Go.Proofs
open Go.Shelf Go.RowKit
def Try.lays169_ren : Go.Shelf.Ren := ⟨fun | 169 => 64 | n => n, fun | 70 => 73 | 9 => 9 | 0 => 0 | 72 => 76 | 37 => 74 | 127 => 118 | 3 => 3 | 5 => 5 | n => n, fun | n => n⟩
theorem Try.lays169 : Go.Proofs.Lays.n169 Try.prog Try.lays169_ren := {
  mixed := by kernel_rfl
  f169 := Try.func64.trans (congrArg some (by kernel_rfl))
  t0 := Try.underlying0
  a0 := Try.isAgg0
  z0 := Try.sizeOf0
  v0 := Try.zeroValue0
  t3 := Try.underlying3
  a3 := Try.isAgg3
  z3 := Try.sizeOf3
  v3 := Try.zeroValue3
  t9 := Try.underlying9
  a9 := Try.isAgg9
  z9 := Try.sizeOf9
  v9 := Try.zeroValue9
  t37 := Try.underlying74
  a37 := Try.isAgg74
  z37 := Try.sizeOf74
  v37 := Try.zeroValue74
  t70 := Try.underlying73
  a70 := Try.isAgg73
  z70 := Try.sizeOf73
  v70 := Try.zeroValue73
  t72 := Try.underlying76
  a72 := Try.isAgg76
  z72 := Try.sizeOf76
  v72 := Try.zeroValue76
  t127 := Try.underlying118
  a127 := Try.isAgg118
  z127 := Try.sizeOf118
  v127 := Try.zeroValue118 }
theorem Try.Builder_Extra_169 : Builder.Extra Try.prog Try.lays169_ren := {
  sizeBuilder := by kernel_rfl
  liesBuilder := by kernel_rfl
  t5 := Try.underlying5
  a5 := Try.isAgg5
  z5 := Try.sizeOf5
  v5 := Try.zeroValue5
  infoByte := by kernel_rfl
  cellsByte := by kernel_rfl
  sizeByte := by kernel_rfl
  neB5 := by decide }
/-- (*strings.Builder).String: "String returns the accumulated string.": WHATEVER THE BUILDER HOLDS. (LAID: no walk: one application.) -/
theorem Try.Builder_String_any (B b : Nat) (l : List UInt8) (w : World) (h : Lib.IsBuilder 76 5 B b (Lib.byteCells l) w) (hBw : B ≤ w.heap.size) :
    Calls Try.prog 64 #[.pointer (some ⟨b, 0, none⟩)] w fun e w' => e = .returned (.string ⟨l.toArray⟩) ∧ Below B w w' := Any.Builder_String_any Try.lays169 Try.Builder_Extra_169 B b l w h hBw
def Try.lays137_ren : Go.Shelf.Ren := ⟨fun | 137 => 57 | 217 => 89 | 266 => 97 | n => n, fun | 9 => 9 | 5 => 5 | 3 => 3 | n => n, fun | n => n⟩
theorem Try.lays137 : Go.Proofs.Lays.n137 Try.prog Try.lays137_ren := {
  mixed := by kernel_rfl
  f137 := Try.func57.trans (congrArg some (by kernel_rfl))
  f217 := Try.func89.trans (congrArg some (by kernel_rfl))
  f266 := Try.func97.trans (congrArg some (by kernel_rfl))
  t3 := Try.underlying3
  a3 := Try.isAgg3
  z3 := Try.sizeOf3
  v3 := Try.zeroValue3
  t5 := Try.underlying5
  a5 := Try.isAgg5
  z5 := Try.sizeOf5
  v5 := Try.zeroValue5
  t9 := Try.underlying9
  a9 := Try.isAgg9
  z9 := Try.sizeOf9
  v9 := Try.zeroValue9 }
/-- strings.IndexByte: "IndexByte returns the index of the first instance of c in s, or -1 if c is not present in s.": IT RETURNS 'Lib.indexByte s c'; the world is as it was. (LAID: no walk: one application.) -/
theorem Try.strings_IndexByte (s : ByteArray) (c : Int) (w : World) :
    Calls Try.prog 57 #[.string s, .int .u8 c] w fun e w' => e = .returned (.int .i64 (Lib.indexByte s.data.toList c.toNat.toUInt8)) ∧ w' = w := Any.strings_IndexByte Try.lays137 s c w
end Go.Proofs
end
section
/- walk.Text. -/
namespace Go.Proofs.Ytpoghhcpoimepaa.P
open Go.Proofs.Ytpoghhcpoimepaa.B Go.RowKit Go.Proofs.YtpoghhcpoimepaaW.PrintWords Go.Proofs.YtpoghhcpoimepaaW.PrintLast Go.Proofs.YtpoghhcpoimepaaW.PrintMore
set_option linter.unusedVariables false
set_option linter.unusedSimpArgs false
theorem isB_keep {B b : Nat} {bs : List Value} {w w' : World} (h : Lib.IsBuilder 76 5 B b bs w) (hb : Below w.heap.size w w') : Lib.IsBuilder 76 5 B b bs w' := by
  rcases h with ⟨h1, v, h2, h3, h4⟩ | ⟨h1, v, h2, h3, h4⟩
  · exact .inl ⟨h1, v, blk_keep h2 hb, pw_own_below h3 hb, h4⟩
  · exact .inr ⟨h1, v, blk_keep h2 hb, pw_own_below h3 hb, h4⟩
theorem isB_new (w : World) : Lib.IsBuilder 76 5 w.heap.size w.heap.size (Lib.byteCells []) (w.alloc (.cells #[.pointer none, .slice none 0 0] 76)) :=
  .inl ⟨Nat.le_refl _, _, blk_new w _, own_nil _ _ _ _, by intro h; simp [Value.ownBlock] at h⟩
def TextPost (w : World) (l : List S56) (e : Ending) (w' : World) : Prop := e = .returned (.string ⟨(textS l).toArray⟩) ∧ Below w.heap.size w w'
set_option maxHeartbeats 2000000 in
set_option maxRecDepth 100000 in
theorem text_calls (A : Option Addr) (c : Nat) (l : List S56) (w : World) (hC : Kd.C k56 w A l.length l) (hl : l.length ≤ 1000000) : Calls Try.prog 31 #[.slice A l.length c] w (TextPost w l) := by
  have HC := Aside0.mk hC; clear hC
  go_enter Try.func31, Try.ntmps31
  go_wp2
  go_loopw [9] (fun v wr => ∃ i : Nat, i ≤ l.length ∧ v = .int .i64 i ∧ Aside0 (Lib.IsBuilder 76 5 w.heap.size w.heap.size (Lib.byteCells (textS (l.take i))) wr) ∧ Aside0 (Below w.heap.size w wr)) (fun v _ => l.length - (intOf v).toNat)
  case atStart => exact ⟨0, by omega, rfl, ⟨isB_new w⟩, ⟨below_alloc (Below.refl _ _) _⟩⟩
  case round =>
    obtain ⟨i, hi, rfl, HI, HB⟩ := hrel
    by_cases hlt : i < l.length
    · obtain ⟨ad, hA, x0, x1⟩ := at_T56 (Kd.C_below HC.out HB.out) (i : Int) (by omega) (by omega)
      subst hA
      rw [Int.toNat_natCast, rd56 l i hlt] at x0 x1
      have HT := Aside0.mk (take_more l i hlt)
      have HW := Aside0.mk (textS_snoc l[i] (l.take i))
      have HL := Aside0.mk (show (textS (l.take i)).length ≤ 66000000 by have := textS_len (l.take i); rw [List.length_take] at this; omega)
      obtain ⟨k, hk⟩ : ∃ k, l[i].f0 = k := ⟨_, rfl⟩
      obtain ⟨n, hn⟩ : ∃ n, l[i].f1 = n := ⟨_, rfl⟩
      rw [hk] at x0
      rw [hn] at x1
      have HW := Aside0.mk (by have := HW.out; rw [hk, hn] at this; exact this)
      clear hk hn
      have hof := often_v k n
      have HKD := Aside0.mk (ofV_kind (k := k) (n := n))
      have HLE := Aside0.mk (ofV_le k n)
      obtain ⟨v, hv⟩ : ∃ v, ofV k n = v := ⟨_, rfl⟩
      rw [hv] at hof
      have HOF := Aside0.mk hof; clear hof
      by_cases hv0 : v = 0
      · subst hv0
        have HW2 := Aside0.mk (show textS (l.take (i + 1)) = textS (l.take i) by rw [HT.out, HW.out, mvS, if_pos hv, List.append_nil])
        clear HW HT hv HKD HLE HL
        go_wp2_with (go_at_call 60; (with_reducible refine (walk_often.calls k n _ _ HOF.out).mono ?_); rintro e w1 ⟨rfl, hb1⟩; have HB1 := Aside0.mk (below_step (below_alloc HB.out (.cells #[.int .i64 k, .int .i64 n] 56)) hb1); have HI1 := Aside0.mk (isB_keep (isB_keep HI.out (below_alloc (Below.refl wr.heap.size wr) (.cells #[.int .i64 k, .int .i64 n] 56))) hb1); clear hb1)
        go_roundw
        case rel => exact ⟨i + 1, by omega, by go_num, ⟨by rw [HW2.out]; exact HI1.out⟩, HB1⟩
        case measure => simp [intOf]; omega
      · obtain ⟨hk1, hk4⟩ := HKD.out (by rw [hv]; exact hv0)
        obtain ⟨K, rfl⟩ : ∃ K : Nat, k = (K : Int) := ⟨k.toNat, by omega⟩
        have hv0' : ((v : Int) == 0) = false := by simp; omega
        have hK5 : K < (⟨#[32, 70, 66, 76, 82]⟩ : ByteArray).size := by show K < 5; omega
        have HLT := Aside0.mk (ltr_at K (by omega) (by omega) hK5)
        by_cases hv1 : v = 1
        · subst hv1
          have HW2 := Aside0.mk (show textS (l.take (i + 1)) = textS (l.take i) ++ [ltr K] by rw [HT.out, HW.out, mvS, if_neg (by omega), if_pos hv])
          clear HW HT hv HKD HLE
          go_wp2_with (first | (go_at_call 60; (with_reducible refine (walk_often.calls K n _ _ HOF.out).mono ?_); rintro e w1 ⟨rfl, hb1⟩; have bk1 := blk_keep (blk_new wr (.cells #[.int .i64 K, .int .i64 n] 56)) hb1; have hc0 := blk_cell bk1 0; have HB1 := Aside0.mk (below_step (below_alloc HB.out (.cells #[.int .i64 K, .int .i64 n] 56)) hb1); have HI1 := Aside0.mk (isB_keep (isB_keep HI.out (below_alloc (Below.refl wr.heap.size wr) (.cells #[.int .i64 K, .int .i64 n] 56))) hb1); clear hb1 bk1) | (go_at_call 61; (with_reducible refine (Bw.Builder_WriteByte _ _ _ _ _ HI1.out (by rw [Lib.byteCells_length]; have := HL.out; omega) HB1.out.size).mono ?_); rintro e w2 ⟨rfl, hI2, hb2⟩; rw [HLT.out] at hI2; have HB2 := Aside0.mk (HB1.out.trans hb2); have HI2 := Aside0.mk (show Lib.IsBuilder 76 5 w.heap.size w.heap.size _ w2 from .inr hI2); clear hI2 hb2))
          go_roundw
          case rel => exact ⟨i + 1, by omega, by go_num, ⟨by rw [HW2.out, Lib.byteCells_append]; exact HI2.out⟩, HB2⟩
          case measure => simp [intOf]; omega
        · have HW2 := Aside0.mk (show textS (l.take (i + 1)) = textS (l.take i) ++ ([ltr K] ++ printS v) by rw [HT.out, HW.out, mvS, if_neg (by omega), if_neg (by omega), hv]; rfl)
          have hv1' : decide ((v : Int) > 1) = true := decide_eq_true (by omega)
          have hv1n : decide (1 < v) = true := decide_eq_true (by omega)
          have HPR := Aside0.mk (print_code (v : Int) (by omega) (by have := HLE.out; omega))
          clear HW HT hv HKD HLE
          go_wp2_with (first | (go_at_call 60; (with_reducible refine (walk_often.calls K n _ _ HOF.out).mono ?_); rintro e w1 ⟨rfl, hb1⟩; have bk1 := blk_keep (blk_new wr (.cells #[.int .i64 K, .int .i64 n] 56)) hb1; have hc0 := blk_cell bk1 0; have HB1 := Aside0.mk (below_step (below_alloc HB.out (.cells #[.int .i64 K, .int .i64 n] 56)) hb1); have HI1 := Aside0.mk (isB_keep (isB_keep HI.out (below_alloc (Below.refl wr.heap.size wr) (.cells #[.int .i64 K, .int .i64 n] 56))) hb1); clear hb1 bk1) | (go_at_call 61; (with_reducible refine (Bw.Builder_WriteByte _ _ _ _ _ HI1.out (by rw [Lib.byteCells_length]; have := HL.out; omega) HB1.out.size).mono ?_); rintro e w2 ⟨rfl, hI2, hb2⟩; rw [HLT.out] at hI2; have HB2 := Aside0.mk (HB1.out.trans hb2); have HI2 := Aside0.mk (show Lib.IsBuilder 76 5 w.heap.size w.heap.size _ w2 from .inr hI2); clear hI2 hb2) | (go_at_call 63; (with_reducible refine (num_Print.calls _ _ _ HPR.out).mono ?_); rintro e w3 ⟨rfl, hb3⟩; have HB3 := Aside0.mk (below_step HB2.out hb3); have HI3 := Aside0.mk (isB_keep HI2.out hb3); clear hb3) | (go_at_call 62; (with_reducible refine (Bw.Builder_WriteString _ _ _ _ _ HI3.out (by rw [List.length_append, Lib.byteCells_length, size_l]; have h1 := HL.out; have h2 := printS_len (v : Int); simp only [List.length_cons, List.length_nil]; omega) HB3.out.size).mono ?_); rintro e w4 ⟨rfl, hI4, hb4⟩; have HB4 := Aside0.mk (HB3.out.trans hb4); have HI4 := Aside0.mk (show Lib.IsBuilder 76 5 w.heap.size w.heap.size _ w4 from .inr hI4); clear hI4 hb4))
          go_roundw
          case rel => exact ⟨i + 1, by omega, by go_num, ⟨by rw [HW2.out, Lib.byteCells_append, Lib.byteCells_append, ← List.append_assoc]; exact HI4.out⟩, HB4⟩
          case measure => simp [intOf]; omega
    · obtain rfl : i = l.length := by omega
      have HI2 := Aside0.mk (by have := HI.out; rw [List.take_length] at this; exact this)
      go_wp2_with (go_at_call 64; (with_reducible refine (Try.Builder_String_any _ _ _ _ HI2.out HB.out.size).mono ?_); rintro e w1 ⟨rfl, hb1⟩; have HB1 := Aside0.mk (HB.out.trans hb1); clear hb1)
      go_ret
      exact ⟨rfl, HB1.out⟩
def walk_Text.f (l0 : List (S56)) : Option (ByteArray) := if l0.length ≤ 1000000 then some ⟨(textS l0).toArray⟩ else none
theorem walk_Text.calls (A0 : Option Addr) (c0 : Nat) (l0 : List (S56)) (r : ByteArray) (w : World) (hr0 : Kd.C k56 w A0 l0.length l0) (hc0 : l0.length ≤ c0) (h : walk_Text.f l0 = some r) :
    Calls Try.prog 31 #[.slice A0 l0.length c0] w fun e w' => e = .returned (.string r) ∧ Below w.heap.size w w' := by
  unfold walk_Text.f at h
  split at h
  · rename_i hl
    obtain rfl := Option.some.inj h
    exact text_calls A0 c0 l0 w hr0 hl
  · cases h
end Go.Proofs.Ytpoghhcpoimepaa.P
end
section
/- A scope with two labels, to which the run jumps back. -/
namespace Go.Proofs.Ytpoghhcpoimepaa.H
/-- As Q; by a goto to label l: J l. -/
def Exit.jumps (J : Nat → Act → World → Prop) (Q : Exit → Act → World → Prop) : Exit → Act → World → Prop
  | .goto l', a, w => J l' a w
  | e, a, w => Q e a w
def ScopeGoL (P : Program) (c : Code) (Q : Exit → Act → World → Prop) (l : Nat) (a : Act) (w : World) : Prop := ∃ rest, findLabel c l = some rest ∧ ScopeGo P c rest Q a w
section
variable {P : Program} {a : Act} {w : World} {Q : Exit → Act → World → Prop}
theorem wp_scope_enter2 {c : Code} (h : c.wp P (Exit.jumps (ScopeGoL P c Q) Q) a w) : (Code.scope c).wp P Q a w := by
  intro b k cs
  obtain ⟨e, a₁, w₁, hq, harr⟩ := h b (.inScope c :: k) cs
  cases e with
  | normal => exact ⟨.normal, a₁, w₁, hq, .head step_scope (Steps.trans harr (.one step_inScope))⟩
  | exit id => exact ⟨.exit id, a₁, w₁, hq, fun k' hk => .head step_scope (harr k' (by simp [exitTo, hk]))⟩
  | goto l' =>
    obtain ⟨rest, hf, hJ'⟩ := hq
    have hg : gotoIn l' (.inScope c :: k) = some (.code rest :: .inScope c :: k) := by simp [gotoIn, hf]
    obtain ⟨e₂, a₂, w₂, hq₂, harr₂⟩ := hJ' b k cs
    exact ⟨e₂, a₂, w₂, hq₂, .of_steps (.head step_scope (harr _ hg)) harr₂⟩
  | ret => exact ⟨_, a₁, w₁, hq, .of_steps (.one step_scope) harr⟩
  | panic ch => exact ⟨_, a₁, w₁, hq, .of_steps (.one step_scope) harr⟩
  | outgrown => exact ⟨_, a₁, w₁, hq, .of_steps (.one step_scope) harr⟩
theorem scopeGoL_of {c : Code} (I : Nat → Nat → Act → World → Prop)
    (pass : ∀ l n a w, I l n a w → ∃ rest, findLabel c l = some rest ∧ rest.wp P (Exit.jumps (fun l' a' w' => ∃ n', n' < n ∧ I l' n' a' w') Q) a w) : ∀ n l a w, I l n a w → ScopeGoL P c Q l a w := by
  intro n
  induction n using Nat.strongRecOn with
  | _ n ih =>
    intro l a w hI
    obtain ⟨rest, hf, hp⟩ := pass l n a w hI
    refine ⟨rest, hf, fun b k cs => ?_⟩
    obtain ⟨e, a₁, w₁, hq, harr⟩ := hp b (.inScope c :: k) cs
    cases e with
    | normal => exact ⟨.normal, a₁, w₁, hq, Steps.trans harr (.one step_inScope)⟩
    | exit id => exact ⟨.exit id, a₁, w₁, hq, fun k' hk => harr k' (by simp [exitTo, hk])⟩
    | goto l' =>
      obtain ⟨n', hlt, hJ'⟩ := hq
      obtain ⟨rest', hf', hgo⟩ := ih n' hlt l' a₁ w₁ hJ'
      have hg : gotoIn l' (.inScope c :: k) = some (.code rest' :: .inScope c :: k) := by simp [gotoIn, hf']
      obtain ⟨e₂, a₂, w₂, hq₂, harr₂⟩ := hgo b k cs
      exact ⟨e₂, a₂, w₂, hq₂, .of_steps (harr _ hg) harr₂⟩
    | ret => exact ⟨_, a₁, w₁, hq, harr⟩
    | panic ch => exact ⟨_, a₁, w₁, hq, harr⟩
    | outgrown => exact ⟨_, a₁, w₁, hq, harr⟩
theorem jumps_mono {J J' : Nat → Act → World → Prop} (h : ∀ l a w, J l a w → J' l a w) (e : Exit) (a : Act) (w : World) (hq : Exit.jumps J Q e a w) : Exit.jumps J' Q e a w := by
  cases e with
  | goto l' => exact h _ _ _ hq
  | normal => exact hq
  | exit id => exact hq
  | ret => exact hq
  | panic ch => exact hq
  | outgrown => exact hq
def lab2 (R0 R1 : Nat → Act → World → Prop) : Nat → Nat → Act → World → Prop
  | 0 => R0
  | 1 => R1
  | _ => fun _ _ _ => False
/-- At the first label of two: ds: the slots that the code behind it writes. -/
theorem wp_labels2 {c X0 X1 : Code} (h0 : findLabel c 0 = some (.seq .skip X0)) (h1 : findLabel c 1 = some (.seq .skip X1)) (ds : List Tmp) (R0 R1 : Nat → List Value → World → Prop) (n₀ : Nat) (start : R0 n₀ (ds.map fun d => a.tmps.getD d undef) w)
    (round1 : ∀ n us w, us.length = ds.length → R1 n us w → ∀ (J0 J1 : Nat → Act → World → Prop) (K : Nat → Act → World → Prop),
      (∀ k us' a' w', us'.length = ds.length → putS a ds us' = a' → R0 k us' w' → J0 k a' w') → (∀ k us' a' w', us'.length = ds.length → putS a ds us' = a' → R1 k us' w' → J1 k a' w') →
      (∀ k a' w', k < n → J0 k a' w' → K 0 a' w') → (∀ k a' w', k < n → J1 k a' w' → K 1 a' w') → X1.wp P (Exit.jumps K Q) (putS a ds us) w)
    (round0 : ∀ n us w, us.length = ds.length → R0 n us w → ∀ (J0 J1 : Nat → Act → World → Prop) (K : Nat → Act → World → Prop),
      (∀ k us' a' w', us'.length = ds.length → putS a ds us' = a' → R0 k us' w' → J0 k a' w') → (∀ k us' a' w', us'.length = ds.length → putS a ds us' = a' → R1 k us' w' → J1 k a' w') →
      (∀ k a' w', k < n → J0 k a' w' → K 0 a' w') → (∀ k a' w', k < n → J1 k a' w' → K 1 a' w') → (∀ k a' w', k ≤ n → J1 k a' w' → X1.wp P (Exit.jumps K Q) a' w') → X0.wp P (Exit.jumps K Q) (putS a ds us) w) :
    X0.wp P (Exit.jumps (ScopeGoL P c Q) Q) a w := by
  let S := fun (R : Nat → List Value → World → Prop) (n : Nat) (a' : Act) (w' : World) => ∃ us, us.length = ds.length ∧ a' = putS a ds us ∧ R n us w'
  let I := lab2 (S R0) (S R1)
  have hp1 : ∀ n a' w', S R1 n a' w' → X1.wp P (Exit.jumps (fun l a'' w'' => ∃ n', n' < n ∧ I l n' a'' w'') Q) a' w' := by
    rintro n _ w ⟨us, hl, rfl, hR⟩
    exact round1 n us w hl hR (S R0) (S R1) _ (fun k us' a' w' hl' ha hR' => ⟨us', hl', ha.symm, hR'⟩) (fun k us' a' w' hl' ha hR' => ⟨us', hl', ha.symm, hR'⟩) (fun k a' w' hk h => ⟨k, hk, h⟩) (fun k a' w' hk h => ⟨k, hk, h⟩)
  have hp0 : ∀ n a' w', S R0 n a' w' → X0.wp P (Exit.jumps (fun l a'' w'' => ∃ n', n' < n ∧ I l n' a'' w'') Q) a' w' := by
    rintro n _ w ⟨us, hl, rfl, hR⟩
    refine round0 n us w hl hR (S R0) (S R1) _ (fun k us' a' w' hl' ha hR' => ⟨us', hl', ha.symm, hR'⟩) (fun k us' a' w' hl' ha hR' => ⟨us', hl', ha.symm, hR'⟩) (fun k a' w' hk h => ⟨k, hk, h⟩) (fun k a' w' hk h => ⟨k, hk, h⟩) (fun k a' w' hk h => ?_)
    exact wp_mono (hp1 k a' w' h) (jumps_mono fun l a w ⟨n', hn, hI⟩ => ⟨n', by omega, hI⟩)
  have hall := scopeGoL_of (P := P) (Q := Q) (c := c) I (fun l n a' w' hI => by
    match l, hI with
    | 0, hI => exact ⟨_, h0, wp_skip_seq (hp0 n a' w' hI)⟩
    | 1, hI => exact ⟨_, h1, wp_skip_seq (hp1 n a' w' hI)⟩)
  refine wp_mono (hp0 n₀ a w ⟨_, by simp, (putS_self a ds).symm, start⟩) (jumps_mono fun l a w ⟨n', hn, hI⟩ => hall n' l a w hI)
end
end Go.Proofs.Ytpoghhcpoimepaa.H
end
section
-- printed by the session's own call of print.py. Not trusted: Lean checks it.
namespace Go.Proofs.Ytpoghhcpoimepaa.P
open Go.RowKit Go.Proofs.YtpoghhcpoimepaaW.PrintWords Go.Proofs.YtpoghhcpoimepaaW.PrintLast Go.Proofs.YtpoghhcpoimepaaW.PrintMore
attribute [local go_sem] max2_int min2_int max_two min_two max_three min_three max_four min_four
set_option linter.unusedVariables false
set_option linter.unusedSimpArgs false
/-! ### walk_digit: function 58 -/
def walk_digit.f (a0 : Int) : Option (Bool) := if 48 ≤ a0 then (some (decide (a0 ≤ 57))) else (some false)
set_option maxHeartbeats 8000000 in
set_option maxRecDepth 100000 in
theorem walk_digit.calls (a0 : Int) (r : Bool) (w : World) (h : walk_digit.f a0 = some r) :
    Calls Try.prog 58 #[.int .u8 a0] w fun e w' => e = .returned (.bool r) ∧ Drawn0 w w' := by
  have H : (if 48 ≤ a0 then (some (decide (a0 ≤ 57))) else (some false)) = some r := h
  clear h
  by_cases c2 : 48 ≤ a0
  · rw [if_pos c2] at H
    have c2b0 : decide (48 ≤ a0) = true := decide_eq_true c2
    clear c2
    obtain rfl := Option.some.inj H
    go_enter Try.func58, Try.ntmps58
    go_wp2
    go_ret
    exact ⟨by first | rfl | ((repeat first | rw [Int.tdiv_eq_ediv_of_nonneg (by omega)] | rw [Int.tmod_eq_emod_of_nonneg (by omega)]); rfl) | (simp; done) | (simp [*]; done), by repeat (first | exact Drawn0.refl _ | apply Drawn0.step)⟩
  · rw [if_neg c2] at H
    have c2b0 : decide (48 ≤ a0) = false := decide_eq_false c2
    clear c2
    obtain rfl := Option.some.inj H
    go_enter Try.func58, Try.ntmps58
    go_wp2
    go_ret
    exact ⟨by first | rfl | ((repeat first | rw [Int.tdiv_eq_ediv_of_nonneg (by omega)] | rw [Int.tmod_eq_emod_of_nonneg (by omega)]); rfl) | (simp; done) | (simp [*]; done), by repeat (first | exact Drawn0.refl _ | apply Drawn0.step)⟩
end Go.Proofs.Ytpoghhcpoimepaa.P
end
section
/- walk.Parse. -/
namespace Go.Proofs.Ytpoghhcpoimepaa.P
open Go.Proofs.Ytpoghhcpoimepaa.B Go.RowKit Go.Proofs.YtpoghhcpoimepaaW.PrintWords Go.Proofs.YtpoghhcpoimepaaW.PrintLast Go.Proofs.YtpoghhcpoimepaaW.PrintMore Go.Proofs.Ytpoghhcpoimepaa.H
attribute [local go_sem] max2_int min2_int max_two min_two
set_option linter.unusedVariables false
set_option linter.unusedSimpArgs false
def idxL (c : UInt8) : Int := Lib.indexByte [32, 70, 66, 76, 82] c
/-- What any bytes are as a walk: k, n: a move that is being read. -/
def prs : List UInt8 → Nat → List S56 → Option (Int × Int) → List S56 × Int × Int
  | [], _, out, none => (out, 0, 0)
  | [], _, out, some (k, n) => (out ++ [⟨k, mx n 1⟩], 0, 0)
  | c :: t, i, out, none => if idxL c < 1 then ([], 3, (i : Int)) else prs t (i + 1) out (some (idxL c, 0))
  | c :: t, i, out, some (k, n) => if 48 ≤ c.toNat ∧ c.toNat ≤ 57 then (if n = 0 ∧ c.toNat = 48 then ([], 3, (i : Int)) else if 100 ≤ n then ([], 2, (i : Int)) else prs t (i + 1) out (some (k, 10 * n + ((c.toNat : Int) - 48)))) else if idxL c < 1 then ([], 3, (i : Int)) else prs t (i + 1) (out ++ [⟨k, mx n 1⟩]) (some (idxL c, 0))
theorem prs_none (l : List UInt8) (i : Nat) (out : List S56) (k n : Int) (h : ∀ c t, l = c :: t → ¬ (48 ≤ c.toNat ∧ c.toNat ≤ 57)) : prs l i out (some (k, n)) = prs l i (out ++ [⟨k, mx n 1⟩]) none := by
  cases l with
  | nil => rfl
  | cons c t => simp only [prs, if_neg (h c t rfl)]
theorem get_drop (s : ByteArray) (i : Nat) (h : i < s.size) : s.data.toList.drop i = (s[i]'h) :: s.data.toList.drop (i + 1) := by
  have hi2 : i < s.data.toList.length := by rw [Array.length_toList]; exact h
  rw [List.drop_eq_getElem_cons hi2]
  rfl
theorem digit_run (c : Int) (w : World) : Calls Try.prog 58 #[.int .u8 c] w fun e w' => e = .returned (.bool (decide (48 ≤ c) && decide (c ≤ 57))) ∧ Below w.heap.size w w' := by
  refine (walk_digit.calls c (decide (48 ≤ c) && decide (c ≤ 57)) w ?_).mono (fun e w' h => ⟨h.1, h.2.below⟩)
  unfold walk_digit.f
  by_cases h : 48 ≤ c
  · rw [if_pos h, decide_eq_true h]; rfl
  · rw [if_neg h, decide_eq_false h]; rfl
def ParsePost (w : World) (r : List S56 × Int × Int) (e : Ending) (w' : World) : Prop := ∃ v : Value, e = .returned (.tuple #[v, .int .i64 r.2.1, .int .i64 r.2.2]) ∧ Kd.R k56 56 w' w.heap.size (fun _ => True) v r.1 ∧ Below w.heap.size w w'
set_option maxHeartbeats 4000000 in
set_option maxRecDepth 100000 in
theorem parse_calls (s : ByteArray) (w : World) (hs : s.size ≤ 1000000) : Calls Try.prog 29 #[.string s] w (ParsePost w (prs s.data.toList 0 [] none)) := by
  obtain ⟨r, hr⟩ : ∃ r, prs s.data.toList 0 [] none = r := ⟨_, rfl⟩
  rw [hr]
  have HR := Aside0.mk hr; clear hr
  go_enter Try.func29, Try.ntmps29
  go_wp2
  refine wp_scope_enter2 ?_
  go_wp2
  go_step3
  simp only [Exit.then]
  rename_i hk
  refine hk _ _ ?_
  clear hk
  refine wp_labels2 (by rfl) (by rfl) (List.range' 2 62)
    (fun n us wr => ∃ (i : Nat) (out : List S56), i ≤ s.size ∧ n = 2 * (s.size - i) ∧ us.getD 4 undef = .int .i64 i ∧ out.length ≤ i ∧ Aside0 (Kd.R k56 56 wr w.heap.size (fun _ => True) (us.getD 3 undef) out) ∧ Aside0 (prs (s.data.toList.drop i) i out none = r) ∧ Aside0 (Below w.heap.size w wr))
    (fun n us wr => ∃ (i m : Nat) (k : Int) (out : List S56), i ≤ s.size ∧ n = 2 * (s.size - i) + 1 ∧ us.getD 4 undef = .int .i64 i ∧ us.getD 5 undef = .int .i64 m ∧ us.getD 6 undef = .int .i64 k ∧ m ≤ 999 ∧ out.length < i ∧ Aside0 (Kd.R k56 56 wr w.heap.size (fun _ => True) (us.getD 3 undef) out) ∧ Aside0 (prs (s.data.toList.drop i) i out (some (k, m)) = r) ∧ Aside0 (Below w.heap.size w wr)) (2 * s.size) ?_ ?_ ?_
  · exact ⟨0, [], Nat.zero_le _, by omega, rfl, Nat.le_refl _, ⟨Kd.R_nil _ _ _ _ _⟩, HR, ⟨Below.refl _ _⟩⟩
  · rintro n us wr hln ⟨i, m, k, out, hi, rfl, e4, e5, e6, hm, ho, HO, HP, HB⟩ J0 J1 K hJ0 hJ1 hK0 hK1
    clear HR
    simp only [List.length_range'] at hln
    match us, hln with
    | u2 :: u3 :: u4 :: u5 :: u6 :: u7 :: u8 :: u9 :: u10 :: u11 :: u12 :: u13 :: u14 :: u15 :: u16 :: u17 :: u18 :: u19 :: u20 :: u21 :: u22 :: u23 :: u24 :: u25 :: u26 :: u27 :: u28 :: u29 :: u30 :: u31 :: u32 :: u33 :: u34 :: u35 :: u36 :: u37 :: u38 :: u39 :: u40 :: u41 :: u42 :: u43 :: u44 :: u45 :: u46 :: u47 :: u48 :: u49 :: u50 :: u51 :: u52 :: u53 :: u54 :: u55 :: u56 :: u57 :: u58 :: u59 :: u60 :: u61 :: u62 :: u63 :: [], _ =>
    simp only [List.getD_cons_succ, List.getD_cons_zero] at e4 e5 e6 HO
    simp only [List.range', putS, Act.put, List.setIfInBounds_toArray, List.set_cons_zero, List.set_cons_succ]
    have hJ0' := fun (k : Nat) (v2 v3 v4 v5 v6 v7 v8 v9 v10 v11 v12 v13 v14 v15 v16 v17 v18 v19 v20 v21 v22 v23 v24 v25 v26 v27 v28 v29 v30 v31 v32 v33 v34 v35 v36 v37 v38 v39 v40 v41 v42 v43 v44 v45 v46 v47 v48 v49 v50 v51 v52 v53 v54 v55 v56 v57 v58 v59 v60 v61 v62 v63 : Value) (w' : World) => hJ0 k (v2 :: v3 :: v4 :: v5 :: v6 :: v7 :: v8 :: v9 :: v10 :: v11 :: v12 :: v13 :: v14 :: v15 :: v16 :: v17 :: v18 :: v19 :: v20 :: v21 :: v22 :: v23 :: v24 :: v25 :: v26 :: v27 :: v28 :: v29 :: v30 :: v31 :: v32 :: v33 :: v34 :: v35 :: v36 :: v37 :: v38 :: v39 :: v40 :: v41 :: v42 :: v43 :: v44 :: v45 :: v46 :: v47 :: v48 :: v49 :: v50 :: v51 :: v52 :: v53 :: v54 :: v55 :: v56 :: v57 :: v58 :: v59 :: v60 :: v61 :: v62 :: v63 :: []) _ w' rfl rfl
    have hJ1' := fun (k : Nat) (v2 v3 v4 v5 v6 v7 v8 v9 v10 v11 v12 v13 v14 v15 v16 v17 v18 v19 v20 v21 v22 v23 v24 v25 v26 v27 v28 v29 v30 v31 v32 v33 v34 v35 v36 v37 v38 v39 v40 v41 v42 v43 v44 v45 v46 v47 v48 v49 v50 v51 v52 v53 v54 v55 v56 v57 v58 v59 v60 v61 v62 v63 : Value) (w' : World) => hJ1 k (v2 :: v3 :: v4 :: v5 :: v6 :: v7 :: v8 :: v9 :: v10 :: v11 :: v12 :: v13 :: v14 :: v15 :: v16 :: v17 :: v18 :: v19 :: v20 :: v21 :: v22 :: v23 :: v24 :: v25 :: v26 :: v27 :: v28 :: v29 :: v30 :: v31 :: v32 :: v33 :: v34 :: v35 :: v36 :: v37 :: v38 :: v39 :: v40 :: v41 :: v42 :: v43 :: v44 :: v45 :: v46 :: v47 :: v48 :: v49 :: v50 :: v51 :: v52 :: v53 :: v54 :: v55 :: v56 :: v57 :: v58 :: v59 :: v60 :: v61 :: v62 :: v63 :: []) _ w' rfl rfl
    clear hJ0 hJ1
    simp only [List.range', putS, Act.put, List.setIfInBounds_toArray, List.set_cons_zero, List.set_cons_succ] at hJ0' hJ1'
    have HJ0 := Aside0.mk hJ0'; clear hJ0'
    have HJ1 := Aside0.mk hJ1'; clear hJ1'
    have HK0 := Aside0.mk hK0; clear hK0
    have HK1 := Aside0.mk hK1; clear hK1
    subst e4 e5 e6
    by_cases he : i = s.size
    · have hp := HP.out
      rw [prs_none _ _ _ _ _ (fun c t hct => by rw [List.drop_eq_nil_of_le (by rw [Array.length_toList, he]; exact Nat.le_refl _)] at hct; cases hct)] at hp
      have HP2 := Aside0.mk hp
      have hei : ¬ i < s.size := by omega
      have he' : decide (i < s.size) = false := decide_eq_false hei
      have he2 : decide ((i : Int) < (s.size : Int)) = false := decide_eq_false (by omega)
      clear hp HP he
      go_wp2_with ((with_reducible refine gate_builtin (b := .append) (xs := #[.tmp 57, .tmp 62]) rfl ?_); at_builtin; refine Kd.R_append k56 (w0 := w) w.heap.size rfl (.tmp 57) (.tmp 62) 41 56 (.agg #[(.int .i64 0), (.int .i64 0)]) 16 rfl Try.underlying41 info56 rfl (by decide) (by omega) u5 out (⟨k, mx (m : Int) 1⟩ : S56) [.int .i64 k, .int .i64 (mx (m : Int) 1)] (fun _ => True) (fun _ => False) rfl rfl ?aP (fun _ hk => hk.elim) ?aF ?aO ?aB ?aS ?aL ?_; (case aP => exact k56_mkM _ _ _ (⟨k, mx (m : Int) 1⟩ : S56)); (case aB => exact HB.out); (case aF => exact (fun k_ hk => trivial)); (case aO => exact HO.out); (case aS => exact HB.out.size); (case aL => omega); intro v1 w2 ho2 hb2 hg2 hat2; have HO2 := Aside0.mk ho2; have HB2 := Aside0.mk hb2; clear ho2 hb2 hg2 hat2)
      all_goals go_step3
      all_goals exact HK0.out (2 * (s.size - i)) _ _ (by omega) (HJ0.out (2 * (s.size - i)) _ _ _ _ _ _ _ _ _ _ _ _ _ _ _ _ _ _ _ _ _ _ _ _ _ _ _ _ _ _ _ _ _ _ _ _ _ _ _ _ _ _ _ _ _ _ _ _ _ _ _ _ _ _ _ _ _ _ _ _ _ _ _ ⟨i, out ++ [(⟨k, mx (m : Int) 1⟩ : S56)], hi, rfl, rfl, by rw [List.length_append]; exact ho, HO2, ⟨HP2.out⟩, HB2⟩)
    · have hlt : i < s.size := by omega
      have hlt' : decide ((i : Int) < (s.size : Int)) = true := decide_eq_true (by omega)
      have hlt2 : decide (i < s.size) = true := decide_eq_true hlt
      by_cases hd : 48 ≤ (s[i]'hlt).toNat ∧ (s[i]'hlt).toNat ≤ 57
      · have d1 : decide (48 ≤ ((s[i]'hlt).toNat : Int)) = true := decide_eq_true (by omega)
        have d2 : decide (((s[i]'hlt).toNat : Int) ≤ 57) = true := decide_eq_true (by omega)
        have d3 : decide (48 ≤ (s[i]'hlt).toNat) = true := decide_eq_true (by omega)
        have d4 : decide ((s[i]'hlt).toNat ≤ 57) = true := decide_eq_true (by omega)
        have hp := HP.out
        rw [get_drop s i hlt, prs, if_pos hd] at hp
        obtain ⟨b, hb⟩ : ∃ b, (s[i]'hlt).toNat = b := ⟨_, rfl⟩
        rw [hb] at hp
        rw [hb] at hd
        have db : (decide (48 ≤ (b : Int)) && decide ((b : Int) ≤ 57)) = true := by rw [decide_eq_true (show 48 ≤ (b : Int) by omega), decide_eq_true (show (b : Int) ≤ 57 by omega)]; rfl
        have db2 : (decide (48 ≤ b) && decide (b ≤ 57)) = true := by rw [decide_eq_true hd.1, decide_eq_true hd.2]; rfl
        clear d1 d2 d3 d4
        by_cases h0 : (m : Int) = 0 ∧ b = 48
        · rw [if_pos h0] at hp
          subst hp
          obtain ⟨m0, rfl⟩ := h0
          obtain rfl : m = 0 := by omega
          have e1 : ((48 : Int) == 48) = true := rfl
          clear hd
          go_wp2_with (go_at_call 58; (with_reducible refine (digit_run _ _).mono ?_); rintro e w1 ⟨rfl, hb1⟩; have HB1 := Aside0.mk (below_step HB.out hb1); have HO1 := Aside0.mk (Kd.R_below HO.out hb1); clear hb1 HB HO)
          simp only [Exit.jumps]
          go_ret3
          exact ⟨_, rfl, Kd.R_nil _ _ _ _ _, HB1.out⟩
        · rw [if_neg h0] at hp
          by_cases h1 : 100 ≤ (m : Int)
          · rw [if_pos h1] at hp
            subst hp
            have e1 : ((m : Int) == 0) = false := beq_eq_false_iff_ne.2 (by omega)
            have e2 : decide (100 ≤ (m : Int)) = true := decide_eq_true h1
            have e3 : decide (100 ≤ m) = true := decide_eq_true (by omega)
            clear hd h0
            go_wp2_with (go_at_call 58; (with_reducible refine (digit_run _ _).mono ?_); rintro e w1 ⟨rfl, hb1⟩; have HB1 := Aside0.mk (below_step HB.out hb1); have HO1 := Aside0.mk (Kd.R_below HO.out hb1); clear hb1 HB HO)
            simp only [Exit.jumps]
            go_ret3
            exact ⟨_, rfl, Kd.R_nil _ _ _ _ _, HB1.out⟩
          · rw [if_neg h1] at hp
            have HP2 := Aside0.mk hp
            have e2 : decide (100 ≤ (m : Int)) = false := decide_eq_false h1
            have e3 : decide (100 ≤ m) = false := decide_eq_false (by omega)
            have e4 : ((b : Int) - 48) % 256 = (b : Int) - 48 := by omega
            clear hp HP
            by_cases hm0 : m = 0
            · subst hm0
              have e1 : ((b : Int) == 48) = false := beq_eq_false_iff_ne.2 (by omega)
              have e5 : (b : Int) - 48 = ((b - 48 : Nat) : Int) := by omega
              go_wp2_with (go_at_call 58; (with_reducible refine (digit_run _ _).mono ?_); rintro e w1 ⟨rfl, hb1⟩; have HB1 := Aside0.mk (below_step HB.out hb1); have HO1 := Aside0.mk (Kd.R_below HO.out hb1); clear hb1 HB HO)
              go_step3
              simp only [Exit.then]
              exact HK1.out (2 * (s.size - (i + 1)) + 1) _ _ (by omega) (HJ1.out (2 * (s.size - (i + 1)) + 1) _ _ _ _ _ _ _ _ _ _ _ _ _ _ _ _ _ _ _ _ _ _ _ _ _ _ _ _ _ _ _ _ _ _ _ _ _ _ _ _ _ _ _ _ _ _ _ _ _ _ _ _ _ _ _ _ _ _ _ _ _ _ _ ⟨i + 1, 10 * 0 + (b - 48), k, out, by omega, rfl, by go_num, by first | rfl | (simp; done) | (simp; omega), rfl, by omega, by omega, HO1, ⟨by have := HP2.out; rw [show ((10 * 0 + (b - 48) : Nat) : Int) = 10 * (((0 : Nat) : Int) : Int) + ((b : Int) - 48) by omega]; exact this⟩, HB1⟩)
            · have e1 : ((m : Int) == 0) = false := beq_eq_false_iff_ne.2 (by omega)
              go_wp2_with (go_at_call 58; (with_reducible refine (digit_run _ _).mono ?_); rintro e w1 ⟨rfl, hb1⟩; have HB1 := Aside0.mk (below_step HB.out hb1); have HO1 := Aside0.mk (Kd.R_below HO.out hb1); clear hb1 HB HO)
              go_step3
              simp only [Exit.then]
              exact HK1.out (2 * (s.size - (i + 1)) + 1) _ _ (by omega) (HJ1.out (2 * (s.size - (i + 1)) + 1) _ _ _ _ _ _ _ _ _ _ _ _ _ _ _ _ _ _ _ _ _ _ _ _ _ _ _ _ _ _ _ _ _ _ _ _ _ _ _ _ _ _ _ _ _ _ _ _ _ _ _ _ _ _ _ _ _ _ _ _ _ _ _ ⟨i + 1, 10 * m + (b - 48), k, out, by omega, rfl, by go_num, by go_num, rfl, by omega, by omega, HO1, ⟨by have := HP2.out; rw [show ((10 * m + (b - 48) : Nat) : Int) = 10 * (m : Int) + ((b : Int) - 48) by omega]; exact this⟩, HB1⟩)
      · have d1 : (decide (48 ≤ ((s[i]'hlt).toNat : Int)) && decide (((s[i]'hlt).toNat : Int) ≤ 57)) = false := by
          rw [Bool.and_eq_false_iff, decide_eq_false_iff_not, decide_eq_false_iff_not]; omega
        have d2 : (decide (48 ≤ (s[i]'hlt).toNat) && decide ((s[i]'hlt).toNat ≤ 57)) = false := by
          rw [Bool.and_eq_false_iff, decide_eq_false_iff_not, decide_eq_false_iff_not]; omega
        have hp := HP.out
        rw [prs_none _ _ _ _ _ (fun c t hct => by rw [get_drop s i hlt] at hct; injection hct with h1 h2; rw [← h1]; exact hd)] at hp
        have HP2 := Aside0.mk hp
        clear hp HP hd
        go_wp2_with (first | (go_at_call 58; (with_reducible refine (digit_run _ _).mono ?_); rintro e w1 ⟨rfl, hb1⟩; have HB1 := Aside0.mk (below_step HB.out hb1); have HO1 := Aside0.mk (Kd.R_below HO.out hb1); clear hb1 HB HO) | ((with_reducible refine gate_builtin (b := .append) (xs := #[.tmp 57, .tmp 62]) rfl ?_); at_builtin; refine Kd.R_append k56 (w0 := w) w.heap.size rfl (.tmp 57) (.tmp 62) 41 56 (.agg #[(.int .i64 0), (.int .i64 0)]) 16 rfl Try.underlying41 info56 rfl (by decide) (by omega) u5 out (⟨k, mx (m : Int) 1⟩ : S56) [.int .i64 k, .int .i64 (mx (m : Int) 1)] (fun _ => True) (fun _ => False) rfl rfl ?aP (fun _ hk => hk.elim) ?aF ?aO ?aB ?aS ?aL ?_; (case aP => exact k56_mkM _ _ _ (⟨k, mx (m : Int) 1⟩ : S56)); (case aB => exact HB1.out); (case aF => exact (fun k_ hk => trivial)); (case aO => exact HO1.out); (case aS => exact HB1.out.size); (case aL => omega); intro v1 w2 ho2 hb2 hg2 hat2; have HO2 := Aside0.mk ho2; have HB2 := Aside0.mk hb2; clear ho2 hb2 hg2 hat2))
        all_goals go_step3
        all_goals exact HK0.out (2 * (s.size - i)) _ _ (by omega) (HJ0.out (2 * (s.size - i)) _ _ _ _ _ _ _ _ _ _ _ _ _ _ _ _ _ _ _ _ _ _ _ _ _ _ _ _ _ _ _ _ _ _ _ _ _ _ _ _ _ _ _ _ _ _ _ _ _ _ _ _ _ _ _ _ _ _ _ _ _ _ _ ⟨i, out ++ [(⟨k, mx (m : Int) 1⟩ : S56)], hi, rfl, rfl, by rw [List.length_append]; exact ho, HO2, ⟨HP2.out⟩, HB2⟩)

  · rintro n us wr hln ⟨i, out, hi, rfl, e4, ho, HO, HP, HB⟩ J0 J1 K hJ0 hJ1 hK0 hK1 hX1
    clear HR
    simp only [List.length_range'] at hln
    match us, hln with
    | u2 :: u3 :: u4 :: u5 :: u6 :: u7 :: u8 :: u9 :: u10 :: u11 :: u12 :: u13 :: u14 :: u15 :: u16 :: u17 :: u18 :: u19 :: u20 :: u21 :: u22 :: u23 :: u24 :: u25 :: u26 :: u27 :: u28 :: u29 :: u30 :: u31 :: u32 :: u33 :: u34 :: u35 :: u36 :: u37 :: u38 :: u39 :: u40 :: u41 :: u42 :: u43 :: u44 :: u45 :: u46 :: u47 :: u48 :: u49 :: u50 :: u51 :: u52 :: u53 :: u54 :: u55 :: u56 :: u57 :: u58 :: u59 :: u60 :: u61 :: u62 :: u63 :: [], _ =>
    simp only [List.getD_cons_succ, List.getD_cons_zero] at e4 HO
    simp only [List.range', putS, Act.put, List.setIfInBounds_toArray, List.set_cons_zero, List.set_cons_succ]
    have hJ0' := fun (k : Nat) (v2 v3 v4 v5 v6 v7 v8 v9 v10 v11 v12 v13 v14 v15 v16 v17 v18 v19 v20 v21 v22 v23 v24 v25 v26 v27 v28 v29 v30 v31 v32 v33 v34 v35 v36 v37 v38 v39 v40 v41 v42 v43 v44 v45 v46 v47 v48 v49 v50 v51 v52 v53 v54 v55 v56 v57 v58 v59 v60 v61 v62 v63 : Value) (w' : World) => hJ0 k (v2 :: v3 :: v4 :: v5 :: v6 :: v7 :: v8 :: v9 :: v10 :: v11 :: v12 :: v13 :: v14 :: v15 :: v16 :: v17 :: v18 :: v19 :: v20 :: v21 :: v22 :: v23 :: v24 :: v25 :: v26 :: v27 :: v28 :: v29 :: v30 :: v31 :: v32 :: v33 :: v34 :: v35 :: v36 :: v37 :: v38 :: v39 :: v40 :: v41 :: v42 :: v43 :: v44 :: v45 :: v46 :: v47 :: v48 :: v49 :: v50 :: v51 :: v52 :: v53 :: v54 :: v55 :: v56 :: v57 :: v58 :: v59 :: v60 :: v61 :: v62 :: v63 :: []) _ w' rfl rfl
    have hJ1' := fun (k : Nat) (v2 v3 v4 v5 v6 v7 v8 v9 v10 v11 v12 v13 v14 v15 v16 v17 v18 v19 v20 v21 v22 v23 v24 v25 v26 v27 v28 v29 v30 v31 v32 v33 v34 v35 v36 v37 v38 v39 v40 v41 v42 v43 v44 v45 v46 v47 v48 v49 v50 v51 v52 v53 v54 v55 v56 v57 v58 v59 v60 v61 v62 v63 : Value) (w' : World) => hJ1 k (v2 :: v3 :: v4 :: v5 :: v6 :: v7 :: v8 :: v9 :: v10 :: v11 :: v12 :: v13 :: v14 :: v15 :: v16 :: v17 :: v18 :: v19 :: v20 :: v21 :: v22 :: v23 :: v24 :: v25 :: v26 :: v27 :: v28 :: v29 :: v30 :: v31 :: v32 :: v33 :: v34 :: v35 :: v36 :: v37 :: v38 :: v39 :: v40 :: v41 :: v42 :: v43 :: v44 :: v45 :: v46 :: v47 :: v48 :: v49 :: v50 :: v51 :: v52 :: v53 :: v54 :: v55 :: v56 :: v57 :: v58 :: v59 :: v60 :: v61 :: v62 :: v63 :: []) _ w' rfl rfl
    clear hJ0 hJ1
    simp only [List.range', putS, Act.put, List.setIfInBounds_toArray, List.set_cons_zero, List.set_cons_succ] at hJ0' hJ1'
    have HJ0 := Aside0.mk hJ0'; clear hJ0'
    have HJ1 := Aside0.mk hJ1'; clear hJ1'
    have HK0 := Aside0.mk hK0; clear hK0
    have HK1 := Aside0.mk hK1; clear hK1
    subst e4
    have HX1 := Aside0.mk hX1; clear hX1
    by_cases he : i = s.size
    · subst he
      have hp := HP.out
      rw [List.drop_eq_nil_of_le (by rw [Array.length_toList]; exact Nat.le_refl _), prs] at hp
      subst hp
      go_wp2
      simp only [Exit.jumps]
      go_ret3
      exact ⟨u5, rfl, HO.out, HB.out⟩
    · have hlt : i < s.size := by omega
      have hp := HP.out
      rw [get_drop s i hlt, prs] at hp
      by_cases hx : idxL (s[i]'hlt) < 1
      · rw [if_pos hx] at hp
        subst hp
        have hx' : (Lib.indexByte [32, 70, 66, 76, 82] (s[i]'hlt) < 1) = True := eq_true hx
        go_wp2_with (go_at_call 57; (with_reducible refine (Try.strings_IndexByte _ _ _).mono ?_); rintro e w1 ⟨rfl, rfl⟩)
        simp only [Exit.jumps]
        go_ret3
        exact ⟨_, rfl, Kd.R_nil _ _ _ _ _, HB.out⟩
      · rw [if_neg hx] at hp
        have hx' : (Lib.indexByte [32, 70, 66, 76, 82] (s[i]'hlt) < 1) = False := eq_false hx
        have HP2 := Aside0.mk hp
        clear hp HP
        go_wp2_with (go_at_call 57; (with_reducible refine (Try.strings_IndexByte _ _ _).mono ?_); rintro e w1 ⟨rfl, rfl⟩)
        go_step3
        simp only [Exit.then]
        rename_i hk
        refine hk _ _ ?_
        clear hk
        exact HX1.out (2 * (s.size - (i + 1)) + 1) _ _ (by omega) (HJ1.out (2 * (s.size - (i + 1)) + 1) _ _ _ _ _ _ _ _ _ _ _ _ _ _ _ _ _ _ _ _ _ _ _ _ _ _ _ _ _ _ _ _ _ _ _ _ _ _ _ _ _ _ _ _ _ _ _ _ _ _ _ _ _ _ _ _ _ _ _ _ _ _ _ ⟨i + 1, 0, _, out, by omega, rfl, rfl, rfl, rfl, by omega, by omega, HO, HP2, HB⟩)
def walk_Parse.f (a0 : ByteArray) : Option ((List (S56)) × Int × Int) := if a0.size ≤ 1000000 then some (prs a0.data.toList 0 [] none) else none
theorem walk_Parse.calls (a0 : ByteArray) (r1 : List (S56)) (r2 : Int) (r3 : Int) (w : World) (h : walk_Parse.f a0 = some (r1, r2, r3)) :
    Calls Try.prog 29 #[.string a0] w fun e w' => ∃ v0_ : Value, e = .returned (.tuple #[v0_, .int .i64 r2, .int .i64 r3]) ∧ Kd.R k56 56 w' w.heap.size (fun _ => True) v0_ r1 ∧ Below w.heap.size w w' := by
  unfold walk_Parse.f at h
  split at h
  · rename_i hl
    have h2 := parse_calls a0 w hl
    rw [Option.some.inj h] at h2
    exact h2
  · cases h
end Go.Proofs.Ytpoghhcpoimepaa.P
end
section
-- printed by the session's own call of print.py. Not trusted: Lean checks it.
namespace Go.Proofs.Ytpoghhcpoimepaa.P
open Go.RowKit Go.Proofs.YtpoghhcpoimepaaW.PrintWords Go.Proofs.YtpoghhcpoimepaaW.PrintLast Go.Proofs.YtpoghhcpoimepaaW.PrintMore
attribute [local go_sem] max2_int min2_int max_two min_two max_three min_three max_four min_four
set_option linter.unusedVariables false
set_option linter.unusedSimpArgs false
/-! ### walk_bend_fit: function 68 -/
def walk_bend_fit.f (a0_0 : Bool) (a0_1 : Int) : Option (Bool × Int) := if a0_0 = true then (some (a0_0, a0_1)) else (some (a0_0, Go.bits .and .i64 a0_1 3))
set_option maxHeartbeats 8000000 in
set_option maxRecDepth 100000 in
theorem walk_bend_fit.calls (a0_0 : Bool) (a0_1 : Int) (r1 : Bool) (r2 : Int) (w : World) (h : walk_bend_fit.f a0_0 a0_1 = some (r1, r2)) :
    Calls Try.prog 68 #[.agg #[.bool a0_0, .int .i64 a0_1]] w fun e w' => e = .returned (.agg #[.bool r1, .int .i64 r2]) ∧ Below w.heap.size w w' := by
  have hu87 := Try.underlying87
  have HB := Aside0.mk (Below.refl w.heap.size w)
  have H : (if a0_0 = true then (some (a0_0, a0_1)) else (some (a0_0, Go.bits .and .i64 a0_1 3))) = some (r1, r2) := h
  clear h
  by_cases c2 : a0_0 = true
  · subst c2
    have H1 : (some (true, a0_1)) = some (r1, r2) := by rw [if_pos rfl] at H; exact H
    clear H
    have H := H1
    clear H1
    simp only [Option.some.injEq, Prod.mk.injEq] at H
    obtain ⟨rfl, rfl⟩ := H
    go_enter Try.func68, Try.ntmps68
    go_wp2_with (first | ((with_reducible refine gate_dst (N := 1) rfl ?_); refine box_event ?hg (N := 1) ?hd (cs := #[.bool true, .int .i64 a0_1]) (t := 87) ?hr ?_; (case hd => rfl); (case hg => rfl); (case hr => first | (go_simp; done) | (go_simp; rfl)); intro gb101 hg w3 hbox hb; have n0_ := Aside0.mk (below_step (by repeat (first | (with_reducible first | exact HB.out | apply below_alloc | apply pw_below_drewN | apply below_drew1) | exact HB.out)) hb); have n1_ := Aside0.mk (hbox); have n2_ := Aside0.mk ((by rw [hg]; exact (below_size (by repeat (first | (with_reducible first | exact HB.out | apply below_alloc | apply pw_below_drewN | apply below_drew1) | exact HB.out))) : w.heap.size ≤ gb101)); have n3_ := Aside0.mk ((by rw [hg]; exact (below_size (by repeat (first | (with_reducible first | exact HB.out | apply below_alloc | apply pw_below_drewN | apply below_drew1) | exact HB.out))) : w.heap.size ≤ gb101)); clear HB; have HB := n0_; have BK101 := n1_; have GW101 := n2_; have GE101 := n3_; clear n0_ n1_ n2_ n3_; clear hb hbox hg) | ((with_reducible refine gate_dst (N := 2) rfl ?_); refine box_event ?hg (N := 2) ?hd (cs := #[.bool false, .int .i64 0]) (t := 87) ?hr ?_; (case hd => rfl); (case hg => rfl); (case hr => first | (go_simp; done) | (go_simp; rfl)); intro gb102 hg w4 hbox hb; have n0_ := Aside0.mk (blk_below (g := gb101) (o := .cells #[.bool true, .int .i64 a0_1] 87 (0, 0)) (by (with_reducible repeat (first | refine blk_drewN ?_ _ | refine blk_drew ?_ | refine blk_alloc ?_ _)); exact BK101.out) hb); have n1_ := Aside0.mk (below_step (by repeat (first | (with_reducible first | exact HB.out | apply below_alloc | apply pw_below_drewN | apply below_drew1 | refine below_set ?_ GE101.out) | exact HB.out)) hb); have n2_ := Aside0.mk (hbox); have n3_ := Aside0.mk ((by rw [hg]; exact (below_size (by repeat (first | (with_reducible first | exact HB.out | apply below_alloc | apply pw_below_drewN | apply below_drew1 | refine below_set ?_ GE101.out) | exact HB.out))) : w.heap.size ≤ gb102)); have n4_ := Aside0.mk ((by rw [hg]; exact (below_size (by repeat (first | (with_reducible first | exact HB.out | apply below_alloc | apply pw_below_drewN | apply below_drew1 | refine below_set ?_ GE101.out) | exact HB.out))) : w.heap.size ≤ gb102)); have n5_ := Aside0.mk ((by rw [hg]; exact Nat.ne_of_lt (blk_lt (g := gb101) (o := .cells #[.bool true, .int .i64 a0_1] 87 (0, 0)) (by (with_reducible repeat (first | refine blk_drewN ?_ _ | refine blk_drew ?_ | refine blk_alloc ?_ _)); exact BK101.out)) : gb101 ≠ gb102)); have n6_ := Aside0.mk ((by rw [hg]; exact Nat.ne_of_gt (blk_lt (g := gb101) (o := .cells #[.bool true, .int .i64 a0_1] 87 (0, 0)) (by (with_reducible repeat (first | refine blk_drewN ?_ _ | refine blk_drew ?_ | refine blk_alloc ?_ _)); exact BK101.out)) : gb102 ≠ gb101)); clear BK101; clear HB; have BK101 := n0_; have HB := n1_; have BK102 := n2_; have GW102 := n3_; have GE102 := n4_; have NB101_102 := n5_; have NB102_101 := n6_; clear n0_ n1_ n2_ n3_ n4_ n5_ n6_; clear hb hbox hg; have hnb5 := NB101_102.out; have hnc5 := NB102_101.out; have hcz6_0 : w4.cell? ⟨gb101, 0, none⟩ = some (.bool true) := (blk_cell BK101.out 0).trans rfl; have hcz6_1 : w4.cell? ⟨gb101, 1, none⟩ = some (.int .i64 a0_1) := (blk_cell BK101.out 1).trans rfl; have hfz6_0 := blk_frozen BK101.out 0; have hfz6_1 := blk_frozen BK101.out 1; have hcz7_0 : w4.cell? ⟨gb102, 0, none⟩ = some (.bool false) := (blk_cell BK102.out 0).trans rfl; have hcz7_1 : w4.cell? ⟨gb102, 1, none⟩ = some (.int .i64 0) := (blk_cell BK102.out 1).trans rfl; have hfz7_0 := blk_frozen BK102.out 0; have hfz7_1 := blk_frozen BK102.out 1))
    refine bodyPost_ret (results_cell_row rfl _ _ gb102 87 #[.bool true, .int .i64 a0_1] (0, 0) _ rfl (by (with_reducible repeat (first | refine blk_drewN ?_ _ | refine blk_drew ?_ | refine blk_alloc ?_ _)); refine blk_put (cs := #[.bool true, .int .i64 0]) ?_ 1 _ rfl; (with_reducible repeat (first | refine blk_drewN ?_ _ | refine blk_drew ?_ | refine blk_alloc ?_ _)); refine blk_put (cs := #[.bool false, .int .i64 0]) ?_ 0 _ rfl; (with_reducible repeat (first | refine blk_drewN ?_ _ | refine blk_drew ?_ | refine blk_alloc ?_ _)); exact BK102.out) Try.underlying87 rfl (by kernel_rfl)) rfl ?_
    exact ⟨by first | rfl | ((repeat first | rw [Int.tdiv_eq_ediv_of_nonneg (by omega)] | rw [Int.tmod_eq_emod_of_nonneg (by omega)]); rfl) | (simp [errW_none, errW_some] <;> rfl) | (simp [*, errW_none, errW_some] <;> rfl), by repeat (first | (with_reducible first | exact HB.out | apply below_alloc | apply pw_below_drewN | apply below_drew1 | refine below_set ?_ GE101.out | refine below_set ?_ GE102.out) | exact HB.out)⟩
  · replace c2 := Bool.eq_false_iff.mpr c2
    subst c2
    have H1 : (some (false, Go.bits .and .i64 a0_1 3)) = some (r1, r2) := by rw [if_neg (show ¬ (false = true) by decide)] at H; exact H
    clear H
    have H := H1
    clear H1
    simp only [Option.some.injEq, Prod.mk.injEq] at H
    obtain ⟨rfl, rfl⟩ := H
    go_enter Try.func68, Try.ntmps68
    go_wp2_with (first | ((with_reducible refine gate_dst (N := 1) rfl ?_); refine box_event ?hg (N := 1) ?hd (cs := #[.bool false, .int .i64 a0_1]) (t := 87) ?hr ?_; (case hd => rfl); (case hg => rfl); (case hr => first | (go_simp; done) | (go_simp; rfl)); intro gb101 hg w8 hbox hb; have n0_ := Aside0.mk (below_step (by repeat (first | (with_reducible first | exact HB.out | apply below_alloc | apply pw_below_drewN | apply below_drew1) | exact HB.out)) hb); have n1_ := Aside0.mk (hbox); have n2_ := Aside0.mk ((by rw [hg]; exact (below_size (by repeat (first | (with_reducible first | exact HB.out | apply below_alloc | apply pw_below_drewN | apply below_drew1) | exact HB.out))) : w.heap.size ≤ gb101)); have n3_ := Aside0.mk ((by rw [hg]; exact (below_size (by repeat (first | (with_reducible first | exact HB.out | apply below_alloc | apply pw_below_drewN | apply below_drew1) | exact HB.out))) : w.heap.size ≤ gb101)); clear HB; have HB := n0_; have BK101 := n1_; have GW101 := n2_; have GE101 := n3_; clear n0_ n1_ n2_ n3_; clear hb hbox hg) | ((with_reducible refine gate_dst (N := 2) rfl ?_); refine box_event ?hg (N := 2) ?hd (cs := #[.bool false, .int .i64 0]) (t := 87) ?hr ?_; (case hd => rfl); (case hg => rfl); (case hr => first | (go_simp; done) | (go_simp; rfl)); intro gb102 hg w9 hbox hb; have n0_ := Aside0.mk (blk_below (g := gb101) (o := .cells #[.bool false, .int .i64 a0_1] 87 (0, 0)) (by (with_reducible repeat (first | refine blk_drewN ?_ _ | refine blk_drew ?_ | refine blk_alloc ?_ _)); exact BK101.out) hb); have n1_ := Aside0.mk (below_step (by repeat (first | (with_reducible first | exact HB.out | apply below_alloc | apply pw_below_drewN | apply below_drew1 | refine below_set ?_ GE101.out) | exact HB.out)) hb); have n2_ := Aside0.mk (hbox); have n3_ := Aside0.mk ((by rw [hg]; exact (below_size (by repeat (first | (with_reducible first | exact HB.out | apply below_alloc | apply pw_below_drewN | apply below_drew1 | refine below_set ?_ GE101.out) | exact HB.out))) : w.heap.size ≤ gb102)); have n4_ := Aside0.mk ((by rw [hg]; exact (below_size (by repeat (first | (with_reducible first | exact HB.out | apply below_alloc | apply pw_below_drewN | apply below_drew1 | refine below_set ?_ GE101.out) | exact HB.out))) : w.heap.size ≤ gb102)); have n5_ := Aside0.mk ((by rw [hg]; exact Nat.ne_of_lt (blk_lt (g := gb101) (o := .cells #[.bool false, .int .i64 a0_1] 87 (0, 0)) (by (with_reducible repeat (first | refine blk_drewN ?_ _ | refine blk_drew ?_ | refine blk_alloc ?_ _)); exact BK101.out)) : gb101 ≠ gb102)); have n6_ := Aside0.mk ((by rw [hg]; exact Nat.ne_of_gt (blk_lt (g := gb101) (o := .cells #[.bool false, .int .i64 a0_1] 87 (0, 0)) (by (with_reducible repeat (first | refine blk_drewN ?_ _ | refine blk_drew ?_ | refine blk_alloc ?_ _)); exact BK101.out)) : gb102 ≠ gb101)); clear BK101; clear HB; have BK101 := n0_; have HB := n1_; have BK102 := n2_; have GW102 := n3_; have GE102 := n4_; have NB101_102 := n5_; have NB102_101 := n6_; clear n0_ n1_ n2_ n3_ n4_ n5_ n6_; clear hb hbox hg; have hnb10 := NB101_102.out; have hnc10 := NB102_101.out; have hcz11_0 : w9.cell? ⟨gb101, 0, none⟩ = some (.bool false) := (blk_cell BK101.out 0).trans rfl; have hcz11_1 : w9.cell? ⟨gb101, 1, none⟩ = some (.int .i64 a0_1) := (blk_cell BK101.out 1).trans rfl; have hfz11_0 := blk_frozen BK101.out 0; have hfz11_1 := blk_frozen BK101.out 1; have hcz12_0 : w9.cell? ⟨gb102, 0, none⟩ = some (.bool false) := (blk_cell BK102.out 0).trans rfl; have hcz12_1 : w9.cell? ⟨gb102, 1, none⟩ = some (.int .i64 0) := (blk_cell BK102.out 1).trans rfl; have hfz12_0 := blk_frozen BK102.out 0; have hfz12_1 := blk_frozen BK102.out 1))
    refine bodyPost_ret (results_cell_row rfl _ _ gb102 87 #[.bool false, .int .i64 (Go.bits .and .i64 a0_1 3)] (0, 0) _ rfl (by (with_reducible repeat (first | refine blk_drewN ?_ _ | refine blk_drew ?_ | refine blk_alloc ?_ _)); refine blk_put (cs := #[.bool false, .int .i64 0]) ?_ 1 _ rfl; (with_reducible repeat (first | refine blk_drewN ?_ _ | refine blk_drew ?_ | refine blk_alloc ?_ _)); refine blk_put (cs := #[.bool false, .int .i64 0]) ?_ 0 _ rfl; (with_reducible repeat (first | refine blk_drewN ?_ _ | refine blk_drew ?_ | refine blk_alloc ?_ _)); refine blk_far ?_ NB102_101.out _; (with_reducible repeat (first | refine blk_drewN ?_ _ | refine blk_drew ?_ | refine blk_alloc ?_ _)); exact BK102.out) Try.underlying87 rfl (by kernel_rfl)) rfl ?_
    exact ⟨by first | rfl | ((repeat first | rw [Int.tdiv_eq_ediv_of_nonneg (by omega)] | rw [Int.tmod_eq_emod_of_nonneg (by omega)]); rfl) | (simp [errW_none, errW_some] <;> rfl) | (simp [*, errW_none, errW_some] <;> rfl), by repeat (first | (with_reducible first | exact HB.out | apply below_alloc | apply pw_below_drewN | apply below_drew1 | refine below_set ?_ GE101.out | refine below_set ?_ GE102.out) | exact HB.out)⟩
end Go.Proofs.Ytpoghhcpoimepaa.P
end
section
-- printed by the session's own call of print.py. Not trusted: Lean checks it.
namespace Go.Proofs.Ytpoghhcpoimepaa.P
open Go.RowKit Go.Proofs.YtpoghhcpoimepaaW.PrintWords Go.Proofs.YtpoghhcpoimepaaW.PrintLast Go.Proofs.YtpoghhcpoimepaaW.PrintMore
attribute [local go_sem] max2_int min2_int max_two min_two max_three min_three max_four min_four
set_option linter.unusedVariables false
set_option linter.unusedSimpArgs false
/-! ### walk_part: function 67 -/
def walk_part.j0 : Nat → Int → Bool → Int → Int → Option (Bool × Int)
  | 0, _, _, _, _ => none
  | k + 1, x3, x8, x102000, x102001 => if x8 = true then ((walk_goes.f x102000 x102001).bind fun t104 => ((walk_bend_fit.f t104 (wrap64 (-x3))).bind fun bt105 => (some (bt105.1, bt105.2)))) else ((walk_goes.f x102000 x102001).bind fun t107 => ((walk_bend_fit.f t107 x3).bind fun bt108 => (some (bt108.1, bt108.2))))
def walk_part.f (k : Nat) (a0_0 : Int) (a0_1 : Int) : Option (Bool × Int) := (walk_often.f a0_0 a0_1).bind fun t103 => (if a0_0 = 2 then (walk_part.j0 k t103 (a0_0 == 2) a0_0 a0_1) else (walk_part.j0 k t103 (a0_0 == 4) a0_0 a0_1))
theorem walk_part.mono_l : ∀ k, (∀ y0 y1 y2 y3, LeO (walk_part.j0 k y0 y1 y2 y3) (walk_part.j0 (k + 1) y0 y1 y2 y3))
  | 0 => fun _ _ _ _ r h => by simp [walk_part.j0] at h
  | k + 1 => by
    have ih0 := walk_part.mono_l k
    · intro y0 y1 y2 y3
      unfold walk_part.j0
      repeat' first
      | (with_reducible exact ih0 _ _ _ _)
      | (with_reducible exact LeO.refl _)
      | (with_reducible exact LeO.none _)
      | (with_reducible refine LeO.ite ?_ ?_)
      | (with_reducible refine LeO.bind ?_ (fun _ => ?_))
      | exact ih0 _ _ _ _
      | exact LeO.none _
      | refine LeO.ite ?_ ?_
      | refine LeO.bind ?_ (fun _ => ?_)
theorem walk_part.mono : ∀ a0 a1 k, LeO (walk_part.f k a0 a1) (walk_part.f (k + 1) a0 a1) := by
  intro a0 a1 k
  have ih0 := walk_part.mono_l k
  unfold walk_part.f
  repeat' first
      | (with_reducible exact ih0 _ _ _ _)
      | (with_reducible exact LeO.refl _)
      | (with_reducible exact LeO.none _)
      | (with_reducible refine LeO.ite ?_ ?_)
      | (with_reducible refine LeO.bind ?_ (fun _ => ?_))
      | exact ih0 _ _ _ _
      | exact LeO.none _
      | refine LeO.ite ?_ ?_
      | refine LeO.bind ?_ (fun _ => ?_)
set_option maxHeartbeats 8000000 in
set_option maxRecDepth 100000 in
theorem walk_part.calls (k : Nat) (a0_0 : Int) (a0_1 : Int) (r1 : Bool) (r2 : Int) (w : World) (h : walk_part.f k a0_0 a0_1 = some (r1, r2)) :
    Calls Try.prog 67 #[.agg #[.int .i64 a0_0, .int .i64 a0_1]] w fun e w' => e = .returned (.agg #[.bool r1, .int .i64 r2]) ∧ Below w.heap.size w w' := by
  have hu56 := Try.underlying56
  have hu87 := Try.underlying87
  have HB := Aside0.mk (Below.refl w.heap.size w)
  have H : ((walk_often.f a0_0 a0_1).bind fun t103 => (if a0_0 = 2 then (walk_part.j0 k t103 (a0_0 == 2) a0_0 a0_1) else (walk_part.j0 k t103 (a0_0 == 4) a0_0 a0_1))) = some (r1, r2) := h
  clear h
  replace H := Option.bind_eq_some_iff.mp H
  obtain ⟨t103, A20, H⟩ := H
  replace H : (if a0_0 = 2 then (walk_part.j0 k t103 (a0_0 == 2) a0_0 a0_1) else (walk_part.j0 k t103 (a0_0 == 4) a0_0 a0_1)) = some (r1, r2) := H
  have A2 := Aside0.mk A20
  clear A20
  have HC3 := Aside0.mk H
  clear H
  go_enter Try.func67, Try.ntmps67
  go_upto_if 8 with (first | ((with_reducible refine gate_dst (N := 1) rfl ?_); refine box_event ?hg (N := 1) ?hd (cs := #[.int .i64 a0_0, .int .i64 a0_1]) (t := 56) ?hr ?_; (case hd => rfl); (case hg => rfl); (case hr => first | (go_simp; done) | (go_simp; rfl)); intro gb101 hg w4 hbox hb; have n0_ := Aside0.mk (below_step (by repeat (first | (with_reducible first | exact HB.out | apply below_alloc | apply pw_below_drewN | apply below_drew1) | exact HB.out)) hb); have n1_ := Aside0.mk (hbox); have n2_ := Aside0.mk ((by rw [hg]; exact (below_size (by repeat (first | (with_reducible first | exact HB.out | apply below_alloc | apply pw_below_drewN | apply below_drew1) | exact HB.out))) : w.heap.size ≤ gb101)); have n3_ := Aside0.mk ((by rw [hg]; exact (below_size (by repeat (first | (with_reducible first | exact HB.out | apply below_alloc | apply pw_below_drewN | apply below_drew1) | exact HB.out))) : w.heap.size ≤ gb101)); clear HB; have HB := n0_; have BK101 := n1_; have GW101 := n2_; have GE101 := n3_; clear n0_ n1_ n2_ n3_; clear hb hbox hg) | ((with_reducible refine gate_dst (N := 2) rfl ?_); refine box_event ?hg (N := 2) ?hd (cs := #[.bool false, .int .i64 0]) (t := 87) ?hr ?_; (case hd => rfl); (case hg => rfl); (case hr => first | (go_simp; done) | (go_simp; rfl)); intro gb102 hg w5 hbox hb; have n0_ := Aside0.mk (blk_below (g := gb101) (o := .cells #[.int .i64 a0_0, .int .i64 a0_1] 56 (0, 0)) (by (with_reducible repeat (first | refine blk_drewN ?_ _ | refine blk_drew ?_ | refine blk_alloc ?_ _)); exact BK101.out) hb); have n1_ := Aside0.mk (below_step (by repeat (first | (with_reducible first | exact HB.out | apply below_alloc | apply pw_below_drewN | apply below_drew1 | refine below_set ?_ GE101.out) | exact HB.out)) hb); have n2_ := Aside0.mk (hbox); have n3_ := Aside0.mk ((by rw [hg]; exact (below_size (by repeat (first | (with_reducible first | exact HB.out | apply below_alloc | apply pw_below_drewN | apply below_drew1 | refine below_set ?_ GE101.out) | exact HB.out))) : w.heap.size ≤ gb102)); have n4_ := Aside0.mk ((by rw [hg]; exact (below_size (by repeat (first | (with_reducible first | exact HB.out | apply below_alloc | apply pw_below_drewN | apply below_drew1 | refine below_set ?_ GE101.out) | exact HB.out))) : w.heap.size ≤ gb102)); have n5_ := Aside0.mk ((by rw [hg]; exact Nat.ne_of_lt (blk_lt (g := gb101) (o := .cells #[.int .i64 a0_0, .int .i64 a0_1] 56 (0, 0)) (by (with_reducible repeat (first | refine blk_drewN ?_ _ | refine blk_drew ?_ | refine blk_alloc ?_ _)); exact BK101.out)) : gb101 ≠ gb102)); have n6_ := Aside0.mk ((by rw [hg]; exact Nat.ne_of_gt (blk_lt (g := gb101) (o := .cells #[.int .i64 a0_0, .int .i64 a0_1] 56 (0, 0)) (by (with_reducible repeat (first | refine blk_drewN ?_ _ | refine blk_drew ?_ | refine blk_alloc ?_ _)); exact BK101.out)) : gb102 ≠ gb101)); clear BK101; clear HB; have BK101 := n0_; have HB := n1_; have BK102 := n2_; have GW102 := n3_; have GE102 := n4_; have NB101_102 := n5_; have NB102_101 := n6_; clear n0_ n1_ n2_ n3_ n4_ n5_ n6_; clear hb hbox hg; have hnb6 := NB101_102.out; have hnc6 := NB102_101.out; have hcz7_0 : w5.cell? ⟨gb101, 0, none⟩ = some (.int .i64 a0_0) := (blk_cell BK101.out 0).trans rfl; have hcz7_1 : w5.cell? ⟨gb101, 1, none⟩ = some (.int .i64 a0_1) := (blk_cell BK101.out 1).trans rfl; have hfz7_0 := blk_frozen BK101.out 0; have hfz7_1 := blk_frozen BK101.out 1) | ((with_reducible refine gate_callee (f := 60) rfl ?_); refine goesL_ (some 5) rfl rfl Try.func60 (by kernel_rfl) rfl #[.agg #[.int .i64 a0_0, .int .i64 a0_1]] rfl (by (try simp only [List.map_toArray, List.map_cons, List.map_nil]); first | done | rfl | (simp only [List.length_drop, List.length_take]; rfl)) ?_; (with_reducible refine (walk_often.calls a0_0 a0_1 t103 _ A2.out).mono ?_); rintro e w8 ⟨rfl, hb⟩; refine ⟨_, rfl, ?_⟩; have n0_ := Aside0.mk (blk_below (g := gb101) (o := .cells #[.int .i64 a0_0, .int .i64 a0_1] 56 (0, 0)) (by (with_reducible repeat (first | refine blk_drewN ?_ _ | refine blk_drew ?_ | refine blk_alloc ?_ _)); exact BK101.out) hb); have n1_ := Aside0.mk (blk_below (g := gb102) (o := .cells #[.bool false, .int .i64 0] 87 (0, 0)) (by (with_reducible repeat (first | refine blk_drewN ?_ _ | refine blk_drew ?_ | refine blk_alloc ?_ _)); exact BK102.out) hb); have n2_ := Aside0.mk (below_step (by repeat (first | (with_reducible first | exact HB.out | apply below_alloc | apply pw_below_drewN | apply below_drew1 | refine below_set ?_ GE101.out | refine below_set ?_ GE102.out) | exact HB.out)) hb); clear BK101; clear BK102; clear HB; have BK101 := n0_; have BK102 := n1_; have HB := n2_; clear n0_ n1_ n2_; (try clear hb); (try clear hb2); (try clear hk); (try clear hi); have hcz9_0 : w8.cell? ⟨gb101, 0, none⟩ = some (.int .i64 a0_0) := (blk_cell BK101.out 0).trans rfl; have hcz9_1 : w8.cell? ⟨gb101, 1, none⟩ = some (.int .i64 a0_1) := (blk_cell BK101.out 1).trans rfl; have hfz9_0 := blk_frozen BK101.out 0; have hfz9_1 := blk_frozen BK101.out 1))
  (try simp only [Act.put, List.setIfInBounds_toArray, List.set_cons_zero, List.set_cons_succ])
  go_cut [8] (fun v8 wc => ∃ (kq : Nat) (x8_2 : Bool), v8 = .bool x8_2 ∧ Aside0 (walk_part.j0 kq t103 x8_2 a0_0 a0_1 = some (r1, r2)) ∧ Aside0 (kq ≤ k) ∧ Aside0 (wc.heap[gb101]? = some (.cells #[.int .i64 a0_0, .int .i64 a0_1] 56 (0, 0))) ∧ Aside0 (wc.heap[gb102]? = some (.cells #[.bool false, .int .i64 0] 87 (0, 0))) ∧ Aside0 (Below w.heap.size w wc))
  case first =>
    have H := HC3.out
    clear HC3
    by_cases c10 : a0_0 = 2
    · rw [if_pos c10] at H
      have c10b0 : (a0_0 == 2) = true := beq_iff_eq.mpr c10
      have c10b1 : (a0_0 != 2) = false := bne_eq_false_iff_eq.mpr c10
      clear c10
      (first | rw [c10b0] | (simp only [i64_w, i32_w]; rw [c10b0]) | skip)
      have H' := Aside0.mk H
      clear H
      go_wp2
      go_meet
      case rel => exact ⟨_, ((a0_0 == 2)), (by first | rfl | (simp; done) | (simp [*]; done)), H', ⟨by first | omega | exact Nat.le_refl _⟩, ⟨by (with_reducible repeat (first | refine blk_drewN ?_ _ | refine blk_drew ?_ | refine blk_alloc ?_ _)); exact BK101.out⟩, ⟨by (with_reducible repeat (first | refine blk_drewN ?_ _ | refine blk_drew ?_ | refine blk_alloc ?_ _)); exact BK102.out⟩, ⟨by repeat (first | (with_reducible first | exact HB.out | apply below_alloc | apply pw_below_drewN | apply below_drew1 | refine below_set ?_ GE101.out | refine below_set ?_ GE102.out) | exact HB.out)⟩⟩
    · rw [if_neg c10] at H
      have c10b0 : (a0_0 == 2) = false := beq_eq_false_iff_ne.mpr c10
      have c10b1 : (a0_0 != 2) = true := bne_iff_ne.mpr c10
      (first | rw [c10b0] | (simp only [i64_w, i32_w]; rw [c10b0]) | skip)
      have H' := Aside0.mk H
      clear H
      go_wp2
      go_meet
      case rel => exact ⟨_, ((a0_0 == 4)), (by first | rfl | (simp; done) | (simp [*]; done)), H', ⟨by first | omega | exact Nat.le_refl _⟩, ⟨by (with_reducible repeat (first | refine blk_drewN ?_ _ | refine blk_drew ?_ | refine blk_alloc ?_ _)); exact BK101.out⟩, ⟨by (with_reducible repeat (first | refine blk_drewN ?_ _ | refine blk_drew ?_ | refine blk_alloc ?_ _)); exact BK102.out⟩, ⟨by repeat (first | (with_reducible first | exact HB.out | apply below_alloc | apply pw_below_drewN | apply below_drew1 | refine below_set ?_ GE101.out | refine below_set ?_ GE102.out) | exact HB.out)⟩⟩
  case rest =>
    clear HC3
    try clear c1
    try clear p2
    try clear c6
    try clear c10
    try clear c10b0
    try clear c10b1
    try clear hcz7_0
    try clear hcz7_1
    try clear hcz9_0
    try clear hcz9_1
    try clear hfz7_0
    try clear hfz7_1
    try clear hfz9_0
    try clear hfz9_1
    obtain ⟨kq, x8_2, rfl, HA, HJ2, BK101, BK102, HB⟩ := hcut
    cases kq with
    | zero => exact absurd HA.out (by simp [walk_part.j0])
    | succ kj2 =>
      have H := HA.out
      clear HA
      simp only [walk_part.j0] at H
      by_cases c11 : x8_2 = true
      · subst c11
        have H1 : ((walk_goes.f a0_0 a0_1).bind fun t104 => ((walk_bend_fit.f t104 (wrap64 (-t103))).bind fun bt105 => (some (bt105.1, bt105.2)))) = some (r1, r2) := by rw [if_pos rfl] at H; exact H
        clear H
        have H := H1
        clear H1
        replace H := Option.bind_eq_some_iff.mp H
        obtain ⟨t104, A120, H⟩ := H
        replace H : ((walk_bend_fit.f t104 (wrap64 (-t103))).bind fun bt105 => (some (bt105.1, bt105.2))) = some (r1, r2) := H
        have A12 := Aside0.mk A120
        clear A120
        replace H := Option.bind_eq_some_iff.mp H
        obtain ⟨⟨t105, t106⟩, A130, H⟩ := H
        replace H : (some (t105, t106)) = some (r1, r2) := H
        have A13 := Aside0.mk A130
        clear A130
        simp only [Option.some.injEq, Prod.mk.injEq] at H
        obtain ⟨rfl, rfl⟩ := H
        have hnb14 := NB101_102.out
        have hnc14 := NB102_101.out
        have hcz15_0 : wc.cell? ⟨gb101, 0, none⟩ = some (.int .i64 a0_0) := (blk_cell BK101.out 0).trans rfl
        have hcz15_1 : wc.cell? ⟨gb101, 1, none⟩ = some (.int .i64 a0_1) := (blk_cell BK101.out 1).trans rfl
        have hfz15_0 := blk_frozen BK101.out 0
        have hfz15_1 := blk_frozen BK101.out 1
        go_wp2_with (first | ((with_reducible refine gate_callee (f := 76) rfl ?_); refine goesL_ (some 14) rfl rfl Try.func76 (by kernel_rfl) rfl #[.agg #[.int .i64 a0_0, .int .i64 a0_1]] rfl (by (try simp only [List.map_toArray, List.map_cons, List.map_nil]); first | done | rfl | (simp only [List.length_drop, List.length_take]; rfl)) ?_; (with_reducible refine (walk_goes.calls a0_0 a0_1 t104 _ A12.out).mono ?_); rintro e w16 ⟨rfl, hb⟩; refine ⟨_, rfl, ?_⟩; have n0_ := Aside0.mk (blk_below (g := gb101) (o := .cells #[.int .i64 a0_0, .int .i64 a0_1] 56 (0, 0)) (by (with_reducible repeat (first | refine blk_drewN ?_ _ | refine blk_drew ?_ | refine blk_alloc ?_ _)); exact BK101.out) hb); have n1_ := Aside0.mk (blk_below (g := gb102) (o := .cells #[.bool false, .int .i64 0] 87 (0, 0)) (by (with_reducible repeat (first | refine blk_drewN ?_ _ | refine blk_drew ?_ | refine blk_alloc ?_ _)); exact BK102.out) hb); have n2_ := Aside0.mk (below_step (by repeat (first | (with_reducible first | exact HB.out | apply below_alloc | apply pw_below_drewN | apply below_drew1 | refine below_set ?_ GE101.out | refine below_set ?_ GE102.out) | exact HB.out)) hb); clear BK101; clear BK102; clear HB; have BK101 := n0_; have BK102 := n1_; have HB := n2_; clear n0_ n1_ n2_; (try clear hb); (try clear hb2); (try clear hk); (try clear hi)) | ((with_reducible refine gate_callee (f := 68) rfl ?_); refine goesL_ (some 17) rfl rfl Try.func68 (by kernel_rfl) rfl #[.agg #[.bool t104, .int .i64 (wrap64 (-t103))]] rfl (by (try simp only [List.map_toArray, List.map_cons, List.map_nil]); first | done | rfl | (simp only [List.length_drop, List.length_take]; rfl)) ?_; (with_reducible refine (walk_bend_fit.calls t104 (wrap64 (-t103)) t105 t106 _ A13.out).mono ?_); rintro e w17 ⟨rfl, hb⟩; refine ⟨_, rfl, ?_⟩; have n0_ := Aside0.mk (blk_below (g := gb101) (o := .cells #[.int .i64 a0_0, .int .i64 a0_1] 56 (0, 0)) (by (with_reducible repeat (first | refine blk_drewN ?_ _ | refine blk_drew ?_ | refine blk_alloc ?_ _)); exact BK101.out) hb); have n1_ := Aside0.mk (blk_below (g := gb102) (o := .cells #[.bool false, .int .i64 0] 87 (0, 0)) (by (with_reducible repeat (first | refine blk_drewN ?_ _ | refine blk_drew ?_ | refine blk_alloc ?_ _)); exact BK102.out) hb); have n2_ := Aside0.mk (below_step (by repeat (first | (with_reducible first | exact HB.out | apply below_alloc | apply pw_below_drewN | apply below_drew1 | refine below_set ?_ GE101.out | refine below_set ?_ GE102.out) | exact HB.out)) hb); clear BK101; clear BK102; clear HB; have BK101 := n0_; have BK102 := n1_; have HB := n2_; clear n0_ n1_ n2_; (try clear hb); (try clear hb2); (try clear hk); (try clear hi); have hcz18_0 : w17.cell? ⟨gb102, 0, none⟩ = some (.bool false) := (blk_cell BK102.out 0).trans rfl; have hcz18_1 : w17.cell? ⟨gb102, 1, none⟩ = some (.int .i64 0) := (blk_cell BK102.out 1).trans rfl; have hfz18_0 := blk_frozen BK102.out 0; have hfz18_1 := blk_frozen BK102.out 1))
        refine bodyPost_ret (results_cell_row rfl _ _ gb102 87 #[.bool t105, .int .i64 t106] (0, 0) _ rfl (by (with_reducible repeat (first | refine blk_drewN ?_ _ | refine blk_drew ?_ | refine blk_alloc ?_ _)); refine blk_put (cs := #[.bool t105, .int .i64 0]) ?_ 1 _ rfl; (with_reducible repeat (first | refine blk_drewN ?_ _ | refine blk_drew ?_ | refine blk_alloc ?_ _)); refine blk_put (cs := #[.bool false, .int .i64 0]) ?_ 0 _ rfl; (with_reducible repeat (first | refine blk_drewN ?_ _ | refine blk_drew ?_ | refine blk_alloc ?_ _)); exact BK102.out) Try.underlying87 rfl (by kernel_rfl)) rfl ?_
        exact ⟨by first | rfl | ((repeat first | rw [Int.tdiv_eq_ediv_of_nonneg (by omega)] | rw [Int.tmod_eq_emod_of_nonneg (by omega)]); rfl) | (simp [errW_none, errW_some] <;> rfl) | (simp [*, errW_none, errW_some] <;> rfl), by repeat (first | (with_reducible first | exact HB.out | apply below_alloc | apply pw_below_drewN | apply below_drew1 | refine below_set ?_ GE101.out | refine below_set ?_ GE102.out) | exact HB.out)⟩
      · replace c11 := Bool.eq_false_iff.mpr c11
        subst c11
        have H1 : ((walk_goes.f a0_0 a0_1).bind fun t107 => ((walk_bend_fit.f t107 t103).bind fun bt108 => (some (bt108.1, bt108.2)))) = some (r1, r2) := by rw [if_neg (show ¬ (false = true) by decide)] at H; exact H
        clear H
        have H := H1
        clear H1
        replace H := Option.bind_eq_some_iff.mp H
        obtain ⟨t107, A190, H⟩ := H
        replace H : ((walk_bend_fit.f t107 t103).bind fun bt108 => (some (bt108.1, bt108.2))) = some (r1, r2) := H
        have A19 := Aside0.mk A190
        clear A190
        replace H := Option.bind_eq_some_iff.mp H
        obtain ⟨⟨t108, t109⟩, A200, H⟩ := H
        replace H : (some (t108, t109)) = some (r1, r2) := H
        have A20 := Aside0.mk A200
        clear A200
        simp only [Option.some.injEq, Prod.mk.injEq] at H
        obtain ⟨rfl, rfl⟩ := H
        have hnb21 := NB101_102.out
        have hnc21 := NB102_101.out
        have hcz22_0 : wc.cell? ⟨gb101, 0, none⟩ = some (.int .i64 a0_0) := (blk_cell BK101.out 0).trans rfl
        have hcz22_1 : wc.cell? ⟨gb101, 1, none⟩ = some (.int .i64 a0_1) := (blk_cell BK101.out 1).trans rfl
        have hfz22_0 := blk_frozen BK101.out 0
        have hfz22_1 := blk_frozen BK101.out 1
        go_wp2_with (first | ((with_reducible refine gate_callee (f := 76) rfl ?_); refine goesL_ (some 14) rfl rfl Try.func76 (by kernel_rfl) rfl #[.agg #[.int .i64 a0_0, .int .i64 a0_1]] rfl (by (try simp only [List.map_toArray, List.map_cons, List.map_nil]); first | done | rfl | (simp only [List.length_drop, List.length_take]; rfl)) ?_; (with_reducible refine (walk_goes.calls a0_0 a0_1 t107 _ A19.out).mono ?_); rintro e w23 ⟨rfl, hb⟩; refine ⟨_, rfl, ?_⟩; have n0_ := Aside0.mk (blk_below (g := gb101) (o := .cells #[.int .i64 a0_0, .int .i64 a0_1] 56 (0, 0)) (by (with_reducible repeat (first | refine blk_drewN ?_ _ | refine blk_drew ?_ | refine blk_alloc ?_ _)); exact BK101.out) hb); have n1_ := Aside0.mk (blk_below (g := gb102) (o := .cells #[.bool false, .int .i64 0] 87 (0, 0)) (by (with_reducible repeat (first | refine blk_drewN ?_ _ | refine blk_drew ?_ | refine blk_alloc ?_ _)); exact BK102.out) hb); have n2_ := Aside0.mk (below_step (by repeat (first | (with_reducible first | exact HB.out | apply below_alloc | apply pw_below_drewN | apply below_drew1 | refine below_set ?_ GE101.out | refine below_set ?_ GE102.out) | exact HB.out)) hb); clear BK101; clear BK102; clear HB; have BK101 := n0_; have BK102 := n1_; have HB := n2_; clear n0_ n1_ n2_; (try clear hb); (try clear hb2); (try clear hk); (try clear hi)) | ((with_reducible refine gate_callee (f := 68) rfl ?_); refine goesL_ (some 17) rfl rfl Try.func68 (by kernel_rfl) rfl #[.agg #[.bool t107, .int .i64 t103]] rfl (by (try simp only [List.map_toArray, List.map_cons, List.map_nil]); first | done | rfl | (simp only [List.length_drop, List.length_take]; rfl)) ?_; (with_reducible refine (walk_bend_fit.calls t107 t103 t108 t109 _ A20.out).mono ?_); rintro e w24 ⟨rfl, hb⟩; refine ⟨_, rfl, ?_⟩; have n0_ := Aside0.mk (blk_below (g := gb101) (o := .cells #[.int .i64 a0_0, .int .i64 a0_1] 56 (0, 0)) (by (with_reducible repeat (first | refine blk_drewN ?_ _ | refine blk_drew ?_ | refine blk_alloc ?_ _)); exact BK101.out) hb); have n1_ := Aside0.mk (blk_below (g := gb102) (o := .cells #[.bool false, .int .i64 0] 87 (0, 0)) (by (with_reducible repeat (first | refine blk_drewN ?_ _ | refine blk_drew ?_ | refine blk_alloc ?_ _)); exact BK102.out) hb); have n2_ := Aside0.mk (below_step (by repeat (first | (with_reducible first | exact HB.out | apply below_alloc | apply pw_below_drewN | apply below_drew1 | refine below_set ?_ GE101.out | refine below_set ?_ GE102.out) | exact HB.out)) hb); clear BK101; clear BK102; clear HB; have BK101 := n0_; have BK102 := n1_; have HB := n2_; clear n0_ n1_ n2_; (try clear hb); (try clear hb2); (try clear hk); (try clear hi); have hcz25_0 : w24.cell? ⟨gb102, 0, none⟩ = some (.bool false) := (blk_cell BK102.out 0).trans rfl; have hcz25_1 : w24.cell? ⟨gb102, 1, none⟩ = some (.int .i64 0) := (blk_cell BK102.out 1).trans rfl; have hfz25_0 := blk_frozen BK102.out 0; have hfz25_1 := blk_frozen BK102.out 1))
        refine bodyPost_ret (results_cell_row rfl _ _ gb102 87 #[.bool t108, .int .i64 t109] (0, 0) _ rfl (by (with_reducible repeat (first | refine blk_drewN ?_ _ | refine blk_drew ?_ | refine blk_alloc ?_ _)); refine blk_put (cs := #[.bool t108, .int .i64 0]) ?_ 1 _ rfl; (with_reducible repeat (first | refine blk_drewN ?_ _ | refine blk_drew ?_ | refine blk_alloc ?_ _)); refine blk_put (cs := #[.bool false, .int .i64 0]) ?_ 0 _ rfl; (with_reducible repeat (first | refine blk_drewN ?_ _ | refine blk_drew ?_ | refine blk_alloc ?_ _)); exact BK102.out) Try.underlying87 rfl (by kernel_rfl)) rfl ?_
        exact ⟨by first | rfl | ((repeat first | rw [Int.tdiv_eq_ediv_of_nonneg (by omega)] | rw [Int.tmod_eq_emod_of_nonneg (by omega)]); rfl) | (simp [errW_none, errW_some] <;> rfl) | (simp [*, errW_none, errW_some] <;> rfl), by repeat (first | (with_reducible first | exact HB.out | apply below_alloc | apply pw_below_drewN | apply below_drew1 | refine below_set ?_ GE101.out | refine below_set ?_ GE102.out) | exact HB.out)⟩
end Go.Proofs.Ytpoghhcpoimepaa.P
end
