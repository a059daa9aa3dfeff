/- Several texts of this proof in one: what the law's functions come to, and the lemmas (some as the kit's print.sh printed them, what is not used struck). -/
import Derived.Test.YtpoghhcpoimepaaM2
import Derived.Deep.RegionHeld3
section
/- walk.walker.do. -/
namespace Go.Proofs.Ytpoghhcpoimepaa.P
open Go.Proofs.Ytpoghhcpoimepaa.B Go.RowKit Go.Proofs.YtpoghhcpoimepaaW.PrintWords Go.Proofs.YtpoghhcpoimepaaW.PrintLast Go.Proofs.YtpoghhcpoimepaaW.PrintMore Go.Proofs.Ytpoghhcpoimepaa.FX Go.Proofs.Ytpoghhcpoimepaa.H
set_option linter.unusedVariables false
set_option linter.unusedSimpArgs false
attribute [local go_sem] run_store_complex
/-- All blocks but one stand as they stood. -/
structure BelB (g : Nat) (w w' : World) : Prop where
  b : Below g w w'
  k : ∀ k, k < w.heap.size → k ≠ g → w'.heap[k]? = w.heap[k]?
theorem BelB.step {g : Nat} {w w1 w2 : World} (h : BelB g w w1) (hg : g < w1.heap.size) (hb : Below w1.heap.size w1 w2) : BelB g w w2 :=
  ⟨h.b.trans (hb.mono (Nat.le_of_lt hg)), fun k hk hne => (hb.block k (Nat.lt_of_lt_of_le hk h.b.size)).trans (h.k k hk hne)⟩
theorem BelB.drew {g : Nat} {w w1 : World} (h : BelB g w w1) : BelB g w w1.drew := ⟨h.b.drew, h.k⟩
theorem BelB.set {g : Nat} {w w1 : World} (h : BelB g w w1) (j : Nat) (v : Value) : BelB g w (w1.setCell ⟨g, j, none⟩ v) :=
  ⟨h.b.setCell (Nat.le_refl g) v, fun k hk hne => (Below.heap_setCell _ _ _ k hne).trans (h.k k hk hne)⟩
theorem BelB.of {g : Nat} {w w1 : World} (h : Below w.heap.size w w1) (hg : g ≤ w.heap.size) : BelB g w w1 := ⟨h.mono hg, fun k hk _ => h.block k hk⟩
abbrev WkS (w0 : World) (g ar ai lr li : Nat) (w' : World) : Prop :=
  Aside0 (w'.heap[g]? = some (.cells #[.complex .f64 ar ai, .complex .f64 lr li] 101 (0, 0))) ∧ Aside0 (BelB g w0 w') ∧ w'.cell? ⟨g, 0, none⟩ = some (.complex .f64 ar ai) ∧ w'.cell? ⟨g, 1, none⟩ = some (.complex .f64 lr li) ∧ w'.frozen? ⟨g, 0, none⟩ = false ∧ w'.frozen? ⟨g, 1, none⟩ = false
theorem WkS.mk {w0 : World} {g ar ai lr li : Nat} {w' : World} (h0 : w'.heap[g]? = some (.cells #[.complex .f64 ar ai, .complex .f64 lr li] 101 (0, 0))) (hB : BelB g w0 w') : WkS w0 g ar ai lr li w' :=
  ⟨⟨h0⟩, ⟨hB⟩, blk_cell h0 0, blk_cell h0 1, blk_frozen h0 0, blk_frozen h0 1⟩
theorem WkS.keep {w0 : World} {g ar ai lr li : Nat} {w1 w2 : World} (h : WkS w0 g ar ai lr li w1) (hb : Below w1.heap.size w1 w2) : WkS w0 g ar ai lr li w2 :=
  WkS.mk (blk_keep h.1.out hb) (h.2.1.out.step (lt_blk h.1.out) hb)
theorem WkS.drew {w0 : World} {g ar ai lr li : Nat} {w1 : World} (h : WkS w0 g ar ai lr li w1) : WkS w0 g ar ai lr li w1.drew :=
  WkS.mk h.1.out h.2.1.out.drew
def DoPost (g : Nat) (w : World) (ar ai lr li : Nat) (e : Ending) (w' : World) : Prop := e = .returned (.tuple #[]) ∧ w'.heap[g]? = some (.cells #[.complex .f64 ar ai, .complex .f64 lr li] 101 (0, 0)) ∧ BelB g w w'
set_option maxHeartbeats 2000000 in
set_option maxRecDepth 100000 in
theorem do_left (g ar ai lr li re im : Nat) (n : Int) (m q : Nat) (f : Value) (w : World) (hg : w.heap[g]? = some (.cells #[.complex .f64 ar ai, .complex .f64 lr li] 101 (0, 0))) (hof : walk_often.f 3 n = some (m : Int)) (hm : m ≤ 1048576) (hq : (((m : Int)) % 4).toNat = q)
    (e1 : ∀ W : World, (binOp .mul 61 (.complex .f64 lr li) (.complex .f64 (qre q) (qim q))).run Try.prog W = .ok (.complex .f64 re im) W) :
    Calls Try.prog 73 #[.pointer (some ⟨g, 0, none⟩), .agg #[.int .i64 3, .int .i64 n], f] w (DoPost g w ar ai re im) := by
  have HG := Aside0.mk hg; clear hg
  have HOF := Aside0.mk hof; clear hof
  have HQ := fun W => Aside0.mk (quarter_calls ((m : Int)) W)
  rw [hq] at HQ
  clear hq
  have hng : IntKind.i64.wrap (-(m : Int)) = -(m : Int) := by rw [IntKind.wrap_i64]; omega
  go_enter Try.func73, Try.ntmps73
  go_wp2_with (go_at_call 60; (with_reducible refine (walk_often.calls 3 n _ _ HOF.out).mono ?_); rintro e w1 ⟨rfl, hb1⟩; have bk1 := blk_keep (blk_new w (.cells #[.int .i64 3, .int .i64 n] 56)) hb1; have hc0 := blk_cell bk1 0; have HS := WkS.mk (w0 := w) (blk_keep (blk_keep HG.out (below_alloc (Below.refl _ _) _)) hb1) (BelB.of (below_step (below_alloc (Below.refl _ _) _) hb1) (Nat.le_of_lt (lt_blk HG.out))); clear hb1 bk1)
  refine start_ (n := 10) (S := WkS w g ar ai lr li) (ds := [9]) #[false, false, false, false, false, false, false, false, false, false] (by kernel_rfl) rfl rfl (WkS.drew HS) (fun hHeld => ?_)
  clear HS
  refine pure_ (i := 0) (N := some 14) (v := ?_) (a' := ?_) #[true, false, false, false, false, false, false, false, false, false] rfl rfl (by kernel_rfl) (fun _ _ _ h => h) (Or.inl ⟨by rfl, ?_⟩) ?_ ?_
  rotate_left
  · intro w'
    go_simp
    with_reducible rfl
  rotate_left
  · simp only [Act.put, List.setIfInBounds_toArray, List.set_cons_zero, List.set_cons_succ]
    rfl
  refine pure_ (i := 1) (N := some 15) (v := ?_) (a' := ?_) #[true, true, false, false, false, false, false, false, false, false] rfl rfl (by kernel_rfl) (fun _ _ _ h => h) (Or.inl ⟨by rfl, ?_⟩) ?_ ?_
  rotate_left
  · intro w'
    go_simp
    with_reducible rfl
  rotate_left
  · simp only [Act.put, List.setIfInBounds_toArray, List.set_cons_zero, List.set_cons_succ]
    rfl
  refine pure_ (i := 2) (N := some 16) (v := ?_) (a' := ?_) #[true, true, true, false, false, false, false, false, false, false] rfl rfl (by kernel_rfl) (fun _ _ _ h => h) (Or.inl ⟨by rfl, ?_⟩) ?_ ?_
  rotate_left
  · intro w'
    go_simp
    with_reducible rfl
  rotate_left
  · simp only [Act.put, List.setIfInBounds_toArray, List.set_cons_zero, List.set_cons_succ]
    rfl
  refine take_ (i := 3) (N := some 17) (v := ?_) (a' := ?_) #[true, true, true, true, false, false, false, false, false, false] rfl rfl (by kernel_rfl) (fun _ _ _ h => h) (Or.inl ⟨by rfl, ?_⟩) hHeld ?_ ?_
  rotate_left
  · rintro w' ⟨_, _, k1, k2, k3, k4⟩
    go_simp
    with_reducible rfl
  rotate_left
  · simp only [Act.put, List.setIfInBounds_toArray, List.set_cons_zero, List.set_cons_succ]
    rfl
  refine pure_ (i := 4) (N := some 18) (v := ?_) (a' := ?_) #[true, true, true, true, true, false, false, false, false, false] rfl rfl (by kernel_rfl) (fun _ _ _ h => h) (Or.inl ⟨by rfl, ?_⟩) ?_ ?_
  rotate_left
  · intro w'
    go_simp
    with_reducible rfl
  rotate_left
  · simp only [Act.put, List.setIfInBounds_toArray, List.set_cons_zero, List.set_cons_succ]
    rfl
  refine one_ (i := 5) (N := some 19) #[true, true, true, true, true, true, false, false, false, false] rfl rfl (by kernel_rfl) (by decide) (fun K_ hK => ?_)
  refine goes_ Try.func74 (by kernel_rfl) rfl #[.int .i64 ((m : Int))] (by rfl) rfl rfl (by (try simp only [List.map_toArray, List.map_cons, List.map_nil]); first | done | rfl) ?_
  with_reducible refine (((HQ _).out)).mono ?_
  rintro e w2 ⟨rfl, hb⟩
  refine ⟨_, rfl, ?_⟩
  refine hK.out _ _ (WkS.keep hHeld hb) (fun hHeld => ?_)
  clear hK hb
  refine norm_ (a' := ?_) ?_ ?_
  rotate_left
  · show Act.put _ (some 19) _ = _
    simp only [Act.put, List.setIfInBounds_toArray, List.set_cons_zero, List.set_cons_succ]
    rfl
  refine pure_ (i := 6) (N := some 20) (v := ?_) (a' := ?_) #[true, true, true, true, true, true, true, false, false, false] rfl rfl (by kernel_rfl) (fun _ _ _ h => h) (Or.inl ⟨by rfl, ?_⟩) ?_ ?_
  rotate_left
  · intro w'
    go_simp
    with_reducible rfl
  rotate_left
  · simp only [Act.put, List.setIfInBounds_toArray, List.set_cons_zero, List.set_cons_succ]
    rfl
  refine pure_ (i := 7) (N := some 21) (v := ?_) (a' := ?_) #[true, true, true, true, true, true, true, true, false, false] rfl rfl (by kernel_rfl) (fun _ _ _ h => h) (Or.inl ⟨by rfl, ?_⟩) ?_ ?_
  rotate_left
  · intro w'
    go_simp
    with_reducible rfl
  rotate_left
  · simp only [Act.put, List.setIfInBounds_toArray, List.set_cons_zero, List.set_cons_succ]
    rfl
  refine pure_ (i := 8) (N := some 22) (v := ?_) (a' := ?_) #[true, true, true, true, true, true, true, true, true, false] rfl rfl (by kernel_rfl) (fun _ _ _ h => h) (Or.inl ⟨by rfl, ?_⟩) ?_ ?_
  rotate_left
  · intro w'
    go_simp
    with_reducible rfl
  rotate_left
  · simp only [Act.put, List.setIfInBounds_toArray, List.set_cons_zero, List.set_cons_succ]
    rfl
  refine last_ (i := 9) (N := none) #[true, true, true, true, true, true, true, true, true, true] rfl rfl (by kernel_rfl) (by decide) (fun K_ hK => ?_)
  have HS := hHeld
  obtain ⟨_, _, k1, k2, k3, k4⟩ := hHeld
  rw [if_pos (by rfl)]
  go_wp2
  refine hK.out _ _ ?_
  refine done_ (by kernel_rfl) ?_
  go_wp2
  refine bodyPost_ret (v := .tuple #[]) (by simp [results, Try.results73, go_sem]) rfl ?_
  exact ⟨rfl, blk_set HS.1.out 1 _, HS.2.1.out.set _ _⟩
set_option maxHeartbeats 2000000 in
set_option maxRecDepth 100000 in
theorem do_right (g ar ai lr li re im : Nat) (n : Int) (m q : Nat) (f : Value) (w : World) (hg : w.heap[g]? = some (.cells #[.complex .f64 ar ai, .complex .f64 lr li] 101 (0, 0))) (hof : walk_often.f 4 n = some (m : Int)) (hm : m ≤ 1048576) (hq : ((-(m : Int)) % 4).toNat = q)
    (e1 : ∀ W : World, (binOp .mul 61 (.complex .f64 lr li) (.complex .f64 (qre q) (qim q))).run Try.prog W = .ok (.complex .f64 re im) W) :
    Calls Try.prog 73 #[.pointer (some ⟨g, 0, none⟩), .agg #[.int .i64 4, .int .i64 n], f] w (DoPost g w ar ai re im) := by
  have HG := Aside0.mk hg; clear hg
  have HOF := Aside0.mk hof; clear hof
  have HQ := fun W => Aside0.mk (quarter_calls (-(m : Int)) W)
  rw [hq] at HQ
  clear hq
  have hng : IntKind.i64.wrap (-(m : Int)) = -(m : Int) := by rw [IntKind.wrap_i64]; omega
  go_enter Try.func73, Try.ntmps73
  go_wp2_with (go_at_call 60; (with_reducible refine (walk_often.calls 4 n _ _ HOF.out).mono ?_); rintro e w1 ⟨rfl, hb1⟩; have bk1 := blk_keep (blk_new w (.cells #[.int .i64 4, .int .i64 n] 56)) hb1; have hc0 := blk_cell bk1 0; have HS := WkS.mk (w0 := w) (blk_keep (blk_keep HG.out (below_alloc (Below.refl _ _) _)) hb1) (BelB.of (below_step (below_alloc (Below.refl _ _) _) hb1) (Nat.le_of_lt (lt_blk HG.out))); clear hb1 bk1)
  refine start_ (n := 11) (S := WkS w g ar ai lr li) (ds := [10]) #[false, false, false, false, false, false, false, false, false, false, false] (by kernel_rfl) rfl rfl (WkS.drew HS) (fun hHeld => ?_)
  clear HS
  refine pure_ (i := 0) (N := some 25) (v := ?_) (a' := ?_) #[true, false, false, false, false, false, false, false, false, false, false] rfl rfl (by kernel_rfl) (fun _ _ _ h => h) (Or.inl ⟨by rfl, ?_⟩) ?_ ?_
  rotate_left
  · intro w'
    go_simp
    with_reducible rfl
  rotate_left
  · simp only [Act.put, List.setIfInBounds_toArray, List.set_cons_zero, List.set_cons_succ]
    rfl
  refine pure_ (i := 1) (N := some 26) (v := ?_) (a' := ?_) #[true, true, false, false, false, false, false, false, false, false, false] rfl rfl (by kernel_rfl) (fun _ _ _ h => h) (Or.inl ⟨by rfl, ?_⟩) ?_ ?_
  rotate_left
  · intro w'
    go_simp
    with_reducible rfl
  rotate_left
  · simp only [Act.put, List.setIfInBounds_toArray, List.set_cons_zero, List.set_cons_succ]
    rfl
  refine pure_ (i := 2) (N := some 27) (v := ?_) (a' := ?_) #[true, true, true, false, false, false, false, false, false, false, false] rfl rfl (by kernel_rfl) (fun _ _ _ h => h) (Or.inl ⟨by rfl, ?_⟩) ?_ ?_
  rotate_left
  · intro w'
    go_simp
    with_reducible rfl
  rotate_left
  · simp only [Act.put, List.setIfInBounds_toArray, List.set_cons_zero, List.set_cons_succ]
    rfl
  refine take_ (i := 3) (N := some 28) (v := ?_) (a' := ?_) #[true, true, true, true, false, false, false, false, false, false, false] rfl rfl (by kernel_rfl) (fun _ _ _ h => h) (Or.inl ⟨by rfl, ?_⟩) hHeld ?_ ?_
  rotate_left
  · rintro w' ⟨_, _, k1, k2, k3, k4⟩
    go_simp
    with_reducible rfl
  rotate_left
  · simp only [Act.put, List.setIfInBounds_toArray, List.set_cons_zero, List.set_cons_succ]
    rfl
  refine pure_ (i := 4) (N := some 29) (v := ?_) (a' := ?_) #[true, true, true, true, true, false, false, false, false, false, false] rfl rfl (by kernel_rfl) (fun _ _ _ h => h) (Or.inl ⟨by rfl, ?_⟩) ?_ ?_
  rotate_left
  · intro w'
    go_simp
    with_reducible rfl
  rotate_left
  · simp only [Act.put, List.setIfInBounds_toArray, List.set_cons_zero, List.set_cons_succ]
    rfl
  refine pure_ (i := 5) (N := some 30) (v := ?_) (a' := ?_) #[true, true, true, true, true, true, false, false, false, false, false] rfl rfl (by kernel_rfl) (fun _ _ _ h => h) (Or.inl ⟨by rfl, ?_⟩) ?_ ?_
  rotate_left
  · intro w'
    go_simp
    with_reducible rfl
  rotate_left
  · simp only [Act.put, List.setIfInBounds_toArray, List.set_cons_zero, List.set_cons_succ]
    rfl
  refine one_ (i := 6) (N := some 31) #[true, true, true, true, true, true, true, false, false, false, false] rfl rfl (by kernel_rfl) (by decide) (fun K_ hK => ?_)
  refine goes_ Try.func74 (by kernel_rfl) rfl #[.int .i64 (-(m : Int))] (by rfl) rfl rfl (by (try simp only [List.map_toArray, List.map_cons, List.map_nil]); first | done | rfl) ?_
  with_reducible refine (((HQ _).out)).mono ?_
  rintro e w2 ⟨rfl, hb⟩
  refine ⟨_, rfl, ?_⟩
  refine hK.out _ _ (WkS.keep hHeld hb) (fun hHeld => ?_)
  clear hK hb
  refine norm_ (a' := ?_) ?_ ?_
  rotate_left
  · show Act.put _ (some 31) _ = _
    simp only [Act.put, List.setIfInBounds_toArray, List.set_cons_zero, List.set_cons_succ]
    rfl
  refine pure_ (i := 7) (N := some 32) (v := ?_) (a' := ?_) #[true, true, true, true, true, true, true, true, false, false, false] rfl rfl (by kernel_rfl) (fun _ _ _ h => h) (Or.inl ⟨by rfl, ?_⟩) ?_ ?_
  rotate_left
  · intro w'
    go_simp
    with_reducible rfl
  rotate_left
  · simp only [Act.put, List.setIfInBounds_toArray, List.set_cons_zero, List.set_cons_succ]
    rfl
  refine pure_ (i := 8) (N := some 33) (v := ?_) (a' := ?_) #[true, true, true, true, true, true, true, true, true, false, false] rfl rfl (by kernel_rfl) (fun _ _ _ h => h) (Or.inl ⟨by rfl, ?_⟩) ?_ ?_
  rotate_left
  · intro w'
    go_simp
    with_reducible rfl
  rotate_left
  · simp only [Act.put, List.setIfInBounds_toArray, List.set_cons_zero, List.set_cons_succ]
    rfl
  refine pure_ (i := 9) (N := some 34) (v := ?_) (a' := ?_) #[true, true, true, true, true, true, true, true, true, true, false] rfl rfl (by kernel_rfl) (fun _ _ _ h => h) (Or.inl ⟨by rfl, ?_⟩) ?_ ?_
  rotate_left
  · intro w'
    go_simp
    with_reducible rfl
  rotate_left
  · simp only [Act.put, List.setIfInBounds_toArray, List.set_cons_zero, List.set_cons_succ]
    rfl
  refine last_ (i := 10) (N := none) #[true, true, true, true, true, true, true, true, true, true, true] rfl rfl (by kernel_rfl) (by decide) (fun K_ hK => ?_)
  have HS := hHeld
  obtain ⟨_, _, k1, k2, k3, k4⟩ := hHeld
  rw [if_pos (by rfl)]
  go_wp2
  refine hK.out _ _ ?_
  refine done_ (by kernel_rfl) ?_
  go_wp2
  refine bodyPost_ret (v := .tuple #[]) (by simp [results, Try.results73, go_sem]) rfl ?_
  exact ⟨rfl, blk_set HS.1.out 1 _, HS.2.1.out.set _ _⟩
set_option maxHeartbeats 4000000 in
set_option maxRecDepth 100000 in
theorem do_goes (g ar ai lr li sb : Nat) (k n : Int) (m : Nat) (s1 s2 t1 t2 r1 r2 : Nat) (w : World) (hg : w.heap[g]? = some (.cells #[.complex .f64 ar ai, .complex .f64 lr li] 101 (0, 0))) (hof : walk_often.f k n = some (m : Int)) (hm : m ≤ 1048576) (hk3 : k ≠ 3) (hk4 : k ≠ 4) (hsb : sb = if k = 2 then 13830554455654793216 else 4607182418800017408)
    (e1 : ∀ W : World, (binOp .mul 61 (.complex .f64 lr li) (.complex .f64 sb 0)).run Try.prog W = .ok (.complex .f64 s1 s2) W)
    (e2 : ∀ W : World, (binOp .mul 61 (.complex .f64 s1 s2) (.complex .f64 (floatOfInt .f64 (m : Int)) 0)).run Try.prog W = .ok (.complex .f64 t1 t2) W)
    (e3 : ∀ W : World, (binOp .add 61 (.complex .f64 ar ai) (.complex .f64 t1 t2)).run Try.prog W = .ok (.complex .f64 r1 r2) W) :
    Calls Try.prog 73 #[.pointer (some ⟨g, 0, none⟩), .agg #[.int .i64 k, .int .i64 n], .nilFunc] w (DoPost g w r1 r2 lr li) := by
  have HG := Aside0.mk hg; clear hg
  have HOF := Aside0.mk hof; clear hof
  have k3 : (k == 3) = false := beq_eq_false_iff_ne.2 hk3
  have k4 : (k == 4) = false := beq_eq_false_iff_ne.2 hk4
  clear hk3 hk4
  have e0 : ∀ W : World, (binOp .eql 106 .nilFunc .nilFunc).run Try.prog W = .ok (.bool true) W := fun W => by rfl
  by_cases hk2 : k = 2
  · rw [if_pos hk2] at hsb
    subst hsb
    subst hk2
    go_enter Try.func73, Try.ntmps73
    go_wp2_with (go_at_call 60; (with_reducible refine (walk_often.calls 2 n _ _ HOF.out).mono ?_); rintro e w1 ⟨rfl, hb1⟩; have bk1 := blk_keep (blk_new w (.cells #[.int .i64 2, .int .i64 n] 56)) hb1; have hc0 := blk_cell bk1 0; have HS := WkS.mk (w0 := w) (blk_keep (blk_keep HG.out (below_alloc (Below.refl _ _) _)) hb1) (BelB.of (below_step (below_alloc (Below.refl _ _) _) hb1) (Nat.le_of_lt (lt_blk HG.out))); clear hb1 bk1)
    refine start_ (n := 18) (S := WkS w g ar ai lr li) (ds := [17]) #[false, false, false, false, false, false, false, false, false, false, false, false, false, false, false, false, false, false] (by kernel_rfl) rfl rfl (WkS.drew HS) (fun hHeld => ?_)
    clear HS
    refine pure_ (i := 0) (N := some 39) (v := ?_) (a' := ?_) #[true, false, false, false, false, false, false, false, false, false, false, false, false, false, false, false, false, false] rfl rfl (by kernel_rfl) (fun _ _ _ h => h) (Or.inl ⟨by rfl, ?_⟩) ?_ ?_
    rotate_left
    · intro w'
      go_simp
      with_reducible rfl
    rotate_left
    · simp only [Act.put, List.setIfInBounds_toArray, List.set_cons_zero, List.set_cons_succ]
      rfl
    refine pure_ (i := 1) (N := some 40) (v := ?_) (a' := ?_) #[true, true, false, false, false, false, false, false, false, false, false, false, false, false, false, false, false, false] rfl rfl (by kernel_rfl) (fun _ _ _ h => h) (Or.inl ⟨by rfl, ?_⟩) ?_ ?_
    rotate_left
    · intro w'
      go_simp
      with_reducible rfl
    rotate_left
    · simp only [Act.put, List.setIfInBounds_toArray, List.set_cons_zero, List.set_cons_succ]
      rfl
    refine pure_ (i := 2) (N := some 41) (v := ?_) (a' := ?_) #[true, true, true, false, false, false, false, false, false, false, false, false, false, false, false, false, false, false] rfl rfl (by kernel_rfl) (fun _ _ _ h => h) (Or.inl ⟨by rfl, ?_⟩) ?_ ?_
    rotate_left
    · intro w'
      go_simp
      with_reducible rfl
    rotate_left
    · simp only [Act.put, List.setIfInBounds_toArray, List.set_cons_zero, List.set_cons_succ]
      rfl
    refine take_ (i := 3) (N := some 42) (v := ?_) (a' := ?_) #[true, true, true, true, false, false, false, false, false, false, false, false, false, false, false, false, false, false] rfl rfl (by kernel_rfl) (fun _ _ _ h => h) (Or.inl ⟨by rfl, ?_⟩) hHeld ?_ ?_
    rotate_left
    · rintro w' ⟨_, _, k1, k2, k3, k4⟩
      go_simp
      with_reducible rfl
    rotate_left
    · simp only [Act.put, List.setIfInBounds_toArray, List.set_cons_zero, List.set_cons_succ]
      rfl
    refine pure_ (i := 4) (N := some 43) (v := ?_) (a' := ?_) #[true, true, true, true, true, false, false, false, false, false, false, false, false, false, false, false, false, false] rfl rfl (by kernel_rfl) (fun _ _ _ h => h) (Or.inl ⟨by rfl, ?_⟩) ?_ ?_
    rotate_left
    · intro w'
      go_simp
      with_reducible rfl
    rotate_left
    · simp only [Act.put, List.setIfInBounds_toArray, List.set_cons_zero, List.set_cons_succ]
      rfl
    refine pure_ (i := 5) (N := some 44) (v := ?_) (a' := ?_) #[true, true, true, true, true, true, false, false, false, false, false, false, false, false, false, false, false, false] rfl rfl (by kernel_rfl) (fun _ _ _ h => h) (Or.inl ⟨by rfl, ?_⟩) ?_ ?_
    rotate_left
    · intro w'
      go_simp
      with_reducible rfl
    rotate_left
    · simp only [Act.put, List.setIfInBounds_toArray, List.set_cons_zero, List.set_cons_succ]
      rfl
    refine pure_ (i := 6) (N := some 45) (v := ?_) (a' := ?_) #[true, true, true, true, true, true, true, false, false, false, false, false, false, false, false, false, false, false] rfl rfl (by kernel_rfl) (fun _ _ _ h => h) (Or.inl ⟨by rfl, ?_⟩) ?_ ?_
    rotate_left
    · intro w'
      go_simp
      with_reducible rfl
    rotate_left
    · simp only [Act.put, List.setIfInBounds_toArray, List.set_cons_zero, List.set_cons_succ]
      rfl
    refine take_ (i := 7) (N := some 46) (v := ?_) (a' := ?_) #[true, true, true, true, true, true, true, true, false, false, false, false, false, false, false, false, false, false] rfl rfl (by kernel_rfl) (fun _ _ _ h => h) (Or.inl ⟨by rfl, ?_⟩) hHeld ?_ ?_
    rotate_left
    · rintro w' ⟨_, _, k1, k2, k3, k4⟩
      go_simp
      with_reducible rfl
    rotate_left
    · simp only [Act.put, List.setIfInBounds_toArray, List.set_cons_zero, List.set_cons_succ]
      rfl
    refine pure_ (i := 8) (N := some 47) (v := ?_) (a' := ?_) #[true, true, true, true, true, true, true, true, true, false, false, false, false, false, false, false, false, false] rfl rfl (by kernel_rfl) (fun _ _ _ h => h) (Or.inl ⟨by rfl, ?_⟩) ?_ ?_
    rotate_left
    · intro w'
      go_simp
      with_reducible rfl
    rotate_left
    · simp only [Act.put, List.setIfInBounds_toArray, List.set_cons_zero, List.set_cons_succ]
      rfl
    refine pure_ (i := 9) (N := some 48) (v := ?_) (a' := ?_) #[true, true, true, true, true, true, true, true, true, true, false, false, false, false, false, false, false, false] rfl rfl (by kernel_rfl) (fun _ _ _ h => h) (Or.inl ⟨by rfl, ?_⟩) ?_ ?_
    rotate_left
    · intro w'
      go_simp
      with_reducible rfl
    rotate_left
    · simp only [Act.put, List.setIfInBounds_toArray, List.set_cons_zero, List.set_cons_succ]
      rfl
    refine pure_ (i := 10) (N := some 49) (v := ?_) (a' := ?_) #[true, true, true, true, true, true, true, true, true, true, true, false, false, false, false, false, false, false] rfl rfl (by kernel_rfl) (fun _ _ _ h => h) (Or.inl ⟨by rfl, ?_⟩) ?_ ?_
    rotate_left
    · intro w'
      go_simp
      with_reducible rfl
    rotate_left
    · simp only [Act.put, List.setIfInBounds_toArray, List.set_cons_zero, List.set_cons_succ]
      rfl
    refine pure_ (i := 11) (N := some 50) (v := ?_) (a' := ?_) #[true, true, true, true, true, true, true, true, true, true, true, true, false, false, false, false, false, false] rfl rfl (by kernel_rfl) (fun _ _ _ h => h) (Or.inl ⟨by rfl, ?_⟩) ?_ ?_
    rotate_left
    · intro w'
      go_simp
      with_reducible rfl
    rotate_left
    · simp only [Act.put, List.setIfInBounds_toArray, List.set_cons_zero, List.set_cons_succ]
      rfl
    refine pure_ (i := 12) (N := some 51) (v := ?_) (a' := ?_) #[true, true, true, true, true, true, true, true, true, true, true, true, true, false, false, false, false, false] rfl rfl (by kernel_rfl) (fun _ _ _ h => h) (Or.inl ⟨by rfl, ?_⟩) ?_ ?_
    rotate_left
    · intro w'
      go_simp
      with_reducible rfl
    rotate_left
    · simp only [Act.put, List.setIfInBounds_toArray, List.set_cons_zero, List.set_cons_succ]
      rfl
    refine pure_ (i := 13) (N := some 52) (v := ?_) (a' := ?_) #[true, true, true, true, true, true, true, true, true, true, true, true, true, true, false, false, false, false] rfl rfl (by kernel_rfl) (fun _ _ _ h => h) (Or.inl ⟨by rfl, ?_⟩) ?_ ?_
    rotate_left
    · intro w'
      go_simp
      with_reducible rfl
    rotate_left
    · simp only [Act.put, List.setIfInBounds_toArray, List.set_cons_zero, List.set_cons_succ]
      rfl
    refine pure_ (i := 14) (N := some 53) (v := ?_) (a' := ?_) #[true, true, true, true, true, true, true, true, true, true, true, true, true, true, true, false, false, false] rfl rfl (by kernel_rfl) (fun _ _ _ h => h) (Or.inl ⟨by rfl, ?_⟩) ?_ ?_
    rotate_left
    · intro w'
      go_simp
      with_reducible rfl
    rotate_left
    · simp only [Act.put, List.setIfInBounds_toArray, List.set_cons_zero, List.set_cons_succ]
      rfl
    refine pure_ (i := 15) (N := some 54) (v := ?_) (a' := ?_) #[true, true, true, true, true, true, true, true, true, true, true, true, true, true, true, true, false, false] rfl rfl (by kernel_rfl) (fun _ _ _ h => h) (Or.inl ⟨by rfl, ?_⟩) ?_ ?_
    rotate_left
    · intro w'
      go_simp
      with_reducible rfl
    rotate_left
    · simp only [Act.put, List.setIfInBounds_toArray, List.set_cons_zero, List.set_cons_succ]
      rfl
    refine pure_ (i := 16) (N := some 55) (v := ?_) (a' := ?_) #[true, true, true, true, true, true, true, true, true, true, true, true, true, true, true, true, true, false] rfl rfl (by kernel_rfl) (fun _ _ _ h => h) (Or.inl ⟨by rfl, ?_⟩) ?_ ?_
    rotate_left
    · intro w'
      go_simp
      with_reducible rfl
    rotate_left
    · simp only [Act.put, List.setIfInBounds_toArray, List.set_cons_zero, List.set_cons_succ]
      rfl
    refine last_ (i := 17) (N := none) #[true, true, true, true, true, true, true, true, true, true, true, true, true, true, true, true, true, true] rfl rfl (by kernel_rfl) (by decide) (fun K_ hK => ?_)
    have HS := hHeld
    obtain ⟨_, _, k1, k2, k3, k4⟩ := hHeld
    rw [if_pos (by rfl)]
    go_wp2
    refine hK.out _ _ ?_
    refine done_ (by kernel_rfl) ?_
    go_wp2
    refine bodyPost_ret (v := .tuple #[]) (by simp [results, Try.results73, go_sem]) rfl ?_
    exact ⟨rfl, blk_set HS.1.out 0 _, HS.2.1.out.set _ _⟩
  · rw [if_neg hk2] at hsb
    subst hsb
    have k2 : (k == 2) = false := beq_eq_false_iff_ne.2 hk2
    clear hk2
    go_enter Try.func73, Try.ntmps73
    go_wp2_with (go_at_call 60; (with_reducible refine (walk_often.calls k n _ _ HOF.out).mono ?_); rintro e w1 ⟨rfl, hb1⟩; have bk1 := blk_keep (blk_new w (.cells #[.int .i64 k, .int .i64 n] 56)) hb1; have hc0 := blk_cell bk1 0; have HS := WkS.mk (w0 := w) (blk_keep (blk_keep HG.out (below_alloc (Below.refl _ _) _)) hb1) (BelB.of (below_step (below_alloc (Below.refl _ _) _) hb1) (Nat.le_of_lt (lt_blk HG.out))); clear hb1 bk1)
    refine start_ (n := 18) (S := WkS w g ar ai lr li) (ds := [17]) #[false, false, false, false, false, false, false, false, false, false, false, false, false, false, false, false, false, false] (by kernel_rfl) rfl rfl (WkS.drew HS) (fun hHeld => ?_)
    clear HS
    refine pure_ (i := 0) (N := some 39) (v := ?_) (a' := ?_) #[true, false, false, false, false, false, false, false, false, false, false, false, false, false, false, false, false, false] rfl rfl (by kernel_rfl) (fun _ _ _ h => h) (Or.inl ⟨by rfl, ?_⟩) ?_ ?_
    rotate_left
    · intro w'
      go_simp
      with_reducible rfl
    rotate_left
    · simp only [Act.put, List.setIfInBounds_toArray, List.set_cons_zero, List.set_cons_succ]
      rfl
    refine pure_ (i := 1) (N := some 40) (v := ?_) (a' := ?_) #[true, true, false, false, false, false, false, false, false, false, false, false, false, false, false, false, false, false] rfl rfl (by kernel_rfl) (fun _ _ _ h => h) (Or.inl ⟨by rfl, ?_⟩) ?_ ?_
    rotate_left
    · intro w'
      go_simp
      with_reducible rfl
    rotate_left
    · simp only [Act.put, List.setIfInBounds_toArray, List.set_cons_zero, List.set_cons_succ]
      rfl
    refine pure_ (i := 2) (N := some 41) (v := ?_) (a' := ?_) #[true, true, true, false, false, false, false, false, false, false, false, false, false, false, false, false, false, false] rfl rfl (by kernel_rfl) (fun _ _ _ h => h) (Or.inl ⟨by rfl, ?_⟩) ?_ ?_
    rotate_left
    · intro w'
      go_simp
      with_reducible rfl
    rotate_left
    · simp only [Act.put, List.setIfInBounds_toArray, List.set_cons_zero, List.set_cons_succ]
      rfl
    refine take_ (i := 3) (N := some 42) (v := ?_) (a' := ?_) #[true, true, true, true, false, false, false, false, false, false, false, false, false, false, false, false, false, false] rfl rfl (by kernel_rfl) (fun _ _ _ h => h) (Or.inl ⟨by rfl, ?_⟩) hHeld ?_ ?_
    rotate_left
    · rintro w' ⟨_, _, k1, k2, k3, k4⟩
      go_simp
      with_reducible rfl
    rotate_left
    · simp only [Act.put, List.setIfInBounds_toArray, List.set_cons_zero, List.set_cons_succ]
      rfl
    refine pure_ (i := 4) (N := some 43) (v := ?_) (a' := ?_) #[true, true, true, true, true, false, false, false, false, false, false, false, false, false, false, false, false, false] rfl rfl (by kernel_rfl) (fun _ _ _ h => h) (Or.inl ⟨by rfl, ?_⟩) ?_ ?_
    rotate_left
    · intro w'
      go_simp
      with_reducible rfl
    rotate_left
    · simp only [Act.put, List.setIfInBounds_toArray, List.set_cons_zero, List.set_cons_succ]
      rfl
    refine pure_ (i := 5) (N := some 44) (v := ?_) (a' := ?_) #[true, true, true, true, true, true, false, false, false, false, false, false, false, false, false, false, false, false] rfl rfl (by kernel_rfl) (fun _ _ _ h => h) (Or.inl ⟨by rfl, ?_⟩) ?_ ?_
    rotate_left
    · intro w'
      go_simp
      with_reducible rfl
    rotate_left
    · simp only [Act.put, List.setIfInBounds_toArray, List.set_cons_zero, List.set_cons_succ]
      rfl
    refine pure_ (i := 6) (N := some 45) (v := ?_) (a' := ?_) #[true, true, true, true, true, true, true, false, false, false, false, false, false, false, false, false, false, false] rfl rfl (by kernel_rfl) (fun _ _ _ h => h) (Or.inl ⟨by rfl, ?_⟩) ?_ ?_
    rotate_left
    · intro w'
      go_simp
      with_reducible rfl
    rotate_left
    · simp only [Act.put, List.setIfInBounds_toArray, List.set_cons_zero, List.set_cons_succ]
      rfl
    refine take_ (i := 7) (N := some 46) (v := ?_) (a' := ?_) #[true, true, true, true, true, true, true, true, false, false, false, false, false, false, false, false, false, false] rfl rfl (by kernel_rfl) (fun _ _ _ h => h) (Or.inl ⟨by rfl, ?_⟩) hHeld ?_ ?_
    rotate_left
    · rintro w' ⟨_, _, k1, k2, k3, k4⟩
      go_simp
      with_reducible rfl
    rotate_left
    · simp only [Act.put, List.setIfInBounds_toArray, List.set_cons_zero, List.set_cons_succ]
      rfl
    refine pure_ (i := 8) (N := some 47) (v := ?_) (a' := ?_) #[true, true, true, true, true, true, true, true, true, false, false, false, false, false, false, false, false, false] rfl rfl (by kernel_rfl) (fun _ _ _ h => h) (Or.inl ⟨by rfl, ?_⟩) ?_ ?_
    rotate_left
    · intro w'
      go_simp
      with_reducible rfl
    rotate_left
    · simp only [Act.put, List.setIfInBounds_toArray, List.set_cons_zero, List.set_cons_succ]
      rfl
    refine pure_ (i := 9) (N := some 48) (v := ?_) (a' := ?_) #[true, true, true, true, true, true, true, true, true, true, false, false, false, false, false, false, false, false] rfl rfl (by kernel_rfl) (fun _ _ _ h => h) (Or.inl ⟨by rfl, ?_⟩) ?_ ?_
    rotate_left
    · intro w'
      go_simp
      with_reducible rfl
    rotate_left
    · simp only [Act.put, List.setIfInBounds_toArray, List.set_cons_zero, List.set_cons_succ]
      rfl
    refine pure_ (i := 10) (N := some 49) (v := ?_) (a' := ?_) #[true, true, true, true, true, true, true, true, true, true, true, false, false, false, false, false, false, false] rfl rfl (by kernel_rfl) (fun _ _ _ h => h) (Or.inl ⟨by rfl, ?_⟩) ?_ ?_
    rotate_left
    · intro w'
      go_simp
      with_reducible rfl
    rotate_left
    · simp only [Act.put, List.setIfInBounds_toArray, List.set_cons_zero, List.set_cons_succ]
      rfl
    refine pure_ (i := 11) (N := some 50) (v := ?_) (a' := ?_) #[true, true, true, true, true, true, true, true, true, true, true, true, false, false, false, false, false, false] rfl rfl (by kernel_rfl) (fun _ _ _ h => h) (Or.inl ⟨by rfl, ?_⟩) ?_ ?_
    rotate_left
    · intro w'
      go_simp
      with_reducible rfl
    rotate_left
    · simp only [Act.put, List.setIfInBounds_toArray, List.set_cons_zero, List.set_cons_succ]
      rfl
    refine pure_ (i := 12) (N := some 51) (v := ?_) (a' := ?_) #[true, true, true, true, true, true, true, true, true, true, true, true, true, false, false, false, false, false] rfl rfl (by kernel_rfl) (fun _ _ _ h => h) (Or.inl ⟨by rfl, ?_⟩) ?_ ?_
    rotate_left
    · intro w'
      go_simp
      with_reducible rfl
    rotate_left
    · simp only [Act.put, List.setIfInBounds_toArray, List.set_cons_zero, List.set_cons_succ]
      rfl
    refine pure_ (i := 13) (N := some 52) (v := ?_) (a' := ?_) #[true, true, true, true, true, true, true, true, true, true, true, true, true, true, false, false, false, false] rfl rfl (by kernel_rfl) (fun _ _ _ h => h) (Or.inl ⟨by rfl, ?_⟩) ?_ ?_
    rotate_left
    · intro w'
      go_simp
      with_reducible rfl
    rotate_left
    · simp only [Act.put, List.setIfInBounds_toArray, List.set_cons_zero, List.set_cons_succ]
      rfl
    refine pure_ (i := 14) (N := some 53) (v := ?_) (a' := ?_) #[true, true, true, true, true, true, true, true, true, true, true, true, true, true, true, false, false, false] rfl rfl (by kernel_rfl) (fun _ _ _ h => h) (Or.inl ⟨by rfl, ?_⟩) ?_ ?_
    rotate_left
    · intro w'
      go_simp
      with_reducible rfl
    rotate_left
    · simp only [Act.put, List.setIfInBounds_toArray, List.set_cons_zero, List.set_cons_succ]
      rfl
    refine pure_ (i := 15) (N := some 54) (v := ?_) (a' := ?_) #[true, true, true, true, true, true, true, true, true, true, true, true, true, true, true, true, false, false] rfl rfl (by kernel_rfl) (fun _ _ _ h => h) (Or.inl ⟨by rfl, ?_⟩) ?_ ?_
    rotate_left
    · intro w'
      go_simp
      with_reducible rfl
    rotate_left
    · simp only [Act.put, List.setIfInBounds_toArray, List.set_cons_zero, List.set_cons_succ]
      rfl
    refine pure_ (i := 16) (N := some 55) (v := ?_) (a' := ?_) #[true, true, true, true, true, true, true, true, true, true, true, true, true, true, true, true, true, false] rfl rfl (by kernel_rfl) (fun _ _ _ h => h) (Or.inl ⟨by rfl, ?_⟩) ?_ ?_
    rotate_left
    · intro w'
      go_simp
      with_reducible rfl
    rotate_left
    · simp only [Act.put, List.setIfInBounds_toArray, List.set_cons_zero, List.set_cons_succ]
      rfl
    refine last_ (i := 17) (N := none) #[true, true, true, true, true, true, true, true, true, true, true, true, true, true, true, true, true, true] rfl rfl (by kernel_rfl) (by decide) (fun K_ hK => ?_)
    have HS := hHeld
    obtain ⟨_, _, k1, k2, k3, k4⟩ := hHeld
    rw [if_pos (by rfl)]
    go_wp2
    refine hK.out _ _ ?_
    refine done_ (by kernel_rfl) ?_
    go_wp2
    refine bodyPost_ret (v := .tuple #[]) (by simp [results, Try.results73, go_sem]) rfl ?_
    exact ⟨rfl, blk_set HS.1.out 0 _, HS.2.1.out.set _ _⟩
end Go.Proofs.Ytpoghhcpoimepaa.P
end
section
/- Motions: a motion as a move. -/
namespace Go.Proofs.Ytpoghhcpoimepaa.P
open Go.Proofs.Ytpoghhcpoimepaa.B Go.RowKit Go.Proofs.YtpoghhcpoimepaaW.PrintWords Go.Proofs.YtpoghhcpoimepaaW.PrintLast Go.Proofs.YtpoghhcpoimepaaW.PrintMore Go.Proofs.Ytpoghhcpoimepaa.FX Go.Proofs.Ytpoghhcpoimepaa.H
set_option linter.unusedVariables false
set_option linter.unusedSimpArgs false
attribute [local go_sem] run_store_complex
abbrev OfS (w0 : World) (n x y : Int) (w' : World) : Prop :=
  Aside0 (w'.heap[w0.heap.size]? = some (.cells #[.int .i64 n, .int .i64 x, .int .i64 y] 34 (0, 0))) ∧ Aside0 (w'.heap[w0.heap.size + 1]? = some (.cells #[.complex .f64 0 0, .complex .f64 0 0] 109 (0, 0))) ∧ Aside0 (Below w0.heap.size w0 w') ∧
  w'.cell? ⟨w0.heap.size, 0, none⟩ = some (.int .i64 n) ∧ w'.cell? ⟨w0.heap.size, 1, none⟩ = some (.int .i64 x) ∧ w'.cell? ⟨w0.heap.size, 2, none⟩ = some (.int .i64 y)
theorem OfS.mk {w0 : World} {n x y : Int} {w' : World} (h1 : w'.heap[w0.heap.size]? = some (.cells #[.int .i64 n, .int .i64 x, .int .i64 y] 34 (0, 0))) (h2 : w'.heap[w0.heap.size + 1]? = some (.cells #[.complex .f64 0 0, .complex .f64 0 0] 109 (0, 0))) (h3 : Below w0.heap.size w0 w') : OfS w0 n x y w' :=
  ⟨⟨h1⟩, ⟨h2⟩, ⟨h3⟩, blk_cell h1 0, blk_cell h1 1, blk_cell h1 2⟩
theorem OfS.keep {w0 : World} {n x y : Int} {w1 w2 : World} (h : OfS w0 n x y w1) (hb : Below w1.heap.size w1 w2) : OfS w0 n x y w2 := OfS.mk (blk_keep h.1.out hb) (blk_keep h.2.1.out hb) (below_step h.2.2.1.out hb)
theorem OfS.drew {w0 : World} {n x y : Int} {w1 : World} (h : OfS w0 n x y w1) : OfS w0 n x y w1.drew := OfS.mk h.1.out h.2.1.out (below_drew h.2.2.1.out)
theorem new_of {w0 : World} {n x y : Int} {W : World} {o : Obj} (h : OfS w0 n x y (W.alloc o)) : (W.alloc o).heap[W.heap.size]? = some o := blk_new W o
theorem keep_of {w0 : World} {n x y : Int} {W : World} {o o' : Obj} {g : Nat} (hg : W.heap[g]? = some o') (h : OfS w0 n x y (W.alloc o)) : (W.alloc o).heap[g]? = some o' := blk_keep hg (below_alloc (Below.refl _ _) _)
theorem lt_of_blk {W : World} {g : Nat} {o : Obj} (h : W.heap[g]? = some o) : g < W.heap.size := (Array.getElem?_eq_some_iff.1 h).1
theorem ne_of_lt' {a b : Nat} (h : a < b) : a ≠ b := Nat.ne_of_lt h
theorem far2 {W : World} {a b : Nat} {o : Obj} (h : W.heap[b]? = some o) (hne : a ≠ b) (v1 v2 : Value) : ((W.setCell ⟨a, 0, none⟩ v1).setCell ⟨a, 1, none⟩ v2).heap[b]? = some o := by
  rw [Below.heap_setCell _ _ _ b (fun e => hne e.symm), Below.heap_setCell _ _ _ b (fun e => hne e.symm)]; exact h
theorem rot_unit (n : Int) : (rot (n % 4).toNat 1 0).1.natAbs ≤ 1 ∧ (rot (n % 4).toNat 1 0).2.natAbs ≤ 1 := by
  have hq : n % 4 = 0 ∨ n % 4 = 1 ∨ n % 4 = 2 ∨ n % 4 = 3 := by omega
  rcases hq with h | h | h | h <;> rw [h] <;> decide
abbrev O2S (w0 : World) (g3 g4 : Nat) (A1 A2 F1 F2 : Int) (w' : World) : Prop :=
  Aside0 (w'.heap[g3]? = some (.cells #[.int .i64 A1, .int .i64 A2] 24 (0, 0))) ∧ Aside0 (w'.heap[g4]? = some (.cells #[.int .i64 F1, .int .i64 F2] 24 (0, 0))) ∧ Aside0 (w'.heap[w0.heap.size + 1]? = some (.cells #[.complex .f64 0 0, .complex .f64 0 0] 109 (0, 0))) ∧ Aside0 (Below w0.heap.size w0 w') ∧
  w'.cell? ⟨g3, 0, none⟩ = some (.int .i64 A1) ∧ w'.cell? ⟨g3, 1, none⟩ = some (.int .i64 A2) ∧ w'.cell? ⟨g4, 0, none⟩ = some (.int .i64 F1) ∧ w'.cell? ⟨g4, 1, none⟩ = some (.int .i64 F2) ∧
  w'.cell? ⟨w0.heap.size + 1, 0, none⟩ = some (.complex .f64 0 0) ∧ w'.cell? ⟨w0.heap.size + 1, 1, none⟩ = some (.complex .f64 0 0) ∧ w'.frozen? ⟨w0.heap.size + 1, 0, none⟩ = false ∧ w'.frozen? ⟨w0.heap.size + 1, 1, none⟩ = false
theorem O2S.mk {w0 : World} {g3 g4 : Nat} {A1 A2 F1 F2 : Int} {w' : World} (h1 : w'.heap[g3]? = some (.cells #[.int .i64 A1, .int .i64 A2] 24 (0, 0))) (h2 : w'.heap[g4]? = some (.cells #[.int .i64 F1, .int .i64 F2] 24 (0, 0))) (h3 : w'.heap[w0.heap.size + 1]? = some (.cells #[.complex .f64 0 0, .complex .f64 0 0] 109 (0, 0))) (h4 : Below w0.heap.size w0 w') : O2S w0 g3 g4 A1 A2 F1 F2 w' :=
  ⟨⟨h1⟩, ⟨h2⟩, ⟨h3⟩, ⟨h4⟩, blk_cell h1 0, blk_cell h1 1, blk_cell h2 0, blk_cell h2 1, blk_cell h3 0, blk_cell h3 1, blk_frozen h3 0, blk_frozen h3 1⟩
theorem O2S.keep {w0 : World} {g3 g4 : Nat} {A1 A2 F1 F2 : Int} {w1 w2 : World} (h : O2S w0 g3 g4 A1 A2 F1 F2 w1) (hb : Below w1.heap.size w1 w2) : O2S w0 g3 g4 A1 A2 F1 F2 w2 := O2S.mk (blk_keep h.1.out hb) (blk_keep h.2.1.out hb) (blk_keep h.2.2.1.out hb) (below_step h.2.2.2.1.out hb)
theorem O2S.drew {w0 : World} {g3 g4 : Nat} {A1 A2 F1 F2 : Int} {w1 : World} (h : O2S w0 g3 g4 A1 A2 F1 F2 w1) : O2S w0 g3 g4 A1 A2 F1 F2 w1.drew := O2S.mk h.1.out h.2.1.out h.2.2.1.out (below_drew h.2.2.2.1.out)
set_option maxHeartbeats 4000000 in
set_option maxRecDepth 100000 in
theorem of_calls (n x y : Int) (w : World) : Calls Try.prog 79 #[.agg #[.int .i64 n, .int .i64 x, .int .i64 y]] w (MovePost (rot (n % 4).toNat 1 0) (fx x, fx y) w) := by
  obtain ⟨A1, A2, hA⟩ : ∃ A1 A2, rot (n % 4).toNat 1 0 = (A1, A2) := ⟨_, _, rfl⟩
  obtain ⟨F1, F2, hF1, hF2⟩ : ∃ F1 F2, fx x = F1 ∧ fx y = F2 := ⟨_, _, rfl, rfl⟩
  have HT := fun W => Aside0.mk (show Calls Try.prog 93 #[.agg #[.int .i64 1, .int .i64 0], .int .i64 n] W fun e w' => e = .returned (.agg #[.int .i64 A1, .int .i64 A2]) ∧ Below W.heap.size W w' from by
    have h := turn_calls 1 0 n W
    rw [show fx 1 = 1 from by decide, show fx 0 = 0 from by decide, hA] at h
    exact h)
  have HF := fun W => Aside0.mk (show Calls Try.prog 53 #[.agg #[.int .i64 x, .int .i64 y]] W fun e w' => e = .returned (.agg #[.int .i64 F1, .int .i64 F2]) ∧ Below W.heap.size W w' from by
    have h := fix_calls x y W
    rw [hF1, hF2] at h
    exact h)
  have HMV := Aside0.mk (show MV (floatOfInt .f64 A1) (floatOfInt .f64 A2) (floatOfInt .f64 F1) (floatOfInt .f64 F2) (A1, A2) (F1, F2) from by
    have u := rot_unit n
    rw [hA] at u
    have b1 := fx_le x
    have b2 := fx_le y
    exact ⟨isF_of _ (by simp only [] at u; omega), isF_of _ (by simp only [] at u; omega), isF_of _ (by omega), isF_of _ (by omega)⟩)
  rw [hA, hF1, hF2]
  have HS : OfS w n x y ((w.alloc (.cells #[.int .i64 n, .int .i64 x, .int .i64 y] 34)).alloc (.cells #[.complex .f64 0 0, .complex .f64 0 0] 109)) := OfS.mk (blk_keep (blk_new w _) (below_alloc (Below.refl _ _) _)) (move_new2 w _ _) (below_alloc (below_alloc (Below.refl _ _) _) _)
  go_enter Try.func79, Try.ntmps79
  go_wp2
  rename_i K hKr
  have HK : ∀ (g3 g4 : Nat) (W : World), W.heap[g3]? = some (.cells #[.int .i64 A1, .int .i64 A2] 24 (0, 0)) → W.heap[g4]? = some (.cells #[.int .i64 F1, .int .i64 F2] 24 (0, 0)) → W.heap[w.heap.size + 1]? = some (.cells #[.complex .f64 0 0, .complex .f64 0 0] 109 (0, 0)) → Below w.heap.size w W →
      K ⟨#[.agg #[.int .i64 n, .int .i64 x, .int .i64 y], .pointer (some ⟨w.heap.size, 0, none⟩), .pointer (some ⟨w.heap.size + 1, 0, none⟩), .pointer (some ⟨g3, 0, none⟩), .pointer (some ⟨g4, 0, none⟩), .agg #[.int .i64 1, .int .i64 0], .pointer (some ⟨w.heap.size, 0, none⟩), .int .i64 n, .agg #[.int .i64 A1, .int .i64 A2], .pointer (some ⟨w.heap.size, 1, none⟩), .agg #[.int .i64 x, .int .i64 y], .agg #[.int .i64 F1, .int .i64 F2], undef, undef, undef, undef, undef], []⟩ W := by
    intro g3 g4 W h3 h4 h5 hB
    refine hKr _ _ ?_
    have HS2 : O2S w g3 g4 A1 A2 F1 F2 W := O2S.mk h3 h4 h5 hB
    clear h3 h4 h5 hB HT HF HS
    go_wp2
    refine start_ (n := 6) (S := O2S w g3 g4 A1 A2 F1 F2) (ds := [5]) #[false, false, false, false, false, false] (by kernel_rfl) rfl rfl (O2S.drew HS2) (fun hHeld => ?_)
    clear HS2
    refine take_ (i := 0) (N := some 12) (v := ?_) (a' := ?_) #[true, false, false, false, false, false] rfl rfl (by kernel_rfl) (fun _ _ _ h => h) (Or.inl ⟨by rfl, ?_⟩) hHeld ?_ ?_
    rotate_left
    · rintro w' ⟨_, _, _, _, k1, k2, k3, k4, k5, k6, k7, k8⟩
      go_simp
      with_reducible rfl
    rotate_left
    · simp only [Act.put, List.setIfInBounds_toArray, List.set_cons_zero, List.set_cons_succ]
      rfl
    refine take_ (i := 2) (N := some 14) (v := ?_) (a' := ?_) #[true, false, true, false, false, false] rfl rfl (by kernel_rfl) (fun _ _ _ h => h) (Or.inl ⟨by rfl, ?_⟩) hHeld ?_ ?_
    rotate_left
    · rintro w' ⟨_, _, _, _, k1, k2, k3, k4, k5, k6, k7, k8⟩
      go_simp
      with_reducible rfl
    rotate_left
    · simp only [Act.put, List.setIfInBounds_toArray, List.set_cons_zero, List.set_cons_succ]
      rfl
    refine one_ (i := 1) (N := some 13) #[true, true, true, false, false, false] rfl rfl (by kernel_rfl) (by decide) (fun K_ hK => ?_)
    refine goes_ Try.func86 (by kernel_rfl) rfl #[.agg #[.int .i64 A1, .int .i64 A2]] (by rfl) rfl rfl (by (try simp only [List.map_toArray, List.map_cons, List.map_nil]); first | done | rfl) ?_
    with_reducible refine (mplane_calls A1 A2 _).mono ?_
    rintro e w2 ⟨rfl, hb⟩
    refine ⟨_, rfl, ?_⟩
    have hHeld2 := O2S.keep hHeld hb
    clear hHeld hb
    refine hK.out _ _ hHeld2 (fun hHeld => ?_)
    clear hK hHeld2
    refine norm_ (a' := ?_) ?_ ?_
    rotate_left
    · show Act.put _ (some 13) _ = _
      simp only [Act.put, List.setIfInBounds_toArray, List.set_cons_zero, List.set_cons_succ]
      rfl
    refine one_ (i := 3) (N := some 15) #[true, true, true, true, false, false] rfl rfl (by kernel_rfl) (by decide) (fun K_ hK => ?_)
    refine goes_ Try.func86 (by kernel_rfl) rfl #[.agg #[.int .i64 F1, .int .i64 F2]] (by rfl) rfl rfl (by (try simp only [List.map_toArray, List.map_cons, List.map_nil]); first | done | rfl) ?_
    with_reducible refine (mplane_calls F1 F2 _).mono ?_
    rintro e w2 ⟨rfl, hb⟩
    refine ⟨_, rfl, ?_⟩
    have hHeld2 := O2S.keep hHeld hb
    clear hHeld hb
    refine hK.out _ _ hHeld2 (fun hHeld => ?_)
    clear hK hHeld2
    refine norm_ (a' := ?_) ?_ ?_
    rotate_left
    · show Act.put _ (some 15) _ = _
      simp only [Act.put, List.setIfInBounds_toArray, List.set_cons_zero, List.set_cons_succ]
      rfl
    refine pure_ (i := 4) (N := some 16) (v := ?_) (a' := ?_) #[true, true, true, true, true, false] rfl rfl (by kernel_rfl) (fun _ _ _ h => h) (Or.inl ⟨by rfl, ?_⟩) ?_ ?_
    rotate_left
    · intro w'
      go_simp
      with_reducible rfl
    rotate_left
    · simp only [Act.put, List.setIfInBounds_toArray, List.set_cons_zero, List.set_cons_succ]
      rfl
    refine last_ (i := 5) (N := none) #[true, true, true, true, true, true] rfl rfl (by kernel_rfl) (by decide) (fun K_ hK => ?_)
    obtain ⟨_, _, HR, HB, k1, k2, k3, k4, k5, k6, k7, k8⟩ := hHeld
    rw [if_pos (by rfl)]
    go_wp2
    refine hK.out _ _ ?_
    refine done_ (by kernel_rfl) ?_
    go_wp2
    refine bodyPost_ret (results_cell_row rfl _ _ (w.heap.size + 1) 109 #[.complex .f64 (floatOfInt .f64 A1) (floatOfInt .f64 A2), .complex .f64 (floatOfInt .f64 F1) (floatOfInt .f64 F2)] (0, 0) _ rfl (blk_put (cs := #[.complex .f64 (floatOfInt .f64 A1) (floatOfInt .f64 A2), .complex .f64 0 0]) (blk_put (cs := #[.complex .f64 0 0, .complex .f64 0 0]) HR.out 0 _ rfl) 1 _ rfl) Try.underlying109 rfl (by kernel_rfl)) rfl ?_
    exact ⟨_, _, _, _, rfl, HMV.out, below_set (below_set HB.out (by omega)) (by omega)⟩
  refine start_ (n := 11) (S := OfS w n x y) (ds := [9, 10]) #[false, false, false, false, false, false, false, false, false, false, false] (by kernel_rfl) rfl rfl (OfS.drew HS) (fun hHeld => ?_)
  clear HS
  generalize ((w.alloc (.cells #[.int .i64 n, .int .i64 x, .int .i64 y] 34)).alloc (.cells #[.complex .f64 0 0, .complex .f64 0 0] 109)).drew = w2 at hHeld ⊢
  refine pure_ (i := 0) (N := some 5) (v := ?_) (a' := ?_) #[true, false, false, false, false, false, false, false, false, false, false] rfl rfl (by kernel_rfl) (fun _ _ _ h => h) (Or.inl ⟨by rfl, ?_⟩) ?_ ?_
  rotate_left
  · intro w'
    go_simp
    with_reducible rfl
  rotate_left
  · simp only [Act.put, List.setIfInBounds_toArray, List.set_cons_zero, List.set_cons_succ]
    rfl
  refine pure_ (i := 1) (N := some 6) (v := ?_) (a' := ?_) #[true, true, false, false, false, false, false, false, false, false, false] rfl rfl (by kernel_rfl) (fun _ _ _ h => h) (Or.inl ⟨by rfl, ?_⟩) ?_ ?_
  rotate_left
  · intro w'
    go_simp
    with_reducible rfl
  rotate_left
  · simp only [Act.put, List.setIfInBounds_toArray, List.set_cons_zero, List.set_cons_succ]
    rfl
  refine take_ (i := 2) (N := some 7) (v := ?_) (a' := ?_) #[true, true, true, false, false, false, false, false, false, false, false] rfl rfl (by kernel_rfl) (fun _ _ _ h => h) (Or.inl ⟨by rfl, ?_⟩) hHeld ?_ ?_
  rotate_left
  · rintro w' ⟨_, _, _, k1, k2, k3⟩
    go_simp
    with_reducible rfl
  rotate_left
  · simp only [Act.put, List.setIfInBounds_toArray, List.set_cons_zero, List.set_cons_succ]
    rfl
  refine pure_ (i := 4) (N := some 9) (v := ?_) (a' := ?_) #[true, true, true, false, true, false, false, false, false, false, false] rfl rfl (by kernel_rfl) (fun _ _ _ h => h) (Or.inl ⟨by rfl, ?_⟩) ?_ ?_
  rotate_left
  · intro w'
    go_simp
    with_reducible rfl
  rotate_left
  · simp only [Act.put, List.setIfInBounds_toArray, List.set_cons_zero, List.set_cons_succ]
    rfl
  refine take_ (i := 5) (N := some 10) (v := ?_) (a' := ?_) #[true, true, true, false, true, true, false, false, false, false, false] rfl rfl (by kernel_rfl) (fun _ _ _ h => h) (Or.inl ⟨by rfl, ?_⟩) hHeld ?_ ?_
  rotate_left
  · rintro w' ⟨_, _, _, k1, k2, k3⟩
    go_simp
    with_reducible rfl
  rotate_left
  · simp only [Act.put, List.setIfInBounds_toArray, List.set_cons_zero, List.set_cons_succ]
    rfl
  refine three_ (i := 3) (j := 7) (k := 8) (Ni := some 8) (Nj := some 3) (Nk := some 4) #[true, true, true, true, true, true, false, false, false, false, false] #[true, true, true, false, true, true, false, true, false, false, false] #[true, true, true, false, true, true, false, false, true, false, false] rfl rfl rfl rfl rfl rfl (by kernel_rfl) (by decide) (by decide) (by decide) (fun K_ hK => ?_) (fun K_ hK => ?_) (fun K_ hK => ?_)
  · skip
    refine goes_ Try.func93 (by kernel_rfl) rfl #[.agg #[.int .i64 1, .int .i64 0], .int .i64 n] (by rfl) rfl rfl (by (try simp only [List.map_toArray, List.map_cons, List.map_nil]); first | done | rfl) ?_
    with_reducible refine ((HT _).out).mono ?_
    rintro e w2 ⟨rfl, hb⟩
    refine ⟨_, rfl, ?_⟩
    refine hK.out _ _ (OfS.keep hHeld hb) (fun hHeld => ?_)
    clear hK hb
    refine norm_ (a' := ?_) ?_ ?_
    rotate_left
    · show Act.put _ (some 8) _ = _
      simp only [Act.put, List.setIfInBounds_toArray, List.set_cons_zero, List.set_cons_succ]
      rfl
    refine three_ (i := 6) (j := 7) (k := 8) (Ni := some 11) (Nj := some 3) (Nk := some 4) #[true, true, true, true, true, true, true, false, false, false, false] #[true, true, true, true, true, true, false, true, false, false, false] #[true, true, true, true, true, true, false, false, true, false, false] rfl rfl rfl rfl rfl rfl (by kernel_rfl) (by decide) (by decide) (by decide) (fun K_ hK => ?_) (fun K_ hK => ?_) (fun K_ hK => ?_)
    · skip
      refine goes_ Try.func53 (by kernel_rfl) rfl #[.agg #[.int .i64 x, .int .i64 y]] (by rfl) rfl rfl (by (try simp only [List.map_toArray, List.map_cons, List.map_nil]); first | done | rfl) ?_
      with_reducible refine ((HF _).out).mono ?_
      rintro e w2 ⟨rfl, hb⟩
      refine ⟨_, rfl, ?_⟩
      refine hK.out _ _ (OfS.keep hHeld hb) (fun hHeld => ?_)
      clear hK hb
      refine norm_ (a' := ?_) ?_ ?_
      rotate_left
      · show Act.put _ (some 11) _ = _
        simp only [Act.put, List.setIfInBounds_toArray, List.set_cons_zero, List.set_cons_succ]
        rfl
      refine two_ (i := 7) (j := 8) (Ni := some 3) (Nj := some 4) #[true, true, true, true, true, true, true, true, false, false, false] #[true, true, true, true, true, true, true, false, true, false, false] rfl rfl rfl rfl (by kernel_rfl) (by decide) (by decide) (fun K_ hK => ?_) (fun K_ hK => ?_)
      · skip
        have p7 := lt_of_blk hHeld.2.1.out
        rw [if_pos (by rfl)]
        go_wp2
        refine hK.out _ _ (OfS.keep hHeld (below_alloc (Below.refl _ _) _)) (fun hHeld => ?_)
        clear hK
        have h7 := new_of hHeld
        generalize World.alloc w2 (.cells #[.int .i64 0, .int .i64 0] 24) = w2 at hHeld h7 ⊢
        refine one_ (i := 8) (N := some 4) #[true, true, true, true, true, true, true, true, true, false, false] rfl rfl (by kernel_rfl) (by decide) (fun K_ hK => ?_)
        have p8 := lt_of_blk hHeld.2.1.out
        rw [if_pos (by rfl)]
        go_wp2
        refine hK.out _ _ (OfS.keep hHeld (below_alloc (Below.refl _ _) _)) (fun hHeld => ?_)
        clear hK
        have q87 := lt_of_blk h7
        have h7 := keep_of h7 hHeld
        have h8 := new_of hHeld
        generalize World.alloc w2 (.cells #[.int .i64 0, .int .i64 0] 24) = w2 at hHeld h7 h8 ⊢
        have hne := ne_of_lt' q87
        have c0 := blk_cell h7 0
        have c1 := blk_cell h7 1
        have f0 := blk_frozen h7 0
        have f1 := blk_frozen h7 1
        refine last_ (i := 9) (N := none) #[true, true, true, true, true, true, true, true, true, true, false] rfl rfl (by kernel_rfl) (by decide) (fun K_ hK => ?_)
        rw [if_pos (by rfl)]
        go_wp2
        refine hK.out _ _ ?_
        clear hK c0 c1 f0 f1
        have h8' := far2 h8 hne (.int .i64 A1) (.int .i64 A2)
        have h7' := blk_put (cs := #[.int .i64 A1, .int .i64 0]) (cs' := #[.int .i64 A1, .int .i64 A2]) (blk_put (cs := #[.int .i64 0, .int .i64 0]) h7 0 (.int .i64 A1) rfl) 1 (.int .i64 A2) rfl
        have c0 := blk_cell h8' 0
        have c1 := blk_cell h8' 1
        have f0 := blk_frozen h8' 0
        have f1 := blk_frozen h8' 1
        refine last_ (i := 10) (N := none) #[true, true, true, true, true, true, true, true, true, true, true] rfl rfl (by kernel_rfl) (by decide) (fun K_ hK => ?_)
        rw [if_pos (by rfl)]
        go_wp2
        refine hK.out _ _ ?_
        refine done_ (by kernel_rfl) ?_
        have h7'' := far2 h7' (Ne.symm hne) (.int .i64 F1) (.int .i64 F2)
        have h8'' := blk_put (cs := #[.int .i64 F1, .int .i64 0]) (cs' := #[.int .i64 F1, .int .i64 F2]) (blk_put (cs := #[.int .i64 0, .int .i64 0]) h8' 0 (.int .i64 F1) rfl) 1 (.int .i64 F2) rfl
        have z := far2 (far2 hHeld.2.1.out (Nat.ne_of_lt p7).symm (.int .i64 A1) (.int .i64 A2)) (Nat.ne_of_lt p8).symm (.int .i64 F1) (.int .i64 F2)
        exact HK _ _ _ h7'' h8'' z (below_set (below_set (below_set (below_set hHeld.2.2.1.out (by omega)) (by omega)) (by omega)) (by omega))
      · skip
        have p8 := lt_of_blk hHeld.2.1.out
        rw [if_pos (by rfl)]
        go_wp2
        refine hK.out _ _ (OfS.keep hHeld (below_alloc (Below.refl _ _) _)) (fun hHeld => ?_)
        clear hK
        have h8 := new_of hHeld
        generalize World.alloc w2 (.cells #[.int .i64 0, .int .i64 0] 24) = w2 at hHeld h8 ⊢
        refine one_ (i := 7) (N := some 3) #[true, true, true, true, true, true, true, true, true, false, false] rfl rfl (by kernel_rfl) (by decide) (fun K_ hK => ?_)
        have p7 := lt_of_blk hHeld.2.1.out
        rw [if_pos (by rfl)]
        go_wp2
        refine hK.out _ _ (OfS.keep hHeld (below_alloc (Below.refl _ _) _)) (fun hHeld => ?_)
        clear hK
        have q78 := lt_of_blk h8
        have h8 := keep_of h8 hHeld
        have h7 := new_of hHeld
        generalize World.alloc w2 (.cells #[.int .i64 0, .int .i64 0] 24) = w2 at hHeld h8 h7 ⊢
        have hne := ne_of_lt' q78
        have c0 := blk_cell h7 0
        have c1 := blk_cell h7 1
        have f0 := blk_frozen h7 0
        have f1 := blk_frozen h7 1
        refine last_ (i := 9) (N := none) #[true, true, true, true, true, true, true, true, true, true, false] rfl rfl (by kernel_rfl) (by decide) (fun K_ hK => ?_)
        rw [if_pos (by rfl)]
        go_wp2
        refine hK.out _ _ ?_
        clear hK c0 c1 f0 f1
        have h8' := far2 h8 (Ne.symm hne) (.int .i64 A1) (.int .i64 A2)
        have h7' := blk_put (cs := #[.int .i64 A1, .int .i64 0]) (cs' := #[.int .i64 A1, .int .i64 A2]) (blk_put (cs := #[.int .i64 0, .int .i64 0]) h7 0 (.int .i64 A1) rfl) 1 (.int .i64 A2) rfl
        have c0 := blk_cell h8' 0
        have c1 := blk_cell h8' 1
        have f0 := blk_frozen h8' 0
        have f1 := blk_frozen h8' 1
        refine last_ (i := 10) (N := none) #[true, true, true, true, true, true, true, true, true, true, true] rfl rfl (by kernel_rfl) (by decide) (fun K_ hK => ?_)
        rw [if_pos (by rfl)]
        go_wp2
        refine hK.out _ _ ?_
        refine done_ (by kernel_rfl) ?_
        have h7'' := far2 h7' hne (.int .i64 F1) (.int .i64 F2)
        have h8'' := blk_put (cs := #[.int .i64 F1, .int .i64 0]) (cs' := #[.int .i64 F1, .int .i64 F2]) (blk_put (cs := #[.int .i64 0, .int .i64 0]) h8' 0 (.int .i64 F1) rfl) 1 (.int .i64 F2) rfl
        have z := far2 (far2 hHeld.2.1.out (Nat.ne_of_lt p7).symm (.int .i64 A1) (.int .i64 A2)) (Nat.ne_of_lt p8).symm (.int .i64 F1) (.int .i64 F2)
        exact HK _ _ _ h7'' h8'' z (below_set (below_set (below_set (below_set hHeld.2.2.1.out (by omega)) (by omega)) (by omega)) (by omega))
    · skip
      have p7 := lt_of_blk hHeld.2.1.out
      rw [if_pos (by rfl)]
      go_wp2
      refine hK.out _ _ (OfS.keep hHeld (below_alloc (Below.refl _ _) _)) (fun hHeld => ?_)
      clear hK
      have h7 := new_of hHeld
      generalize World.alloc w2 (.cells #[.int .i64 0, .int .i64 0] 24) = w2 at hHeld h7 ⊢
      refine two_ (i := 6) (j := 8) (Ni := some 11) (Nj := some 4) #[true, true, true, true, true, true, true, true, false, false, false] #[true, true, true, true, true, true, false, true, true, false, false] rfl rfl rfl rfl (by kernel_rfl) (by decide) (by decide) (fun K_ hK => ?_) (fun K_ hK => ?_)
      · skip
        refine goes_ Try.func53 (by kernel_rfl) rfl #[.agg #[.int .i64 x, .int .i64 y]] (by rfl) rfl rfl (by (try simp only [List.map_toArray, List.map_cons, List.map_nil]); first | done | rfl) ?_
        with_reducible refine ((HF _).out).mono ?_
        rintro e w2 ⟨rfl, hb⟩
        refine ⟨_, rfl, ?_⟩
        have h7 := blk_keep h7 hb
        refine hK.out _ _ (OfS.keep hHeld hb) (fun hHeld => ?_)
        clear hK hb
        refine norm_ (a' := ?_) ?_ ?_
        rotate_left
        · show Act.put _ (some 11) _ = _
          simp only [Act.put, List.setIfInBounds_toArray, List.set_cons_zero, List.set_cons_succ]
          rfl
        refine one_ (i := 8) (N := some 4) #[true, true, true, true, true, true, true, true, true, false, false] rfl rfl (by kernel_rfl) (by decide) (fun K_ hK => ?_)
        have p8 := lt_of_blk hHeld.2.1.out
        rw [if_pos (by rfl)]
        go_wp2
        refine hK.out _ _ (OfS.keep hHeld (below_alloc (Below.refl _ _) _)) (fun hHeld => ?_)
        clear hK
        have q87 := lt_of_blk h7
        have h7 := keep_of h7 hHeld
        have h8 := new_of hHeld
        generalize World.alloc w2 (.cells #[.int .i64 0, .int .i64 0] 24) = w2 at hHeld h7 h8 ⊢
        have hne := ne_of_lt' q87
        have c0 := blk_cell h7 0
        have c1 := blk_cell h7 1
        have f0 := blk_frozen h7 0
        have f1 := blk_frozen h7 1
        refine last_ (i := 9) (N := none) #[true, true, true, true, true, true, true, true, true, true, false] rfl rfl (by kernel_rfl) (by decide) (fun K_ hK => ?_)
        rw [if_pos (by rfl)]
        go_wp2
        refine hK.out _ _ ?_
        clear hK c0 c1 f0 f1
        have h8' := far2 h8 hne (.int .i64 A1) (.int .i64 A2)
        have h7' := blk_put (cs := #[.int .i64 A1, .int .i64 0]) (cs' := #[.int .i64 A1, .int .i64 A2]) (blk_put (cs := #[.int .i64 0, .int .i64 0]) h7 0 (.int .i64 A1) rfl) 1 (.int .i64 A2) rfl
        have c0 := blk_cell h8' 0
        have c1 := blk_cell h8' 1
        have f0 := blk_frozen h8' 0
        have f1 := blk_frozen h8' 1
        refine last_ (i := 10) (N := none) #[true, true, true, true, true, true, true, true, true, true, true] rfl rfl (by kernel_rfl) (by decide) (fun K_ hK => ?_)
        rw [if_pos (by rfl)]
        go_wp2
        refine hK.out _ _ ?_
        refine done_ (by kernel_rfl) ?_
        have h7'' := far2 h7' (Ne.symm hne) (.int .i64 F1) (.int .i64 F2)
        have h8'' := blk_put (cs := #[.int .i64 F1, .int .i64 0]) (cs' := #[.int .i64 F1, .int .i64 F2]) (blk_put (cs := #[.int .i64 0, .int .i64 0]) h8' 0 (.int .i64 F1) rfl) 1 (.int .i64 F2) rfl
        have z := far2 (far2 hHeld.2.1.out (Nat.ne_of_lt p7).symm (.int .i64 A1) (.int .i64 A2)) (Nat.ne_of_lt p8).symm (.int .i64 F1) (.int .i64 F2)
        exact HK _ _ _ h7'' h8'' z (below_set (below_set (below_set (below_set hHeld.2.2.1.out (by omega)) (by omega)) (by omega)) (by omega))
      · skip
        have p8 := lt_of_blk hHeld.2.1.out
        rw [if_pos (by rfl)]
        go_wp2
        refine hK.out _ _ (OfS.keep hHeld (below_alloc (Below.refl _ _) _)) (fun hHeld => ?_)
        clear hK
        have q87 := lt_of_blk h7
        have h7 := keep_of h7 hHeld
        have h8 := new_of hHeld
        generalize World.alloc w2 (.cells #[.int .i64 0, .int .i64 0] 24) = w2 at hHeld h7 h8 ⊢
        refine one_ (i := 6) (N := some 11) #[true, true, true, true, true, true, true, true, true, false, false] rfl rfl (by kernel_rfl) (by decide) (fun K_ hK => ?_)
        refine goes_ Try.func53 (by kernel_rfl) rfl #[.agg #[.int .i64 x, .int .i64 y]] (by rfl) rfl rfl (by (try simp only [List.map_toArray, List.map_cons, List.map_nil]); first | done | rfl) ?_
        with_reducible refine ((HF _).out).mono ?_
        rintro e w2 ⟨rfl, hb⟩
        refine ⟨_, rfl, ?_⟩
        have h7 := blk_keep h7 hb
        have h8 := blk_keep h8 hb
        refine hK.out _ _ (OfS.keep hHeld hb) (fun hHeld => ?_)
        clear hK hb
        refine norm_ (a' := ?_) ?_ ?_
        rotate_left
        · show Act.put _ (some 11) _ = _
          simp only [Act.put, List.setIfInBounds_toArray, List.set_cons_zero, List.set_cons_succ]
          rfl
        have hne := ne_of_lt' q87
        have c0 := blk_cell h7 0
        have c1 := blk_cell h7 1
        have f0 := blk_frozen h7 0
        have f1 := blk_frozen h7 1
        refine last_ (i := 9) (N := none) #[true, true, true, true, true, true, true, true, true, true, false] rfl rfl (by kernel_rfl) (by decide) (fun K_ hK => ?_)
        rw [if_pos (by rfl)]
        go_wp2
        refine hK.out _ _ ?_
        clear hK c0 c1 f0 f1
        have h8' := far2 h8 hne (.int .i64 A1) (.int .i64 A2)
        have h7' := blk_put (cs := #[.int .i64 A1, .int .i64 0]) (cs' := #[.int .i64 A1, .int .i64 A2]) (blk_put (cs := #[.int .i64 0, .int .i64 0]) h7 0 (.int .i64 A1) rfl) 1 (.int .i64 A2) rfl
        have c0 := blk_cell h8' 0
        have c1 := blk_cell h8' 1
        have f0 := blk_frozen h8' 0
        have f1 := blk_frozen h8' 1
        refine last_ (i := 10) (N := none) #[true, true, true, true, true, true, true, true, true, true, true] rfl rfl (by kernel_rfl) (by decide) (fun K_ hK => ?_)
        rw [if_pos (by rfl)]
        go_wp2
        refine hK.out _ _ ?_
        refine done_ (by kernel_rfl) ?_
        have h7'' := far2 h7' (Ne.symm hne) (.int .i64 F1) (.int .i64 F2)
        have h8'' := blk_put (cs := #[.int .i64 F1, .int .i64 0]) (cs' := #[.int .i64 F1, .int .i64 F2]) (blk_put (cs := #[.int .i64 0, .int .i64 0]) h8' 0 (.int .i64 F1) rfl) 1 (.int .i64 F2) rfl
        have z := far2 (far2 hHeld.2.1.out (Nat.ne_of_lt p7).symm (.int .i64 A1) (.int .i64 A2)) (Nat.ne_of_lt p8).symm (.int .i64 F1) (.int .i64 F2)
        exact HK _ _ _ h7'' h8'' z (below_set (below_set (below_set (below_set hHeld.2.2.1.out (by omega)) (by omega)) (by omega)) (by omega))
    · skip
      have p8 := lt_of_blk hHeld.2.1.out
      rw [if_pos (by rfl)]
      go_wp2
      refine hK.out _ _ (OfS.keep hHeld (below_alloc (Below.refl _ _) _)) (fun hHeld => ?_)
      clear hK
      have h8 := new_of hHeld
      generalize World.alloc w2 (.cells #[.int .i64 0, .int .i64 0] 24) = w2 at hHeld h8 ⊢
      refine two_ (i := 6) (j := 7) (Ni := some 11) (Nj := some 3) #[true, true, true, true, true, true, true, false, true, false, false] #[true, true, true, true, true, true, false, true, true, false, false] rfl rfl rfl rfl (by kernel_rfl) (by decide) (by decide) (fun K_ hK => ?_) (fun K_ hK => ?_)
      · skip
        refine goes_ Try.func53 (by kernel_rfl) rfl #[.agg #[.int .i64 x, .int .i64 y]] (by rfl) rfl rfl (by (try simp only [List.map_toArray, List.map_cons, List.map_nil]); first | done | rfl) ?_
        with_reducible refine ((HF _).out).mono ?_
        rintro e w2 ⟨rfl, hb⟩
        refine ⟨_, rfl, ?_⟩
        have h8 := blk_keep h8 hb
        refine hK.out _ _ (OfS.keep hHeld hb) (fun hHeld => ?_)
        clear hK hb
        refine norm_ (a' := ?_) ?_ ?_
        rotate_left
        · show Act.put _ (some 11) _ = _
          simp only [Act.put, List.setIfInBounds_toArray, List.set_cons_zero, List.set_cons_succ]
          rfl
        refine one_ (i := 7) (N := some 3) #[true, true, true, true, true, true, true, true, true, false, false] rfl rfl (by kernel_rfl) (by decide) (fun K_ hK => ?_)
        have p7 := lt_of_blk hHeld.2.1.out
        rw [if_pos (by rfl)]
        go_wp2
        refine hK.out _ _ (OfS.keep hHeld (below_alloc (Below.refl _ _) _)) (fun hHeld => ?_)
        clear hK
        have q78 := lt_of_blk h8
        have h8 := keep_of h8 hHeld
        have h7 := new_of hHeld
        generalize World.alloc w2 (.cells #[.int .i64 0, .int .i64 0] 24) = w2 at hHeld h8 h7 ⊢
        have hne := ne_of_lt' q78
        have c0 := blk_cell h7 0
        have c1 := blk_cell h7 1
        have f0 := blk_frozen h7 0
        have f1 := blk_frozen h7 1
        refine last_ (i := 9) (N := none) #[true, true, true, true, true, true, true, true, true, true, false] rfl rfl (by kernel_rfl) (by decide) (fun K_ hK => ?_)
        rw [if_pos (by rfl)]
        go_wp2
        refine hK.out _ _ ?_
        clear hK c0 c1 f0 f1
        have h8' := far2 h8 (Ne.symm hne) (.int .i64 A1) (.int .i64 A2)
        have h7' := blk_put (cs := #[.int .i64 A1, .int .i64 0]) (cs' := #[.int .i64 A1, .int .i64 A2]) (blk_put (cs := #[.int .i64 0, .int .i64 0]) h7 0 (.int .i64 A1) rfl) 1 (.int .i64 A2) rfl
        have c0 := blk_cell h8' 0
        have c1 := blk_cell h8' 1
        have f0 := blk_frozen h8' 0
        have f1 := blk_frozen h8' 1
        refine last_ (i := 10) (N := none) #[true, true, true, true, true, true, true, true, true, true, true] rfl rfl (by kernel_rfl) (by decide) (fun K_ hK => ?_)
        rw [if_pos (by rfl)]
        go_wp2
        refine hK.out _ _ ?_
        refine done_ (by kernel_rfl) ?_
        have h7'' := far2 h7' hne (.int .i64 F1) (.int .i64 F2)
        have h8'' := blk_put (cs := #[.int .i64 F1, .int .i64 0]) (cs' := #[.int .i64 F1, .int .i64 F2]) (blk_put (cs := #[.int .i64 0, .int .i64 0]) h8' 0 (.int .i64 F1) rfl) 1 (.int .i64 F2) rfl
        have z := far2 (far2 hHeld.2.1.out (Nat.ne_of_lt p7).symm (.int .i64 A1) (.int .i64 A2)) (Nat.ne_of_lt p8).symm (.int .i64 F1) (.int .i64 F2)
        exact HK _ _ _ h7'' h8'' z (below_set (below_set (below_set (below_set hHeld.2.2.1.out (by omega)) (by omega)) (by omega)) (by omega))
      · skip
        have p7 := lt_of_blk hHeld.2.1.out
        rw [if_pos (by rfl)]
        go_wp2
        refine hK.out _ _ (OfS.keep hHeld (below_alloc (Below.refl _ _) _)) (fun hHeld => ?_)
        clear hK
        have q78 := lt_of_blk h8
        have h8 := keep_of h8 hHeld
        have h7 := new_of hHeld
        generalize World.alloc w2 (.cells #[.int .i64 0, .int .i64 0] 24) = w2 at hHeld h8 h7 ⊢
        refine one_ (i := 6) (N := some 11) #[true, true, true, true, true, true, true, true, true, false, false] rfl rfl (by kernel_rfl) (by decide) (fun K_ hK => ?_)
        refine goes_ Try.func53 (by kernel_rfl) rfl #[.agg #[.int .i64 x, .int .i64 y]] (by rfl) rfl rfl (by (try simp only [List.map_toArray, List.map_cons, List.map_nil]); first | done | rfl) ?_
        with_reducible refine ((HF _).out).mono ?_
        rintro e w2 ⟨rfl, hb⟩
        refine ⟨_, rfl, ?_⟩
        have h8 := blk_keep h8 hb
        have h7 := blk_keep h7 hb
        refine hK.out _ _ (OfS.keep hHeld hb) (fun hHeld => ?_)
        clear hK hb
        refine norm_ (a' := ?_) ?_ ?_
        rotate_left
        · show Act.put _ (some 11) _ = _
          simp only [Act.put, List.setIfInBounds_toArray, List.set_cons_zero, List.set_cons_succ]
          rfl
        have hne := ne_of_lt' q78
        have c0 := blk_cell h7 0
        have c1 := blk_cell h7 1
        have f0 := blk_frozen h7 0
        have f1 := blk_frozen h7 1
        refine last_ (i := 9) (N := none) #[true, true, true, true, true, true, true, true, true, true, false] rfl rfl (by kernel_rfl) (by decide) (fun K_ hK => ?_)
        rw [if_pos (by rfl)]
        go_wp2
        refine hK.out _ _ ?_
        clear hK c0 c1 f0 f1
        have h8' := far2 h8 (Ne.symm hne) (.int .i64 A1) (.int .i64 A2)
        have h7' := blk_put (cs := #[.int .i64 A1, .int .i64 0]) (cs' := #[.int .i64 A1, .int .i64 A2]) (blk_put (cs := #[.int .i64 0, .int .i64 0]) h7 0 (.int .i64 A1) rfl) 1 (.int .i64 A2) rfl
        have c0 := blk_cell h8' 0
        have c1 := blk_cell h8' 1
        have f0 := blk_frozen h8' 0
        have f1 := blk_frozen h8' 1
        refine last_ (i := 10) (N := none) #[true, true, true, true, true, true, true, true, true, true, true] rfl rfl (by kernel_rfl) (by decide) (fun K_ hK => ?_)
        rw [if_pos (by rfl)]
        go_wp2
        refine hK.out _ _ ?_
        refine done_ (by kernel_rfl) ?_
        have h7'' := far2 h7' hne (.int .i64 F1) (.int .i64 F2)
        have h8'' := blk_put (cs := #[.int .i64 F1, .int .i64 0]) (cs' := #[.int .i64 F1, .int .i64 F2]) (blk_put (cs := #[.int .i64 0, .int .i64 0]) h8' 0 (.int .i64 F1) rfl) 1 (.int .i64 F2) rfl
        have z := far2 (far2 hHeld.2.1.out (Nat.ne_of_lt p7).symm (.int .i64 A1) (.int .i64 A2)) (Nat.ne_of_lt p8).symm (.int .i64 F1) (.int .i64 F2)
        exact HK _ _ _ h7'' h8'' z (below_set (below_set (below_set (below_set hHeld.2.2.1.out (by omega)) (by omega)) (by omega)) (by omega))
  · skip
    have p7 := lt_of_blk hHeld.2.1.out
    rw [if_pos (by rfl)]
    go_wp2
    refine hK.out _ _ (OfS.keep hHeld (below_alloc (Below.refl _ _) _)) (fun hHeld => ?_)
    clear hK
    have h7 := new_of hHeld
    generalize World.alloc w2 (.cells #[.int .i64 0, .int .i64 0] 24) = w2 at hHeld h7 ⊢
    refine two_ (i := 3) (j := 8) (Ni := some 8) (Nj := some 4) #[true, true, true, true, true, true, false, true, false, false, false] #[true, true, true, false, true, true, false, true, true, false, false] rfl rfl rfl rfl (by kernel_rfl) (by decide) (by decide) (fun K_ hK => ?_) (fun K_ hK => ?_)
    · skip
      refine goes_ Try.func93 (by kernel_rfl) rfl #[.agg #[.int .i64 1, .int .i64 0], .int .i64 n] (by rfl) rfl rfl (by (try simp only [List.map_toArray, List.map_cons, List.map_nil]); first | done | rfl) ?_
      with_reducible refine ((HT _).out).mono ?_
      rintro e w2 ⟨rfl, hb⟩
      refine ⟨_, rfl, ?_⟩
      have h7 := blk_keep h7 hb
      refine hK.out _ _ (OfS.keep hHeld hb) (fun hHeld => ?_)
      clear hK hb
      refine norm_ (a' := ?_) ?_ ?_
      rotate_left
      · show Act.put _ (some 8) _ = _
        simp only [Act.put, List.setIfInBounds_toArray, List.set_cons_zero, List.set_cons_succ]
        rfl
      refine two_ (i := 6) (j := 8) (Ni := some 11) (Nj := some 4) #[true, true, true, true, true, true, true, true, false, false, false] #[true, true, true, true, true, true, false, true, true, false, false] rfl rfl rfl rfl (by kernel_rfl) (by decide) (by decide) (fun K_ hK => ?_) (fun K_ hK => ?_)
      · skip
        refine goes_ Try.func53 (by kernel_rfl) rfl #[.agg #[.int .i64 x, .int .i64 y]] (by rfl) rfl rfl (by (try simp only [List.map_toArray, List.map_cons, List.map_nil]); first | done | rfl) ?_
        with_reducible refine ((HF _).out).mono ?_
        rintro e w2 ⟨rfl, hb⟩
        refine ⟨_, rfl, ?_⟩
        have h7 := blk_keep h7 hb
        refine hK.out _ _ (OfS.keep hHeld hb) (fun hHeld => ?_)
        clear hK hb
        refine norm_ (a' := ?_) ?_ ?_
        rotate_left
        · show Act.put _ (some 11) _ = _
          simp only [Act.put, List.setIfInBounds_toArray, List.set_cons_zero, List.set_cons_succ]
          rfl
        refine one_ (i := 8) (N := some 4) #[true, true, true, true, true, true, true, true, true, false, false] rfl rfl (by kernel_rfl) (by decide) (fun K_ hK => ?_)
        have p8 := lt_of_blk hHeld.2.1.out
        rw [if_pos (by rfl)]
        go_wp2
        refine hK.out _ _ (OfS.keep hHeld (below_alloc (Below.refl _ _) _)) (fun hHeld => ?_)
        clear hK
        have q87 := lt_of_blk h7
        have h7 := keep_of h7 hHeld
        have h8 := new_of hHeld
        generalize World.alloc w2 (.cells #[.int .i64 0, .int .i64 0] 24) = w2 at hHeld h7 h8 ⊢
        have hne := ne_of_lt' q87
        have c0 := blk_cell h7 0
        have c1 := blk_cell h7 1
        have f0 := blk_frozen h7 0
        have f1 := blk_frozen h7 1
        refine last_ (i := 9) (N := none) #[true, true, true, true, true, true, true, true, true, true, false] rfl rfl (by kernel_rfl) (by decide) (fun K_ hK => ?_)
        rw [if_pos (by rfl)]
        go_wp2
        refine hK.out _ _ ?_
        clear hK c0 c1 f0 f1
        have h8' := far2 h8 hne (.int .i64 A1) (.int .i64 A2)
        have h7' := blk_put (cs := #[.int .i64 A1, .int .i64 0]) (cs' := #[.int .i64 A1, .int .i64 A2]) (blk_put (cs := #[.int .i64 0, .int .i64 0]) h7 0 (.int .i64 A1) rfl) 1 (.int .i64 A2) rfl
        have c0 := blk_cell h8' 0
        have c1 := blk_cell h8' 1
        have f0 := blk_frozen h8' 0
        have f1 := blk_frozen h8' 1
        refine last_ (i := 10) (N := none) #[true, true, true, true, true, true, true, true, true, true, true] rfl rfl (by kernel_rfl) (by decide) (fun K_ hK => ?_)
        rw [if_pos (by rfl)]
        go_wp2
        refine hK.out _ _ ?_
        refine done_ (by kernel_rfl) ?_
        have h7'' := far2 h7' (Ne.symm hne) (.int .i64 F1) (.int .i64 F2)
        have h8'' := blk_put (cs := #[.int .i64 F1, .int .i64 0]) (cs' := #[.int .i64 F1, .int .i64 F2]) (blk_put (cs := #[.int .i64 0, .int .i64 0]) h8' 0 (.int .i64 F1) rfl) 1 (.int .i64 F2) rfl
        have z := far2 (far2 hHeld.2.1.out (Nat.ne_of_lt p7).symm (.int .i64 A1) (.int .i64 A2)) (Nat.ne_of_lt p8).symm (.int .i64 F1) (.int .i64 F2)
        exact HK _ _ _ h7'' h8'' z (below_set (below_set (below_set (below_set hHeld.2.2.1.out (by omega)) (by omega)) (by omega)) (by omega))
      · skip
        have p8 := lt_of_blk hHeld.2.1.out
        rw [if_pos (by rfl)]
        go_wp2
        refine hK.out _ _ (OfS.keep hHeld (below_alloc (Below.refl _ _) _)) (fun hHeld => ?_)
        clear hK
        have q87 := lt_of_blk h7
        have h7 := keep_of h7 hHeld
        have h8 := new_of hHeld
        generalize World.alloc w2 (.cells #[.int .i64 0, .int .i64 0] 24) = w2 at hHeld h7 h8 ⊢
        refine one_ (i := 6) (N := some 11) #[true, true, true, true, true, true, true, true, true, false, false] rfl rfl (by kernel_rfl) (by decide) (fun K_ hK => ?_)
        refine goes_ Try.func53 (by kernel_rfl) rfl #[.agg #[.int .i64 x, .int .i64 y]] (by rfl) rfl rfl (by (try simp only [List.map_toArray, List.map_cons, List.map_nil]); first | done | rfl) ?_
        with_reducible refine ((HF _).out).mono ?_
        rintro e w2 ⟨rfl, hb⟩
        refine ⟨_, rfl, ?_⟩
        have h7 := blk_keep h7 hb
        have h8 := blk_keep h8 hb
        refine hK.out _ _ (OfS.keep hHeld hb) (fun hHeld => ?_)
        clear hK hb
        refine norm_ (a' := ?_) ?_ ?_
        rotate_left
        · show Act.put _ (some 11) _ = _
          simp only [Act.put, List.setIfInBounds_toArray, List.set_cons_zero, List.set_cons_succ]
          rfl
        have hne := ne_of_lt' q87
        have c0 := blk_cell h7 0
        have c1 := blk_cell h7 1
        have f0 := blk_frozen h7 0
        have f1 := blk_frozen h7 1
        refine last_ (i := 9) (N := none) #[true, true, true, true, true, true, true, true, true, true, false] rfl rfl (by kernel_rfl) (by decide) (fun K_ hK => ?_)
        rw [if_pos (by rfl)]
        go_wp2
        refine hK.out _ _ ?_
        clear hK c0 c1 f0 f1
        have h8' := far2 h8 hne (.int .i64 A1) (.int .i64 A2)
        have h7' := blk_put (cs := #[.int .i64 A1, .int .i64 0]) (cs' := #[.int .i64 A1, .int .i64 A2]) (blk_put (cs := #[.int .i64 0, .int .i64 0]) h7 0 (.int .i64 A1) rfl) 1 (.int .i64 A2) rfl
        have c0 := blk_cell h8' 0
        have c1 := blk_cell h8' 1
        have f0 := blk_frozen h8' 0
        have f1 := blk_frozen h8' 1
        refine last_ (i := 10) (N := none) #[true, true, true, true, true, true, true, true, true, true, true] rfl rfl (by kernel_rfl) (by decide) (fun K_ hK => ?_)
        rw [if_pos (by rfl)]
        go_wp2
        refine hK.out _ _ ?_
        refine done_ (by kernel_rfl) ?_
        have h7'' := far2 h7' (Ne.symm hne) (.int .i64 F1) (.int .i64 F2)
        have h8'' := blk_put (cs := #[.int .i64 F1, .int .i64 0]) (cs' := #[.int .i64 F1, .int .i64 F2]) (blk_put (cs := #[.int .i64 0, .int .i64 0]) h8' 0 (.int .i64 F1) rfl) 1 (.int .i64 F2) rfl
        have z := far2 (far2 hHeld.2.1.out (Nat.ne_of_lt p7).symm (.int .i64 A1) (.int .i64 A2)) (Nat.ne_of_lt p8).symm (.int .i64 F1) (.int .i64 F2)
        exact HK _ _ _ h7'' h8'' z (below_set (below_set (below_set (below_set hHeld.2.2.1.out (by omega)) (by omega)) (by omega)) (by omega))
    · skip
      have p8 := lt_of_blk hHeld.2.1.out
      rw [if_pos (by rfl)]
      go_wp2
      refine hK.out _ _ (OfS.keep hHeld (below_alloc (Below.refl _ _) _)) (fun hHeld => ?_)
      clear hK
      have q87 := lt_of_blk h7
      have h7 := keep_of h7 hHeld
      have h8 := new_of hHeld
      generalize World.alloc w2 (.cells #[.int .i64 0, .int .i64 0] 24) = w2 at hHeld h7 h8 ⊢
      refine one_ (i := 3) (N := some 8) #[true, true, true, true, true, true, false, true, true, false, false] rfl rfl (by kernel_rfl) (by decide) (fun K_ hK => ?_)
      refine goes_ Try.func93 (by kernel_rfl) rfl #[.agg #[.int .i64 1, .int .i64 0], .int .i64 n] (by rfl) rfl rfl (by (try simp only [List.map_toArray, List.map_cons, List.map_nil]); first | done | rfl) ?_
      with_reducible refine ((HT _).out).mono ?_
      rintro e w2 ⟨rfl, hb⟩
      refine ⟨_, rfl, ?_⟩
      have h7 := blk_keep h7 hb
      have h8 := blk_keep h8 hb
      refine hK.out _ _ (OfS.keep hHeld hb) (fun hHeld => ?_)
      clear hK hb
      refine norm_ (a' := ?_) ?_ ?_
      rotate_left
      · show Act.put _ (some 8) _ = _
        simp only [Act.put, List.setIfInBounds_toArray, List.set_cons_zero, List.set_cons_succ]
        rfl
      refine one_ (i := 6) (N := some 11) #[true, true, true, true, true, true, true, true, true, false, false] rfl rfl (by kernel_rfl) (by decide) (fun K_ hK => ?_)
      refine goes_ Try.func53 (by kernel_rfl) rfl #[.agg #[.int .i64 x, .int .i64 y]] (by rfl) rfl rfl (by (try simp only [List.map_toArray, List.map_cons, List.map_nil]); first | done | rfl) ?_
      with_reducible refine ((HF _).out).mono ?_
      rintro e w2 ⟨rfl, hb⟩
      refine ⟨_, rfl, ?_⟩
      have h7 := blk_keep h7 hb
      have h8 := blk_keep h8 hb
      refine hK.out _ _ (OfS.keep hHeld hb) (fun hHeld => ?_)
      clear hK hb
      refine norm_ (a' := ?_) ?_ ?_
      rotate_left
      · show Act.put _ (some 11) _ = _
        simp only [Act.put, List.setIfInBounds_toArray, List.set_cons_zero, List.set_cons_succ]
        rfl
      have hne := ne_of_lt' q87
      have c0 := blk_cell h7 0
      have c1 := blk_cell h7 1
      have f0 := blk_frozen h7 0
      have f1 := blk_frozen h7 1
      refine last_ (i := 9) (N := none) #[true, true, true, true, true, true, true, true, true, true, false] rfl rfl (by kernel_rfl) (by decide) (fun K_ hK => ?_)
      rw [if_pos (by rfl)]
      go_wp2
      refine hK.out _ _ ?_
      clear hK c0 c1 f0 f1
      have h8' := far2 h8 hne (.int .i64 A1) (.int .i64 A2)
      have h7' := blk_put (cs := #[.int .i64 A1, .int .i64 0]) (cs' := #[.int .i64 A1, .int .i64 A2]) (blk_put (cs := #[.int .i64 0, .int .i64 0]) h7 0 (.int .i64 A1) rfl) 1 (.int .i64 A2) rfl
      have c0 := blk_cell h8' 0
      have c1 := blk_cell h8' 1
      have f0 := blk_frozen h8' 0
      have f1 := blk_frozen h8' 1
      refine last_ (i := 10) (N := none) #[true, true, true, true, true, true, true, true, true, true, true] rfl rfl (by kernel_rfl) (by decide) (fun K_ hK => ?_)
      rw [if_pos (by rfl)]
      go_wp2
      refine hK.out _ _ ?_
      refine done_ (by kernel_rfl) ?_
      have h7'' := far2 h7' (Ne.symm hne) (.int .i64 F1) (.int .i64 F2)
      have h8'' := blk_put (cs := #[.int .i64 F1, .int .i64 0]) (cs' := #[.int .i64 F1, .int .i64 F2]) (blk_put (cs := #[.int .i64 0, .int .i64 0]) h8' 0 (.int .i64 F1) rfl) 1 (.int .i64 F2) rfl
      have z := far2 (far2 hHeld.2.1.out (Nat.ne_of_lt p7).symm (.int .i64 A1) (.int .i64 A2)) (Nat.ne_of_lt p8).symm (.int .i64 F1) (.int .i64 F2)
      exact HK _ _ _ h7'' h8'' z (below_set (below_set (below_set (below_set hHeld.2.2.1.out (by omega)) (by omega)) (by omega)) (by omega))
  · skip
    have p8 := lt_of_blk hHeld.2.1.out
    rw [if_pos (by rfl)]
    go_wp2
    refine hK.out _ _ (OfS.keep hHeld (below_alloc (Below.refl _ _) _)) (fun hHeld => ?_)
    clear hK
    have h8 := new_of hHeld
    generalize World.alloc w2 (.cells #[.int .i64 0, .int .i64 0] 24) = w2 at hHeld h8 ⊢
    refine two_ (i := 3) (j := 7) (Ni := some 8) (Nj := some 3) #[true, true, true, true, true, true, false, false, true, false, false] #[true, true, true, false, true, true, false, true, true, false, false] rfl rfl rfl rfl (by kernel_rfl) (by decide) (by decide) (fun K_ hK => ?_) (fun K_ hK => ?_)
    · skip
      refine goes_ Try.func93 (by kernel_rfl) rfl #[.agg #[.int .i64 1, .int .i64 0], .int .i64 n] (by rfl) rfl rfl (by (try simp only [List.map_toArray, List.map_cons, List.map_nil]); first | done | rfl) ?_
      with_reducible refine ((HT _).out).mono ?_
      rintro e w2 ⟨rfl, hb⟩
      refine ⟨_, rfl, ?_⟩
      have h8 := blk_keep h8 hb
      refine hK.out _ _ (OfS.keep hHeld hb) (fun hHeld => ?_)
      clear hK hb
      refine norm_ (a' := ?_) ?_ ?_
      rotate_left
      · show Act.put _ (some 8) _ = _
        simp only [Act.put, List.setIfInBounds_toArray, List.set_cons_zero, List.set_cons_succ]
        rfl
      refine two_ (i := 6) (j := 7) (Ni := some 11) (Nj := some 3) #[true, true, true, true, true, true, true, false, true, false, false] #[true, true, true, true, true, true, false, true, true, false, false] rfl rfl rfl rfl (by kernel_rfl) (by decide) (by decide) (fun K_ hK => ?_) (fun K_ hK => ?_)
      · skip
        refine goes_ Try.func53 (by kernel_rfl) rfl #[.agg #[.int .i64 x, .int .i64 y]] (by rfl) rfl rfl (by (try simp only [List.map_toArray, List.map_cons, List.map_nil]); first | done | rfl) ?_
        with_reducible refine ((HF _).out).mono ?_
        rintro e w2 ⟨rfl, hb⟩
        refine ⟨_, rfl, ?_⟩
        have h8 := blk_keep h8 hb
        refine hK.out _ _ (OfS.keep hHeld hb) (fun hHeld => ?_)
        clear hK hb
        refine norm_ (a' := ?_) ?_ ?_
        rotate_left
        · show Act.put _ (some 11) _ = _
          simp only [Act.put, List.setIfInBounds_toArray, List.set_cons_zero, List.set_cons_succ]
          rfl
        refine one_ (i := 7) (N := some 3) #[true, true, true, true, true, true, true, true, true, false, false] rfl rfl (by kernel_rfl) (by decide) (fun K_ hK => ?_)
        have p7 := lt_of_blk hHeld.2.1.out
        rw [if_pos (by rfl)]
        go_wp2
        refine hK.out _ _ (OfS.keep hHeld (below_alloc (Below.refl _ _) _)) (fun hHeld => ?_)
        clear hK
        have q78 := lt_of_blk h8
        have h8 := keep_of h8 hHeld
        have h7 := new_of hHeld
        generalize World.alloc w2 (.cells #[.int .i64 0, .int .i64 0] 24) = w2 at hHeld h8 h7 ⊢
        have hne := ne_of_lt' q78
        have c0 := blk_cell h7 0
        have c1 := blk_cell h7 1
        have f0 := blk_frozen h7 0
        have f1 := blk_frozen h7 1
        refine last_ (i := 9) (N := none) #[true, true, true, true, true, true, true, true, true, true, false] rfl rfl (by kernel_rfl) (by decide) (fun K_ hK => ?_)
        rw [if_pos (by rfl)]
        go_wp2
        refine hK.out _ _ ?_
        clear hK c0 c1 f0 f1
        have h8' := far2 h8 (Ne.symm hne) (.int .i64 A1) (.int .i64 A2)
        have h7' := blk_put (cs := #[.int .i64 A1, .int .i64 0]) (cs' := #[.int .i64 A1, .int .i64 A2]) (blk_put (cs := #[.int .i64 0, .int .i64 0]) h7 0 (.int .i64 A1) rfl) 1 (.int .i64 A2) rfl
        have c0 := blk_cell h8' 0
        have c1 := blk_cell h8' 1
        have f0 := blk_frozen h8' 0
        have f1 := blk_frozen h8' 1
        refine last_ (i := 10) (N := none) #[true, true, true, true, true, true, true, true, true, true, true] rfl rfl (by kernel_rfl) (by decide) (fun K_ hK => ?_)
        rw [if_pos (by rfl)]
        go_wp2
        refine hK.out _ _ ?_
        refine done_ (by kernel_rfl) ?_
        have h7'' := far2 h7' hne (.int .i64 F1) (.int .i64 F2)
        have h8'' := blk_put (cs := #[.int .i64 F1, .int .i64 0]) (cs' := #[.int .i64 F1, .int .i64 F2]) (blk_put (cs := #[.int .i64 0, .int .i64 0]) h8' 0 (.int .i64 F1) rfl) 1 (.int .i64 F2) rfl
        have z := far2 (far2 hHeld.2.1.out (Nat.ne_of_lt p7).symm (.int .i64 A1) (.int .i64 A2)) (Nat.ne_of_lt p8).symm (.int .i64 F1) (.int .i64 F2)
        exact HK _ _ _ h7'' h8'' z (below_set (below_set (below_set (below_set hHeld.2.2.1.out (by omega)) (by omega)) (by omega)) (by omega))
      · skip
        have p7 := lt_of_blk hHeld.2.1.out
        rw [if_pos (by rfl)]
        go_wp2
        refine hK.out _ _ (OfS.keep hHeld (below_alloc (Below.refl _ _) _)) (fun hHeld => ?_)
        clear hK
        have q78 := lt_of_blk h8
        have h8 := keep_of h8 hHeld
        have h7 := new_of hHeld
        generalize World.alloc w2 (.cells #[.int .i64 0, .int .i64 0] 24) = w2 at hHeld h8 h7 ⊢
        refine one_ (i := 6) (N := some 11) #[true, true, true, true, true, true, true, true, true, false, false] rfl rfl (by kernel_rfl) (by decide) (fun K_ hK => ?_)
        refine goes_ Try.func53 (by kernel_rfl) rfl #[.agg #[.int .i64 x, .int .i64 y]] (by rfl) rfl rfl (by (try simp only [List.map_toArray, List.map_cons, List.map_nil]); first | done | rfl) ?_
        with_reducible refine ((HF _).out).mono ?_
        rintro e w2 ⟨rfl, hb⟩
        refine ⟨_, rfl, ?_⟩
        have h8 := blk_keep h8 hb
        have h7 := blk_keep h7 hb
        refine hK.out _ _ (OfS.keep hHeld hb) (fun hHeld => ?_)
        clear hK hb
        refine norm_ (a' := ?_) ?_ ?_
        rotate_left
        · show Act.put _ (some 11) _ = _
          simp only [Act.put, List.setIfInBounds_toArray, List.set_cons_zero, List.set_cons_succ]
          rfl
        have hne := ne_of_lt' q78
        have c0 := blk_cell h7 0
        have c1 := blk_cell h7 1
        have f0 := blk_frozen h7 0
        have f1 := blk_frozen h7 1
        refine last_ (i := 9) (N := none) #[true, true, true, true, true, true, true, true, true, true, false] rfl rfl (by kernel_rfl) (by decide) (fun K_ hK => ?_)
        rw [if_pos (by rfl)]
        go_wp2
        refine hK.out _ _ ?_
        clear hK c0 c1 f0 f1
        have h8' := far2 h8 (Ne.symm hne) (.int .i64 A1) (.int .i64 A2)
        have h7' := blk_put (cs := #[.int .i64 A1, .int .i64 0]) (cs' := #[.int .i64 A1, .int .i64 A2]) (blk_put (cs := #[.int .i64 0, .int .i64 0]) h7 0 (.int .i64 A1) rfl) 1 (.int .i64 A2) rfl
        have c0 := blk_cell h8' 0
        have c1 := blk_cell h8' 1
        have f0 := blk_frozen h8' 0
        have f1 := blk_frozen h8' 1
        refine last_ (i := 10) (N := none) #[true, true, true, true, true, true, true, true, true, true, true] rfl rfl (by kernel_rfl) (by decide) (fun K_ hK => ?_)
        rw [if_pos (by rfl)]
        go_wp2
        refine hK.out _ _ ?_
        refine done_ (by kernel_rfl) ?_
        have h7'' := far2 h7' hne (.int .i64 F1) (.int .i64 F2)
        have h8'' := blk_put (cs := #[.int .i64 F1, .int .i64 0]) (cs' := #[.int .i64 F1, .int .i64 F2]) (blk_put (cs := #[.int .i64 0, .int .i64 0]) h8' 0 (.int .i64 F1) rfl) 1 (.int .i64 F2) rfl
        have z := far2 (far2 hHeld.2.1.out (Nat.ne_of_lt p7).symm (.int .i64 A1) (.int .i64 A2)) (Nat.ne_of_lt p8).symm (.int .i64 F1) (.int .i64 F2)
        exact HK _ _ _ h7'' h8'' z (below_set (below_set (below_set (below_set hHeld.2.2.1.out (by omega)) (by omega)) (by omega)) (by omega))
    · skip
      have p7 := lt_of_blk hHeld.2.1.out
      rw [if_pos (by rfl)]
      go_wp2
      refine hK.out _ _ (OfS.keep hHeld (below_alloc (Below.refl _ _) _)) (fun hHeld => ?_)
      clear hK
      have q78 := lt_of_blk h8
      have h8 := keep_of h8 hHeld
      have h7 := new_of hHeld
      generalize World.alloc w2 (.cells #[.int .i64 0, .int .i64 0] 24) = w2 at hHeld h8 h7 ⊢
      refine one_ (i := 3) (N := some 8) #[true, true, true, true, true, true, false, true, true, false, false] rfl rfl (by kernel_rfl) (by decide) (fun K_ hK => ?_)
      refine goes_ Try.func93 (by kernel_rfl) rfl #[.agg #[.int .i64 1, .int .i64 0], .int .i64 n] (by rfl) rfl rfl (by (try simp only [List.map_toArray, List.map_cons, List.map_nil]); first | done | rfl) ?_
      with_reducible refine ((HT _).out).mono ?_
      rintro e w2 ⟨rfl, hb⟩
      refine ⟨_, rfl, ?_⟩
      have h8 := blk_keep h8 hb
      have h7 := blk_keep h7 hb
      refine hK.out _ _ (OfS.keep hHeld hb) (fun hHeld => ?_)
      clear hK hb
      refine norm_ (a' := ?_) ?_ ?_
      rotate_left
      · show Act.put _ (some 8) _ = _
        simp only [Act.put, List.setIfInBounds_toArray, List.set_cons_zero, List.set_cons_succ]
        rfl
      refine one_ (i := 6) (N := some 11) #[true, true, true, true, true, true, true, true, true, false, false] rfl rfl (by kernel_rfl) (by decide) (fun K_ hK => ?_)
      refine goes_ Try.func53 (by kernel_rfl) rfl #[.agg #[.int .i64 x, .int .i64 y]] (by rfl) rfl rfl (by (try simp only [List.map_toArray, List.map_cons, List.map_nil]); first | done | rfl) ?_
      with_reducible refine ((HF _).out).mono ?_
      rintro e w2 ⟨rfl, hb⟩
      refine ⟨_, rfl, ?_⟩
      have h8 := blk_keep h8 hb
      have h7 := blk_keep h7 hb
      refine hK.out _ _ (OfS.keep hHeld hb) (fun hHeld => ?_)
      clear hK hb
      refine norm_ (a' := ?_) ?_ ?_
      rotate_left
      · show Act.put _ (some 11) _ = _
        simp only [Act.put, List.setIfInBounds_toArray, List.set_cons_zero, List.set_cons_succ]
        rfl
      have hne := ne_of_lt' q78
      have c0 := blk_cell h7 0
      have c1 := blk_cell h7 1
      have f0 := blk_frozen h7 0
      have f1 := blk_frozen h7 1
      refine last_ (i := 9) (N := none) #[true, true, true, true, true, true, true, true, true, true, false] rfl rfl (by kernel_rfl) (by decide) (fun K_ hK => ?_)
      rw [if_pos (by rfl)]
      go_wp2
      refine hK.out _ _ ?_
      clear hK c0 c1 f0 f1
      have h8' := far2 h8 (Ne.symm hne) (.int .i64 A1) (.int .i64 A2)
      have h7' := blk_put (cs := #[.int .i64 A1, .int .i64 0]) (cs' := #[.int .i64 A1, .int .i64 A2]) (blk_put (cs := #[.int .i64 0, .int .i64 0]) h7 0 (.int .i64 A1) rfl) 1 (.int .i64 A2) rfl
      have c0 := blk_cell h8' 0
      have c1 := blk_cell h8' 1
      have f0 := blk_frozen h8' 0
      have f1 := blk_frozen h8' 1
      refine last_ (i := 10) (N := none) #[true, true, true, true, true, true, true, true, true, true, true] rfl rfl (by kernel_rfl) (by decide) (fun K_ hK => ?_)
      rw [if_pos (by rfl)]
      go_wp2
      refine hK.out _ _ ?_
      refine done_ (by kernel_rfl) ?_
      have h7'' := far2 h7' hne (.int .i64 F1) (.int .i64 F2)
      have h8'' := blk_put (cs := #[.int .i64 F1, .int .i64 0]) (cs' := #[.int .i64 F1, .int .i64 F2]) (blk_put (cs := #[.int .i64 0, .int .i64 0]) h8' 0 (.int .i64 F1) rfl) 1 (.int .i64 F2) rfl
      have z := far2 (far2 hHeld.2.1.out (Nat.ne_of_lt p7).symm (.int .i64 A1) (.int .i64 A2)) (Nat.ne_of_lt p8).symm (.int .i64 F1) (.int .i64 F2)
      exact HK _ _ _ h7'' h8'' z (below_set (below_set (below_set (below_set hHeld.2.2.1.out (by omega)) (by omega)) (by omega)) (by omega))
end Go.Proofs.Ytpoghhcpoimepaa.P
end
section
/- Several texts in one. -/
section
/- Motions: Fix and Back. -/
namespace Go.Proofs.Ytpoghhcpoimepaa.P
open Go.Proofs.Ytpoghhcpoimepaa.B Go.RowKit Go.Proofs.YtpoghhcpoimepaaW.PrintWords Go.Proofs.YtpoghhcpoimepaaW.PrintLast Go.Proofs.YtpoghhcpoimepaaW.PrintMore Go.Proofs.Ytpoghhcpoimepaa.FX Go.Proofs.Ytpoghhcpoimepaa.H
set_option linter.unusedVariables false
set_option linter.unusedSimpArgs false
attribute [local go_sem] run_store_complex
/-- A motion's quarters. -/
def qt (n : Int) : Nat := (n % 4).toNat
theorem qt_lt (n : Int) : qt n < 4 := by unfold qt; omega
theorem rot_ip (n : Int) : rot (n % 4).toNat 1 0 = ip (qt n) := by
  unfold qt
  have hq : n % 4 = 0 ∨ n % 4 = 1 ∨ n % 4 = 2 ∨ n % 4 = 3 := by omega
  rcases hq with h | h | h | h <;> rw [h] <;> decide
theorem mof_calls (n x y : Int) (w : World) : Calls Try.prog 79 #[.agg #[.int .i64 n, .int .i64 x, .int .i64 y]] w (MovePost (ip (qt n)) (fx x, fx y) w) := by
  have h := of_calls n x y w
  rw [rot_ip] at h
  exact h
theorem near_fx (x y : Int) : near 1048576 (fx x, fx y) := by
  have h1 := fx_le x
  have h2 := fx_le y
  exact ⟨by simp only []; omega, by simp only []; omega⟩
theorem near_le {m n : Nat} {p : Int × Int} (h : near m p) (hmn : m ≤ n) : near n p := ⟨Nat.le_trans h.1 hmn, Nat.le_trans h.2 hmn⟩
theorem near_ip (m : Nat) : near 1 (ip m) := (ip_small m).1
def ipBack (m : Nat) : Nat := (4 - m) % 4
theorem ip_mirror (m : Nat) (h : m < 4) : ((ip m).1, -(ip m).2) = ip (ipBack m) := by
  match m, h with
  | 0, _ => decide
  | 1, _ => decide
  | 2, _ => decide
  | 3, _ => decide
theorem near_cm {n : Nat} {p t : Int × Int} (hp : near n p) (ht : near 1 t) : near (2 * n) (cm p t) := by
  have a1 := near_mul hp.1 ht.1; have a2 := near_mul hp.2 ht.2; have a3 := near_mul hp.1 ht.2; have a4 := near_mul hp.2 ht.1
  exact ⟨by unfold cm; simp only []; omega, by unfold cm; simp only []; omega⟩
/-- What undoes a motion: its addend. -/
def backBy (n x y : Int) : Int × Int := cm (-fx x, -fx y) (ip (ipBack (qt n)))
set_option maxHeartbeats 1000000 in
set_option maxRecDepth 100000 in
theorem mbackm_calls (n x y : Int) (w : World) : Calls Try.prog 45 #[.agg #[.int .i64 n, .int .i64 x, .int .i64 y]] w (MotPost (ipBack (qt n) : Nat) (backBy n x y).1 (backBy n x y).2 w) := by
  have HO := fun W => Aside0.mk (mof_calls n x y W)
  have HQ := fun (a b c d : Nat) (h : MV a b c d (ip (qt n)) (fx x, fx y)) W => Aside0.mk (show Calls Try.prog 82 #[mv a b c d] W (MovePost (ip (ipBack (qt n))) (backBy n x y) W) from by
    have h2 := mback_calls a b c d _ _ W h (near_ip _) (near_le (near_fx x y) (by decide))
    rw [ip_mirror _ (qt_lt n)] at h2
    exact h2)
  have nb : near 4000000000 (backBy n x y) := by
    have h1 := fx_le x
    have h2 := fx_le y
    exact near_le (near_cm (n := 1048576) ⟨by simp only []; omega, by simp only []; omega⟩ (near_ip _)) (by decide)
  have HP := fun (a b c d : Nat) (h : MV a b c d (ip (ipBack (qt n))) (backBy n x y)) W => Aside0.mk (motion_calls a b c d (ipBack (qt n)) (backBy n x y) W (by unfold ipBack; omega) h nb)
  clear nb
  obtain ⟨q, hq⟩ : ∃ q : Nat, ipBack (qt n) = q := ⟨_, rfl⟩
  obtain ⟨⟨F1, F2⟩, hF⟩ : ∃ F, backBy n x y = F := ⟨_, rfl⟩
  rw [hq, hF] at HQ HP
  rw [hq, hF]
  simp only [] at HP
  clear hq hF
  go_enter Try.func45, Try.ntmps45
  go_wp2_with (first | (go_at_call 79; (with_reducible refine ((HO _).out).mono ?_); rintro e w1 ⟨a, b, c, d, rfl, hMV, hb1⟩; have HB1 := Aside0.mk hb1; have HMV := Aside0.mk hMV; clear hb1 hMV) | (go_at_call 82; (with_reducible refine ((HQ _ _ _ _ HMV.out _).out).mono ?_); rintro e w3 ⟨a', b', c', d', rfl, hMV, hb3⟩; have HB3 := Aside0.mk hb3; have HMW := Aside0.mk hMV; clear hb3 hMV) | (go_at_call 81; (with_reducible refine ((HP _ _ _ _ HMW.out _).out).mono ?_); rintro e w2 ⟨rfl, hb2⟩; have hbk := blk_keep (blk_keep (blk_keep (move_new2 w (.cells #[.int .i64 n, .int .i64 x, .int .i64 y] 34) (.cells #[.int .i64 0, .int .i64 0, .int .i64 0] 34)) HB1.out) HB3.out) hb2; have HBK := Aside0.mk hbk; have hc0 := blk_cell hbk 0; have hc1 := blk_cell hbk 1; have hc2 := blk_cell hbk 2; have hf0 := blk_frozen hbk 0; have hf1 := blk_frozen hbk 1; have hf2 := blk_frozen hbk 2; have HB2 := Aside0.mk (below_step (below_step (below_step (below_alloc (below_alloc (Below.refl w.heap.size w) _) _) HB1.out) HB3.out) hb2); clear hb2 hbk HB1 HB3))
  refine bodyPost_ret (results_cell_row rfl _ _ (w.heap.size + 1) 34 #[.int .i64 q, .int .i64 F1, .int .i64 F2] (0, 0) _ rfl (blk_put (cs := #[.int .i64 q, .int .i64 F1, .int .i64 0]) (blk_put (cs := #[.int .i64 q, .int .i64 0, .int .i64 0]) (blk_put (cs := #[.int .i64 0, .int .i64 0, .int .i64 0]) HBK.out 0 _ rfl) 1 _ rfl) 2 _ rfl) Try.underlying34 rfl (by kernel_rfl)) rfl ?_
  exact ⟨rfl, below_set (below_set (below_set HB2.out (by omega)) (by omega)) (by omega)⟩
end Go.Proofs.Ytpoghhcpoimepaa.P
end
section
/- Motions: Then. -/
namespace Go.Proofs.Ytpoghhcpoimepaa.P
open Go.Proofs.Ytpoghhcpoimepaa.B Go.RowKit Go.Proofs.YtpoghhcpoimepaaW.PrintWords Go.Proofs.YtpoghhcpoimepaaW.PrintLast Go.Proofs.YtpoghhcpoimepaaW.PrintMore Go.Proofs.Ytpoghhcpoimepaa.FX Go.Proofs.Ytpoghhcpoimepaa.H
set_option linter.unusedVariables false
set_option linter.unusedSimpArgs false
attribute [local go_sem] run_store_complex
abbrev ThS (w0 : World) (n x y n' x' y' : Int) (w' : World) : Prop :=
  Aside0 (w'.heap[w0.heap.size]? = some (.cells #[.int .i64 n, .int .i64 x, .int .i64 y] 34 (0, 0))) ∧ Aside0 (w'.heap[w0.heap.size + 1]? = some (.cells #[.int .i64 n', .int .i64 x', .int .i64 y'] 34 (0, 0))) ∧ Aside0 (w'.heap[w0.heap.size + 1 + 1]? = some (.cells #[.int .i64 0, .int .i64 0, .int .i64 0] 34 (0, 0))) ∧ Aside0 (Below w0.heap.size w0 w') ∧ w'.cell? ⟨w0.heap.size, 0, none⟩ = some (.int .i64 n) ∧ w'.cell? ⟨w0.heap.size, 1, none⟩ = some (.int .i64 x) ∧ w'.cell? ⟨w0.heap.size, 2, none⟩ = some (.int .i64 y) ∧ w'.cell? ⟨w0.heap.size + 1, 0, none⟩ = some (.int .i64 n') ∧ w'.cell? ⟨w0.heap.size + 1, 1, none⟩ = some (.int .i64 x') ∧ w'.cell? ⟨w0.heap.size + 1, 2, none⟩ = some (.int .i64 y') ∧ w'.cell? ⟨w0.heap.size + 1 + 1, 0, none⟩ = some (.int .i64 0) ∧ w'.cell? ⟨w0.heap.size + 1 + 1, 1, none⟩ = some (.int .i64 0) ∧ w'.cell? ⟨w0.heap.size + 1 + 1, 2, none⟩ = some (.int .i64 0) ∧ w'.frozen? ⟨w0.heap.size + 1 + 1, 0, none⟩ = false ∧ w'.frozen? ⟨w0.heap.size + 1 + 1, 1, none⟩ = false ∧ w'.frozen? ⟨w0.heap.size + 1 + 1, 2, none⟩ = false
theorem ThS.mk {w0 : World} {n x y n' x' y' : Int} {w' : World} (h0 : w'.heap[w0.heap.size]? = some (.cells #[.int .i64 n, .int .i64 x, .int .i64 y] 34 (0, 0))) (h1 : w'.heap[w0.heap.size + 1]? = some (.cells #[.int .i64 n', .int .i64 x', .int .i64 y'] 34 (0, 0))) (h2 : w'.heap[w0.heap.size + 1 + 1]? = some (.cells #[.int .i64 0, .int .i64 0, .int .i64 0] 34 (0, 0))) (hB : Below w0.heap.size w0 w') : ThS w0 n x y n' x' y' w' :=
  ⟨⟨h0⟩, ⟨h1⟩, ⟨h2⟩, ⟨hB⟩, blk_cell h0 0, blk_cell h0 1, blk_cell h0 2, blk_cell h1 0, blk_cell h1 1, blk_cell h1 2, blk_cell h2 0, blk_cell h2 1, blk_cell h2 2, blk_frozen h2 0, blk_frozen h2 1, blk_frozen h2 2⟩
theorem ThS.keep {w0 : World} {n x y n' x' y' : Int} {w1 w2 : World} (h : ThS w0 n x y n' x' y' w1) (hb : Below w1.heap.size w1 w2) : ThS w0 n x y n' x' y' w2 :=
  ThS.mk (blk_keep h.1.out hb) (blk_keep h.2.1.out hb) (blk_keep h.2.2.1.out hb) (below_step h.2.2.2.1.out hb)
theorem ThS.drew {w0 : World} {n x y n' x' y' : Int} {w1 : World} (h : ThS w0 n x y n' x' y' w1) : ThS w0 n x y n' x' y' w1.drew :=
  ThS.mk h.1.out h.2.1.out h.2.2.1.out (below_drew h.2.2.2.1.out)
/-- Motions one behind the other: the addend. -/
def thenBy (x y n' x' y' : Int) : Int × Int := ((cm (fx x, fx y) (ip (qt n'))).1 + fx x', (cm (fx x, fx y) (ip (qt n'))).2 + fx y')
theorem cm_ip (a b : Nat) (ha : a < 4) (hb : b < 4) : cm (ip a) (ip b) = ip ((a + b) % 4) := by
  have h1 : a = 0 ∨ a = 1 ∨ a = 2 ∨ a = 3 := by omega
  have h2 : b = 0 ∨ b = 1 ∨ b = 2 ∨ b = 3 := by omega
  rcases h1 with h | h | h | h <;> rcases h2 with h' | h' | h' | h' <;> rw [h, h'] <;> decide
set_option maxHeartbeats 1000000 in
set_option maxRecDepth 100000 in
theorem mthenm_calls (n x y n' x' y' : Int) (w : World) : Calls Try.prog 44 #[.agg #[.int .i64 n, .int .i64 x, .int .i64 y], .agg #[.int .i64 n', .int .i64 x', .int .i64 y']] w (MotPost ((qt n + qt n') % 4 : Nat) (thenBy x y n' x' y').1 (thenBy x y n' x' y').2 w) := by
  have HO := fun W => Aside0.mk (mof_calls n x y W)
  have HO' := fun W => Aside0.mk (mof_calls n' x' y' W)
  have HQ := fun (a b c d a' b' c' d' : Nat) (h : MV a b c d (ip (qt n)) (fx x, fx y)) (h' : MV a' b' c' d' (ip (qt n')) (fx x', fx y')) W => Aside0.mk (show Calls Try.prog 80 #[mv a b c d, mv a' b' c' d'] W (MovePost (ip ((qt n + qt n') % 4)) (thenBy x y n' x' y') W) from by
    have h2 := mthen_calls a b c d a' b' c' d' _ _ _ _ W h h' (near_ip _) (near_ip _) (near_le (near_fx x y) (by decide)) (near_le (near_fx x' y') (by decide))
    rw [cm_ip _ _ (qt_lt n) (qt_lt n')] at h2
    exact h2)
  have nb : near 4000000000 (thenBy x y n' x' y') := by
    have h0 := near_cm (near_fx x y) (near_ip (qt n'))
    have h3 := fx_le x'
    have h4 := fx_le y'
    have h5 := h0.1
    have h6 := h0.2
    exact ⟨by unfold thenBy; simp only []; omega, by unfold thenBy; simp only []; omega⟩
  have HP := fun (a b c d : Nat) (h : MV a b c d (ip ((qt n + qt n') % 4)) (thenBy x y n' x' y')) W => Aside0.mk (motion_calls a b c d ((qt n + qt n') % 4) (thenBy x y n' x' y') W (by omega) h nb)
  clear nb
  obtain ⟨q, hq⟩ : ∃ q : Nat, (qt n + qt n') % 4 = q := ⟨_, rfl⟩
  obtain ⟨⟨F1, F2⟩, hF⟩ : ∃ F, thenBy x y n' x' y' = F := ⟨_, rfl⟩
  rw [hq, hF] at HQ HP
  rw [hq, hF]
  simp only [] at HP
  clear hq hF
  have HS : ThS w n x y n' x' y' (((w.alloc (.cells #[.int .i64 n, .int .i64 x, .int .i64 y] 34)).alloc (.cells #[.int .i64 n', .int .i64 x', .int .i64 y'] 34)).alloc (.cells #[.int .i64 0, .int .i64 0, .int .i64 0] 34)) := ThS.mk (blk_keep (blk_keep (blk_new w _) (below_alloc (Below.refl _ _) _)) (below_alloc (Below.refl _ _) _)) (blk_keep (move_new2 w _ _) (below_alloc (Below.refl _ _) _)) (move_new3 w _ _ _) (below_alloc (below_alloc (below_alloc (Below.refl _ _) _) _) _)
  go_enter Try.func44, Try.ntmps44
  go_wp2
  refine start_ (n := 7) (S := ThS w n x y n' x' y') (ds := [6]) #[false, false, false, false, false, false, false] (by kernel_rfl) rfl rfl (ThS.drew HS) (fun hHeld => ?_)
  clear HS
  refine take_ (i := 0) (N := some 5) (v := ?_) (a' := ?_) #[true, false, false, false, false, false, false] rfl rfl (by kernel_rfl) (fun _ _ _ h => h) (Or.inl ⟨by rfl, ?_⟩) hHeld ?_ ?_
  rotate_left
  · rintro w' ⟨_, _, _, _, k1, k2, k3, k4, k5, k6, k7, k8, k9, k10, k11, k12⟩
    go_simp
    with_reducible rfl
  rotate_left
  · simp only [Act.put, List.setIfInBounds_toArray, List.set_cons_zero, List.set_cons_succ]
    rfl
  refine take_ (i := 2) (N := some 7) (v := ?_) (a' := ?_) #[true, false, true, false, false, false, false] rfl rfl (by kernel_rfl) (fun _ _ _ h => h) (Or.inl ⟨by rfl, ?_⟩) hHeld ?_ ?_
  rotate_left
  · rintro w' ⟨_, _, _, _, k1, k2, k3, k4, k5, k6, k7, k8, k9, k10, k11, k12⟩
    go_simp
    with_reducible rfl
  rotate_left
  · simp only [Act.put, List.setIfInBounds_toArray, List.set_cons_zero, List.set_cons_succ]
    rfl
  refine one_ (i := 1) (N := some 6) #[true, true, true, false, false, false, false] rfl rfl (by kernel_rfl) (by decide) (fun K hK => ?_)
  refine goes_ Try.func79 (by kernel_rfl) rfl #[.agg #[.int .i64 n, .int .i64 x, .int .i64 y]] (by rfl) rfl rfl (by (try simp only [List.map_toArray, List.map_cons, List.map_nil]); first | done | rfl) ?_
  with_reducible refine ((HO _).out).mono ?_
  rintro e w2 ⟨a, b, c, d, rfl, h1, hb⟩
  refine ⟨_, rfl, ?_⟩
  have hHeld2 := ThS.keep hHeld hb
  clear hHeld hb
  refine hK.out _ _ hHeld2 (fun hHeld => ?_)
  clear hK hHeld2
  refine norm_ (a' := ?_) ?_ ?_
  rotate_left
  · show Act.put _ (some 6) _ = _
    simp only [Act.put, List.setIfInBounds_toArray, List.set_cons_zero, List.set_cons_succ]
    rfl
  have H1 := Aside0.mk h1; clear h1
  refine one_ (i := 3) (N := some 8) #[true, true, true, true, false, false, false] rfl rfl (by kernel_rfl) (by decide) (fun K hK => ?_)
  refine goes_ Try.func79 (by kernel_rfl) rfl #[.agg #[.int .i64 n', .int .i64 x', .int .i64 y']] (by rfl) rfl rfl (by (try simp only [List.map_toArray, List.map_cons, List.map_nil]); first | done | rfl) ?_
  with_reducible refine ((HO' _).out).mono ?_
  rintro e w2 ⟨a', b', c', d', rfl, h1, hb⟩
  refine ⟨_, rfl, ?_⟩
  have hHeld2 := ThS.keep hHeld hb
  clear hHeld hb
  refine hK.out _ _ hHeld2 (fun hHeld => ?_)
  clear hK hHeld2
  refine norm_ (a' := ?_) ?_ ?_
  rotate_left
  · show Act.put _ (some 8) _ = _
    simp only [Act.put, List.setIfInBounds_toArray, List.set_cons_zero, List.set_cons_succ]
    rfl
  have H2 := Aside0.mk h1; clear h1
  refine one_ (i := 4) (N := some 9) #[true, true, true, true, true, false, false] rfl rfl (by kernel_rfl) (by decide) (fun K hK => ?_)
  refine goes_ Try.func80 (by kernel_rfl) rfl #[mv a b c d, mv a' b' c' d'] (by rfl) rfl rfl (by (try simp only [List.map_toArray, List.map_cons, List.map_nil]); first | done | rfl) ?_
  with_reducible refine ((HQ _ _ _ _ _ _ _ _ H1.out H2.out _).out).mono ?_
  rintro e w2 ⟨e1, e2, e3, e4, rfl, h1, hb⟩
  refine ⟨_, rfl, ?_⟩
  have hHeld2 := ThS.keep hHeld hb
  clear hHeld hb
  refine hK.out _ _ hHeld2 (fun hHeld => ?_)
  clear hK hHeld2
  refine norm_ (a' := ?_) ?_ ?_
  rotate_left
  · show Act.put _ (some 9) _ = _
    simp only [Act.put, List.setIfInBounds_toArray, List.set_cons_zero, List.set_cons_succ]
    rfl
  have H3 := Aside0.mk h1; clear h1
  refine one_ (i := 5) (N := some 10) #[true, true, true, true, true, true, false] rfl rfl (by kernel_rfl) (by decide) (fun K hK => ?_)
  refine goes_ Try.func81 (by kernel_rfl) rfl #[mv e1 e2 e3 e4] (by rfl) rfl rfl (by (try simp only [List.map_toArray, List.map_cons, List.map_nil]); first | done | rfl) ?_
  with_reducible refine ((HP _ _ _ _ H3.out _).out).mono ?_
  rintro e w2 ⟨rfl, hb⟩
  refine ⟨_, rfl, ?_⟩
  have hHeld2 := ThS.keep hHeld hb
  clear hHeld hb
  refine hK.out _ _ hHeld2 (fun hHeld => ?_)
  clear hK hHeld2
  refine norm_ (a' := ?_) ?_ ?_
  rotate_left
  · show Act.put _ (some 10) _ = _
    simp only [Act.put, List.setIfInBounds_toArray, List.set_cons_zero, List.set_cons_succ]
    rfl
  refine last_ (i := 6) (N := none) #[true, true, true, true, true, true, true] rfl rfl (by kernel_rfl) (by decide) (fun K hK => ?_)
  obtain ⟨H0, H1, H2, HB, k1, k2, k3, k4, k5, k6, k7, k8, k9, k10, k11, k12⟩ := hHeld
  rw [if_pos (by rfl)]
  go_wp2
  refine hK.out _ _ ?_
  refine done_ (by kernel_rfl) ?_
  go_wp2
  refine bodyPost_ret (results_cell_row rfl _ _ (w.heap.size + 1 + 1) 34 #[.int .i64 q, .int .i64 F1, .int .i64 F2] (0, 0) _ rfl (blk_put (cs := #[.int .i64 q, .int .i64 F1, .int .i64 0]) (blk_put (cs := #[.int .i64 q, .int .i64 0, .int .i64 0]) (blk_put (cs := #[.int .i64 0, .int .i64 0, .int .i64 0]) H2.out 0 _ rfl) 1 _ rfl) 2 _ rfl) Try.underlying34 rfl (by kernel_rfl)) rfl ?_
  exact ⟨rfl, below_set (below_set (below_set HB.out (by omega)) (by omega)) (by omega)⟩
end Go.Proofs.Ytpoghhcpoimepaa.P
end
section
/- Motions: Do. -/
namespace Go.Proofs.Ytpoghhcpoimepaa.P
open Go.Proofs.Ytpoghhcpoimepaa.B Go.RowKit Go.Proofs.YtpoghhcpoimepaaW.PrintWords Go.Proofs.YtpoghhcpoimepaaW.PrintLast Go.Proofs.YtpoghhcpoimepaaW.PrintMore Go.Proofs.Ytpoghhcpoimepaa.FX Go.Proofs.Ytpoghhcpoimepaa.H
set_option linter.unusedVariables false
set_option linter.unusedSimpArgs false
attribute [local go_sem] run_store_complex
abbrev DoS (w0 : World) (g : Nat) (a b c d : Nat) (u v : Int) (w' : World) : Prop :=
  Aside0 (w'.heap[w0.heap.size + 1]? = some (.cells #[.int .i64 u, .int .i64 v] 24 (0, 0))) ∧ Aside0 (w'.heap[w0.heap.size + 1 + 1]? = some (.cells #[.int .i64 0, .int .i64 0] 24 (0, 0))) ∧ Aside0 (w'.heap[g]? = some (.cells #[.complex .f64 a b, .complex .f64 c d] 109 (0, 0))) ∧ Aside0 (Below w0.heap.size w0 w') ∧ w'.cell? ⟨w0.heap.size + 1, 0, none⟩ = some (.int .i64 u) ∧ w'.cell? ⟨w0.heap.size + 1, 1, none⟩ = some (.int .i64 v) ∧ w'.cell? ⟨w0.heap.size + 1 + 1, 0, none⟩ = some (.int .i64 0) ∧ w'.cell? ⟨w0.heap.size + 1 + 1, 1, none⟩ = some (.int .i64 0) ∧ w'.cell? ⟨g, 0, none⟩ = some (.complex .f64 a b) ∧ w'.cell? ⟨g, 1, none⟩ = some (.complex .f64 c d) ∧ w'.frozen? ⟨w0.heap.size + 1 + 1, 0, none⟩ = false ∧ w'.frozen? ⟨w0.heap.size + 1 + 1, 1, none⟩ = false
theorem DoS.mk {w0 : World} {g : Nat} {a b c d : Nat} {u v : Int} {w' : World} (h0 : w'.heap[w0.heap.size + 1]? = some (.cells #[.int .i64 u, .int .i64 v] 24 (0, 0))) (h1 : w'.heap[w0.heap.size + 1 + 1]? = some (.cells #[.int .i64 0, .int .i64 0] 24 (0, 0))) (h2 : w'.heap[g]? = some (.cells #[.complex .f64 a b, .complex .f64 c d] 109 (0, 0))) (hB : Below w0.heap.size w0 w') : DoS w0 g a b c d u v w' :=
  ⟨⟨h0⟩, ⟨h1⟩, ⟨h2⟩, ⟨hB⟩, blk_cell h0 0, blk_cell h0 1, blk_cell h1 0, blk_cell h1 1, blk_cell h2 0, blk_cell h2 1, blk_frozen h1 0, blk_frozen h1 1⟩
theorem DoS.keep {w0 : World} {g : Nat} {a b c d : Nat} {u v : Int} {w1 w2 : World} (h : DoS w0 g a b c d u v w1) (hb : Below w1.heap.size w1 w2) : DoS w0 g a b c d u v w2 :=
  DoS.mk (blk_keep h.1.out hb) (blk_keep h.2.1.out hb) (blk_keep h.2.2.1.out hb) (below_step h.2.2.2.1.out hb)
theorem DoS.drew {w0 : World} {g : Nat} {a b c d : Nat} {u v : Int} {w1 : World} (h : DoS w0 g a b c d u v w1) : DoS w0 g a b c d u v w1.drew :=
  DoS.mk h.1.out h.2.1.out h.2.2.1.out (below_drew h.2.2.2.1.out)
/-- Where a motion brings a point. -/
def doBy (n x y u v : Int) : Int × Int := ((cm (fx u, fx v) (ip (qt n))).1 + fx x, (cm (fx u, fx v) (ip (qt n))).2 + fx y)
end Go.Proofs.Ytpoghhcpoimepaa.P
end
end
section
/- walk.End. -/
namespace Go.Proofs.Ytpoghhcpoimepaa.P
open Go.Proofs.Ytpoghhcpoimepaa.B Go.RowKit Go.Proofs.YtpoghhcpoimepaaW.PrintWords Go.Proofs.YtpoghhcpoimepaaW.PrintLast Go.Proofs.YtpoghhcpoimepaaW.PrintMore Go.Proofs.Ytpoghhcpoimepaa.FX Go.Proofs.Ytpoghhcpoimepaa.H
set_option linter.unusedVariables false
set_option linter.unusedSimpArgs false
/-- The walker, in memory. -/
def WkI (g : Nat) (s : Nat × Int × Int) (W : World) : Prop := ∃ ar ai lr li, W.heap[g]? = some (.cells #[.complex .f64 ar ai, .complex .f64 lr li] 101 (0, 0)) ∧ IsF ar s.2.1 ∧ IsF ai s.2.2 ∧ IsF lr (ip s.1).1 ∧ IsF li (ip s.1).2
theorem WkI.keep {g : Nat} {s : Nat × Int × Int} {W W' : World} (h : WkI g s W) (hb : Below W.heap.size W W') : WkI g s W' := by
  obtain ⟨ar, ai, lr, li, h1, h2⟩ := h
  exact ⟨ar, ai, lr, li, blk_keep h1 hb, h2⟩
theorem do_nil (g : Nat) (s : Nat × Int × Int) (k n : Int) (w : World) (hI : WkI g s w) (hq : s.1 < 4) (hb : near 2000000000000 s.2) :
    Calls Try.prog 73 #[.pointer (some ⟨g, 0, none⟩), .agg #[.int .i64 k, .int .i64 n], .nilFunc] w fun e w' => e = .returned (.tuple #[]) ∧ WkI g (stepW s k n) w' ∧ Below g w w' := by
  obtain ⟨ar, ai, lr, li, hg, h1, h2, h3, h4⟩ := hI
  obtain ⟨q, x, y⟩ := s
  simp only [] at hq hb h1 h2 h3 h4
  have hm := ofV_le k n
  have sm := ip_small q
  by_cases c3 : k = 3
  · subst c3
    obtain ⟨q1, q2⟩ := q_is ((ofV 3 n : Int) % 4).toNat (by omega)
    obtain ⟨sr, si⟩ := (ip_small ((ofV 3 n : Int) % 4).toNat).1
    obtain ⟨re, im, r1, r2, hrun⟩ := cmul_run h3 h4 q1 q2 (by have := near_mul (n := 1) sm.1.1 sr; omega) (by have := near_mul (n := 1) sm.1.2 si; omega) (by have := near_mul (n := 1) sm.1.1 si; omega) (by have := near_mul (n := 1) sm.1.2 sr; omega)
    refine (do_left g ar ai lr li re im n (ofV 3 n) _ .nilFunc w hg (often_v 3 n) hm rfl (fun W => hrun Try.prog 61 W)).mono ?_
    rintro e w' ⟨rfl, h5, h6⟩
    have hc := cm_ip q ((ofV 3 n : Int) % 4).toNat hq (by omega)
    have hs : stepW (q, x, y) 3 n = ((q + ((ofV 3 n : Int) % 4).toNat) % 4, x, y) := by unfold stepW; rw [if_pos rfl]; simp only [Prod.mk.injEq, and_true]; omega
    refine ⟨rfl, ⟨ar, ai, re, im, h5, ?_⟩, h6.b⟩
    rw [hs]
    simp only []
    rw [← hc]
    exact ⟨h1, h2, r1, r2⟩
  by_cases c4 : k = 4
  · subst c4
    obtain ⟨q1, q2⟩ := q_is (-(ofV 4 n : Int) % 4).toNat (by omega)
    obtain ⟨sr, si⟩ := (ip_small (-(ofV 4 n : Int) % 4).toNat).1
    obtain ⟨re, im, r1, r2, hrun⟩ := cmul_run h3 h4 q1 q2 (by have := near_mul (n := 1) sm.1.1 sr; omega) (by have := near_mul (n := 1) sm.1.2 si; omega) (by have := near_mul (n := 1) sm.1.1 si; omega) (by have := near_mul (n := 1) sm.1.2 sr; omega)
    refine (do_right g ar ai lr li re im n (ofV 4 n) _ .nilFunc w hg (often_v 4 n) hm rfl (fun W => hrun Try.prog 61 W)).mono ?_
    rintro e w' ⟨rfl, h5, h6⟩
    have hc := cm_ip q (-(ofV 4 n : Int) % 4).toNat hq (by omega)
    have hs : stepW (q, x, y) 4 n = ((q + (-(ofV 4 n : Int) % 4).toNat) % 4, x, y) := by unfold stepW; rw [if_neg (by decide), if_pos rfl]; simp only [Prod.mk.injEq, and_true]; omega
    refine ⟨rfl, ⟨ar, ai, re, im, h5, ?_⟩, h6.b⟩
    rw [hs]
    simp only []
    rw [← hc]
    exact ⟨h1, h2, r1, r2⟩
  have hp := ipmul q (ofV k n) hm
  obtain ⟨hb1, hb2⟩ := hb
  simp only [] at hb1 hb2
  by_cases c2 : k = 2
  · have hs : stepW (q, x, y) k n = (q, x + (-(ip q).1) * (ofV k n : Int), y + (-(ip q).2) * (ofV k n : Int)) := by
      unfold stepW; rw [if_neg c3, if_neg c4, if_pos c2]
      simp only [Int.neg_mul, Int.mul_comm (ofV k n : Int), Int.sub_eq_add_neg]
    obtain ⟨s1, s2, a1, a2, hr1⟩ := cmul_run h3 h4 isF_neg1 isF_zero (by omega) (by omega) (by omega) (by omega)
    rw [show (ip q).1 * -1 - (ip q).2 * 0 = -(ip q).1 by omega] at a1
    rw [show (ip q).1 * 0 + (ip q).2 * -1 = -(ip q).2 by omega] at a2
    rw [Int.mul_comm, Int.mul_comm (ofV k n : Int)] at hp
    have n1 : -(ip q).1 * (ofV k n : Int) = -((ip q).1 * (ofV k n : Int)) := Int.neg_mul _ _
    have n2 : -(ip q).2 * (ofV k n : Int) = -((ip q).2 * (ofV k n : Int)) := Int.neg_mul _ _
    obtain ⟨t1, t2, b1, b2, hr2⟩ := cmul_run a1 a2 (isF_of (ofV k n : Int) (by omega)) isF_zero (by rw [n1]; omega) (by omega) (by omega) (by rw [n2]; omega)
    rw [Int.mul_zero, Int.sub_zero] at b1
    rw [Int.mul_zero, Int.zero_add] at b2
    obtain ⟨r1, r2, d1, d2, hr3⟩ := cadd_run h1 h2 b1 b2 (by rw [n1]; omega) (by rw [n2]; omega)
    refine (do_goes g ar ai lr li 13830554455654793216 k n (ofV k n) s1 s2 t1 t2 r1 r2 w hg (often_v k n) hm c3 c4 (by rw [if_pos c2]) (fun W => hr1 Try.prog 61 W) (fun W => hr2 Try.prog 61 W) (fun W => hr3 Try.prog 61 W)).mono ?_
    rintro e w' ⟨rfl, h5, h6⟩
    refine ⟨rfl, ⟨r1, r2, lr, li, h5, ?_⟩, h6.b⟩
    rw [hs]
    exact ⟨d1, d2, h3, h4⟩
  · have hs : stepW (q, x, y) k n = (q, x + (ip q).1 * (ofV k n : Int), y + (ip q).2 * (ofV k n : Int)) := by
      unfold stepW; rw [if_neg c3, if_neg c4, if_neg c2]
      simp only [Int.mul_comm (ofV k n : Int)]
    obtain ⟨s1, s2, a1, a2, hr1⟩ := cmul_run h3 h4 isF_one isF_zero (by omega) (by omega) (by omega) (by omega)
    rw [show (ip q).1 * 1 - (ip q).2 * 0 = (ip q).1 by omega] at a1
    rw [show (ip q).1 * 0 + (ip q).2 * 1 = (ip q).2 by omega] at a2
    rw [Int.mul_comm, Int.mul_comm (ofV k n : Int)] at hp
    obtain ⟨t1, t2, b1, b2, hr2⟩ := cmul_run a1 a2 (isF_of (ofV k n : Int) (by omega)) isF_zero (by omega) (by omega) (by omega) (by omega)
    rw [Int.mul_zero, Int.sub_zero] at b1
    rw [Int.mul_zero, Int.zero_add] at b2
    obtain ⟨r1, r2, d1, d2, hr3⟩ := cadd_run h1 h2 b1 b2 (by omega) (by omega)
    refine (do_goes g ar ai lr li 4607182418800017408 k n (ofV k n) s1 s2 t1 t2 r1 r2 w hg (often_v k n) hm c3 c4 (by rw [if_neg c2]) (fun W => hr1 Try.prog 61 W) (fun W => hr2 Try.prog 61 W) (fun W => hr3 Try.prog 61 W)).mono ?_
    rintro e w' ⟨rfl, h5, h6⟩
    refine ⟨rfl, ⟨r1, r2, lr, li, h5, ?_⟩, h6.b⟩
    rw [hs]
    exact ⟨d1, d2, h3, h4⟩
set_option maxRecDepth 100000 in
theorem wpoint_at {a b : Nat} {x y : Int} (w : World) (ha : IsF a x) (hb : IsF b y) (hx : x.natAbs < 2 ^ 53) (hy : y.natAbs < 2 ^ 53) : Calls Try.prog 75 #[.complex .f64 a b] w (AggPost x y w) := by
  have ha := isF_int ha (by omega) (by omega)
  have hb := isF_int hb (by omega) (by omega)
  have e1 : ∀ W : World, (convert 63 3 (.float .f64 a)).run Try.prog W = .ok (.int .i64 x) W := fun W => run_convert_float_int W 63 3 .f64 .i64 a x (by rw [Try.underlying63]; rfl) Try.underlying3 ha
  have e2 : ∀ W : World, (convert 63 3 (.float .f64 b)).run Try.prog W = .ok (.int .i64 y) W := fun W => run_convert_float_int W 63 3 .f64 .i64 b y (by rw [Try.underlying63]; rfl) Try.underlying3 hb
  go_enter Try.func75, Try.ntmps75
  go_wp2
  refine bodyPost_ret (results_cell_row rfl _ _ w.heap.size 24 #[.int .i64 x, .int .i64 y] (0, 0) _ rfl (blk_new w _) Try.underlying24 rfl (by kernel_rfl)) rfl ?_
  exact ⟨rfl, below_alloc (Below.refl _ _) _⟩
theorem cne_run {a b c d : Nat} {x y u v : Int} (ha : IsF a x) (hb : IsF b y) (hc : IsF c u) (hd : IsF d v) (W : World) : (binOp .neq 61 (.complex .f64 a b) (.complex .f64 c d)).run Try.prog W = .ok (.bool (!(x == u && y == v))) W := by
  have e : (binOp .neq 61 (.complex .f64 a b) (.complex .f64 c d)).run Try.prog W = .ok (.bool (!(Op.floatEq .f64 a c && Op.floatEq .f64 b d))) W := by rfl
  rw [e, floatEq_is ha hc, floatEq_is hb hd]
theorem ip_ne : ∀ t q : Nat, t < 4 → q < 4 → ((ip t).1 == (ip q).1 && (ip t).2 == (ip q).2) = decide (t = q) := by
  intro t q ht hq
  have h1 : t = 0 ∨ t = 1 ∨ t = 2 ∨ t = 3 := by omega
  have h2 : q = 0 ∨ q = 1 ∨ q = 2 ∨ q = 3 := by omega
  rcases h1 with h | h | h | h <;> rcases h2 with h' | h' | h' | h' <;> rw [h, h'] <;> decide
def EndPost (w : World) (r : Nat × Int × Int) (e : Ending) (w' : World) : Prop := e = .returned (.agg #[.int .i64 r.1, .int .i64 r.2.1, .int .i64 r.2.2]) ∧ Below w.heap.size w w'
set_option maxHeartbeats 4000000 in
set_option maxRecDepth 100000 in
theorem end_calls (A : Option Addr) (c : Nat) (l : List S56) (w : World) (hC : Kd.C k56 w A l.length l) (hl : l.length ≤ 1000) : Calls Try.prog 40 #[.slice A l.length c] w (EndPost w (foldW l)) := by
  have HC := Aside0.mk hC; clear hC
  go_enter Try.func40, Try.ntmps40
  go_wp2
  refine wp_scope_enter 0 rfl ?_
  go_wp2
  go_loopw [11] (fun v wr => ∃ i : Nat, i ≤ l.length ∧ v = .int .i64 i ∧ Aside0 (WkI (w.heap.size + 1) (foldW (l.take i)) wr) ∧ Aside0 (wr.heap[w.heap.size]? = some (.cells #[.int .i64 0, .int .i64 0, .int .i64 0] 34 (0, 0))) ∧ Aside0 (Below w.heap.size w wr)) (fun v _ => l.length - (intOf v).toNat)
  case atStart => exact ⟨0, by omega, rfl, ⟨⟨0, 0, 4607182418800017408, 0, move_new2 w _ _, isF_zero, isF_zero, isF_one, isF_zero⟩⟩, ⟨blk_keep (blk_new w _) (below_alloc (Below.refl _ _) _)⟩, ⟨below_alloc (below_alloc (Below.refl _ _) _) _⟩⟩
  case round =>
    obtain ⟨i, hi, rfl, HI, HG, HB⟩ := hrel
    by_cases hlt : i < l.length
    · obtain ⟨ad, hA, x0, x1⟩ := at_T56 (Kd.C_below HC.out HB.out) (i : Int) (by omega) (by omega)
      subst hA
      rw [Int.toNat_natCast, rd56 l i hlt] at x0 x1
      have HT := Aside0.mk (show foldW (l.take (i + 1)) = stepW (foldW (l.take i)) l[i].f0 l[i].f1 by rw [take_more l i hlt, foldW_snoc])
      have hok := foldW_ok (l.take i)
      have hln : (l.take i).length ≤ 1000 := by rw [List.length_take]; omega
      have HN := Aside0.mk (near_le (n := 2000000000000) hok.2 (by omega))
      have HQ := Aside0.mk hok.1
      obtain ⟨k, hk⟩ : ∃ k, l[i].f0 = k := ⟨_, rfl⟩
      obtain ⟨n, hn⟩ : ∃ n, l[i].f1 = n := ⟨_, rfl⟩
      have HT := Aside0.mk (by have := HT.out; rw [hk, hn] at this; exact this)
      rw [hk] at x0
      rw [hn] at x1
      clear hk hn hok hln
      go_wp2_with (go_at_call 73; (with_reducible refine (do_nil (w.heap.size + 1) (foldW (l.take i)) k n _ (WkI.keep HI.out (below_alloc (Below.refl _ _) _)) HQ.out HN.out).mono ?_); rintro e w1 ⟨rfl, hI1, hb1⟩; have hbb := (below_alloc (Below.refl wr.heap.size wr) (.cells #[.int .i64 k, .int .i64 n] 56)); have HG1 := Aside0.mk ((hb1.block w.heap.size (by omega)).trans (blk_keep HG.out hbb)); have HI1 := Aside0.mk hI1; have HB1 := Aside0.mk ((below_step HB.out hbb).trans (hb1.mono (by omega))); clear hI1 hb1 hbb)
      go_roundw
      case rel => exact ⟨i + 1, by omega, by go_num, ⟨by rw [HT.out]; exact HI1.out⟩, HG1, HB1⟩
      case measure => simp [intOf]; omega
    · obtain rfl : i = l.length := by omega
      have HI := Aside0.mk (by have := HI.out; rw [List.take_length] at this; exact this)
      have hok := foldW_ok l
      obtain ⟨⟨q, X, Y⟩, hr⟩ : ∃ r, foldW l = r := ⟨_, rfl⟩
      have HI := Aside0.mk (by have := HI.out; rw [hr] at this; exact this)
      rw [hr] at hok
      have HR := Aside0.mk hr
      obtain ⟨hq4, hn1, hn2⟩ := hok
      simp only [] at hq4 hn1 hn2
      clear hr HC
      go_wp2
      go_step3
      simp only [Exit.then]
      rename_i hk
      refine hk _ _ ?_
      clear hk
      refine wp_label_slots 0 (by rfl) ([6, 19, 20, 21, 22, 23, 24, 25, 26, 27] : List Nat) (fun n us wr => ∃ (t : Nat), t ≤ q ∧ n = q - t ∧ us.getD 0 undef = .int .i64 t ∧ Aside0 (WkI (w.heap.size + 1) (q, X, Y) wr) ∧ Aside0 (wr.heap[w.heap.size]? = some (.cells #[.int .i64 0, .int .i64 0, .int .i64 0] 34 (0, 0))) ∧ Aside0 (Below w.heap.size w wr)) (q) ?_ ?_
      · refine ⟨0, Nat.zero_le _, rfl, rfl, HI, HG, HB⟩
      · rintro n us wr hln ⟨t, htq, rfl, h6, HI, HG, HB⟩ J K hJ hK
        simp only [List.length_cons, List.length_nil] at hln
        match us, hln with
        | u6 :: u19 :: u20 :: u21 :: u22 :: u23 :: u24 :: u25 :: u26 :: u27 :: [], _ =>
        rename_i hx; clear hx
        simp only [List.getD_cons_succ, List.getD_cons_zero] at h6
        subst h6
        simp only [putS, Act.put, List.setIfInBounds_toArray, List.set_cons_zero, List.set_cons_succ]
        have hJ2 := fun (k : Nat) (v6 v19 v20 v21 v22 v23 v24 v25 v26 v27 : Value) (w' : World) => hJ k (v6 :: v19 :: v20 :: v21 :: v22 :: v23 :: v24 :: v25 :: v26 :: v27 :: []) _ w' rfl rfl
        clear hJ
        simp only [putS, Act.put, List.setIfInBounds_toArray, List.set_cons_zero, List.set_cons_succ] at hJ2
        have HJ := Aside0.mk hJ2; clear hJ2
        have HK := Aside0.mk hK; clear hK
        obtain ⟨ar, ai, lr, li, hg, h1, h2, h3, h4⟩ := HI.out
        simp only [] at h1 h2 h3 h4
        have HQ := fun W => Aside0.mk (quarter_calls (t : Int) W)
        rw [show ((t : Int) % 4).toNat = t by omega] at HQ
        have HS : WkS wr (w.heap.size + 1) ar ai lr li wr := WkS.mk hg (BelB.of (Below.refl _ _) (Nat.le_of_lt (lt_blk hg)))
        have hHG0 := blk_drew HG.out
        have hWB0 := below_drew HB.out
        have q2 := q_is t (by omega)
        have e1 : ∀ W : World, (binOp .neq 61 (.complex .f64 (qre t) (qim t)) (.complex .f64 lr li)).run Try.prog W = .ok (.bool (!(decide (t = q)))) W := fun W => by rw [cne_run q2.1 q2.2 h3 h4, ip_ne t q (by omega) hq4]
        have HX := Aside0.mk h1
        have HY := Aside0.mk h2
        have HL := Aside0.mk (show IsF lr (ip q).1 ∧ IsF li (ip q).2 from ⟨h3, h4⟩)
        clear h1 h2 h3 h4 hg q2 HI
        by_cases htq2 : t = q
        · rw [decide_eq_true htq2] at e1
          subst htq2
          have HP := fun W => Aside0.mk (wpoint_at W HX.out HY.out (by omega) (by omega))
          go_wp2
          refine start_ (n := 7) (S := WkS wr (w.heap.size + 1) ar ai lr li) (ds := []) #[false, false, false, false, false, false, false] (by kernel_rfl) rfl rfl (WkS.drew HS) (fun hHeld => ?_)
          clear HS
          refine pure_ (i := 0) (N := some 19) (v := ?_) (a' := ?_) #[true, false, false, false, false, false, false] rfl rfl (by kernel_rfl) (fun _ _ _ h => h) (Or.inl ⟨by rfl, ?_⟩) ?_ ?_
          rotate_left
          · intro w'
            go_simp
            with_reducible rfl
          rotate_left
          · simp only [Act.put, List.setIfInBounds_toArray, List.set_cons_zero, List.set_cons_succ]
            rfl
          refine pure_ (i := 2) (N := some 21) (v := ?_) (a' := ?_) #[true, false, true, false, false, false, false] rfl rfl (by kernel_rfl) (fun _ _ _ h => h) (Or.inl ⟨by rfl, ?_⟩) ?_ ?_
          rotate_left
          · intro w'
            go_simp
            with_reducible rfl
          rotate_left
          · simp only [Act.put, List.setIfInBounds_toArray, List.set_cons_zero, List.set_cons_succ]
            rfl
          refine pure_ (i := 3) (N := some 22) (v := ?_) (a' := ?_) #[true, false, true, true, false, false, false] rfl rfl (by kernel_rfl) (fun _ _ _ h => h) (Or.inl ⟨by rfl, ?_⟩) ?_ ?_
          rotate_left
          · intro w'
            go_simp
            with_reducible rfl
          rotate_left
          · simp only [Act.put, List.setIfInBounds_toArray, List.set_cons_zero, List.set_cons_succ]
            rfl
          refine pure_ (i := 4) (N := some 23) (v := ?_) (a' := ?_) #[true, false, true, true, true, false, false] rfl rfl (by kernel_rfl) (fun _ _ _ h => h) (Or.inl ⟨by rfl, ?_⟩) ?_ ?_
          rotate_left
          · intro w'
            go_simp
            with_reducible rfl
          rotate_left
          · simp only [Act.put, List.setIfInBounds_toArray, List.set_cons_zero, List.set_cons_succ]
            rfl
          refine take_ (i := 5) (N := some 24) (v := ?_) (a' := ?_) #[true, false, true, true, true, true, false] rfl rfl (by kernel_rfl) (fun _ _ _ h => h) (Or.inl ⟨by rfl, ?_⟩) hHeld ?_ ?_
          rotate_left
          · rintro w' ⟨_, _, k1, k2, k3, k4⟩
            go_simp
            with_reducible rfl
          rotate_left
          · simp only [Act.put, List.setIfInBounds_toArray, List.set_cons_zero, List.set_cons_succ]
            rfl
          refine one_ (i := 1) (N := some 20) #[true, true, true, true, true, true, false] rfl rfl (by kernel_rfl) (by decide) (fun K_ hK => ?_)
          refine goes_ Try.func74 (by kernel_rfl) rfl #[.int .i64 (t : Int)] (by rfl) rfl rfl (by (try simp only [List.map_toArray, List.map_cons, List.map_nil]); first | done | rfl) ?_
          with_reducible refine ((HQ _).out).mono ?_
          rintro e w2 ⟨rfl, hb⟩
          refine ⟨_, rfl, ?_⟩
          have hHG := blk_keep hHG0 hb
          have hWB := hWB0.trans (hb.mono hWB0.size)
          refine hK.out _ _ (WkS.keep hHeld hb) (fun hHeld => ?_)
          clear hK hb hHG0 hWB0
          refine norm_ (a' := ?_) ?_ ?_
          rotate_left
          · show Act.put _ (some 20) _ = _
            simp only [Act.put, List.setIfInBounds_toArray, List.set_cons_zero, List.set_cons_succ]
            rfl
          refine pure_ (i := 6) (N := some 25) (v := ?_) (a' := ?_) #[true, true, true, true, true, true, true] rfl rfl (by kernel_rfl) (fun _ _ _ h => h) (Or.inl ⟨by rfl, ?_⟩) ?_ ?_
          rotate_left
          · intro w'
            go_simp
            with_reducible rfl
          rotate_left
          · simp only [Act.put, List.setIfInBounds_toArray, List.set_cons_zero, List.set_cons_succ]
            rfl
          refine done_ (by kernel_rfl) ?_
          have HHG := Aside0.mk hHG
          have HWB := Aside0.mk hWB
          clear hHG hWB
          obtain ⟨_, _, k1, k2, k3, k4⟩ := hHeld
          go_wp2_with (go_at_call 75; (with_reducible refine (HP _).out.mono ?_); rintro e w3 ⟨rfl, hb3⟩; have HG3 := Aside0.mk (blk_keep HHG.out hb3); have hc0 := blk_cell HG3.out 0; have hc1 := blk_cell HG3.out 1; have hc2 := blk_cell HG3.out 2; have hf0 := blk_frozen HG3.out 0; have hf1 := blk_frozen HG3.out 1; have hf2 := blk_frozen HG3.out 2; have HB3 := Aside0.mk (below_step HWB.out hb3); clear hb3)
          simp only [Exit.jump]
          refine bodyPost_ret (results_cell_row rfl _ _ w.heap.size 34 #[.int .i64 t, .int .i64 X, .int .i64 Y] (0, 0) _ rfl (blk_put (cs := #[.int .i64 t, .int .i64 X, .int .i64 0]) (blk_put (cs := #[.int .i64 t, .int .i64 0, .int .i64 0]) (blk_put (cs := #[.int .i64 0, .int .i64 0, .int .i64 0]) HG3.out 0 _ rfl) 1 _ rfl) 2 _ rfl) Try.underlying34 rfl (by kernel_rfl)) rfl ?_
          exact ⟨by rw [HR.out], below_set (below_set (below_set HB3.out (by omega)) (by omega)) (by omega)⟩
        · rw [decide_eq_false htq2] at e1
          go_wp2
          refine start_ (n := 7) (S := WkS wr (w.heap.size + 1) ar ai lr li) (ds := []) #[false, false, false, false, false, false, false] (by kernel_rfl) rfl rfl (WkS.drew HS) (fun hHeld => ?_)
          clear HS
          refine pure_ (i := 0) (N := some 19) (v := ?_) (a' := ?_) #[true, false, false, false, false, false, false] rfl rfl (by kernel_rfl) (fun _ _ _ h => h) (Or.inl ⟨by rfl, ?_⟩) ?_ ?_
          rotate_left
          · intro w'
            go_simp
            with_reducible rfl
          rotate_left
          · simp only [Act.put, List.setIfInBounds_toArray, List.set_cons_zero, List.set_cons_succ]
            rfl
          refine pure_ (i := 2) (N := some 21) (v := ?_) (a' := ?_) #[true, false, true, false, false, false, false] rfl rfl (by kernel_rfl) (fun _ _ _ h => h) (Or.inl ⟨by rfl, ?_⟩) ?_ ?_
          rotate_left
          · intro w'
            go_simp
            with_reducible rfl
          rotate_left
          · simp only [Act.put, List.setIfInBounds_toArray, List.set_cons_zero, List.set_cons_succ]
            rfl
          refine pure_ (i := 3) (N := some 22) (v := ?_) (a' := ?_) #[true, false, true, true, false, false, false] rfl rfl (by kernel_rfl) (fun _ _ _ h => h) (Or.inl ⟨by rfl, ?_⟩) ?_ ?_
          rotate_left
          · intro w'
            go_simp
            with_reducible rfl
          rotate_left
          · simp only [Act.put, List.setIfInBounds_toArray, List.set_cons_zero, List.set_cons_succ]
            rfl
          refine pure_ (i := 4) (N := some 23) (v := ?_) (a' := ?_) #[true, false, true, true, true, false, false] rfl rfl (by kernel_rfl) (fun _ _ _ h => h) (Or.inl ⟨by rfl, ?_⟩) ?_ ?_
          rotate_left
          · intro w'
            go_simp
            with_reducible rfl
          rotate_left
          · simp only [Act.put, List.setIfInBounds_toArray, List.set_cons_zero, List.set_cons_succ]
            rfl
          refine take_ (i := 5) (N := some 24) (v := ?_) (a' := ?_) #[true, false, true, true, true, true, false] rfl rfl (by kernel_rfl) (fun _ _ _ h => h) (Or.inl ⟨by rfl, ?_⟩) hHeld ?_ ?_
          rotate_left
          · rintro w' ⟨_, _, k1, k2, k3, k4⟩
            go_simp
            with_reducible rfl
          rotate_left
          · simp only [Act.put, List.setIfInBounds_toArray, List.set_cons_zero, List.set_cons_succ]
            rfl
          refine one_ (i := 1) (N := some 20) #[true, true, true, true, true, true, false] rfl rfl (by kernel_rfl) (by decide) (fun K_ hK => ?_)
          refine goes_ Try.func74 (by kernel_rfl) rfl #[.int .i64 (t : Int)] (by rfl) rfl rfl (by (try simp only [List.map_toArray, List.map_cons, List.map_nil]); first | done | rfl) ?_
          with_reducible refine ((HQ _).out).mono ?_
          rintro e w2 ⟨rfl, hb⟩
          refine ⟨_, rfl, ?_⟩
          have hHG := blk_keep hHG0 hb
          have hWB := hWB0.trans (hb.mono hWB0.size)
          refine hK.out _ _ (WkS.keep hHeld hb) (fun hHeld => ?_)
          clear hK hb hHG0 hWB0
          refine norm_ (a' := ?_) ?_ ?_
          rotate_left
          · show Act.put _ (some 20) _ = _
            simp only [Act.put, List.setIfInBounds_toArray, List.set_cons_zero, List.set_cons_succ]
            rfl
          refine pure_ (i := 6) (N := some 25) (v := ?_) (a' := ?_) #[true, true, true, true, true, true, true] rfl rfl (by kernel_rfl) (fun _ _ _ h => h) (Or.inl ⟨by rfl, ?_⟩) ?_ ?_
          rotate_left
          · intro w'
            go_simp
            with_reducible rfl
          rotate_left
          · simp only [Act.put, List.setIfInBounds_toArray, List.set_cons_zero, List.set_cons_succ]
            rfl
          refine done_ (by kernel_rfl) ?_
          go_wp2
          go_step3
          exact ⟨rfl, HK.out _ _ (Handed.intro (q - (t + 1)) (by omega) (HJ.out _ _ _ _ _ _ _ _ _ _ _ _ ⟨t + 1, by omega, rfl, by go_num, ⟨⟨ar, ai, lr, li, hHeld.1.out, HX.out, HY.out, HL.out.1, HL.out.2⟩⟩, ⟨hHG⟩, ⟨hWB⟩⟩))⟩
def walk_End.f (l0 : List (S56)) : Option (Int × Int × Int) := if l0.length ≤ 1000 then some ((foldW l0).1, (foldW l0).2.1, (foldW l0).2.2) else none
theorem walk_End.calls (A0 : Option Addr) (c0 : Nat) (l0 : List (S56)) (r1 : Int) (r2 : Int) (r3 : Int) (w : World) (hr0 : Kd.C k56 w A0 l0.length l0) (hc0 : l0.length ≤ c0) (h : walk_End.f l0 = some (r1, r2, r3)) :
    Calls Try.prog 40 #[.slice A0 l0.length c0] w fun e w' => e = .returned (.agg #[.int .i64 r1, .int .i64 r2, .int .i64 r3]) ∧ Below w.heap.size w w' := by
  unfold walk_End.f at h
  split at h
  · rename_i hl
    have h2 := end_calls A0 c0 l0 w hr0 hl
    have h3 := Option.some.inj h
    injection h3 with a b
    injection b with b c
    unfold EndPost at h2
    rw [a, b, c] at h2
    exact h2
  · cases h
end Go.Proofs.Ytpoghhcpoimepaa.P
end
section
/- A row that is only read lies in no block that it may not lead to. -/
namespace Go.Proofs.Ytpoghhcpoimepaa.P
open Go.RowKit Go.Proofs.YtpoghhcpoimepaaW.PrintWords Go.Proofs.YtpoghhcpoimepaaW.PrintLast Go.Proofs.YtpoghhcpoimepaaW.PrintMore
set_option linter.unusedVariables false
end Go.Proofs.Ytpoghhcpoimepaa.P
end
section
-- printed by the session's own call of print.py. Not trusted: Lean checks it.
namespace Go.Proofs.Ytpoghhcpoimepaa.P
open Go.RowKit Go.Proofs.YtpoghhcpoimepaaW.PrintWords Go.Proofs.YtpoghhcpoimepaaW.PrintLast Go.Proofs.YtpoghhcpoimepaaW.PrintMore
attribute [local go_sem] max2_int min2_int max_two min_two max_three min_three max_four min_four
set_option linter.unusedVariables false
set_option linter.unusedSimpArgs false
attribute [local go_sem high] eqA95
/-! ### tallymanref05_merged: function 71 -/
def tallymanref05_merged.l0 : Nat → List (S95) → Int → Option ((List (S95)) × Bool)
  | 0, _, _ => none
  | k + 1, x0, x4 => if x4 < (x0.length : Int) then (if 0 ≤ x4 then (if (((rd_T95 x0 x4).f0) == 0 && (((rd_T95 x0 x4).f1) == 0)) = true then ((some (([] : List (S95)) : List (S95))).bind fun y102 => (if x4 ≤ (x0.length : Int) then ((some (x0.take (x4 : Int).toNat : List (S95))).bind fun y105 => (if y102.length + y105.length < 8796093022208 then ((some (y102 ++ y105 : List (S95))).bind fun y110 => (if 0 ≤ (wrap64 (x4 + 1)) then (if (wrap64 (x4 + 1)) ≤ (x0.length : Int) then ((some (x0.drop ((wrap64 (x4 + 1)) : Int).toNat : List (S95))).bind fun y113 => (if y110.length + y113.length < 8796093022208 then (some ((y110 ++ y113), true)) else (none))) else (none)) else (none))) else (none))) else (none))) else (if (wrap64 (x4 + 1)) < (x0.length : Int) then (if 0 ≤ (wrap64 (x4 + 1)) then (if ((((rd_T95 x0 x4).f0) != 0) == (((rd_T95 x0 (wrap64 (x4 + 1))).f0) != 0)) = true then (if (!(((rd_T95 x0 (wrap64 (x4 + 1))).f0) == 0) || (!(((rd_T95 x0 (wrap64 (x4 + 1))).f1) == 0))) = true then ((some (([] : List (S95)) : List (S95))).bind fun y129 => (if x4 ≤ (x0.length : Int) then ((some (x0.take (x4 : Int).toNat : List (S95))).bind fun y132 => (if y129.length + y132.length < 8796093022208 then ((some (y129 ++ y132 : List (S95))).bind fun y137 => ((some (([(⟨wrap64 (((rd_T95 x0 x4).f0) + ((rd_T95 x0 (wrap64 (x4 + 1))).f0)), Int.tmod (wrap64 (((rd_T95 x0 x4).f1) + ((rd_T95 x0 (wrap64 (x4 + 1))).f1))) 4⟩ : S95)] : List (S95)) : List (S95))).bind fun y140 => (if y137.length + y140.length < 8796093022208 then ((some (y137 ++ y140 : List (S95))).bind fun y143 => (if 0 ≤ (wrap64 (x4 + 2)) then (if (wrap64 (x4 + 2)) ≤ (x0.length : Int) then ((some (x0.drop ((wrap64 (x4 + 2)) : Int).toNat : List (S95))).bind fun y146 => (if y143.length + y146.length < 8796093022208 then (some ((y143 ++ y146), true)) else (none))) else (none)) else (none))) else (none)))) else (none))) else (none))) else (tallymanref05_merged.l0 k x0 (wrap64 (x4 + 1)))) else (tallymanref05_merged.l0 k x0 (wrap64 (x4 + 1)))) else (none)) else (tallymanref05_merged.l0 k x0 (wrap64 (x4 + 1))))) else (none)) else (some (x0, false))
def tallymanref05_merged.f (k : Nat) (l0 : List (S95)) : Option ((List (S95)) × Bool) := tallymanref05_merged.l0 k l0 0
theorem tallymanref05_merged.mono_l : ∀ k, (∀ y0 y1, LeO (tallymanref05_merged.l0 k y0 y1) (tallymanref05_merged.l0 (k + 1) y0 y1))
  | 0 => fun _ _ r h => by simp [tallymanref05_merged.l0] at h
  | k + 1 => by
    have ih0 := tallymanref05_merged.mono_l k
    · intro y0 y1
      unfold tallymanref05_merged.l0
      repeat' first
      | (with_reducible exact ih0 _ _)
      | (with_reducible exact LeO.refl _)
      | (with_reducible exact LeO.none _)
      | (with_reducible refine LeO.ite ?_ ?_)
      | (with_reducible refine LeO.bind ?_ (fun _ => ?_))
      | exact ih0 _ _
      | exact LeO.none _
      | refine LeO.ite ?_ ?_
      | refine LeO.bind ?_ (fun _ => ?_)
theorem tallymanref05_merged.mono : ∀ a0 k, LeO (tallymanref05_merged.f k a0) (tallymanref05_merged.f (k + 1) a0) := by
  intro a0 k
  have ih0 := tallymanref05_merged.mono_l k
  unfold tallymanref05_merged.f
  repeat' first
      | (with_reducible exact ih0 _ _)
      | (with_reducible exact LeO.refl _)
      | (with_reducible exact LeO.none _)
      | (with_reducible refine LeO.ite ?_ ?_)
      | (with_reducible refine LeO.bind ?_ (fun _ => ?_))
      | exact ih0 _ _
      | exact LeO.none _
      | refine LeO.ite ?_ ?_
      | refine LeO.bind ?_ (fun _ => ?_)
end Go.Proofs.Ytpoghhcpoimepaa.P
end
section
/- Walks: what moves do, put together (plain). -/
namespace Go.Proofs.Ytpoghhcpoimepaa.P
open Go.Proofs.Ytpoghhcpoimepaa.B Go.RowKit Go.Proofs.YtpoghhcpoimepaaW.PrintWords Go.Proofs.YtpoghhcpoimepaaW.PrintLast Go.Proofs.YtpoghhcpoimepaaW.PrintMore
set_option linter.unusedVariables false
set_option linter.unusedSimpArgs false
/-- What a move does, as the document tells it. -/
def plainV (k n : Int) : S95 := if k = 1 then ⟨ofV k n, 0⟩ else if k = 2 then ⟨-(ofV k n : Int), 0⟩ else if k = 3 then ⟨0, (ofV k n : Int) % 4⟩ else if k = 4 then ⟨0, (3 * (ofV k n : Int)) % 4⟩ else ⟨0, 0⟩
def tot : List S95 → Nat
  | [] => 0
  | x :: t => x.f0.natAbs + tot t
end Go.Proofs.Ytpoghhcpoimepaa.P
end
section
-- printed by the session's own call of print.py. Not trusted: Lean checks it.
namespace Go.Proofs.Ytpoghhcpoimepaa.P
open Go.RowKit Go.Proofs.YtpoghhcpoimepaaW.PrintWords Go.Proofs.YtpoghhcpoimepaaW.PrintLast Go.Proofs.YtpoghhcpoimepaaW.PrintMore
attribute [local go_sem] max2_int min2_int max_two min_two max_three min_three max_four min_four
set_option linter.unusedVariables false
set_option linter.unusedSimpArgs false
/-! ### walk_goes: function 76 -/
def walk_goes.f (a0_0 : Int) (a0_1 : Int) : Option (Bool) := if a0_0 = 1 then (some true) else (some (a0_0 == 2))
set_option maxHeartbeats 8000000 in
set_option maxRecDepth 100000 in
theorem walk_goes.calls (a0_0 : Int) (a0_1 : Int) (r : Bool) (w : World) (h : walk_goes.f a0_0 a0_1 = some r) :
    Calls Try.prog 76 #[.agg #[.int .i64 a0_0, .int .i64 a0_1]] w fun e w' => e = .returned (.bool r) ∧ Below w.heap.size w w' := by
  have hu56 := Try.underlying56
  have HB := Aside0.mk (Below.refl w.heap.size w)
  have H : (if a0_0 = 1 then (some true) else (some (a0_0 == 2))) = some r := h
  clear h
  by_cases c2 : a0_0 = 1
  · rw [if_pos c2] at H
    have c2b0 : (a0_0 == 1) = true := beq_iff_eq.mpr c2
    have c2b1 : (a0_0 != 1) = false := bne_eq_false_iff_eq.mpr c2
    clear c2
    obtain rfl := Option.some.inj H
    go_enter Try.func76, Try.ntmps76
    go_wp2_with (first | ((with_reducible refine gate_dst (N := 1) rfl ?_); refine box_event ?hg (N := 1) ?hd (cs := #[.int .i64 a0_0, .int .i64 a0_1]) (t := 56) ?hr ?_; (case hd => rfl); (case hg => rfl); (case hr => first | (go_simp; done) | (go_simp; rfl)); intro gb101 hg w3 hbox hb; have n0_ := Aside0.mk (below_step (by repeat (first | (with_reducible first | exact HB.out | apply below_alloc | apply pw_below_drewN | apply below_drew1) | exact HB.out)) hb); have n1_ := Aside0.mk (hbox); have n2_ := Aside0.mk ((by rw [hg]; exact (below_size (by repeat (first | (with_reducible first | exact HB.out | apply below_alloc | apply pw_below_drewN | apply below_drew1) | exact HB.out))) : w.heap.size ≤ gb101)); have n3_ := Aside0.mk ((by rw [hg]; exact (below_size (by repeat (first | (with_reducible first | exact HB.out | apply below_alloc | apply pw_below_drewN | apply below_drew1) | exact HB.out))) : w.heap.size ≤ gb101)); clear HB; have HB := n0_; have BK101 := n1_; have GW101 := n2_; have GE101 := n3_; clear n0_ n1_ n2_ n3_; clear hb hbox hg; have hcz4_0 : w3.cell? ⟨gb101, 0, none⟩ = some (.int .i64 a0_0) := (blk_cell BK101.out 0).trans rfl; have hcz4_1 : w3.cell? ⟨gb101, 1, none⟩ = some (.int .i64 a0_1) := (blk_cell BK101.out 1).trans rfl; have hfz4_0 := blk_frozen BK101.out 0; have hfz4_1 := blk_frozen BK101.out 1))
    go_ret
    exact ⟨by first | rfl | ((repeat first | rw [Int.tdiv_eq_ediv_of_nonneg (by omega)] | rw [Int.tmod_eq_emod_of_nonneg (by omega)]); rfl) | (simp [errW_none, errW_some] <;> rfl) | (simp [*, errW_none, errW_some] <;> rfl), by repeat (first | (with_reducible first | exact HB.out | apply below_alloc | apply pw_below_drewN | apply below_drew1 | refine below_set ?_ GE101.out) | exact HB.out)⟩
  · rw [if_neg c2] at H
    have c2b0 : (a0_0 == 1) = false := beq_eq_false_iff_ne.mpr c2
    have c2b1 : (a0_0 != 1) = true := bne_iff_ne.mpr c2
    obtain rfl := Option.some.inj H
    go_enter Try.func76, Try.ntmps76
    go_wp2_with (first | ((with_reducible refine gate_dst (N := 1) rfl ?_); refine box_event ?hg (N := 1) ?hd (cs := #[.int .i64 a0_0, .int .i64 a0_1]) (t := 56) ?hr ?_; (case hd => rfl); (case hg => rfl); (case hr => first | (go_simp; done) | (go_simp; rfl)); intro gb101 hg w5 hbox hb; have n0_ := Aside0.mk (below_step (by repeat (first | (with_reducible first | exact HB.out | apply below_alloc | apply pw_below_drewN | apply below_drew1) | exact HB.out)) hb); have n1_ := Aside0.mk (hbox); have n2_ := Aside0.mk ((by rw [hg]; exact (below_size (by repeat (first | (with_reducible first | exact HB.out | apply below_alloc | apply pw_below_drewN | apply below_drew1) | exact HB.out))) : w.heap.size ≤ gb101)); have n3_ := Aside0.mk ((by rw [hg]; exact (below_size (by repeat (first | (with_reducible first | exact HB.out | apply below_alloc | apply pw_below_drewN | apply below_drew1) | exact HB.out))) : w.heap.size ≤ gb101)); clear HB; have HB := n0_; have BK101 := n1_; have GW101 := n2_; have GE101 := n3_; clear n0_ n1_ n2_ n3_; clear hb hbox hg; have hcz6_0 : w5.cell? ⟨gb101, 0, none⟩ = some (.int .i64 a0_0) := (blk_cell BK101.out 0).trans rfl; have hcz6_1 : w5.cell? ⟨gb101, 1, none⟩ = some (.int .i64 a0_1) := (blk_cell BK101.out 1).trans rfl; have hfz6_0 := blk_frozen BK101.out 0; have hfz6_1 := blk_frozen BK101.out 1))
    go_ret
    exact ⟨by first | rfl | ((repeat first | rw [Int.tdiv_eq_ediv_of_nonneg (by omega)] | rw [Int.tmod_eq_emod_of_nonneg (by omega)]); rfl) | (simp [errW_none, errW_some] <;> rfl) | (simp [*, errW_none, errW_some] <;> rfl), by repeat (first | (with_reducible first | exact HB.out | apply below_alloc | apply pw_below_drewN | apply below_drew1 | refine below_set ?_ GE101.out) | exact HB.out)⟩
end Go.Proofs.Ytpoghhcpoimepaa.P
end
