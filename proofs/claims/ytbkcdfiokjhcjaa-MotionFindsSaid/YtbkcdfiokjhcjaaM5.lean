/- Motions: a motion as a move. -/
import Derived.Test.YtbkcdfiokjhcjaaMA
namespace Go.Proofs.Ytbkcdfiokjhcjaa.P
open Go.Proofs.Ytbkcdfiokjhcjaa.B Go.RowKit Go.Proofs.YtbkcdfiokjhcjaaW.PrintWords Go.Proofs.YtbkcdfiokjhcjaaW.PrintLast Go.Proofs.YtbkcdfiokjhcjaaW.PrintMore Go.Proofs.Ytbkcdfiokjhcjaa.FX Go.Proofs.Ytbkcdfiokjhcjaa.H
set_option linter.unusedVariables false
set_option linter.unusedSimpArgs false
attribute [local go_sem] run_store_complex
abbrev OfS (w0 : World) (n x y : Int) (w' : World) : Prop :=
  Aside0 (w'.heap[w0.heap.size]? = some (.cells #[.int .i64 n, .int .i64 x, .int .i64 y] 35 (0, 0))) ∧ Aside0 (w'.heap[w0.heap.size + 1]? = some (.cells #[.complex .f64 0 0, .complex .f64 0 0] 61 (0, 0))) ∧ Aside0 (Below w0.heap.size w0 w') ∧
  w'.cell? ⟨w0.heap.size, 0, none⟩ = some (.int .i64 n) ∧ w'.cell? ⟨w0.heap.size, 1, none⟩ = some (.int .i64 x) ∧ w'.cell? ⟨w0.heap.size, 2, none⟩ = some (.int .i64 y)
theorem OfS.mk {w0 : World} {n x y : Int} {w' : World} (h1 : w'.heap[w0.heap.size]? = some (.cells #[.int .i64 n, .int .i64 x, .int .i64 y] 35 (0, 0))) (h2 : w'.heap[w0.heap.size + 1]? = some (.cells #[.complex .f64 0 0, .complex .f64 0 0] 61 (0, 0))) (h3 : Below w0.heap.size w0 w') : OfS w0 n x y w' :=
  ⟨⟨h1⟩, ⟨h2⟩, ⟨h3⟩, blk_cell h1 0, blk_cell h1 1, blk_cell h1 2⟩
theorem OfS.keep {w0 : World} {n x y : Int} {w1 w2 : World} (h : OfS w0 n x y w1) (hb : Below w1.heap.size w1 w2) : OfS w0 n x y w2 := OfS.mk (blk_keep h.1.out hb) (blk_keep h.2.1.out hb) (below_step h.2.2.1.out hb)
theorem OfS.drew {w0 : World} {n x y : Int} {w1 : World} (h : OfS w0 n x y w1) : OfS w0 n x y w1.drew := OfS.mk h.1.out h.2.1.out (below_drew h.2.2.1.out)
theorem new_of {w0 : World} {n x y : Int} {W : World} {o : Obj} (h : OfS w0 n x y (W.alloc o)) : (W.alloc o).heap[W.heap.size]? = some o := blk_new W o
theorem keep_of {w0 : World} {n x y : Int} {W : World} {o o' : Obj} {g : Nat} (hg : W.heap[g]? = some o') (h : OfS w0 n x y (W.alloc o)) : (W.alloc o).heap[g]? = some o' := blk_keep hg (below_alloc (Below.refl _ _) _)
theorem lt_of_blk {W : World} {g : Nat} {o : Obj} (h : W.heap[g]? = some o) : g < W.heap.size := (Array.getElem?_eq_some_iff.1 h).1
theorem ne_of_lt' {a b : Nat} (h : a < b) : a ≠ b := Nat.ne_of_lt h
theorem far2 {W : World} {a b : Nat} {o : Obj} (h : W.heap[b]? = some o) (hne : a ≠ b) (v1 v2 : Value) : ((W.setCell ⟨a, 0, none⟩ v1).setCell ⟨a, 1, none⟩ v2).heap[b]? = some o := by
  rw [Below.heap_setCell _ _ _ b (fun e => hne e.symm), Below.heap_setCell _ _ _ b (fun e => hne e.symm)]; exact h
theorem rot_unit (n : Int) : (rot (n % 4).toNat 1 0).1.natAbs ≤ 1 ∧ (rot (n % 4).toNat 1 0).2.natAbs ≤ 1 := by
  have hq : n % 4 = 0 ∨ n % 4 = 1 ∨ n % 4 = 2 ∨ n % 4 = 3 := by omega
  rcases hq with h | h | h | h <;> rw [h] <;> decide
abbrev O2S (w0 : World) (g3 g4 : Nat) (A1 A2 F1 F2 : Int) (w' : World) : Prop :=
  Aside0 (w'.heap[g3]? = some (.cells #[.int .i64 A1, .int .i64 A2] 23 (0, 0))) ∧ Aside0 (w'.heap[g4]? = some (.cells #[.int .i64 F1, .int .i64 F2] 23 (0, 0))) ∧ Aside0 (w'.heap[w0.heap.size + 1]? = some (.cells #[.complex .f64 0 0, .complex .f64 0 0] 61 (0, 0))) ∧ Aside0 (Below w0.heap.size w0 w') ∧
  w'.cell? ⟨g3, 0, none⟩ = some (.int .i64 A1) ∧ w'.cell? ⟨g3, 1, none⟩ = some (.int .i64 A2) ∧ w'.cell? ⟨g4, 0, none⟩ = some (.int .i64 F1) ∧ w'.cell? ⟨g4, 1, none⟩ = some (.int .i64 F2) ∧
  w'.cell? ⟨w0.heap.size + 1, 0, none⟩ = some (.complex .f64 0 0) ∧ w'.cell? ⟨w0.heap.size + 1, 1, none⟩ = some (.complex .f64 0 0) ∧ w'.frozen? ⟨w0.heap.size + 1, 0, none⟩ = false ∧ w'.frozen? ⟨w0.heap.size + 1, 1, none⟩ = false
theorem O2S.mk {w0 : World} {g3 g4 : Nat} {A1 A2 F1 F2 : Int} {w' : World} (h1 : w'.heap[g3]? = some (.cells #[.int .i64 A1, .int .i64 A2] 23 (0, 0))) (h2 : w'.heap[g4]? = some (.cells #[.int .i64 F1, .int .i64 F2] 23 (0, 0))) (h3 : w'.heap[w0.heap.size + 1]? = some (.cells #[.complex .f64 0 0, .complex .f64 0 0] 61 (0, 0))) (h4 : Below w0.heap.size w0 w') : O2S w0 g3 g4 A1 A2 F1 F2 w' :=
  ⟨⟨h1⟩, ⟨h2⟩, ⟨h3⟩, ⟨h4⟩, blk_cell h1 0, blk_cell h1 1, blk_cell h2 0, blk_cell h2 1, blk_cell h3 0, blk_cell h3 1, blk_frozen h3 0, blk_frozen h3 1⟩
theorem O2S.keep {w0 : World} {g3 g4 : Nat} {A1 A2 F1 F2 : Int} {w1 w2 : World} (h : O2S w0 g3 g4 A1 A2 F1 F2 w1) (hb : Below w1.heap.size w1 w2) : O2S w0 g3 g4 A1 A2 F1 F2 w2 := O2S.mk (blk_keep h.1.out hb) (blk_keep h.2.1.out hb) (blk_keep h.2.2.1.out hb) (below_step h.2.2.2.1.out hb)
theorem O2S.drew {w0 : World} {g3 g4 : Nat} {A1 A2 F1 F2 : Int} {w1 : World} (h : O2S w0 g3 g4 A1 A2 F1 F2 w1) : O2S w0 g3 g4 A1 A2 F1 F2 w1.drew := O2S.mk h.1.out h.2.1.out h.2.2.1.out (below_drew h.2.2.2.1.out)
set_option maxHeartbeats 4000000 in
set_option maxRecDepth 100000 in
theorem of_calls (n x y : Int) (w : World) : Calls Try.prog 58 #[.agg #[.int .i64 n, .int .i64 x, .int .i64 y]] w (MovePost (rot (n % 4).toNat 1 0) (fx x, fx y) w) := by
  obtain ⟨A1, A2, hA⟩ : ∃ A1 A2, rot (n % 4).toNat 1 0 = (A1, A2) := ⟨_, _, rfl⟩
  obtain ⟨F1, F2, hF1, hF2⟩ : ∃ F1 F2, fx x = F1 ∧ fx y = F2 := ⟨_, _, rfl, rfl⟩
  have HT := fun W => Aside0.mk (show Calls Try.prog 25 #[.agg #[.int .i64 1, .int .i64 0], .int .i64 n] W fun e w' => e = .returned (.agg #[.int .i64 A1, .int .i64 A2]) ∧ Below W.heap.size W w' from by
    have h := turn_calls 1 0 n W
    rw [show fx 1 = 1 from by decide, show fx 0 = 0 from by decide, hA] at h
    exact h)
  have HF := fun W => Aside0.mk (show Calls Try.prog 19 #[.agg #[.int .i64 x, .int .i64 y]] W fun e w' => e = .returned (.agg #[.int .i64 F1, .int .i64 F2]) ∧ Below W.heap.size W w' from by
    have h := fix_calls x y W
    rw [hF1, hF2] at h
    exact h)
  have HMV := Aside0.mk (show MV (floatOfInt .f64 A1) (floatOfInt .f64 A2) (floatOfInt .f64 F1) (floatOfInt .f64 F2) (A1, A2) (F1, F2) from by
    have u := rot_unit n
    rw [hA] at u
    have b1 := fx_le x
    have b2 := fx_le y
    exact ⟨isF_of _ (by simp only [] at u; omega), isF_of _ (by simp only [] at u; omega), isF_of _ (by omega), isF_of _ (by omega)⟩)
  rw [hA, hF1, hF2]
  have HS : OfS w n x y ((w.alloc (.cells #[.int .i64 n, .int .i64 x, .int .i64 y] 35)).alloc (.cells #[.complex .f64 0 0, .complex .f64 0 0] 61)) := OfS.mk (blk_keep (blk_new w _) (below_alloc (Below.refl _ _) _)) (move_new2 w _ _) (below_alloc (below_alloc (Below.refl _ _) _) _)
  go_enter Try.func58, Try.ntmps58
  go_wp2
  rename_i K hKr
  have HK : ∀ (g3 g4 : Nat) (W : World), W.heap[g3]? = some (.cells #[.int .i64 A1, .int .i64 A2] 23 (0, 0)) → W.heap[g4]? = some (.cells #[.int .i64 F1, .int .i64 F2] 23 (0, 0)) → W.heap[w.heap.size + 1]? = some (.cells #[.complex .f64 0 0, .complex .f64 0 0] 61 (0, 0)) → Below w.heap.size w W →
      K ⟨#[.agg #[.int .i64 n, .int .i64 x, .int .i64 y], .pointer (some ⟨w.heap.size, 0, none⟩), .pointer (some ⟨w.heap.size + 1, 0, none⟩), .pointer (some ⟨g3, 0, none⟩), .pointer (some ⟨g4, 0, none⟩), .agg #[.int .i64 1, .int .i64 0], .pointer (some ⟨w.heap.size, 0, none⟩), .int .i64 n, .agg #[.int .i64 A1, .int .i64 A2], .pointer (some ⟨w.heap.size, 1, none⟩), .agg #[.int .i64 x, .int .i64 y], .agg #[.int .i64 F1, .int .i64 F2], undef, undef, undef, undef, undef], []⟩ W := by
    intro g3 g4 W h3 h4 h5 hB
    refine hKr _ _ ?_
    have HS2 : O2S w g3 g4 A1 A2 F1 F2 W := O2S.mk h3 h4 h5 hB
    clear h3 h4 h5 hB HT HF HS
    go_wp2
    refine start_ (n := 6) (S := O2S w g3 g4 A1 A2 F1 F2) (ds := [5]) #[false, false, false, false, false, false] (by kernel_rfl) rfl rfl (O2S.drew HS2) (fun hHeld => ?_)
    clear HS2
    refine take_ (i := 0) (N := some 12) (v := ?_) (a' := ?_) #[true, false, false, false, false, false] rfl rfl (by kernel_rfl) (fun _ _ _ h => h) (Or.inl ⟨by rfl, ?_⟩) hHeld ?_ ?_
    rotate_left
    · rintro w' ⟨_, _, _, _, k1, k2, k3, k4, k5, k6, k7, k8⟩
      go_simp
      with_reducible rfl
    rotate_left
    · simp only [Act.put, List.setIfInBounds_toArray, List.set_cons_zero, List.set_cons_succ]
      rfl
    refine take_ (i := 2) (N := some 14) (v := ?_) (a' := ?_) #[true, false, true, false, false, false] rfl rfl (by kernel_rfl) (fun _ _ _ h => h) (Or.inl ⟨by rfl, ?_⟩) hHeld ?_ ?_
    rotate_left
    · rintro w' ⟨_, _, _, _, k1, k2, k3, k4, k5, k6, k7, k8⟩
      go_simp
      with_reducible rfl
    rotate_left
    · simp only [Act.put, List.setIfInBounds_toArray, List.set_cons_zero, List.set_cons_succ]
      rfl
    refine one_ (i := 1) (N := some 13) #[true, true, true, false, false, false] rfl rfl (by kernel_rfl) (by decide) (fun K_ hK => ?_)
    refine goes_ Try.func61 (by kernel_rfl) rfl #[.agg #[.int .i64 A1, .int .i64 A2]] (by rfl) rfl rfl (by (try simp only [List.map_toArray, List.map_cons, List.map_nil]); first | done | rfl) ?_
    with_reducible refine (mplane_calls A1 A2 _).mono ?_
    rintro e w2 ⟨rfl, hb⟩
    refine ⟨_, rfl, ?_⟩
    have hHeld2 := O2S.keep hHeld hb
    clear hHeld hb
    refine hK.out _ _ hHeld2 (fun hHeld => ?_)
    clear hK hHeld2
    refine norm_ (a' := ?_) ?_ ?_
    rotate_left
    · show Act.put _ (some 13) _ = _
      simp only [Act.put, List.setIfInBounds_toArray, List.set_cons_zero, List.set_cons_succ]
      rfl
    refine one_ (i := 3) (N := some 15) #[true, true, true, true, false, false] rfl rfl (by kernel_rfl) (by decide) (fun K_ hK => ?_)
    refine goes_ Try.func61 (by kernel_rfl) rfl #[.agg #[.int .i64 F1, .int .i64 F2]] (by rfl) rfl rfl (by (try simp only [List.map_toArray, List.map_cons, List.map_nil]); first | done | rfl) ?_
    with_reducible refine (mplane_calls F1 F2 _).mono ?_
    rintro e w2 ⟨rfl, hb⟩
    refine ⟨_, rfl, ?_⟩
    have hHeld2 := O2S.keep hHeld hb
    clear hHeld hb
    refine hK.out _ _ hHeld2 (fun hHeld => ?_)
    clear hK hHeld2
    refine norm_ (a' := ?_) ?_ ?_
    rotate_left
    · show Act.put _ (some 15) _ = _
      simp only [Act.put, List.setIfInBounds_toArray, List.set_cons_zero, List.set_cons_succ]
      rfl
    refine pure_ (i := 4) (N := some 16) (v := ?_) (a' := ?_) #[true, true, true, true, true, false] rfl rfl (by kernel_rfl) (fun _ _ _ h => h) (Or.inl ⟨by rfl, ?_⟩) ?_ ?_
    rotate_left
    · intro w'
      go_simp
      with_reducible rfl
    rotate_left
    · simp only [Act.put, List.setIfInBounds_toArray, List.set_cons_zero, List.set_cons_succ]
      rfl
    refine last_ (i := 5) (N := none) #[true, true, true, true, true, true] rfl rfl (by kernel_rfl) (by decide) (fun K_ hK => ?_)
    obtain ⟨_, _, HR, HB, k1, k2, k3, k4, k5, k6, k7, k8⟩ := hHeld
    rw [if_pos (by rfl)]
    go_wp2
    refine hK.out _ _ ?_
    refine done_ (by kernel_rfl) ?_
    go_wp2
    refine bodyPost_ret (results_cell_row rfl _ _ (w.heap.size + 1) 61 #[.complex .f64 (floatOfInt .f64 A1) (floatOfInt .f64 A2), .complex .f64 (floatOfInt .f64 F1) (floatOfInt .f64 F2)] (0, 0) _ rfl (blk_put (cs := #[.complex .f64 (floatOfInt .f64 A1) (floatOfInt .f64 A2), .complex .f64 0 0]) (blk_put (cs := #[.complex .f64 0 0, .complex .f64 0 0]) HR.out 0 _ rfl) 1 _ rfl) Try.underlying61 rfl (by kernel_rfl)) rfl ?_
    exact ⟨_, _, _, _, rfl, HMV.out, below_set (below_set HB.out (by omega)) (by omega)⟩
  refine start_ (n := 11) (S := OfS w n x y) (ds := [9, 10]) #[false, false, false, false, false, false, false, false, false, false, false] (by kernel_rfl) rfl rfl (OfS.drew HS) (fun hHeld => ?_)
  clear HS
  generalize ((w.alloc (.cells #[.int .i64 n, .int .i64 x, .int .i64 y] 35)).alloc (.cells #[.complex .f64 0 0, .complex .f64 0 0] 61)).drew = w2 at hHeld ⊢
  refine pure_ (i := 0) (N := some 5) (v := ?_) (a' := ?_) #[true, false, false, false, false, false, false, false, false, false, false] rfl rfl (by kernel_rfl) (fun _ _ _ h => h) (Or.inl ⟨by rfl, ?_⟩) ?_ ?_
  rotate_left
  · intro w'
    go_simp
    with_reducible rfl
  rotate_left
  · simp only [Act.put, List.setIfInBounds_toArray, List.set_cons_zero, List.set_cons_succ]
    rfl
  refine pure_ (i := 1) (N := some 6) (v := ?_) (a' := ?_) #[true, true, false, false, false, false, false, false, false, false, false] rfl rfl (by kernel_rfl) (fun _ _ _ h => h) (Or.inl ⟨by rfl, ?_⟩) ?_ ?_
  rotate_left
  · intro w'
    go_simp
    with_reducible rfl
  rotate_left
  · simp only [Act.put, List.setIfInBounds_toArray, List.set_cons_zero, List.set_cons_succ]
    rfl
  refine take_ (i := 2) (N := some 7) (v := ?_) (a' := ?_) #[true, true, true, false, false, false, false, false, false, false, false] rfl rfl (by kernel_rfl) (fun _ _ _ h => h) (Or.inl ⟨by rfl, ?_⟩) hHeld ?_ ?_
  rotate_left
  · rintro w' ⟨_, _, _, k1, k2, k3⟩
    go_simp
    with_reducible rfl
  rotate_left
  · simp only [Act.put, List.setIfInBounds_toArray, List.set_cons_zero, List.set_cons_succ]
    rfl
  refine pure_ (i := 4) (N := some 9) (v := ?_) (a' := ?_) #[true, true, true, false, true, false, false, false, false, false, false] rfl rfl (by kernel_rfl) (fun _ _ _ h => h) (Or.inl ⟨by rfl, ?_⟩) ?_ ?_
  rotate_left
  · intro w'
    go_simp
    with_reducible rfl
  rotate_left
  · simp only [Act.put, List.setIfInBounds_toArray, List.set_cons_zero, List.set_cons_succ]
    rfl
  refine take_ (i := 5) (N := some 10) (v := ?_) (a' := ?_) #[true, true, true, false, true, true, false, false, false, false, false] rfl rfl (by kernel_rfl) (fun _ _ _ h => h) (Or.inl ⟨by rfl, ?_⟩) hHeld ?_ ?_
  rotate_left
  · rintro w' ⟨_, _, _, k1, k2, k3⟩
    go_simp
    with_reducible rfl
  rotate_left
  · simp only [Act.put, List.setIfInBounds_toArray, List.set_cons_zero, List.set_cons_succ]
    rfl
  refine three_ (i := 3) (j := 7) (k := 8) (Ni := some 8) (Nj := some 3) (Nk := some 4) #[true, true, true, true, true, true, false, false, false, false, false] #[true, true, true, false, true, true, false, true, false, false, false] #[true, true, true, false, true, true, false, false, true, false, false] rfl rfl rfl rfl rfl rfl (by kernel_rfl) (by decide) (by decide) (by decide) (fun K_ hK => ?_) (fun K_ hK => ?_) (fun K_ hK => ?_)
  · skip
    refine goes_ Try.func25 (by kernel_rfl) rfl #[.agg #[.int .i64 1, .int .i64 0], .int .i64 n] (by rfl) rfl rfl (by (try simp only [List.map_toArray, List.map_cons, List.map_nil]); first | done | rfl) ?_
    with_reducible refine ((HT _).out).mono ?_
    rintro e w2 ⟨rfl, hb⟩
    refine ⟨_, rfl, ?_⟩
    refine hK.out _ _ (OfS.keep hHeld hb) (fun hHeld => ?_)
    clear hK hb
    refine norm_ (a' := ?_) ?_ ?_
    rotate_left
    · show Act.put _ (some 8) _ = _
      simp only [Act.put, List.setIfInBounds_toArray, List.set_cons_zero, List.set_cons_succ]
      rfl
    refine three_ (i := 6) (j := 7) (k := 8) (Ni := some 11) (Nj := some 3) (Nk := some 4) #[true, true, true, true, true, true, true, false, false, false, false] #[true, true, true, true, true, true, false, true, false, false, false] #[true, true, true, true, true, true, false, false, true, false, false] rfl rfl rfl rfl rfl rfl (by kernel_rfl) (by decide) (by decide) (by decide) (fun K_ hK => ?_) (fun K_ hK => ?_) (fun K_ hK => ?_)
    · skip
      refine goes_ Try.func19 (by kernel_rfl) rfl #[.agg #[.int .i64 x, .int .i64 y]] (by rfl) rfl rfl (by (try simp only [List.map_toArray, List.map_cons, List.map_nil]); first | done | rfl) ?_
      with_reducible refine ((HF _).out).mono ?_
      rintro e w2 ⟨rfl, hb⟩
      refine ⟨_, rfl, ?_⟩
      refine hK.out _ _ (OfS.keep hHeld hb) (fun hHeld => ?_)
      clear hK hb
      refine norm_ (a' := ?_) ?_ ?_
      rotate_left
      · show Act.put _ (some 11) _ = _
        simp only [Act.put, List.setIfInBounds_toArray, List.set_cons_zero, List.set_cons_succ]
        rfl
      refine two_ (i := 7) (j := 8) (Ni := some 3) (Nj := some 4) #[true, true, true, true, true, true, true, true, false, false, false] #[true, true, true, true, true, true, true, false, true, false, false] rfl rfl rfl rfl (by kernel_rfl) (by decide) (by decide) (fun K_ hK => ?_) (fun K_ hK => ?_)
      · skip
        have p7 := lt_of_blk hHeld.2.1.out
        rw [if_pos (by rfl)]
        go_wp2
        refine hK.out _ _ (OfS.keep hHeld (below_alloc (Below.refl _ _) _)) (fun hHeld => ?_)
        clear hK
        have h7 := new_of hHeld
        generalize World.alloc w2 (.cells #[.int .i64 0, .int .i64 0] 23) = w2 at hHeld h7 ⊢
        refine one_ (i := 8) (N := some 4) #[true, true, true, true, true, true, true, true, true, false, false] rfl rfl (by kernel_rfl) (by decide) (fun K_ hK => ?_)
        have p8 := lt_of_blk hHeld.2.1.out
        rw [if_pos (by rfl)]
        go_wp2
        refine hK.out _ _ (OfS.keep hHeld (below_alloc (Below.refl _ _) _)) (fun hHeld => ?_)
        clear hK
        have q87 := lt_of_blk h7
        have h7 := keep_of h7 hHeld
        have h8 := new_of hHeld
        generalize World.alloc w2 (.cells #[.int .i64 0, .int .i64 0] 23) = w2 at hHeld h7 h8 ⊢
        have hne := ne_of_lt' q87
        have c0 := blk_cell h7 0
        have c1 := blk_cell h7 1
        have f0 := blk_frozen h7 0
        have f1 := blk_frozen h7 1
        refine last_ (i := 9) (N := none) #[true, true, true, true, true, true, true, true, true, true, false] rfl rfl (by kernel_rfl) (by decide) (fun K_ hK => ?_)
        rw [if_pos (by rfl)]
        go_wp2
        refine hK.out _ _ ?_
        clear hK c0 c1 f0 f1
        have h8' := far2 h8 hne (.int .i64 A1) (.int .i64 A2)
        have h7' := blk_put (cs := #[.int .i64 A1, .int .i64 0]) (cs' := #[.int .i64 A1, .int .i64 A2]) (blk_put (cs := #[.int .i64 0, .int .i64 0]) h7 0 (.int .i64 A1) rfl) 1 (.int .i64 A2) rfl
        have c0 := blk_cell h8' 0
        have c1 := blk_cell h8' 1
        have f0 := blk_frozen h8' 0
        have f1 := blk_frozen h8' 1
        refine last_ (i := 10) (N := none) #[true, true, true, true, true, true, true, true, true, true, true] rfl rfl (by kernel_rfl) (by decide) (fun K_ hK => ?_)
        rw [if_pos (by rfl)]
        go_wp2
        refine hK.out _ _ ?_
        refine done_ (by kernel_rfl) ?_
        have h7'' := far2 h7' (Ne.symm hne) (.int .i64 F1) (.int .i64 F2)
        have h8'' := blk_put (cs := #[.int .i64 F1, .int .i64 0]) (cs' := #[.int .i64 F1, .int .i64 F2]) (blk_put (cs := #[.int .i64 0, .int .i64 0]) h8' 0 (.int .i64 F1) rfl) 1 (.int .i64 F2) rfl
        have z := far2 (far2 hHeld.2.1.out (Nat.ne_of_lt p7).symm (.int .i64 A1) (.int .i64 A2)) (Nat.ne_of_lt p8).symm (.int .i64 F1) (.int .i64 F2)
        exact HK _ _ _ h7'' h8'' z (below_set (below_set (below_set (below_set hHeld.2.2.1.out (by omega)) (by omega)) (by omega)) (by omega))
      · skip
        have p8 := lt_of_blk hHeld.2.1.out
        rw [if_pos (by rfl)]
        go_wp2
        refine hK.out _ _ (OfS.keep hHeld (below_alloc (Below.refl _ _) _)) (fun hHeld => ?_)
        clear hK
        have h8 := new_of hHeld
        generalize World.alloc w2 (.cells #[.int .i64 0, .int .i64 0] 23) = w2 at hHeld h8 ⊢
        refine one_ (i := 7) (N := some 3) #[true, true, true, true, true, true, true, true, true, false, false] rfl rfl (by kernel_rfl) (by decide) (fun K_ hK => ?_)
        have p7 := lt_of_blk hHeld.2.1.out
        rw [if_pos (by rfl)]
        go_wp2
        refine hK.out _ _ (OfS.keep hHeld (below_alloc (Below.refl _ _) _)) (fun hHeld => ?_)
        clear hK
        have q78 := lt_of_blk h8
        have h8 := keep_of h8 hHeld
        have h7 := new_of hHeld
        generalize World.alloc w2 (.cells #[.int .i64 0, .int .i64 0] 23) = w2 at hHeld h8 h7 ⊢
        have hne := ne_of_lt' q78
        have c0 := blk_cell h7 0
        have c1 := blk_cell h7 1
        have f0 := blk_frozen h7 0
        have f1 := blk_frozen h7 1
        refine last_ (i := 9) (N := none) #[true, true, true, true, true, true, true, true, true, true, false] rfl rfl (by kernel_rfl) (by decide) (fun K_ hK => ?_)
        rw [if_pos (by rfl)]
        go_wp2
        refine hK.out _ _ ?_
        clear hK c0 c1 f0 f1
        have h8' := far2 h8 (Ne.symm hne) (.int .i64 A1) (.int .i64 A2)
        have h7' := blk_put (cs := #[.int .i64 A1, .int .i64 0]) (cs' := #[.int .i64 A1, .int .i64 A2]) (blk_put (cs := #[.int .i64 0, .int .i64 0]) h7 0 (.int .i64 A1) rfl) 1 (.int .i64 A2) rfl
        have c0 := blk_cell h8' 0
        have c1 := blk_cell h8' 1
        have f0 := blk_frozen h8' 0
        have f1 := blk_frozen h8' 1
        refine last_ (i := 10) (N := none) #[true, true, true, true, true, true, true, true, true, true, true] rfl rfl (by kernel_rfl) (by decide) (fun K_ hK => ?_)
        rw [if_pos (by rfl)]
        go_wp2
        refine hK.out _ _ ?_
        refine done_ (by kernel_rfl) ?_
        have h7'' := far2 h7' hne (.int .i64 F1) (.int .i64 F2)
        have h8'' := blk_put (cs := #[.int .i64 F1, .int .i64 0]) (cs' := #[.int .i64 F1, .int .i64 F2]) (blk_put (cs := #[.int .i64 0, .int .i64 0]) h8' 0 (.int .i64 F1) rfl) 1 (.int .i64 F2) rfl
        have z := far2 (far2 hHeld.2.1.out (Nat.ne_of_lt p7).symm (.int .i64 A1) (.int .i64 A2)) (Nat.ne_of_lt p8).symm (.int .i64 F1) (.int .i64 F2)
        exact HK _ _ _ h7'' h8'' z (below_set (below_set (below_set (below_set hHeld.2.2.1.out (by omega)) (by omega)) (by omega)) (by omega))
    · skip
      have p7 := lt_of_blk hHeld.2.1.out
      rw [if_pos (by rfl)]
      go_wp2
      refine hK.out _ _ (OfS.keep hHeld (below_alloc (Below.refl _ _) _)) (fun hHeld => ?_)
      clear hK
      have h7 := new_of hHeld
      generalize World.alloc w2 (.cells #[.int .i64 0, .int .i64 0] 23) = w2 at hHeld h7 ⊢
      refine two_ (i := 6) (j := 8) (Ni := some 11) (Nj := some 4) #[true, true, true, true, true, true, true, true, false, false, false] #[true, true, true, true, true, true, false, true, true, false, false] rfl rfl rfl rfl (by kernel_rfl) (by decide) (by decide) (fun K_ hK => ?_) (fun K_ hK => ?_)
      · skip
        refine goes_ Try.func19 (by kernel_rfl) rfl #[.agg #[.int .i64 x, .int .i64 y]] (by rfl) rfl rfl (by (try simp only [List.map_toArray, List.map_cons, List.map_nil]); first | done | rfl) ?_
        with_reducible refine ((HF _).out).mono ?_
        rintro e w2 ⟨rfl, hb⟩
        refine ⟨_, rfl, ?_⟩
        have h7 := blk_keep h7 hb
        refine hK.out _ _ (OfS.keep hHeld hb) (fun hHeld => ?_)
        clear hK hb
        refine norm_ (a' := ?_) ?_ ?_
        rotate_left
        · show Act.put _ (some 11) _ = _
          simp only [Act.put, List.setIfInBounds_toArray, List.set_cons_zero, List.set_cons_succ]
          rfl
        refine one_ (i := 8) (N := some 4) #[true, true, true, true, true, true, true, true, true, false, false] rfl rfl (by kernel_rfl) (by decide) (fun K_ hK => ?_)
        have p8 := lt_of_blk hHeld.2.1.out
        rw [if_pos (by rfl)]
        go_wp2
        refine hK.out _ _ (OfS.keep hHeld (below_alloc (Below.refl _ _) _)) (fun hHeld => ?_)
        clear hK
        have q87 := lt_of_blk h7
        have h7 := keep_of h7 hHeld
        have h8 := new_of hHeld
        generalize World.alloc w2 (.cells #[.int .i64 0, .int .i64 0] 23) = w2 at hHeld h7 h8 ⊢
        have hne := ne_of_lt' q87
        have c0 := blk_cell h7 0
        have c1 := blk_cell h7 1
        have f0 := blk_frozen h7 0
        have f1 := blk_frozen h7 1
        refine last_ (i := 9) (N := none) #[true, true, true, true, true, true, true, true, true, true, false] rfl rfl (by kernel_rfl) (by decide) (fun K_ hK => ?_)
        rw [if_pos (by rfl)]
        go_wp2
        refine hK.out _ _ ?_
        clear hK c0 c1 f0 f1
        have h8' := far2 h8 hne (.int .i64 A1) (.int .i64 A2)
        have h7' := blk_put (cs := #[.int .i64 A1, .int .i64 0]) (cs' := #[.int .i64 A1, .int .i64 A2]) (blk_put (cs := #[.int .i64 0, .int .i64 0]) h7 0 (.int .i64 A1) rfl) 1 (.int .i64 A2) rfl
        have c0 := blk_cell h8' 0
        have c1 := blk_cell h8' 1
        have f0 := blk_frozen h8' 0
        have f1 := blk_frozen h8' 1
        refine last_ (i := 10) (N := none) #[true, true, true, true, true, true, true, true, true, true, true] rfl rfl (by kernel_rfl) (by decide) (fun K_ hK => ?_)
        rw [if_pos (by rfl)]
        go_wp2
        refine hK.out _ _ ?_
        refine done_ (by kernel_rfl) ?_
        have h7'' := far2 h7' (Ne.symm hne) (.int .i64 F1) (.int .i64 F2)
        have h8'' := blk_put (cs := #[.int .i64 F1, .int .i64 0]) (cs' := #[.int .i64 F1, .int .i64 F2]) (blk_put (cs := #[.int .i64 0, .int .i64 0]) h8' 0 (.int .i64 F1) rfl) 1 (.int .i64 F2) rfl
        have z := far2 (far2 hHeld.2.1.out (Nat.ne_of_lt p7).symm (.int .i64 A1) (.int .i64 A2)) (Nat.ne_of_lt p8).symm (.int .i64 F1) (.int .i64 F2)
        exact HK _ _ _ h7'' h8'' z (below_set (below_set (below_set (below_set hHeld.2.2.1.out (by omega)) (by omega)) (by omega)) (by omega))
      · skip
        have p8 := lt_of_blk hHeld.2.1.out
        rw [if_pos (by rfl)]
        go_wp2
        refine hK.out _ _ (OfS.keep hHeld (below_alloc (Below.refl _ _) _)) (fun hHeld => ?_)
        clear hK
        have q87 := lt_of_blk h7
        have h7 := keep_of h7 hHeld
        have h8 := new_of hHeld
        generalize World.alloc w2 (.cells #[.int .i64 0, .int .i64 0] 23) = w2 at hHeld h7 h8 ⊢
        refine one_ (i := 6) (N := some 11) #[true, true, true, true, true, true, true, true, true, false, false] rfl rfl (by kernel_rfl) (by decide) (fun K_ hK => ?_)
        refine goes_ Try.func19 (by kernel_rfl) rfl #[.agg #[.int .i64 x, .int .i64 y]] (by rfl) rfl rfl (by (try simp only [List.map_toArray, List.map_cons, List.map_nil]); first | done | rfl) ?_
        with_reducible refine ((HF _).out).mono ?_
        rintro e w2 ⟨rfl, hb⟩
        refine ⟨_, rfl, ?_⟩
        have h7 := blk_keep h7 hb
        have h8 := blk_keep h8 hb
        refine hK.out _ _ (OfS.keep hHeld hb) (fun hHeld => ?_)
        clear hK hb
        refine norm_ (a' := ?_) ?_ ?_
        rotate_left
        · show Act.put _ (some 11) _ = _
          simp only [Act.put, List.setIfInBounds_toArray, List.set_cons_zero, List.set_cons_succ]
          rfl
        have hne := ne_of_lt' q87
        have c0 := blk_cell h7 0
        have c1 := blk_cell h7 1
        have f0 := blk_frozen h7 0
        have f1 := blk_frozen h7 1
        refine last_ (i := 9) (N := none) #[true, true, true, true, true, true, true, true, true, true, false] rfl rfl (by kernel_rfl) (by decide) (fun K_ hK => ?_)
        rw [if_pos (by rfl)]
        go_wp2
        refine hK.out _ _ ?_
        clear hK c0 c1 f0 f1
        have h8' := far2 h8 hne (.int .i64 A1) (.int .i64 A2)
        have h7' := blk_put (cs := #[.int .i64 A1, .int .i64 0]) (cs' := #[.int .i64 A1, .int .i64 A2]) (blk_put (cs := #[.int .i64 0, .int .i64 0]) h7 0 (.int .i64 A1) rfl) 1 (.int .i64 A2) rfl
        have c0 := blk_cell h8' 0
        have c1 := blk_cell h8' 1
        have f0 := blk_frozen h8' 0
        have f1 := blk_frozen h8' 1
        refine last_ (i := 10) (N := none) #[true, true, true, true, true, true, true, true, true, true, true] rfl rfl (by kernel_rfl) (by decide) (fun K_ hK => ?_)
        rw [if_pos (by rfl)]
        go_wp2
        refine hK.out _ _ ?_
        refine done_ (by kernel_rfl) ?_
        have h7'' := far2 h7' (Ne.symm hne) (.int .i64 F1) (.int .i64 F2)
        have h8'' := blk_put (cs := #[.int .i64 F1, .int .i64 0]) (cs' := #[.int .i64 F1, .int .i64 F2]) (blk_put (cs := #[.int .i64 0, .int .i64 0]) h8' 0 (.int .i64 F1) rfl) 1 (.int .i64 F2) rfl
        have z := far2 (far2 hHeld.2.1.out (Nat.ne_of_lt p7).symm (.int .i64 A1) (.int .i64 A2)) (Nat.ne_of_lt p8).symm (.int .i64 F1) (.int .i64 F2)
        exact HK _ _ _ h7'' h8'' z (below_set (below_set (below_set (below_set hHeld.2.2.1.out (by omega)) (by omega)) (by omega)) (by omega))
    · skip
      have p8 := lt_of_blk hHeld.2.1.out
      rw [if_pos (by rfl)]
      go_wp2
      refine hK.out _ _ (OfS.keep hHeld (below_alloc (Below.refl _ _) _)) (fun hHeld => ?_)
      clear hK
      have h8 := new_of hHeld
      generalize World.alloc w2 (.cells #[.int .i64 0, .int .i64 0] 23) = w2 at hHeld h8 ⊢
      refine two_ (i := 6) (j := 7) (Ni := some 11) (Nj := some 3) #[true, true, true, true, true, true, true, false, true, false, false] #[true, true, true, true, true, true, false, true, true, false, false] rfl rfl rfl rfl (by kernel_rfl) (by decide) (by decide) (fun K_ hK => ?_) (fun K_ hK => ?_)
      · skip
        refine goes_ Try.func19 (by kernel_rfl) rfl #[.agg #[.int .i64 x, .int .i64 y]] (by rfl) rfl rfl (by (try simp only [List.map_toArray, List.map_cons, List.map_nil]); first | done | rfl) ?_
        with_reducible refine ((HF _).out).mono ?_
        rintro e w2 ⟨rfl, hb⟩
        refine ⟨_, rfl, ?_⟩
        have h8 := blk_keep h8 hb
        refine hK.out _ _ (OfS.keep hHeld hb) (fun hHeld => ?_)
        clear hK hb
        refine norm_ (a' := ?_) ?_ ?_
        rotate_left
        · show Act.put _ (some 11) _ = _
          simp only [Act.put, List.setIfInBounds_toArray, List.set_cons_zero, List.set_cons_succ]
          rfl
        refine one_ (i := 7) (N := some 3) #[true, true, true, true, true, true, true, true, true, false, false] rfl rfl (by kernel_rfl) (by decide) (fun K_ hK => ?_)
        have p7 := lt_of_blk hHeld.2.1.out
        rw [if_pos (by rfl)]
        go_wp2
        refine hK.out _ _ (OfS.keep hHeld (below_alloc (Below.refl _ _) _)) (fun hHeld => ?_)
        clear hK
        have q78 := lt_of_blk h8
        have h8 := keep_of h8 hHeld
        have h7 := new_of hHeld
        generalize World.alloc w2 (.cells #[.int .i64 0, .int .i64 0] 23) = w2 at hHeld h8 h7 ⊢
        have hne := ne_of_lt' q78
        have c0 := blk_cell h7 0
        have c1 := blk_cell h7 1
        have f0 := blk_frozen h7 0
        have f1 := blk_frozen h7 1
        refine last_ (i := 9) (N := none) #[true, true, true, true, true, true, true, true, true, true, false] rfl rfl (by kernel_rfl) (by decide) (fun K_ hK => ?_)
        rw [if_pos (by rfl)]
        go_wp2
        refine hK.out _ _ ?_
        clear hK c0 c1 f0 f1
        have h8' := far2 h8 (Ne.symm hne) (.int .i64 A1) (.int .i64 A2)
        have h7' := blk_put (cs := #[.int .i64 A1, .int .i64 0]) (cs' := #[.int .i64 A1, .int .i64 A2]) (blk_put (cs := #[.int .i64 0, .int .i64 0]) h7 0 (.int .i64 A1) rfl) 1 (.int .i64 A2) rfl
        have c0 := blk_cell h8' 0
        have c1 := blk_cell h8' 1
        have f0 := blk_frozen h8' 0
        have f1 := blk_frozen h8' 1
        refine last_ (i := 10) (N := none) #[true, true, true, true, true, true, true, true, true, true, true] rfl rfl (by kernel_rfl) (by decide) (fun K_ hK => ?_)
        rw [if_pos (by rfl)]
        go_wp2
        refine hK.out _ _ ?_
        refine done_ (by kernel_rfl) ?_
        have h7'' := far2 h7' hne (.int .i64 F1) (.int .i64 F2)
        have h8'' := blk_put (cs := #[.int .i64 F1, .int .i64 0]) (cs' := #[.int .i64 F1, .int .i64 F2]) (blk_put (cs := #[.int .i64 0, .int .i64 0]) h8' 0 (.int .i64 F1) rfl) 1 (.int .i64 F2) rfl
        have z := far2 (far2 hHeld.2.1.out (Nat.ne_of_lt p7).symm (.int .i64 A1) (.int .i64 A2)) (Nat.ne_of_lt p8).symm (.int .i64 F1) (.int .i64 F2)
        exact HK _ _ _ h7'' h8'' z (below_set (below_set (below_set (below_set hHeld.2.2.1.out (by omega)) (by omega)) (by omega)) (by omega))
      · skip
        have p7 := lt_of_blk hHeld.2.1.out
        rw [if_pos (by rfl)]
        go_wp2
        refine hK.out _ _ (OfS.keep hHeld (below_alloc (Below.refl _ _) _)) (fun hHeld => ?_)
        clear hK
        have q78 := lt_of_blk h8
        have h8 := keep_of h8 hHeld
        have h7 := new_of hHeld
        generalize World.alloc w2 (.cells #[.int .i64 0, .int .i64 0] 23) = w2 at hHeld h8 h7 ⊢
        refine one_ (i := 6) (N := some 11) #[true, true, true, true, true, true, true, true, true, false, false] rfl rfl (by kernel_rfl) (by decide) (fun K_ hK => ?_)
        refine goes_ Try.func19 (by kernel_rfl) rfl #[.agg #[.int .i64 x, .int .i64 y]] (by rfl) rfl rfl (by (try simp only [List.map_toArray, List.map_cons, List.map_nil]); first | done | rfl) ?_
        with_reducible refine ((HF _).out).mono ?_
        rintro e w2 ⟨rfl, hb⟩
        refine ⟨_, rfl, ?_⟩
        have h8 := blk_keep h8 hb
        have h7 := blk_keep h7 hb
        refine hK.out _ _ (OfS.keep hHeld hb) (fun hHeld => ?_)
        clear hK hb
        refine norm_ (a' := ?_) ?_ ?_
        rotate_left
        · show Act.put _ (some 11) _ = _
          simp only [Act.put, List.setIfInBounds_toArray, List.set_cons_zero, List.set_cons_succ]
          rfl
        have hne := ne_of_lt' q78
        have c0 := blk_cell h7 0
        have c1 := blk_cell h7 1
        have f0 := blk_frozen h7 0
        have f1 := blk_frozen h7 1
        refine last_ (i := 9) (N := none) #[true, true, true, true, true, true, true, true, true, true, false] rfl rfl (by kernel_rfl) (by decide) (fun K_ hK => ?_)
        rw [if_pos (by rfl)]
        go_wp2
        refine hK.out _ _ ?_
        clear hK c0 c1 f0 f1
        have h8' := far2 h8 (Ne.symm hne) (.int .i64 A1) (.int .i64 A2)
        have h7' := blk_put (cs := #[.int .i64 A1, .int .i64 0]) (cs' := #[.int .i64 A1, .int .i64 A2]) (blk_put (cs := #[.int .i64 0, .int .i64 0]) h7 0 (.int .i64 A1) rfl) 1 (.int .i64 A2) rfl
        have c0 := blk_cell h8' 0
        have c1 := blk_cell h8' 1
        have f0 := blk_frozen h8' 0
        have f1 := blk_frozen h8' 1
        refine last_ (i := 10) (N := none) #[true, true, true, true, true, true, true, true, true, true, true] rfl rfl (by kernel_rfl) (by decide) (fun K_ hK => ?_)
        rw [if_pos (by rfl)]
        go_wp2
        refine hK.out _ _ ?_
        refine done_ (by kernel_rfl) ?_
        have h7'' := far2 h7' hne (.int .i64 F1) (.int .i64 F2)
        have h8'' := blk_put (cs := #[.int .i64 F1, .int .i64 0]) (cs' := #[.int .i64 F1, .int .i64 F2]) (blk_put (cs := #[.int .i64 0, .int .i64 0]) h8' 0 (.int .i64 F1) rfl) 1 (.int .i64 F2) rfl
        have z := far2 (far2 hHeld.2.1.out (Nat.ne_of_lt p7).symm (.int .i64 A1) (.int .i64 A2)) (Nat.ne_of_lt p8).symm (.int .i64 F1) (.int .i64 F2)
        exact HK _ _ _ h7'' h8'' z (below_set (below_set (below_set (below_set hHeld.2.2.1.out (by omega)) (by omega)) (by omega)) (by omega))
  · skip
    have p7 := lt_of_blk hHeld.2.1.out
    rw [if_pos (by rfl)]
    go_wp2
    refine hK.out _ _ (OfS.keep hHeld (below_alloc (Below.refl _ _) _)) (fun hHeld => ?_)
    clear hK
    have h7 := new_of hHeld
    generalize World.alloc w2 (.cells #[.int .i64 0, .int .i64 0] 23) = w2 at hHeld h7 ⊢
    refine two_ (i := 3) (j := 8) (Ni := some 8) (Nj := some 4) #[true, true, true, true, true, true, false, true, false, false, false] #[true, true, true, false, true, true, false, true, true, false, false] rfl rfl rfl rfl (by kernel_rfl) (by decide) (by decide) (fun K_ hK => ?_) (fun K_ hK => ?_)
    · skip
      refine goes_ Try.func25 (by kernel_rfl) rfl #[.agg #[.int .i64 1, .int .i64 0], .int .i64 n] (by rfl) rfl rfl (by (try simp only [List.map_toArray, List.map_cons, List.map_nil]); first | done | rfl) ?_
      with_reducible refine ((HT _).out).mono ?_
      rintro e w2 ⟨rfl, hb⟩
      refine ⟨_, rfl, ?_⟩
      have h7 := blk_keep h7 hb
      refine hK.out _ _ (OfS.keep hHeld hb) (fun hHeld => ?_)
      clear hK hb
      refine norm_ (a' := ?_) ?_ ?_
      rotate_left
      · show Act.put _ (some 8) _ = _
        simp only [Act.put, List.setIfInBounds_toArray, List.set_cons_zero, List.set_cons_succ]
        rfl
      refine two_ (i := 6) (j := 8) (Ni := some 11) (Nj := some 4) #[true, true, true, true, true, true, true, true, false, false, false] #[true, true, true, true, true, true, false, true, true, false, false] rfl rfl rfl rfl (by kernel_rfl) (by decide) (by decide) (fun K_ hK => ?_) (fun K_ hK => ?_)
      · skip
        refine goes_ Try.func19 (by kernel_rfl) rfl #[.agg #[.int .i64 x, .int .i64 y]] (by rfl) rfl rfl (by (try simp only [List.map_toArray, List.map_cons, List.map_nil]); first | done | rfl) ?_
        with_reducible refine ((HF _).out).mono ?_
        rintro e w2 ⟨rfl, hb⟩
        refine ⟨_, rfl, ?_⟩
        have h7 := blk_keep h7 hb
        refine hK.out _ _ (OfS.keep hHeld hb) (fun hHeld => ?_)
        clear hK hb
        refine norm_ (a' := ?_) ?_ ?_
        rotate_left
        · show Act.put _ (some 11) _ = _
          simp only [Act.put, List.setIfInBounds_toArray, List.set_cons_zero, List.set_cons_succ]
          rfl
        refine one_ (i := 8) (N := some 4) #[true, true, true, true, true, true, true, true, true, false, false] rfl rfl (by kernel_rfl) (by decide) (fun K_ hK => ?_)
        have p8 := lt_of_blk hHeld.2.1.out
        rw [if_pos (by rfl)]
        go_wp2
        refine hK.out _ _ (OfS.keep hHeld (below_alloc (Below.refl _ _) _)) (fun hHeld => ?_)
        clear hK
        have q87 := lt_of_blk h7
        have h7 := keep_of h7 hHeld
        have h8 := new_of hHeld
        generalize World.alloc w2 (.cells #[.int .i64 0, .int .i64 0] 23) = w2 at hHeld h7 h8 ⊢
        have hne := ne_of_lt' q87
        have c0 := blk_cell h7 0
        have c1 := blk_cell h7 1
        have f0 := blk_frozen h7 0
        have f1 := blk_frozen h7 1
        refine last_ (i := 9) (N := none) #[true, true, true, true, true, true, true, true, true, true, false] rfl rfl (by kernel_rfl) (by decide) (fun K_ hK => ?_)
        rw [if_pos (by rfl)]
        go_wp2
        refine hK.out _ _ ?_
        clear hK c0 c1 f0 f1
        have h8' := far2 h8 hne (.int .i64 A1) (.int .i64 A2)
        have h7' := blk_put (cs := #[.int .i64 A1, .int .i64 0]) (cs' := #[.int .i64 A1, .int .i64 A2]) (blk_put (cs := #[.int .i64 0, .int .i64 0]) h7 0 (.int .i64 A1) rfl) 1 (.int .i64 A2) rfl
        have c0 := blk_cell h8' 0
        have c1 := blk_cell h8' 1
        have f0 := blk_frozen h8' 0
        have f1 := blk_frozen h8' 1
        refine last_ (i := 10) (N := none) #[true, true, true, true, true, true, true, true, true, true, true] rfl rfl (by kernel_rfl) (by decide) (fun K_ hK => ?_)
        rw [if_pos (by rfl)]
        go_wp2
        refine hK.out _ _ ?_
        refine done_ (by kernel_rfl) ?_
        have h7'' := far2 h7' (Ne.symm hne) (.int .i64 F1) (.int .i64 F2)
        have h8'' := blk_put (cs := #[.int .i64 F1, .int .i64 0]) (cs' := #[.int .i64 F1, .int .i64 F2]) (blk_put (cs := #[.int .i64 0, .int .i64 0]) h8' 0 (.int .i64 F1) rfl) 1 (.int .i64 F2) rfl
        have z := far2 (far2 hHeld.2.1.out (Nat.ne_of_lt p7).symm (.int .i64 A1) (.int .i64 A2)) (Nat.ne_of_lt p8).symm (.int .i64 F1) (.int .i64 F2)
        exact HK _ _ _ h7'' h8'' z (below_set (below_set (below_set (below_set hHeld.2.2.1.out (by omega)) (by omega)) (by omega)) (by omega))
      · skip
        have p8 := lt_of_blk hHeld.2.1.out
        rw [if_pos (by rfl)]
        go_wp2
        refine hK.out _ _ (OfS.keep hHeld (below_alloc (Below.refl _ _) _)) (fun hHeld => ?_)
        clear hK
        have q87 := lt_of_blk h7
        have h7 := keep_of h7 hHeld
        have h8 := new_of hHeld
        generalize World.alloc w2 (.cells #[.int .i64 0, .int .i64 0] 23) = w2 at hHeld h7 h8 ⊢
        refine one_ (i := 6) (N := some 11) #[true, true, true, true, true, true, true, true, true, false, false] rfl rfl (by kernel_rfl) (by decide) (fun K_ hK => ?_)
        refine goes_ Try.func19 (by kernel_rfl) rfl #[.agg #[.int .i64 x, .int .i64 y]] (by rfl) rfl rfl (by (try simp only [List.map_toArray, List.map_cons, List.map_nil]); first | done | rfl) ?_
        with_reducible refine ((HF _).out).mono ?_
        rintro e w2 ⟨rfl, hb⟩
        refine ⟨_, rfl, ?_⟩
        have h7 := blk_keep h7 hb
        have h8 := blk_keep h8 hb
        refine hK.out _ _ (OfS.keep hHeld hb) (fun hHeld => ?_)
        clear hK hb
        refine norm_ (a' := ?_) ?_ ?_
        rotate_left
        · show Act.put _ (some 11) _ = _
          simp only [Act.put, List.setIfInBounds_toArray, List.set_cons_zero, List.set_cons_succ]
          rfl
        have hne := ne_of_lt' q87
        have c0 := blk_cell h7 0
        have c1 := blk_cell h7 1
        have f0 := blk_frozen h7 0
        have f1 := blk_frozen h7 1
        refine last_ (i := 9) (N := none) #[true, true, true, true, true, true, true, true, true, true, false] rfl rfl (by kernel_rfl) (by decide) (fun K_ hK => ?_)
        rw [if_pos (by rfl)]
        go_wp2
        refine hK.out _ _ ?_
        clear hK c0 c1 f0 f1
        have h8' := far2 h8 hne (.int .i64 A1) (.int .i64 A2)
        have h7' := blk_put (cs := #[.int .i64 A1, .int .i64 0]) (cs' := #[.int .i64 A1, .int .i64 A2]) (blk_put (cs := #[.int .i64 0, .int .i64 0]) h7 0 (.int .i64 A1) rfl) 1 (.int .i64 A2) rfl
        have c0 := blk_cell h8' 0
        have c1 := blk_cell h8' 1
        have f0 := blk_frozen h8' 0
        have f1 := blk_frozen h8' 1
        refine last_ (i := 10) (N := none) #[true, true, true, true, true, true, true, true, true, true, true] rfl rfl (by kernel_rfl) (by decide) (fun K_ hK => ?_)
        rw [if_pos (by rfl)]
        go_wp2
        refine hK.out _ _ ?_
        refine done_ (by kernel_rfl) ?_
        have h7'' := far2 h7' (Ne.symm hne) (.int .i64 F1) (.int .i64 F2)
        have h8'' := blk_put (cs := #[.int .i64 F1, .int .i64 0]) (cs' := #[.int .i64 F1, .int .i64 F2]) (blk_put (cs := #[.int .i64 0, .int .i64 0]) h8' 0 (.int .i64 F1) rfl) 1 (.int .i64 F2) rfl
        have z := far2 (far2 hHeld.2.1.out (Nat.ne_of_lt p7).symm (.int .i64 A1) (.int .i64 A2)) (Nat.ne_of_lt p8).symm (.int .i64 F1) (.int .i64 F2)
        exact HK _ _ _ h7'' h8'' z (below_set (below_set (below_set (below_set hHeld.2.2.1.out (by omega)) (by omega)) (by omega)) (by omega))
    · skip
      have p8 := lt_of_blk hHeld.2.1.out
      rw [if_pos (by rfl)]
      go_wp2
      refine hK.out _ _ (OfS.keep hHeld (below_alloc (Below.refl _ _) _)) (fun hHeld => ?_)
      clear hK
      have q87 := lt_of_blk h7
      have h7 := keep_of h7 hHeld
      have h8 := new_of hHeld
      generalize World.alloc w2 (.cells #[.int .i64 0, .int .i64 0] 23) = w2 at hHeld h7 h8 ⊢
      refine one_ (i := 3) (N := some 8) #[true, true, true, true, true, true, false, true, true, false, false] rfl rfl (by kernel_rfl) (by decide) (fun K_ hK => ?_)
      refine goes_ Try.func25 (by kernel_rfl) rfl #[.agg #[.int .i64 1, .int .i64 0], .int .i64 n] (by rfl) rfl rfl (by (try simp only [List.map_toArray, List.map_cons, List.map_nil]); first | done | rfl) ?_
      with_reducible refine ((HT _).out).mono ?_
      rintro e w2 ⟨rfl, hb⟩
      refine ⟨_, rfl, ?_⟩
      have h7 := blk_keep h7 hb
      have h8 := blk_keep h8 hb
      refine hK.out _ _ (OfS.keep hHeld hb) (fun hHeld => ?_)
      clear hK hb
      refine norm_ (a' := ?_) ?_ ?_
      rotate_left
      · show Act.put _ (some 8) _ = _
        simp only [Act.put, List.setIfInBounds_toArray, List.set_cons_zero, List.set_cons_succ]
        rfl
      refine one_ (i := 6) (N := some 11) #[true, true, true, true, true, true, true, true, true, false, false] rfl rfl (by kernel_rfl) (by decide) (fun K_ hK => ?_)
      refine goes_ Try.func19 (by kernel_rfl) rfl #[.agg #[.int .i64 x, .int .i64 y]] (by rfl) rfl rfl (by (try simp only [List.map_toArray, List.map_cons, List.map_nil]); first | done | rfl) ?_
      with_reducible refine ((HF _).out).mono ?_
      rintro e w2 ⟨rfl, hb⟩
      refine ⟨_, rfl, ?_⟩
      have h7 := blk_keep h7 hb
      have h8 := blk_keep h8 hb
      refine hK.out _ _ (OfS.keep hHeld hb) (fun hHeld => ?_)
      clear hK hb
      refine norm_ (a' := ?_) ?_ ?_
      rotate_left
      · show Act.put _ (some 11) _ = _
        simp only [Act.put, List.setIfInBounds_toArray, List.set_cons_zero, List.set_cons_succ]
        rfl
      have hne := ne_of_lt' q87
      have c0 := blk_cell h7 0
      have c1 := blk_cell h7 1
      have f0 := blk_frozen h7 0
      have f1 := blk_frozen h7 1
      refine last_ (i := 9) (N := none) #[true, true, true, true, true, true, true, true, true, true, false] rfl rfl (by kernel_rfl) (by decide) (fun K_ hK => ?_)
      rw [if_pos (by rfl)]
      go_wp2
      refine hK.out _ _ ?_
      clear hK c0 c1 f0 f1
      have h8' := far2 h8 hne (.int .i64 A1) (.int .i64 A2)
      have h7' := blk_put (cs := #[.int .i64 A1, .int .i64 0]) (cs' := #[.int .i64 A1, .int .i64 A2]) (blk_put (cs := #[.int .i64 0, .int .i64 0]) h7 0 (.int .i64 A1) rfl) 1 (.int .i64 A2) rfl
      have c0 := blk_cell h8' 0
      have c1 := blk_cell h8' 1
      have f0 := blk_frozen h8' 0
      have f1 := blk_frozen h8' 1
      refine last_ (i := 10) (N := none) #[true, true, true, true, true, true, true, true, true, true, true] rfl rfl (by kernel_rfl) (by decide) (fun K_ hK => ?_)
      rw [if_pos (by rfl)]
      go_wp2
      refine hK.out _ _ ?_
      refine done_ (by kernel_rfl) ?_
      have h7'' := far2 h7' (Ne.symm hne) (.int .i64 F1) (.int .i64 F2)
      have h8'' := blk_put (cs := #[.int .i64 F1, .int .i64 0]) (cs' := #[.int .i64 F1, .int .i64 F2]) (blk_put (cs := #[.int .i64 0, .int .i64 0]) h8' 0 (.int .i64 F1) rfl) 1 (.int .i64 F2) rfl
      have z := far2 (far2 hHeld.2.1.out (Nat.ne_of_lt p7).symm (.int .i64 A1) (.int .i64 A2)) (Nat.ne_of_lt p8).symm (.int .i64 F1) (.int .i64 F2)
      exact HK _ _ _ h7'' h8'' z (below_set (below_set (below_set (below_set hHeld.2.2.1.out (by omega)) (by omega)) (by omega)) (by omega))
  · skip
    have p8 := lt_of_blk hHeld.2.1.out
    rw [if_pos (by rfl)]
    go_wp2
    refine hK.out _ _ (OfS.keep hHeld (below_alloc (Below.refl _ _) _)) (fun hHeld => ?_)
    clear hK
    have h8 := new_of hHeld
    generalize World.alloc w2 (.cells #[.int .i64 0, .int .i64 0] 23) = w2 at hHeld h8 ⊢
    refine two_ (i := 3) (j := 7) (Ni := some 8) (Nj := some 3) #[true, true, true, true, true, true, false, false, true, false, false] #[true, true, true, false, true, true, false, true, true, false, false] rfl rfl rfl rfl (by kernel_rfl) (by decide) (by decide) (fun K_ hK => ?_) (fun K_ hK => ?_)
    · skip
      refine goes_ Try.func25 (by kernel_rfl) rfl #[.agg #[.int .i64 1, .int .i64 0], .int .i64 n] (by rfl) rfl rfl (by (try simp only [List.map_toArray, List.map_cons, List.map_nil]); first | done | rfl) ?_
      with_reducible refine ((HT _).out).mono ?_
      rintro e w2 ⟨rfl, hb⟩
      refine ⟨_, rfl, ?_⟩
      have h8 := blk_keep h8 hb
      refine hK.out _ _ (OfS.keep hHeld hb) (fun hHeld => ?_)
      clear hK hb
      refine norm_ (a' := ?_) ?_ ?_
      rotate_left
      · show Act.put _ (some 8) _ = _
        simp only [Act.put, List.setIfInBounds_toArray, List.set_cons_zero, List.set_cons_succ]
        rfl
      refine two_ (i := 6) (j := 7) (Ni := some 11) (Nj := some 3) #[true, true, true, true, true, true, true, false, true, false, false] #[true, true, true, true, true, true, false, true, true, false, false] rfl rfl rfl rfl (by kernel_rfl) (by decide) (by decide) (fun K_ hK => ?_) (fun K_ hK => ?_)
      · skip
        refine goes_ Try.func19 (by kernel_rfl) rfl #[.agg #[.int .i64 x, .int .i64 y]] (by rfl) rfl rfl (by (try simp only [List.map_toArray, List.map_cons, List.map_nil]); first | done | rfl) ?_
        with_reducible refine ((HF _).out).mono ?_
        rintro e w2 ⟨rfl, hb⟩
        refine ⟨_, rfl, ?_⟩
        have h8 := blk_keep h8 hb
        refine hK.out _ _ (OfS.keep hHeld hb) (fun hHeld => ?_)
        clear hK hb
        refine norm_ (a' := ?_) ?_ ?_
        rotate_left
        · show Act.put _ (some 11) _ = _
          simp only [Act.put, List.setIfInBounds_toArray, List.set_cons_zero, List.set_cons_succ]
          rfl
        refine one_ (i := 7) (N := some 3) #[true, true, true, true, true, true, true, true, true, false, false] rfl rfl (by kernel_rfl) (by decide) (fun K_ hK => ?_)
        have p7 := lt_of_blk hHeld.2.1.out
        rw [if_pos (by rfl)]
        go_wp2
        refine hK.out _ _ (OfS.keep hHeld (below_alloc (Below.refl _ _) _)) (fun hHeld => ?_)
        clear hK
        have q78 := lt_of_blk h8
        have h8 := keep_of h8 hHeld
        have h7 := new_of hHeld
        generalize World.alloc w2 (.cells #[.int .i64 0, .int .i64 0] 23) = w2 at hHeld h8 h7 ⊢
        have hne := ne_of_lt' q78
        have c0 := blk_cell h7 0
        have c1 := blk_cell h7 1
        have f0 := blk_frozen h7 0
        have f1 := blk_frozen h7 1
        refine last_ (i := 9) (N := none) #[true, true, true, true, true, true, true, true, true, true, false] rfl rfl (by kernel_rfl) (by decide) (fun K_ hK => ?_)
        rw [if_pos (by rfl)]
        go_wp2
        refine hK.out _ _ ?_
        clear hK c0 c1 f0 f1
        have h8' := far2 h8 (Ne.symm hne) (.int .i64 A1) (.int .i64 A2)
        have h7' := blk_put (cs := #[.int .i64 A1, .int .i64 0]) (cs' := #[.int .i64 A1, .int .i64 A2]) (blk_put (cs := #[.int .i64 0, .int .i64 0]) h7 0 (.int .i64 A1) rfl) 1 (.int .i64 A2) rfl
        have c0 := blk_cell h8' 0
        have c1 := blk_cell h8' 1
        have f0 := blk_frozen h8' 0
        have f1 := blk_frozen h8' 1
        refine last_ (i := 10) (N := none) #[true, true, true, true, true, true, true, true, true, true, true] rfl rfl (by kernel_rfl) (by decide) (fun K_ hK => ?_)
        rw [if_pos (by rfl)]
        go_wp2
        refine hK.out _ _ ?_
        refine done_ (by kernel_rfl) ?_
        have h7'' := far2 h7' hne (.int .i64 F1) (.int .i64 F2)
        have h8'' := blk_put (cs := #[.int .i64 F1, .int .i64 0]) (cs' := #[.int .i64 F1, .int .i64 F2]) (blk_put (cs := #[.int .i64 0, .int .i64 0]) h8' 0 (.int .i64 F1) rfl) 1 (.int .i64 F2) rfl
        have z := far2 (far2 hHeld.2.1.out (Nat.ne_of_lt p7).symm (.int .i64 A1) (.int .i64 A2)) (Nat.ne_of_lt p8).symm (.int .i64 F1) (.int .i64 F2)
        exact HK _ _ _ h7'' h8'' z (below_set (below_set (below_set (below_set hHeld.2.2.1.out (by omega)) (by omega)) (by omega)) (by omega))
      · skip
        have p7 := lt_of_blk hHeld.2.1.out
        rw [if_pos (by rfl)]
        go_wp2
        refine hK.out _ _ (OfS.keep hHeld (below_alloc (Below.refl _ _) _)) (fun hHeld => ?_)
        clear hK
        have q78 := lt_of_blk h8
        have h8 := keep_of h8 hHeld
        have h7 := new_of hHeld
        generalize World.alloc w2 (.cells #[.int .i64 0, .int .i64 0] 23) = w2 at hHeld h8 h7 ⊢
        refine one_ (i := 6) (N := some 11) #[true, true, true, true, true, true, true, true, true, false, false] rfl rfl (by kernel_rfl) (by decide) (fun K_ hK => ?_)
        refine goes_ Try.func19 (by kernel_rfl) rfl #[.agg #[.int .i64 x, .int .i64 y]] (by rfl) rfl rfl (by (try simp only [List.map_toArray, List.map_cons, List.map_nil]); first | done | rfl) ?_
        with_reducible refine ((HF _).out).mono ?_
        rintro e w2 ⟨rfl, hb⟩
        refine ⟨_, rfl, ?_⟩
        have h8 := blk_keep h8 hb
        have h7 := blk_keep h7 hb
        refine hK.out _ _ (OfS.keep hHeld hb) (fun hHeld => ?_)
        clear hK hb
        refine norm_ (a' := ?_) ?_ ?_
        rotate_left
        · show Act.put _ (some 11) _ = _
          simp only [Act.put, List.setIfInBounds_toArray, List.set_cons_zero, List.set_cons_succ]
          rfl
        have hne := ne_of_lt' q78
        have c0 := blk_cell h7 0
        have c1 := blk_cell h7 1
        have f0 := blk_frozen h7 0
        have f1 := blk_frozen h7 1
        refine last_ (i := 9) (N := none) #[true, true, true, true, true, true, true, true, true, true, false] rfl rfl (by kernel_rfl) (by decide) (fun K_ hK => ?_)
        rw [if_pos (by rfl)]
        go_wp2
        refine hK.out _ _ ?_
        clear hK c0 c1 f0 f1
        have h8' := far2 h8 (Ne.symm hne) (.int .i64 A1) (.int .i64 A2)
        have h7' := blk_put (cs := #[.int .i64 A1, .int .i64 0]) (cs' := #[.int .i64 A1, .int .i64 A2]) (blk_put (cs := #[.int .i64 0, .int .i64 0]) h7 0 (.int .i64 A1) rfl) 1 (.int .i64 A2) rfl
        have c0 := blk_cell h8' 0
        have c1 := blk_cell h8' 1
        have f0 := blk_frozen h8' 0
        have f1 := blk_frozen h8' 1
        refine last_ (i := 10) (N := none) #[true, true, true, true, true, true, true, true, true, true, true] rfl rfl (by kernel_rfl) (by decide) (fun K_ hK => ?_)
        rw [if_pos (by rfl)]
        go_wp2
        refine hK.out _ _ ?_
        refine done_ (by kernel_rfl) ?_
        have h7'' := far2 h7' hne (.int .i64 F1) (.int .i64 F2)
        have h8'' := blk_put (cs := #[.int .i64 F1, .int .i64 0]) (cs' := #[.int .i64 F1, .int .i64 F2]) (blk_put (cs := #[.int .i64 0, .int .i64 0]) h8' 0 (.int .i64 F1) rfl) 1 (.int .i64 F2) rfl
        have z := far2 (far2 hHeld.2.1.out (Nat.ne_of_lt p7).symm (.int .i64 A1) (.int .i64 A2)) (Nat.ne_of_lt p8).symm (.int .i64 F1) (.int .i64 F2)
        exact HK _ _ _ h7'' h8'' z (below_set (below_set (below_set (below_set hHeld.2.2.1.out (by omega)) (by omega)) (by omega)) (by omega))
    · skip
      have p7 := lt_of_blk hHeld.2.1.out
      rw [if_pos (by rfl)]
      go_wp2
      refine hK.out _ _ (OfS.keep hHeld (below_alloc (Below.refl _ _) _)) (fun hHeld => ?_)
      clear hK
      have q78 := lt_of_blk h8
      have h8 := keep_of h8 hHeld
      have h7 := new_of hHeld
      generalize World.alloc w2 (.cells #[.int .i64 0, .int .i64 0] 23) = w2 at hHeld h8 h7 ⊢
      refine one_ (i := 3) (N := some 8) #[true, true, true, true, true, true, false, true, true, false, false] rfl rfl (by kernel_rfl) (by decide) (fun K_ hK => ?_)
      refine goes_ Try.func25 (by kernel_rfl) rfl #[.agg #[.int .i64 1, .int .i64 0], .int .i64 n] (by rfl) rfl rfl (by (try simp only [List.map_toArray, List.map_cons, List.map_nil]); first | done | rfl) ?_
      with_reducible refine ((HT _).out).mono ?_
      rintro e w2 ⟨rfl, hb⟩
      refine ⟨_, rfl, ?_⟩
      have h8 := blk_keep h8 hb
      have h7 := blk_keep h7 hb
      refine hK.out _ _ (OfS.keep hHeld hb) (fun hHeld => ?_)
      clear hK hb
      refine norm_ (a' := ?_) ?_ ?_
      rotate_left
      · show Act.put _ (some 8) _ = _
        simp only [Act.put, List.setIfInBounds_toArray, List.set_cons_zero, List.set_cons_succ]
        rfl
      refine one_ (i := 6) (N := some 11) #[true, true, true, true, true, true, true, true, true, false, false] rfl rfl (by kernel_rfl) (by decide) (fun K_ hK => ?_)
      refine goes_ Try.func19 (by kernel_rfl) rfl #[.agg #[.int .i64 x, .int .i64 y]] (by rfl) rfl rfl (by (try simp only [List.map_toArray, List.map_cons, List.map_nil]); first | done | rfl) ?_
      with_reducible refine ((HF _).out).mono ?_
      rintro e w2 ⟨rfl, hb⟩
      refine ⟨_, rfl, ?_⟩
      have h8 := blk_keep h8 hb
      have h7 := blk_keep h7 hb
      refine hK.out _ _ (OfS.keep hHeld hb) (fun hHeld => ?_)
      clear hK hb
      refine norm_ (a' := ?_) ?_ ?_
      rotate_left
      · show Act.put _ (some 11) _ = _
        simp only [Act.put, List.setIfInBounds_toArray, List.set_cons_zero, List.set_cons_succ]
        rfl
      have hne := ne_of_lt' q78
      have c0 := blk_cell h7 0
      have c1 := blk_cell h7 1
      have f0 := blk_frozen h7 0
      have f1 := blk_frozen h7 1
      refine last_ (i := 9) (N := none) #[true, true, true, true, true, true, true, true, true, true, false] rfl rfl (by kernel_rfl) (by decide) (fun K_ hK => ?_)
      rw [if_pos (by rfl)]
      go_wp2
      refine hK.out _ _ ?_
      clear hK c0 c1 f0 f1
      have h8' := far2 h8 (Ne.symm hne) (.int .i64 A1) (.int .i64 A2)
      have h7' := blk_put (cs := #[.int .i64 A1, .int .i64 0]) (cs' := #[.int .i64 A1, .int .i64 A2]) (blk_put (cs := #[.int .i64 0, .int .i64 0]) h7 0 (.int .i64 A1) rfl) 1 (.int .i64 A2) rfl
      have c0 := blk_cell h8' 0
      have c1 := blk_cell h8' 1
      have f0 := blk_frozen h8' 0
      have f1 := blk_frozen h8' 1
      refine last_ (i := 10) (N := none) #[true, true, true, true, true, true, true, true, true, true, true] rfl rfl (by kernel_rfl) (by decide) (fun K_ hK => ?_)
      rw [if_pos (by rfl)]
      go_wp2
      refine hK.out _ _ ?_
      refine done_ (by kernel_rfl) ?_
      have h7'' := far2 h7' hne (.int .i64 F1) (.int .i64 F2)
      have h8'' := blk_put (cs := #[.int .i64 F1, .int .i64 0]) (cs' := #[.int .i64 F1, .int .i64 F2]) (blk_put (cs := #[.int .i64 0, .int .i64 0]) h8' 0 (.int .i64 F1) rfl) 1 (.int .i64 F2) rfl
      have z := far2 (far2 hHeld.2.1.out (Nat.ne_of_lt p7).symm (.int .i64 A1) (.int .i64 A2)) (Nat.ne_of_lt p8).symm (.int .i64 F1) (.int .i64 F2)
      exact HK _ _ _ h7'' h8'' z (below_set (below_set (below_set (below_set hHeld.2.2.1.out (by omega)) (by omega)) (by omega)) (by omega))
end Go.Proofs.Ytbkcdfiokjhcjaa.P
