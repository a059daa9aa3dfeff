/- Several texts of this proof in one: what the law's functions come to, and the lemmas (some as the kit's print.sh printed them, what is not used struck). -/
import Derived.Test.YtpoghhcpoimepaaM2
section
/- Motions: a motion as a move. -/
namespace Go.Proofs.Ytpoghhcpoimepaa.P
open Go.Proofs.Ytpoghhcpoimepaa.B Go.RowKit Go.Proofs.YtpoghhcpoimepaaW.PrintWords Go.Proofs.YtpoghhcpoimepaaW.PrintLast Go.Proofs.YtpoghhcpoimepaaW.PrintMore Go.Proofs.Ytpoghhcpoimepaa.FX Go.Proofs.Ytpoghhcpoimepaa.H
set_option linter.unusedVariables false
set_option linter.unusedSimpArgs false
attribute [local go_sem] run_store_complex
abbrev OfS (w0 : World) (n x y : Int) (w' : World) : Prop :=
  Aside0 (w'.heap[w0.heap.size]? = some (.cells #[.int .i64 n, .int .i64 x, .int .i64 y] 34 (0, 0))) ∧ Aside0 (w'.heap[w0.heap.size + 1]? = some (.cells #[.complex .f64 0 0, .complex .f64 0 0] 109 (0, 0))) ∧ Aside0 (Below w0.heap.size w0 w') ∧
  w'.cell? ⟨w0.heap.size, 0, none⟩ = some (.int .i64 n) ∧ w'.cell? ⟨w0.heap.size, 1, none⟩ = some (.int .i64 x) ∧ w'.cell? ⟨w0.heap.size, 2, none⟩ = some (.int .i64 y)
theorem OfS.mk {w0 : World} {n x y : Int} {w' : World} (h1 : w'.heap[w0.heap.size]? = some (.cells #[.int .i64 n, .int .i64 x, .int .i64 y] 34 (0, 0))) (h2 : w'.heap[w0.heap.size + 1]? = some (.cells #[.complex .f64 0 0, .complex .f64 0 0] 109 (0, 0))) (h3 : Below w0.heap.size w0 w') : OfS w0 n x y w' :=
  ⟨⟨h1⟩, ⟨h2⟩, ⟨h3⟩, blk_cell h1 0, blk_cell h1 1, blk_cell h1 2⟩
theorem OfS.keep {w0 : World} {n x y : Int} {w1 w2 : World} (h : OfS w0 n x y w1) (hb : Below w1.heap.size w1 w2) : OfS w0 n x y w2 := OfS.mk (blk_keep h.1.out hb) (blk_keep h.2.1.out hb) (below_step h.2.2.1.out hb)
theorem OfS.drew {w0 : World} {n x y : Int} {w1 : World} (h : OfS w0 n x y w1) : OfS w0 n x y w1.drew := OfS.mk h.1.out h.2.1.out (below_drew h.2.2.1.out)
theorem new_of {w0 : World} {n x y : Int} {W : World} {o : Obj} (h : OfS w0 n x y (W.alloc o)) : (W.alloc o).heap[W.heap.size]? = some o := blk_new W o
theorem keep_of {w0 : World} {n x y : Int} {W : World} {o o' : Obj} {g : Nat} (hg : W.heap[g]? = some o') (h : OfS w0 n x y (W.alloc o)) : (W.alloc o).heap[g]? = some o' := blk_keep hg (below_alloc (Below.refl _ _) _)
theorem lt_of_blk {W : World} {g : Nat} {o : Obj} (h : W.heap[g]? = some o) : g < W.heap.size := (Array.getElem?_eq_some_iff.1 h).1
theorem ne_of_lt' {a b : Nat} (h : a < b) : a ≠ b := Nat.ne_of_lt h
theorem far2 {W : World} {a b : Nat} {o : Obj} (h : W.heap[b]? = some o) (hne : a ≠ b) (v1 v2 : Value) : ((W.setCell ⟨a, 0, none⟩ v1).setCell ⟨a, 1, none⟩ v2).heap[b]? = some o := by
  rw [Below.heap_setCell _ _ _ b (fun e => hne e.symm), Below.heap_setCell _ _ _ b (fun e => hne e.symm)]; exact h
theorem rot_unit (n : Int) : (rot (n % 4).toNat 1 0).1.natAbs ≤ 1 ∧ (rot (n % 4).toNat 1 0).2.natAbs ≤ 1 := by
  have hq : n % 4 = 0 ∨ n % 4 = 1 ∨ n % 4 = 2 ∨ n % 4 = 3 := by omega
  rcases hq with h | h | h | h <;> rw [h] <;> decide
abbrev O2S (w0 : World) (g3 g4 : Nat) (A1 A2 F1 F2 : Int) (w' : World) : Prop :=
  Aside0 (w'.heap[g3]? = some (.cells #[.int .i64 A1, .int .i64 A2] 24 (0, 0))) ∧ Aside0 (w'.heap[g4]? = some (.cells #[.int .i64 F1, .int .i64 F2] 24 (0, 0))) ∧ Aside0 (w'.heap[w0.heap.size + 1]? = some (.cells #[.complex .f64 0 0, .complex .f64 0 0] 109 (0, 0))) ∧ Aside0 (Below w0.heap.size w0 w') ∧
  w'.cell? ⟨g3, 0, none⟩ = some (.int .i64 A1) ∧ w'.cell? ⟨g3, 1, none⟩ = some (.int .i64 A2) ∧ w'.cell? ⟨g4, 0, none⟩ = some (.int .i64 F1) ∧ w'.cell? ⟨g4, 1, none⟩ = some (.int .i64 F2) ∧
  w'.cell? ⟨w0.heap.size + 1, 0, none⟩ = some (.complex .f64 0 0) ∧ w'.cell? ⟨w0.heap.size + 1, 1, none⟩ = some (.complex .f64 0 0) ∧ w'.frozen? ⟨w0.heap.size + 1, 0, none⟩ = false ∧ w'.frozen? ⟨w0.heap.size + 1, 1, none⟩ = false
theorem O2S.mk {w0 : World} {g3 g4 : Nat} {A1 A2 F1 F2 : Int} {w' : World} (h1 : w'.heap[g3]? = some (.cells #[.int .i64 A1, .int .i64 A2] 24 (0, 0))) (h2 : w'.heap[g4]? = some (.cells #[.int .i64 F1, .int .i64 F2] 24 (0, 0))) (h3 : w'.heap[w0.heap.size + 1]? = some (.cells #[.complex .f64 0 0, .complex .f64 0 0] 109 (0, 0))) (h4 : Below w0.heap.size w0 w') : O2S w0 g3 g4 A1 A2 F1 F2 w' :=
  ⟨⟨h1⟩, ⟨h2⟩, ⟨h3⟩, ⟨h4⟩, blk_cell h1 0, blk_cell h1 1, blk_cell h2 0, blk_cell h2 1, blk_cell h3 0, blk_cell h3 1, blk_frozen h3 0, blk_frozen h3 1⟩
theorem O2S.keep {w0 : World} {g3 g4 : Nat} {A1 A2 F1 F2 : Int} {w1 w2 : World} (h : O2S w0 g3 g4 A1 A2 F1 F2 w1) (hb : Below w1.heap.size w1 w2) : O2S w0 g3 g4 A1 A2 F1 F2 w2 := O2S.mk (blk_keep h.1.out hb) (blk_keep h.2.1.out hb) (blk_keep h.2.2.1.out hb) (below_step h.2.2.2.1.out hb)
theorem O2S.drew {w0 : World} {g3 g4 : Nat} {A1 A2 F1 F2 : Int} {w1 : World} (h : O2S w0 g3 g4 A1 A2 F1 F2 w1) : O2S w0 g3 g4 A1 A2 F1 F2 w1.drew := O2S.mk h.1.out h.2.1.out h.2.2.1.out (below_drew h.2.2.2.1.out)
set_option maxHeartbeats 4000000 in
set_option maxRecDepth 100000 in
theorem of_calls (n x y : Int) (w : World) : Calls Try.prog 79 #[.agg #[.int .i64 n, .int .i64 x, .int .i64 y]] w (MovePost (rot (n % 4).toNat 1 0) (fx x, fx y) w) := by
  obtain ⟨A1, A2, hA⟩ : ∃ A1 A2, rot (n % 4).toNat 1 0 = (A1, A2) := ⟨_, _, rfl⟩
  obtain ⟨F1, F2, hF1, hF2⟩ : ∃ F1 F2, fx x = F1 ∧ fx y = F2 := ⟨_, _, rfl, rfl⟩
  have HT := fun W => Aside0.mk (show Calls Try.prog 93 #[.agg #[.int .i64 1, .int .i64 0], .int .i64 n] W fun e w' => e = .returned (.agg #[.int .i64 A1, .int .i64 A2]) ∧ Below W.heap.size W w' from by
    have h := turn_calls 1 0 n W
    rw [show fx 1 = 1 from by decide, show fx 0 = 0 from by decide, hA] at h
    exact h)
  have HF := fun W => Aside0.mk (show Calls Try.prog 53 #[.agg #[.int .i64 x, .int .i64 y]] W fun e w' => e = .returned (.agg #[.int .i64 F1, .int .i64 F2]) ∧ Below W.heap.size W w' from by
    have h := fix_calls x y W
    rw [hF1, hF2] at h
    exact h)
  have HMV := Aside0.mk (show MV (floatOfInt .f64 A1) (floatOfInt .f64 A2) (floatOfInt .f64 F1) (floatOfInt .f64 F2) (A1, A2) (F1, F2) from by
    have u := rot_unit n
    rw [hA] at u
    have b1 := fx_le x
    have b2 := fx_le y
    exact ⟨isF_of _ (by simp only [] at u; omega), isF_of _ (by simp only [] at u; omega), isF_of _ (by omega), isF_of _ (by omega)⟩)
  rw [hA, hF1, hF2]
  have HS : OfS w n x y ((w.alloc (.cells #[.int .i64 n, .int .i64 x, .int .i64 y] 34)).alloc (.cells #[.complex .f64 0 0, .complex .f64 0 0] 109)) := OfS.mk (blk_keep (blk_new w _) (below_alloc (Below.refl _ _) _)) (move_new2 w _ _) (below_alloc (below_alloc (Below.refl _ _) _) _)
  go_enter Try.func79, Try.ntmps79
  go_wp2
  rename_i K hKr
  have HK : ∀ (g3 g4 : Nat) (W : World), W.heap[g3]? = some (.cells #[.int .i64 A1, .int .i64 A2] 24 (0, 0)) → W.heap[g4]? = some (.cells #[.int .i64 F1, .int .i64 F2] 24 (0, 0)) → W.heap[w.heap.size + 1]? = some (.cells #[.complex .f64 0 0, .complex .f64 0 0] 109 (0, 0)) → Below w.heap.size w W →
      K ⟨#[.agg #[.int .i64 n, .int .i64 x, .int .i64 y], .pointer (some ⟨w.heap.size, 0, none⟩), .pointer (some ⟨w.heap.size + 1, 0, none⟩), .pointer (some ⟨g3, 0, none⟩), .pointer (some ⟨g4, 0, none⟩), .agg #[.int .i64 1, .int .i64 0], .pointer (some ⟨w.heap.size, 0, none⟩), .int .i64 n, .agg #[.int .i64 A1, .int .i64 A2], .pointer (some ⟨w.heap.size, 1, none⟩), .agg #[.int .i64 x, .int .i64 y], .agg #[.int .i64 F1, .int .i64 F2], undef, undef, undef, undef, undef], []⟩ W := by
    intro g3 g4 W h3 h4 h5 hB
    refine hKr _ _ ?_
    have HS2 : O2S w g3 g4 A1 A2 F1 F2 W := O2S.mk h3 h4 h5 hB
    clear h3 h4 h5 hB HT HF HS
    go_wp2
    refine start_ (n := 6) (S := O2S w g3 g4 A1 A2 F1 F2) (ds := [5]) #[false, false, false, false, false, false] (by kernel_rfl) rfl rfl (O2S.drew HS2) (fun hHeld => ?_)
    clear HS2
    refine take_ (i := 0) (N := some 12) (v := ?_) (a' := ?_) #[true, false, false, false, false, false] rfl rfl (by kernel_rfl) (fun _ _ _ h => h) (Or.inl ⟨by rfl, ?_⟩) hHeld ?_ ?_
    rotate_left
    · rintro w' ⟨_, _, _, _, k1, k2, k3, k4, k5, k6, k7, k8⟩
      go_simp
      with_reducible rfl
    rotate_left
    · simp only [Act.put, List.setIfInBounds_toArray, List.set_cons_zero, List.set_cons_succ]
      rfl
    refine take_ (i := 2) (N := some 14) (v := ?_) (a' := ?_) #[true, false, true, false, false, false] rfl rfl (by kernel_rfl) (fun _ _ _ h => h) (Or.inl ⟨by rfl, ?_⟩) hHeld ?_ ?_
    rotate_left
    · rintro w' ⟨_, _, _, _, k1, k2, k3, k4, k5, k6, k7, k8⟩
      go_simp
      with_reducible rfl
    rotate_left
    · simp only [Act.put, List.setIfInBounds_toArray, List.set_cons_zero, List.set_cons_succ]
      rfl
    refine one_ (i := 1) (N := some 13) #[true, true, true, false, false, false] rfl rfl (by kernel_rfl) (by decide) (fun K_ hK => ?_)
    refine goes_ Try.func86 (by kernel_rfl) rfl #[.agg #[.int .i64 A1, .int .i64 A2]] (by rfl) rfl rfl (by (try simp only [List.map_toArray, List.map_cons, List.map_nil]); first | done | rfl) ?_
    with_reducible refine (mplane_calls A1 A2 _).mono ?_
    rintro e w2 ⟨rfl, hb⟩
    refine ⟨_, rfl, ?_⟩
    have hHeld2 := O2S.keep hHeld hb
    clear hHeld hb
    refine hK.out _ _ hHeld2 (fun hHeld => ?_)
    clear hK hHeld2
    refine norm_ (a' := ?_) ?_ ?_
    rotate_left
    · show Act.put _ (some 13) _ = _
      simp only [Act.put, List.setIfInBounds_toArray, List.set_cons_zero, List.set_cons_succ]
      rfl
    refine one_ (i := 3) (N := some 15) #[true, true, true, true, false, false] rfl rfl (by kernel_rfl) (by decide) (fun K_ hK => ?_)
    refine goes_ Try.func86 (by kernel_rfl) rfl #[.agg #[.int .i64 F1, .int .i64 F2]] (by rfl) rfl rfl (by (try simp only [List.map_toArray, List.map_cons, List.map_nil]); first | done | rfl) ?_
    with_reducible refine (mplane_calls F1 F2 _).mono ?_
    rintro e w2 ⟨rfl, hb⟩
    refine ⟨_, rfl, ?_⟩
    have hHeld2 := O2S.keep hHeld hb
    clear hHeld hb
    refine hK.out _ _ hHeld2 (fun hHeld => ?_)
    clear hK hHeld2
    refine norm_ (a' := ?_) ?_ ?_
    rotate_left
    · show Act.put _ (some 15) _ = _
      simp only [Act.put, List.setIfInBounds_toArray, List.set_cons_zero, List.set_cons_succ]
      rfl
    refine pure_ (i := 4) (N := some 16) (v := ?_) (a' := ?_) #[true, true, true, true, true, false] rfl rfl (by kernel_rfl) (fun _ _ _ h => h) (Or.inl ⟨by rfl, ?_⟩) ?_ ?_
    rotate_left
    · intro w'
      go_simp
      with_reducible rfl
    rotate_left
    · simp only [Act.put, List.setIfInBounds_toArray, List.set_cons_zero, List.set_cons_succ]
      rfl
    refine last_ (i := 5) (N := none) #[true, true, true, true, true, true] rfl rfl (by kernel_rfl) (by decide) (fun K_ hK => ?_)
    obtain ⟨_, _, HR, HB, k1, k2, k3, k4, k5, k6, k7, k8⟩ := hHeld
    rw [if_pos (by rfl)]
    go_wp2
    refine hK.out _ _ ?_
    refine done_ (by kernel_rfl) ?_
    go_wp2
    refine bodyPost_ret (results_cell_row rfl _ _ (w.heap.size + 1) 109 #[.complex .f64 (floatOfInt .f64 A1) (floatOfInt .f64 A2), .complex .f64 (floatOfInt .f64 F1) (floatOfInt .f64 F2)] (0, 0) _ rfl (blk_put (cs := #[.complex .f64 (floatOfInt .f64 A1) (floatOfInt .f64 A2), .complex .f64 0 0]) (blk_put (cs := #[.complex .f64 0 0, .complex .f64 0 0]) HR.out 0 _ rfl) 1 _ rfl) Try.underlying109 rfl (by kernel_rfl)) rfl ?_
    exact ⟨_, _, _, _, rfl, HMV.out, below_set (below_set HB.out (by omega)) (by omega)⟩
  refine start_ (n := 11) (S := OfS w n x y) (ds := [9, 10]) #[false, false, false, false, false, false, false, false, false, false, false] (by kernel_rfl) rfl rfl (OfS.drew HS) (fun hHeld => ?_)
  clear HS
  generalize ((w.alloc (.cells #[.int .i64 n, .int .i64 x, .int .i64 y] 34)).alloc (.cells #[.complex .f64 0 0, .complex .f64 0 0] 109)).drew = w2 at hHeld ⊢
  refine pure_ (i := 0) (N := some 5) (v := ?_) (a' := ?_) #[true, false, false, false, false, false, false, false, false, false, false] rfl rfl (by kernel_rfl) (fun _ _ _ h => h) (Or.inl ⟨by rfl, ?_⟩) ?_ ?_
  rotate_left
  · intro w'
    go_simp
    with_reducible rfl
  rotate_left
  · simp only [Act.put, List.setIfInBounds_toArray, List.set_cons_zero, List.set_cons_succ]
    rfl
  refine pure_ (i := 1) (N := some 6) (v := ?_) (a' := ?_) #[true, true, false, false, false, false, false, false, false, false, false] rfl rfl (by kernel_rfl) (fun _ _ _ h => h) (Or.inl ⟨by rfl, ?_⟩) ?_ ?_
  rotate_left
  · intro w'
    go_simp
    with_reducible rfl
  rotate_left
  · simp only [Act.put, List.setIfInBounds_toArray, List.set_cons_zero, List.set_cons_succ]
    rfl
  refine take_ (i := 2) (N := some 7) (v := ?_) (a' := ?_) #[true, true, true, false, false, false, false, false, false, false, false] rfl rfl (by kernel_rfl) (fun _ _ _ h => h) (Or.inl ⟨by rfl, ?_⟩) hHeld ?_ ?_
  rotate_left
  · rintro w' ⟨_, _, _, k1, k2, k3⟩
    go_simp
    with_reducible rfl
  rotate_left
  · simp only [Act.put, List.setIfInBounds_toArray, List.set_cons_zero, List.set_cons_succ]
    rfl
  refine pure_ (i := 4) (N := some 9) (v := ?_) (a' := ?_) #[true, true, true, false, true, false, false, false, false, false, false] rfl rfl (by kernel_rfl) (fun _ _ _ h => h) (Or.inl ⟨by rfl, ?_⟩) ?_ ?_
  rotate_left
  · intro w'
    go_simp
    with_reducible rfl
  rotate_left
  · simp only [Act.put, List.setIfInBounds_toArray, List.set_cons_zero, List.set_cons_succ]
    rfl
  refine take_ (i := 5) (N := some 10) (v := ?_) (a' := ?_) #[true, true, true, false, true, true, false, false, false, false, false] rfl rfl (by kernel_rfl) (fun _ _ _ h => h) (Or.inl ⟨by rfl, ?_⟩) hHeld ?_ ?_
  rotate_left
  · rintro w' ⟨_, _, _, k1, k2, k3⟩
    go_simp
    with_reducible rfl
  rotate_left
  · simp only [Act.put, List.setIfInBounds_toArray, List.set_cons_zero, List.set_cons_succ]
    rfl
  refine three_ (i := 3) (j := 7) (k := 8) (Ni := some 8) (Nj := some 3) (Nk := some 4) #[true, true, true, true, true, true, false, false, false, false, false] #[true, true, true, false, true, true, false, true, false, false, false] #[true, true, true, false, true, true, false, false, true, false, false] rfl rfl rfl rfl rfl rfl (by kernel_rfl) (by decide) (by decide) (by decide) (fun K_ hK => ?_) (fun K_ hK => ?_) (fun K_ hK => ?_)
  · skip
    refine goes_ Try.func93 (by kernel_rfl) rfl #[.agg #[.int .i64 1, .int .i64 0], .int .i64 n] (by rfl) rfl rfl (by (try simp only [List.map_toArray, List.map_cons, List.map_nil]); first | done | rfl) ?_
    with_reducible refine ((HT _).out).mono ?_
    rintro e w2 ⟨rfl, hb⟩
    refine ⟨_, rfl, ?_⟩
    refine hK.out _ _ (OfS.keep hHeld hb) (fun hHeld => ?_)
    clear hK hb
    refine norm_ (a' := ?_) ?_ ?_
    rotate_left
    · show Act.put _ (some 8) _ = _
      simp only [Act.put, List.setIfInBounds_toArray, List.set_cons_zero, List.set_cons_succ]
      rfl
    refine three_ (i := 6) (j := 7) (k := 8) (Ni := some 11) (Nj := some 3) (Nk := some 4) #[true, true, true, true, true, true, true, false, false, false, false] #[true, true, true, true, true, true, false, true, false, false, false] #[true, true, true, true, true, true, false, false, true, false, false] rfl rfl rfl rfl rfl rfl (by kernel_rfl) (by decide) (by decide) (by decide) (fun K_ hK => ?_) (fun K_ hK => ?_) (fun K_ hK => ?_)
    · skip
      refine goes_ Try.func53 (by kernel_rfl) rfl #[.agg #[.int .i64 x, .int .i64 y]] (by rfl) rfl rfl (by (try simp only [List.map_toArray, List.map_cons, List.map_nil]); first | done | rfl) ?_
      with_reducible refine ((HF _).out).mono ?_
      rintro e w2 ⟨rfl, hb⟩
      refine ⟨_, rfl, ?_⟩
      refine hK.out _ _ (OfS.keep hHeld hb) (fun hHeld => ?_)
      clear hK hb
      refine norm_ (a' := ?_) ?_ ?_
      rotate_left
      · show Act.put _ (some 11) _ = _
        simp only [Act.put, List.setIfInBounds_toArray, List.set_cons_zero, List.set_cons_succ]
        rfl
      refine two_ (i := 7) (j := 8) (Ni := some 3) (Nj := some 4) #[true, true, true, true, true, true, true, true, false, false, false] #[true, true, true, true, true, true, true, false, true, false, false] rfl rfl rfl rfl (by kernel_rfl) (by decide) (by decide) (fun K_ hK => ?_) (fun K_ hK => ?_)
      · skip
        have p7 := lt_of_blk hHeld.2.1.out
        rw [if_pos (by rfl)]
        go_wp2
        refine hK.out _ _ (OfS.keep hHeld (below_alloc (Below.refl _ _) _)) (fun hHeld => ?_)
        clear hK
        have h7 := new_of hHeld
        generalize World.alloc w2 (.cells #[.int .i64 0, .int .i64 0] 24) = w2 at hHeld h7 ⊢
        refine one_ (i := 8) (N := some 4) #[true, true, true, true, true, true, true, true, true, false, false] rfl rfl (by kernel_rfl) (by decide) (fun K_ hK => ?_)
        have p8 := lt_of_blk hHeld.2.1.out
        rw [if_pos (by rfl)]
        go_wp2
        refine hK.out _ _ (OfS.keep hHeld (below_alloc (Below.refl _ _) _)) (fun hHeld => ?_)
        clear hK
        have q87 := lt_of_blk h7
        have h7 := keep_of h7 hHeld
        have h8 := new_of hHeld
        generalize World.alloc w2 (.cells #[.int .i64 0, .int .i64 0] 24) = w2 at hHeld h7 h8 ⊢
        have hne := ne_of_lt' q87
        have c0 := blk_cell h7 0
        have c1 := blk_cell h7 1
        have f0 := blk_frozen h7 0
        have f1 := blk_frozen h7 1
        refine last_ (i := 9) (N := none) #[true, true, true, true, true, true, true, true, true, true, false] rfl rfl (by kernel_rfl) (by decide) (fun K_ hK => ?_)
        rw [if_pos (by rfl)]
        go_wp2
        refine hK.out _ _ ?_
        clear hK c0 c1 f0 f1
        have h8' := far2 h8 hne (.int .i64 A1) (.int .i64 A2)
        have h7' := blk_put (cs := #[.int .i64 A1, .int .i64 0]) (cs' := #[.int .i64 A1, .int .i64 A2]) (blk_put (cs := #[.int .i64 0, .int .i64 0]) h7 0 (.int .i64 A1) rfl) 1 (.int .i64 A2) rfl
        have c0 := blk_cell h8' 0
        have c1 := blk_cell h8' 1
        have f0 := blk_frozen h8' 0
        have f1 := blk_frozen h8' 1
        refine last_ (i := 10) (N := none) #[true, true, true, true, true, true, true, true, true, true, true] rfl rfl (by kernel_rfl) (by decide) (fun K_ hK => ?_)
        rw [if_pos (by rfl)]
        go_wp2
        refine hK.out _ _ ?_
        refine done_ (by kernel_rfl) ?_
        have h7'' := far2 h7' (Ne.symm hne) (.int .i64 F1) (.int .i64 F2)
        have h8'' := blk_put (cs := #[.int .i64 F1, .int .i64 0]) (cs' := #[.int .i64 F1, .int .i64 F2]) (blk_put (cs := #[.int .i64 0, .int .i64 0]) h8' 0 (.int .i64 F1) rfl) 1 (.int .i64 F2) rfl
        have z := far2 (far2 hHeld.2.1.out (Nat.ne_of_lt p7).symm (.int .i64 A1) (.int .i64 A2)) (Nat.ne_of_lt p8).symm (.int .i64 F1) (.int .i64 F2)
        exact HK _ _ _ h7'' h8'' z (below_set (below_set (below_set (below_set hHeld.2.2.1.out (by omega)) (by omega)) (by omega)) (by omega))
      · skip
        have p8 := lt_of_blk hHeld.2.1.out
        rw [if_pos (by rfl)]
        go_wp2
        refine hK.out _ _ (OfS.keep hHeld (below_alloc (Below.refl _ _) _)) (fun hHeld => ?_)
        clear hK
        have h8 := new_of hHeld
        generalize World.alloc w2 (.cells #[.int .i64 0, .int .i64 0] 24) = w2 at hHeld h8 ⊢
        refine one_ (i := 7) (N := some 3) #[true, true, true, true, true, true, true, true, true, false, false] rfl rfl (by kernel_rfl) (by decide) (fun K_ hK => ?_)
        have p7 := lt_of_blk hHeld.2.1.out
        rw [if_pos (by rfl)]
        go_wp2
        refine hK.out _ _ (OfS.keep hHeld (below_alloc (Below.refl _ _) _)) (fun hHeld => ?_)
        clear hK
        have q78 := lt_of_blk h8
        have h8 := keep_of h8 hHeld
        have h7 := new_of hHeld
        generalize World.alloc w2 (.cells #[.int .i64 0, .int .i64 0] 24) = w2 at hHeld h8 h7 ⊢
        have hne := ne_of_lt' q78
        have c0 := blk_cell h7 0
        have c1 := blk_cell h7 1
        have f0 := blk_frozen h7 0
        have f1 := blk_frozen h7 1
        refine last_ (i := 9) (N := none) #[true, true, true, true, true, true, true, true, true, true, false] rfl rfl (by kernel_rfl) (by decide) (fun K_ hK => ?_)
        rw [if_pos (by rfl)]
        go_wp2
        refine hK.out _ _ ?_
        clear hK c0 c1 f0 f1
        have h8' := far2 h8 (Ne.symm hne) (.int .i64 A1) (.int .i64 A2)
        have h7' := blk_put (cs := #[.int .i64 A1, .int .i64 0]) (cs' := #[.int .i64 A1, .int .i64 A2]) (blk_put (cs := #[.int .i64 0, .int .i64 0]) h7 0 (.int .i64 A1) rfl) 1 (.int .i64 A2) rfl
        have c0 := blk_cell h8' 0
        have c1 := blk_cell h8' 1
        have f0 := blk_frozen h8' 0
        have f1 := blk_frozen h8' 1
        refine last_ (i := 10) (N := none) #[true, true, true, true, true, true, true, true, true, true, true] rfl rfl (by kernel_rfl) (by decide) (fun K_ hK => ?_)
        rw [if_pos (by rfl)]
        go_wp2
        refine hK.out _ _ ?_
        refine done_ (by kernel_rfl) ?_
        have h7'' := far2 h7' hne (.int .i64 F1) (.int .i64 F2)
        have h8'' := blk_put (cs := #[.int .i64 F1, .int .i64 0]) (cs' := #[.int .i64 F1, .int .i64 F2]) (blk_put (cs := #[.int .i64 0, .int .i64 0]) h8' 0 (.int .i64 F1) rfl) 1 (.int .i64 F2) rfl
        have z := far2 (far2 hHeld.2.1.out (Nat.ne_of_lt p7).symm (.int .i64 A1) (.int .i64 A2)) (Nat.ne_of_lt p8).symm (.int .i64 F1) (.int .i64 F2)
        exact HK _ _ _ h7'' h8'' z (below_set (below_set (below_set (below_set hHeld.2.2.1.out (by omega)) (by omega)) (by omega)) (by omega))
    · skip
      have p7 := lt_of_blk hHeld.2.1.out
      rw [if_pos (by rfl)]
      go_wp2
      refine hK.out _ _ (OfS.keep hHeld (below_alloc (Below.refl _ _) _)) (fun hHeld => ?_)
      clear hK
      have h7 := new_of hHeld
      generalize World.alloc w2 (.cells #[.int .i64 0, .int .i64 0] 24) = w2 at hHeld h7 ⊢
      refine two_ (i := 6) (j := 8) (Ni := some 11) (Nj := some 4) #[true, true, true, true, true, true, true, true, false, false, false] #[true, true, true, true, true, true, false, true, true, false, false] rfl rfl rfl rfl (by kernel_rfl) (by decide) (by decide) (fun K_ hK => ?_) (fun K_ hK => ?_)
      · skip
        refine goes_ Try.func53 (by kernel_rfl) rfl #[.agg #[.int .i64 x, .int .i64 y]] (by rfl) rfl rfl (by (try simp only [List.map_toArray, List.map_cons, List.map_nil]); first | done | rfl) ?_
        with_reducible refine ((HF _).out).mono ?_
        rintro e w2 ⟨rfl, hb⟩
        refine ⟨_, rfl, ?_⟩
        have h7 := blk_keep h7 hb
        refine hK.out _ _ (OfS.keep hHeld hb) (fun hHeld => ?_)
        clear hK hb
        refine norm_ (a' := ?_) ?_ ?_
        rotate_left
        · show Act.put _ (some 11) _ = _
          simp only [Act.put, List.setIfInBounds_toArray, List.set_cons_zero, List.set_cons_succ]
          rfl
        refine one_ (i := 8) (N := some 4) #[true, true, true, true, true, true, true, true, true, false, false] rfl rfl (by kernel_rfl) (by decide) (fun K_ hK => ?_)
        have p8 := lt_of_blk hHeld.2.1.out
        rw [if_pos (by rfl)]
        go_wp2
        refine hK.out _ _ (OfS.keep hHeld (below_alloc (Below.refl _ _) _)) (fun hHeld => ?_)
        clear hK
        have q87 := lt_of_blk h7
        have h7 := keep_of h7 hHeld
        have h8 := new_of hHeld
        generalize World.alloc w2 (.cells #[.int .i64 0, .int .i64 0] 24) = w2 at hHeld h7 h8 ⊢
        have hne := ne_of_lt' q87
        have c0 := blk_cell h7 0
        have c1 := blk_cell h7 1
        have f0 := blk_frozen h7 0
        have f1 := blk_frozen h7 1
        refine last_ (i := 9) (N := none) #[true, true, true, true, true, true, true, true, true, true, false] rfl rfl (by kernel_rfl) (by decide) (fun K_ hK => ?_)
        rw [if_pos (by rfl)]
        go_wp2
        refine hK.out _ _ ?_
        clear hK c0 c1 f0 f1
        have h8' := far2 h8 hne (.int .i64 A1) (.int .i64 A2)
        have h7' := blk_put (cs := #[.int .i64 A1, .int .i64 0]) (cs' := #[.int .i64 A1, .int .i64 A2]) (blk_put (cs := #[.int .i64 0, .int .i64 0]) h7 0 (.int .i64 A1) rfl) 1 (.int .i64 A2) rfl
        have c0 := blk_cell h8' 0
        have c1 := blk_cell h8' 1
        have f0 := blk_frozen h8' 0
        have f1 := blk_frozen h8' 1
        refine last_ (i := 10) (N := none) #[true, true, true, true, true, true, true, true, true, true, true] rfl rfl (by kernel_rfl) (by decide) (fun K_ hK => ?_)
        rw [if_pos (by rfl)]
        go_wp2
        refine hK.out _ _ ?_
        refine done_ (by kernel_rfl) ?_
        have h7'' := far2 h7' (Ne.symm hne) (.int .i64 F1) (.int .i64 F2)
        have h8'' := blk_put (cs := #[.int .i64 F1, .int .i64 0]) (cs' := #[.int .i64 F1, .int .i64 F2]) (blk_put (cs := #[.int .i64 0, .int .i64 0]) h8' 0 (.int .i64 F1) rfl) 1 (.int .i64 F2) rfl
        have z := far2 (far2 hHeld.2.1.out (Nat.ne_of_lt p7).symm (.int .i64 A1) (.int .i64 A2)) (Nat.ne_of_lt p8).symm (.int .i64 F1) (.int .i64 F2)
        exact HK _ _ _ h7'' h8'' z (below_set (below_set (below_set (below_set hHeld.2.2.1.out (by omega)) (by omega)) (by omega)) (by omega))
      · skip
        have p8 := lt_of_blk hHeld.2.1.out
        rw [if_pos (by rfl)]
        go_wp2
        refine hK.out _ _ (OfS.keep hHeld (below_alloc (Below.refl _ _) _)) (fun hHeld => ?_)
        clear hK
        have q87 := lt_of_blk h7
        have h7 := keep_of h7 hHeld
        have h8 := new_of hHeld
        generalize World.alloc w2 (.cells #[.int .i64 0, .int .i64 0] 24) = w2 at hHeld h7 h8 ⊢
        refine one_ (i := 6) (N := some 11) #[true, true, true, true, true, true, true, true, true, false, false] rfl rfl (by kernel_rfl) (by decide) (fun K_ hK => ?_)
        refine goes_ Try.func53 (by kernel_rfl) rfl #[.agg #[.int .i64 x, .int .i64 y]] (by rfl) rfl rfl (by (try simp only [List.map_toArray, List.map_cons, List.map_nil]); first | done | rfl) ?_
        with_reducible refine ((HF _).out).mono ?_
        rintro e w2 ⟨rfl, hb⟩
        refine ⟨_, rfl, ?_⟩
        have h7 := blk_keep h7 hb
        have h8 := blk_keep h8 hb
        refine hK.out _ _ (OfS.keep hHeld hb) (fun hHeld => ?_)
        clear hK hb
        refine norm_ (a' := ?_) ?_ ?_
        rotate_left
        · show Act.put _ (some 11) _ = _
          simp only [Act.put, List.setIfInBounds_toArray, List.set_cons_zero, List.set_cons_succ]
          rfl
        have hne := ne_of_lt' q87
        have c0 := blk_cell h7 0
        have c1 := blk_cell h7 1
        have f0 := blk_frozen h7 0
        have f1 := blk_frozen h7 1
        refine last_ (i := 9) (N := none) #[true, true, true, true, true, true, true, true, true, true, false] rfl rfl (by kernel_rfl) (by decide) (fun K_ hK => ?_)
        rw [if_pos (by rfl)]
        go_wp2
        refine hK.out _ _ ?_
        clear hK c0 c1 f0 f1
        have h8' := far2 h8 hne (.int .i64 A1) (.int .i64 A2)
        have h7' := blk_put (cs := #[.int .i64 A1, .int .i64 0]) (cs' := #[.int .i64 A1, .int .i64 A2]) (blk_put (cs := #[.int .i64 0, .int .i64 0]) h7 0 (.int .i64 A1) rfl) 1 (.int .i64 A2) rfl
        have c0 := blk_cell h8' 0
        have c1 := blk_cell h8' 1
        have f0 := blk_frozen h8' 0
        have f1 := blk_frozen h8' 1
        refine last_ (i := 10) (N := none) #[true, true, true, true, true, true, true, true, true, true, true] rfl rfl (by kernel_rfl) (by decide) (fun K_ hK => ?_)
        rw [if_pos (by rfl)]
        go_wp2
        refine hK.out _ _ ?_
        refine done_ (by kernel_rfl) ?_
        have h7'' := far2 h7' (Ne.symm hne) (.int .i64 F1) (.int .i64 F2)
        have h8'' := blk_put (cs := #[.int .i64 F1, .int .i64 0]) (cs' := #[.int .i64 F1, .int .i64 F2]) (blk_put (cs := #[.int .i64 0, .int .i64 0]) h8' 0 (.int .i64 F1) rfl) 1 (.int .i64 F2) rfl
        have z := far2 (far2 hHeld.2.1.out (Nat.ne_of_lt p7).symm (.int .i64 A1) (.int .i64 A2)) (Nat.ne_of_lt p8).symm (.int .i64 F1) (.int .i64 F2)
        exact HK _ _ _ h7'' h8'' z (below_set (below_set (below_set (below_set hHeld.2.2.1.out (by omega)) (by omega)) (by omega)) (by omega))
    · skip
      have p8 := lt_of_blk hHeld.2.1.out
      rw [if_pos (by rfl)]
      go_wp2
      refine hK.out _ _ (OfS.keep hHeld (below_alloc (Below.refl _ _) _)) (fun hHeld => ?_)
      clear hK
      have h8 := new_of hHeld
      generalize World.alloc w2 (.cells #[.int .i64 0, .int .i64 0] 24) = w2 at hHeld h8 ⊢
      refine two_ (i := 6) (j := 7) (Ni := some 11) (Nj := some 3) #[true, true, true, true, true, true, true, false, true, false, false] #[true, true, true, true, true, true, false, true, true, false, false] rfl rfl rfl rfl (by kernel_rfl) (by decide) (by decide) (fun K_ hK => ?_) (fun K_ hK => ?_)
      · skip
        refine goes_ Try.func53 (by kernel_rfl) rfl #[.agg #[.int .i64 x, .int .i64 y]] (by rfl) rfl rfl (by (try simp only [List.map_toArray, List.map_cons, List.map_nil]); first | done | rfl) ?_
        with_reducible refine ((HF _).out).mono ?_
        rintro e w2 ⟨rfl, hb⟩
        refine ⟨_, rfl, ?_⟩
        have h8 := blk_keep h8 hb
        refine hK.out _ _ (OfS.keep hHeld hb) (fun hHeld => ?_)
        clear hK hb
        refine norm_ (a' := ?_) ?_ ?_
        rotate_left
        · show Act.put _ (some 11) _ = _
          simp only [Act.put, List.setIfInBounds_toArray, List.set_cons_zero, List.set_cons_succ]
          rfl
        refine one_ (i := 7) (N := some 3) #[true, true, true, true, true, true, true, true, true, false, false] rfl rfl (by kernel_rfl) (by decide) (fun K_ hK => ?_)
        have p7 := lt_of_blk hHeld.2.1.out
        rw [if_pos (by rfl)]
        go_wp2
        refine hK.out _ _ (OfS.keep hHeld (below_alloc (Below.refl _ _) _)) (fun hHeld => ?_)
        clear hK
        have q78 := lt_of_blk h8
        have h8 := keep_of h8 hHeld
        have h7 := new_of hHeld
        generalize World.alloc w2 (.cells #[.int .i64 0, .int .i64 0] 24) = w2 at hHeld h8 h7 ⊢
        have hne := ne_of_lt' q78
        have c0 := blk_cell h7 0
        have c1 := blk_cell h7 1
        have f0 := blk_frozen h7 0
        have f1 := blk_frozen h7 1
        refine last_ (i := 9) (N := none) #[true, true, true, true, true, true, true, true, true, true, false] rfl rfl (by kernel_rfl) (by decide) (fun K_ hK => ?_)
        rw [if_pos (by rfl)]
        go_wp2
        refine hK.out _ _ ?_
        clear hK c0 c1 f0 f1
        have h8' := far2 h8 (Ne.symm hne) (.int .i64 A1) (.int .i64 A2)
        have h7' := blk_put (cs := #[.int .i64 A1, .int .i64 0]) (cs' := #[.int .i64 A1, .int .i64 A2]) (blk_put (cs := #[.int .i64 0, .int .i64 0]) h7 0 (.int .i64 A1) rfl) 1 (.int .i64 A2) rfl
        have c0 := blk_cell h8' 0
        have c1 := blk_cell h8' 1
        have f0 := blk_frozen h8' 0
        have f1 := blk_frozen h8' 1
        refine last_ (i := 10) (N := none) #[true, true, true, true, true, true, true, true, true, true, true] rfl rfl (by kernel_rfl) (by decide) (fun K_ hK => ?_)
        rw [if_pos (by rfl)]
        go_wp2
        refine hK.out _ _ ?_
        refine done_ (by kernel_rfl) ?_
        have h7'' := far2 h7' hne (.int .i64 F1) (.int .i64 F2)
        have h8'' := blk_put (cs := #[.int .i64 F1, .int .i64 0]) (cs' := #[.int .i64 F1, .int .i64 F2]) (blk_put (cs := #[.int .i64 0, .int .i64 0]) h8' 0 (.int .i64 F1) rfl) 1 (.int .i64 F2) rfl
        have z := far2 (far2 hHeld.2.1.out (Nat.ne_of_lt p7).symm (.int .i64 A1) (.int .i64 A2)) (Nat.ne_of_lt p8).symm (.int .i64 F1) (.int .i64 F2)
        exact HK _ _ _ h7'' h8'' z (below_set (below_set (below_set (below_set hHeld.2.2.1.out (by omega)) (by omega)) (by omega)) (by omega))
      · skip
        have p7 := lt_of_blk hHeld.2.1.out
        rw [if_pos (by rfl)]
        go_wp2
        refine hK.out _ _ (OfS.keep hHeld (below_alloc (Below.refl _ _) _)) (fun hHeld => ?_)
        clear hK
        have q78 := lt_of_blk h8
        have h8 := keep_of h8 hHeld
        have h7 := new_of hHeld
        generalize World.alloc w2 (.cells #[.int .i64 0, .int .i64 0] 24) = w2 at hHeld h8 h7 ⊢
        refine one_ (i := 6) (N := some 11) #[true, true, true, true, true, true, true, true, true, false, false] rfl rfl (by kernel_rfl) (by decide) (fun K_ hK => ?_)
        refine goes_ Try.func53 (by kernel_rfl) rfl #[.agg #[.int .i64 x, .int .i64 y]] (by rfl) rfl rfl (by (try simp only [List.map_toArray, List.map_cons, List.map_nil]); first | done | rfl) ?_
        with_reducible refine ((HF _).out).mono ?_
        rintro e w2 ⟨rfl, hb⟩
        refine ⟨_, rfl, ?_⟩
        have h8 := blk_keep h8 hb
        have h7 := blk_keep h7 hb
        refine hK.out _ _ (OfS.keep hHeld hb) (fun hHeld => ?_)
        clear hK hb
        refine norm_ (a' := ?_) ?_ ?_
        rotate_left
        · show Act.put _ (some 11) _ = _
          simp only [Act.put, List.setIfInBounds_toArray, List.set_cons_zero, List.set_cons_succ]
          rfl
        have hne := ne_of_lt' q78
        have c0 := blk_cell h7 0
        have c1 := blk_cell h7 1
        have f0 := blk_frozen h7 0
        have f1 := blk_frozen h7 1
        refine last_ (i := 9) (N := none) #[true, true, true, true, true, true, true, true, true, true, false] rfl rfl (by kernel_rfl) (by decide) (fun K_ hK => ?_)
        rw [if_pos (by rfl)]
        go_wp2
        refine hK.out _ _ ?_
        clear hK c0 c1 f0 f1
        have h8' := far2 h8 (Ne.symm hne) (.int .i64 A1) (.int .i64 A2)
        have h7' := blk_put (cs := #[.int .i64 A1, .int .i64 0]) (cs' := #[.int .i64 A1, .int .i64 A2]) (blk_put (cs := #[.int .i64 0, .int .i64 0]) h7 0 (.int .i64 A1) rfl) 1 (.int .i64 A2) rfl
        have c0 := blk_cell h8' 0
        have c1 := blk_cell h8' 1
        have f0 := blk_frozen h8' 0
        have f1 := blk_frozen h8' 1
        refine last_ (i := 10) (N := none) #[true, true, true, true, true, true, true, true, true, true, true] rfl rfl (by kernel_rfl) (by decide) (fun K_ hK => ?_)
        rw [if_pos (by rfl)]
        go_wp2
        refine hK.out _ _ ?_
        refine done_ (by kernel_rfl) ?_
        have h7'' := far2 h7' hne (.int .i64 F1) (.int .i64 F2)
        have h8'' := blk_put (cs := #[.int .i64 F1, .int .i64 0]) (cs' := #[.int .i64 F1, .int .i64 F2]) (blk_put (cs := #[.int .i64 0, .int .i64 0]) h8' 0 (.int .i64 F1) rfl) 1 (.int .i64 F2) rfl
        have z := far2 (far2 hHeld.2.1.out (Nat.ne_of_lt p7).symm (.int .i64 A1) (.int .i64 A2)) (Nat.ne_of_lt p8).symm (.int .i64 F1) (.int .i64 F2)
        exact HK _ _ _ h7'' h8'' z (below_set (below_set (below_set (below_set hHeld.2.2.1.out (by omega)) (by omega)) (by omega)) (by omega))
  · skip
    have p7 := lt_of_blk hHeld.2.1.out
    rw [if_pos (by rfl)]
    go_wp2
    refine hK.out _ _ (OfS.keep hHeld (below_alloc (Below.refl _ _) _)) (fun hHeld => ?_)
    clear hK
    have h7 := new_of hHeld
    generalize World.alloc w2 (.cells #[.int .i64 0, .int .i64 0] 24) = w2 at hHeld h7 ⊢
    refine two_ (i := 3) (j := 8) (Ni := some 8) (Nj := some 4) #[true, true, true, true, true, true, false, true, false, false, false] #[true, true, true, false, true, true, false, true, true, false, false] rfl rfl rfl rfl (by kernel_rfl) (by decide) (by decide) (fun K_ hK => ?_) (fun K_ hK => ?_)
    · skip
      refine goes_ Try.func93 (by kernel_rfl) rfl #[.agg #[.int .i64 1, .int .i64 0], .int .i64 n] (by rfl) rfl rfl (by (try simp only [List.map_toArray, List.map_cons, List.map_nil]); first | done | rfl) ?_
      with_reducible refine ((HT _).out).mono ?_
      rintro e w2 ⟨rfl, hb⟩
      refine ⟨_, rfl, ?_⟩
      have h7 := blk_keep h7 hb
      refine hK.out _ _ (OfS.keep hHeld hb) (fun hHeld => ?_)
      clear hK hb
      refine norm_ (a' := ?_) ?_ ?_
      rotate_left
      · show Act.put _ (some 8) _ = _
        simp only [Act.put, List.setIfInBounds_toArray, List.set_cons_zero, List.set_cons_succ]
        rfl
      refine two_ (i := 6) (j := 8) (Ni := some 11) (Nj := some 4) #[true, true, true, true, true, true, true, true, false, false, false] #[true, true, true, true, true, true, false, true, true, false, false] rfl rfl rfl rfl (by kernel_rfl) (by decide) (by decide) (fun K_ hK => ?_) (fun K_ hK => ?_)
      · skip
        refine goes_ Try.func53 (by kernel_rfl) rfl #[.agg #[.int .i64 x, .int .i64 y]] (by rfl) rfl rfl (by (try simp only [List.map_toArray, List.map_cons, List.map_nil]); first | done | rfl) ?_
        with_reducible refine ((HF _).out).mono ?_
        rintro e w2 ⟨rfl, hb⟩
        refine ⟨_, rfl, ?_⟩
        have h7 := blk_keep h7 hb
        refine hK.out _ _ (OfS.keep hHeld hb) (fun hHeld => ?_)
        clear hK hb
        refine norm_ (a' := ?_) ?_ ?_
        rotate_left
        · show Act.put _ (some 11) _ = _
          simp only [Act.put, List.setIfInBounds_toArray, List.set_cons_zero, List.set_cons_succ]
          rfl
        refine one_ (i := 8) (N := some 4) #[true, true, true, true, true, true, true, true, true, false, false] rfl rfl (by kernel_rfl) (by decide) (fun K_ hK => ?_)
        have p8 := lt_of_blk hHeld.2.1.out
        rw [if_pos (by rfl)]
        go_wp2
        refine hK.out _ _ (OfS.keep hHeld (below_alloc (Below.refl _ _) _)) (fun hHeld => ?_)
        clear hK
        have q87 := lt_of_blk h7
        have h7 := keep_of h7 hHeld
        have h8 := new_of hHeld
        generalize World.alloc w2 (.cells #[.int .i64 0, .int .i64 0] 24) = w2 at hHeld h7 h8 ⊢
        have hne := ne_of_lt' q87
        have c0 := blk_cell h7 0
        have c1 := blk_cell h7 1
        have f0 := blk_frozen h7 0
        have f1 := blk_frozen h7 1
        refine last_ (i := 9) (N := none) #[true, true, true, true, true, true, true, true, true, true, false] rfl rfl (by kernel_rfl) (by decide) (fun K_ hK => ?_)
        rw [if_pos (by rfl)]
        go_wp2
        refine hK.out _ _ ?_
        clear hK c0 c1 f0 f1
        have h8' := far2 h8 hne (.int .i64 A1) (.int .i64 A2)
        have h7' := blk_put (cs := #[.int .i64 A1, .int .i64 0]) (cs' := #[.int .i64 A1, .int .i64 A2]) (blk_put (cs := #[.int .i64 0, .int .i64 0]) h7 0 (.int .i64 A1) rfl) 1 (.int .i64 A2) rfl
        have c0 := blk_cell h8' 0
        have c1 := blk_cell h8' 1
        have f0 := blk_frozen h8' 0
        have f1 := blk_frozen h8' 1
        refine last_ (i := 10) (N := none) #[true, true, true, true, true, true, true, true, true, true, true] rfl rfl (by kernel_rfl) (by decide) (fun K_ hK => ?_)
        rw [if_pos (by rfl)]
        go_wp2
        refine hK.out _ _ ?_
        refine done_ (by kernel_rfl) ?_
        have h7'' := far2 h7' (Ne.symm hne) (.int .i64 F1) (.int .i64 F2)
        have h8'' := blk_put (cs := #[.int .i64 F1, .int .i64 0]) (cs' := #[.int .i64 F1, .int .i64 F2]) (blk_put (cs := #[.int .i64 0, .int .i64 0]) h8' 0 (.int .i64 F1) rfl) 1 (.int .i64 F2) rfl
        have z := far2 (far2 hHeld.2.1.out (Nat.ne_of_lt p7).symm (.int .i64 A1) (.int .i64 A2)) (Nat.ne_of_lt p8).symm (.int .i64 F1) (.int .i64 F2)
        exact HK _ _ _ h7'' h8'' z (below_set (below_set (below_set (below_set hHeld.2.2.1.out (by omega)) (by omega)) (by omega)) (by omega))
      · skip
        have p8 := lt_of_blk hHeld.2.1.out
        rw [if_pos (by rfl)]
        go_wp2
        refine hK.out _ _ (OfS.keep hHeld (below_alloc (Below.refl _ _) _)) (fun hHeld => ?_)
        clear hK
        have q87 := lt_of_blk h7
        have h7 := keep_of h7 hHeld
        have h8 := new_of hHeld
        generalize World.alloc w2 (.cells #[.int .i64 0, .int .i64 0] 24) = w2 at hHeld h7 h8 ⊢
        refine one_ (i := 6) (N := some 11) #[true, true, true, true, true, true, true, true, true, false, false] rfl rfl (by kernel_rfl) (by decide) (fun K_ hK => ?_)
        refine goes_ Try.func53 (by kernel_rfl) rfl #[.agg #[.int .i64 x, .int .i64 y]] (by rfl) rfl rfl (by (try simp only [List.map_toArray, List.map_cons, List.map_nil]); first | done | rfl) ?_
        with_reducible refine ((HF _).out).mono ?_
        rintro e w2 ⟨rfl, hb⟩
        refine ⟨_, rfl, ?_⟩
        have h7 := blk_keep h7 hb
        have h8 := blk_keep h8 hb
        refine hK.out _ _ (OfS.keep hHeld hb) (fun hHeld => ?_)
        clear hK hb
        refine norm_ (a' := ?_) ?_ ?_
        rotate_left
        · show Act.put _ (some 11) _ = _
          simp only [Act.put, List.setIfInBounds_toArray, List.set_cons_zero, List.set_cons_succ]
          rfl
        have hne := ne_of_lt' q87
        have c0 := blk_cell h7 0
        have c1 := blk_cell h7 1
        have f0 := blk_frozen h7 0
        have f1 := blk_frozen h7 1
        refine last_ (i := 9) (N := none) #[true, true, true, true, true, true, true, true, true, true, false] rfl rfl (by kernel_rfl) (by decide) (fun K_ hK => ?_)
        rw [if_pos (by rfl)]
        go_wp2
        refine hK.out _ _ ?_
        clear hK c0 c1 f0 f1
        have h8' := far2 h8 hne (.int .i64 A1) (.int .i64 A2)
        have h7' := blk_put (cs := #[.int .i64 A1, .int .i64 0]) (cs' := #[.int .i64 A1, .int .i64 A2]) (blk_put (cs := #[.int .i64 0, .int .i64 0]) h7 0 (.int .i64 A1) rfl) 1 (.int .i64 A2) rfl
        have c0 := blk_cell h8' 0
        have c1 := blk_cell h8' 1
        have f0 := blk_frozen h8' 0
        have f1 := blk_frozen h8' 1
        refine last_ (i := 10) (N := none) #[true, true, true, true, true, true, true, true, true, true, true] rfl rfl (by kernel_rfl) (by decide) (fun K_ hK => ?_)
        rw [if_pos (by rfl)]
        go_wp2
        refine hK.out _ _ ?_
        refine done_ (by kernel_rfl) ?_
        have h7'' := far2 h7' (Ne.symm hne) (.int .i64 F1) (.int .i64 F2)
        have h8'' := blk_put (cs := #[.int .i64 F1, .int .i64 0]) (cs' := #[.int .i64 F1, .int .i64 F2]) (blk_put (cs := #[.int .i64 0, .int .i64 0]) h8' 0 (.int .i64 F1) rfl) 1 (.int .i64 F2) rfl
        have z := far2 (far2 hHeld.2.1.out (Nat.ne_of_lt p7).symm (.int .i64 A1) (.int .i64 A2)) (Nat.ne_of_lt p8).symm (.int .i64 F1) (.int .i64 F2)
        exact HK _ _ _ h7'' h8'' z (below_set (below_set (below_set (below_set hHeld.2.2.1.out (by omega)) (by omega)) (by omega)) (by omega))
    · skip
      have p8 := lt_of_blk hHeld.2.1.out
      rw [if_pos (by rfl)]
      go_wp2
      refine hK.out _ _ (OfS.keep hHeld (below_alloc (Below.refl _ _) _)) (fun hHeld => ?_)
      clear hK
      have q87 := lt_of_blk h7
      have h7 := keep_of h7 hHeld
      have h8 := new_of hHeld
      generalize World.alloc w2 (.cells #[.int .i64 0, .int .i64 0] 24) = w2 at hHeld h7 h8 ⊢
      refine one_ (i := 3) (N := some 8) #[true, true, true, true, true, true, false, true, true, false, false] rfl rfl (by kernel_rfl) (by decide) (fun K_ hK => ?_)
      refine goes_ Try.func93 (by kernel_rfl) rfl #[.agg #[.int .i64 1, .int .i64 0], .int .i64 n] (by rfl) rfl rfl (by (try simp only [List.map_toArray, List.map_cons, List.map_nil]); first | done | rfl) ?_
      with_reducible refine ((HT _).out).mono ?_
      rintro e w2 ⟨rfl, hb⟩
      refine ⟨_, rfl, ?_⟩
      have h7 := blk_keep h7 hb
      have h8 := blk_keep h8 hb
      refine hK.out _ _ (OfS.keep hHeld hb) (fun hHeld => ?_)
      clear hK hb
      refine norm_ (a' := ?_) ?_ ?_
      rotate_left
      · show Act.put _ (some 8) _ = _
        simp only [Act.put, List.setIfInBounds_toArray, List.set_cons_zero, List.set_cons_succ]
        rfl
      refine one_ (i := 6) (N := some 11) #[true, true, true, true, true, true, true, true, true, false, false] rfl rfl (by kernel_rfl) (by decide) (fun K_ hK => ?_)
      refine goes_ Try.func53 (by kernel_rfl) rfl #[.agg #[.int .i64 x, .int .i64 y]] (by rfl) rfl rfl (by (try simp only [List.map_toArray, List.map_cons, List.map_nil]); first | done | rfl) ?_
      with_reducible refine ((HF _).out).mono ?_
      rintro e w2 ⟨rfl, hb⟩
      refine ⟨_, rfl, ?_⟩
      have h7 := blk_keep h7 hb
      have h8 := blk_keep h8 hb
      refine hK.out _ _ (OfS.keep hHeld hb) (fun hHeld => ?_)
      clear hK hb
      refine norm_ (a' := ?_) ?_ ?_
      rotate_left
      · show Act.put _ (some 11) _ = _
        simp only [Act.put, List.setIfInBounds_toArray, List.set_cons_zero, List.set_cons_succ]
        rfl
      have hne := ne_of_lt' q87
      have c0 := blk_cell h7 0
      have c1 := blk_cell h7 1
      have f0 := blk_frozen h7 0
      have f1 := blk_frozen h7 1
      refine last_ (i := 9) (N := none) #[true, true, true, true, true, true, true, true, true, true, false] rfl rfl (by kernel_rfl) (by decide) (fun K_ hK => ?_)
      rw [if_pos (by rfl)]
      go_wp2
      refine hK.out _ _ ?_
      clear hK c0 c1 f0 f1
      have h8' := far2 h8 hne (.int .i64 A1) (.int .i64 A2)
      have h7' := blk_put (cs := #[.int .i64 A1, .int .i64 0]) (cs' := #[.int .i64 A1, .int .i64 A2]) (blk_put (cs := #[.int .i64 0, .int .i64 0]) h7 0 (.int .i64 A1) rfl) 1 (.int .i64 A2) rfl
      have c0 := blk_cell h8' 0
      have c1 := blk_cell h8' 1
      have f0 := blk_frozen h8' 0
      have f1 := blk_frozen h8' 1
      refine last_ (i := 10) (N := none) #[true, true, true, true, true, true, true, true, true, true, true] rfl rfl (by kernel_rfl) (by decide) (fun K_ hK => ?_)
      rw [if_pos (by rfl)]
      go_wp2
      refine hK.out _ _ ?_
      refine done_ (by kernel_rfl) ?_
      have h7'' := far2 h7' (Ne.symm hne) (.int .i64 F1) (.int .i64 F2)
      have h8'' := blk_put (cs := #[.int .i64 F1, .int .i64 0]) (cs' := #[.int .i64 F1, .int .i64 F2]) (blk_put (cs := #[.int .i64 0, .int .i64 0]) h8' 0 (.int .i64 F1) rfl) 1 (.int .i64 F2) rfl
      have z := far2 (far2 hHeld.2.1.out (Nat.ne_of_lt p7).symm (.int .i64 A1) (.int .i64 A2)) (Nat.ne_of_lt p8).symm (.int .i64 F1) (.int .i64 F2)
      exact HK _ _ _ h7'' h8'' z (below_set (below_set (below_set (below_set hHeld.2.2.1.out (by omega)) (by omega)) (by omega)) (by omega))
  · skip
    have p8 := lt_of_blk hHeld.2.1.out
    rw [if_pos (by rfl)]
    go_wp2
    refine hK.out _ _ (OfS.keep hHeld (below_alloc (Below.refl _ _) _)) (fun hHeld => ?_)
    clear hK
    have h8 := new_of hHeld
    generalize World.alloc w2 (.cells #[.int .i64 0, .int .i64 0] 24) = w2 at hHeld h8 ⊢
    refine two_ (i := 3) (j := 7) (Ni := some 8) (Nj := some 3) #[true, true, true, true, true, true, false, false, true, false, false] #[true, true, true, false, true, true, false, true, true, false, false] rfl rfl rfl rfl (by kernel_rfl) (by decide) (by decide) (fun K_ hK => ?_) (fun K_ hK => ?_)
    · skip
      refine goes_ Try.func93 (by kernel_rfl) rfl #[.agg #[.int .i64 1, .int .i64 0], .int .i64 n] (by rfl) rfl rfl (by (try simp only [List.map_toArray, List.map_cons, List.map_nil]); first | done | rfl) ?_
      with_reducible refine ((HT _).out).mono ?_
      rintro e w2 ⟨rfl, hb⟩
      refine ⟨_, rfl, ?_⟩
      have h8 := blk_keep h8 hb
      refine hK.out _ _ (OfS.keep hHeld hb) (fun hHeld => ?_)
      clear hK hb
      refine norm_ (a' := ?_) ?_ ?_
      rotate_left
      · show Act.put _ (some 8) _ = _
        simp only [Act.put, List.setIfInBounds_toArray, List.set_cons_zero, List.set_cons_succ]
        rfl
      refine two_ (i := 6) (j := 7) (Ni := some 11) (Nj := some 3) #[true, true, true, true, true, true, true, false, true, false, false] #[true, true, true, true, true, true, false, true, true, false, false] rfl rfl rfl rfl (by kernel_rfl) (by decide) (by decide) (fun K_ hK => ?_) (fun K_ hK => ?_)
      · skip
        refine goes_ Try.func53 (by kernel_rfl) rfl #[.agg #[.int .i64 x, .int .i64 y]] (by rfl) rfl rfl (by (try simp only [List.map_toArray, List.map_cons, List.map_nil]); first | done | rfl) ?_
        with_reducible refine ((HF _).out).mono ?_
        rintro e w2 ⟨rfl, hb⟩
        refine ⟨_, rfl, ?_⟩
        have h8 := blk_keep h8 hb
        refine hK.out _ _ (OfS.keep hHeld hb) (fun hHeld => ?_)
        clear hK hb
        refine norm_ (a' := ?_) ?_ ?_
        rotate_left
        · show Act.put _ (some 11) _ = _
          simp only [Act.put, List.setIfInBounds_toArray, List.set_cons_zero, List.set_cons_succ]
          rfl
        refine one_ (i := 7) (N := some 3) #[true, true, true, true, true, true, true, true, true, false, false] rfl rfl (by kernel_rfl) (by decide) (fun K_ hK => ?_)
        have p7 := lt_of_blk hHeld.2.1.out
        rw [if_pos (by rfl)]
        go_wp2
        refine hK.out _ _ (OfS.keep hHeld (below_alloc (Below.refl _ _) _)) (fun hHeld => ?_)
        clear hK
        have q78 := lt_of_blk h8
        have h8 := keep_of h8 hHeld
        have h7 := new_of hHeld
        generalize World.alloc w2 (.cells #[.int .i64 0, .int .i64 0] 24) = w2 at hHeld h8 h7 ⊢
        have hne := ne_of_lt' q78
        have c0 := blk_cell h7 0
        have c1 := blk_cell h7 1
        have f0 := blk_frozen h7 0
        have f1 := blk_frozen h7 1
        refine last_ (i := 9) (N := none) #[true, true, true, true, true, true, true, true, true, true, false] rfl rfl (by kernel_rfl) (by decide) (fun K_ hK => ?_)
        rw [if_pos (by rfl)]
        go_wp2
        refine hK.out _ _ ?_
        clear hK c0 c1 f0 f1
        have h8' := far2 h8 (Ne.symm hne) (.int .i64 A1) (.int .i64 A2)
        have h7' := blk_put (cs := #[.int .i64 A1, .int .i64 0]) (cs' := #[.int .i64 A1, .int .i64 A2]) (blk_put (cs := #[.int .i64 0, .int .i64 0]) h7 0 (.int .i64 A1) rfl) 1 (.int .i64 A2) rfl
        have c0 := blk_cell h8' 0
        have c1 := blk_cell h8' 1
        have f0 := blk_frozen h8' 0
        have f1 := blk_frozen h8' 1
        refine last_ (i := 10) (N := none) #[true, true, true, true, true, true, true, true, true, true, true] rfl rfl (by kernel_rfl) (by decide) (fun K_ hK => ?_)
        rw [if_pos (by rfl)]
        go_wp2
        refine hK.out _ _ ?_
        refine done_ (by kernel_rfl) ?_
        have h7'' := far2 h7' hne (.int .i64 F1) (.int .i64 F2)
        have h8'' := blk_put (cs := #[.int .i64 F1, .int .i64 0]) (cs' := #[.int .i64 F1, .int .i64 F2]) (blk_put (cs := #[.int .i64 0, .int .i64 0]) h8' 0 (.int .i64 F1) rfl) 1 (.int .i64 F2) rfl
        have z := far2 (far2 hHeld.2.1.out (Nat.ne_of_lt p7).symm (.int .i64 A1) (.int .i64 A2)) (Nat.ne_of_lt p8).symm (.int .i64 F1) (.int .i64 F2)
        exact HK _ _ _ h7'' h8'' z (below_set (below_set (below_set (below_set hHeld.2.2.1.out (by omega)) (by omega)) (by omega)) (by omega))
      · skip
        have p7 := lt_of_blk hHeld.2.1.out
        rw [if_pos (by rfl)]
        go_wp2
        refine hK.out _ _ (OfS.keep hHeld (below_alloc (Below.refl _ _) _)) (fun hHeld => ?_)
        clear hK
        have q78 := lt_of_blk h8
        have h8 := keep_of h8 hHeld
        have h7 := new_of hHeld
        generalize World.alloc w2 (.cells #[.int .i64 0, .int .i64 0] 24) = w2 at hHeld h8 h7 ⊢
        refine one_ (i := 6) (N := some 11) #[true, true, true, true, true, true, true, true, true, false, false] rfl rfl (by kernel_rfl) (by decide) (fun K_ hK => ?_)
        refine goes_ Try.func53 (by kernel_rfl) rfl #[.agg #[.int .i64 x, .int .i64 y]] (by rfl) rfl rfl (by (try simp only [List.map_toArray, List.map_cons, List.map_nil]); first | done | rfl) ?_
        with_reducible refine ((HF _).out).mono ?_
        rintro e w2 ⟨rfl, hb⟩
        refine ⟨_, rfl, ?_⟩
        have h8 := blk_keep h8 hb
        have h7 := blk_keep h7 hb
        refine hK.out _ _ (OfS.keep hHeld hb) (fun hHeld => ?_)
        clear hK hb
        refine norm_ (a' := ?_) ?_ ?_
        rotate_left
        · show Act.put _ (some 11) _ = _
          simp only [Act.put, List.setIfInBounds_toArray, List.set_cons_zero, List.set_cons_succ]
          rfl
        have hne := ne_of_lt' q78
        have c0 := blk_cell h7 0
        have c1 := blk_cell h7 1
        have f0 := blk_frozen h7 0
        have f1 := blk_frozen h7 1
        refine last_ (i := 9) (N := none) #[true, true, true, true, true, true, true, true, true, true, false] rfl rfl (by kernel_rfl) (by decide) (fun K_ hK => ?_)
        rw [if_pos (by rfl)]
        go_wp2
        refine hK.out _ _ ?_
        clear hK c0 c1 f0 f1
        have h8' := far2 h8 (Ne.symm hne) (.int .i64 A1) (.int .i64 A2)
        have h7' := blk_put (cs := #[.int .i64 A1, .int .i64 0]) (cs' := #[.int .i64 A1, .int .i64 A2]) (blk_put (cs := #[.int .i64 0, .int .i64 0]) h7 0 (.int .i64 A1) rfl) 1 (.int .i64 A2) rfl
        have c0 := blk_cell h8' 0
        have c1 := blk_cell h8' 1
        have f0 := blk_frozen h8' 0
        have f1 := blk_frozen h8' 1
        refine last_ (i := 10) (N := none) #[true, true, true, true, true, true, true, true, true, true, true] rfl rfl (by kernel_rfl) (by decide) (fun K_ hK => ?_)
        rw [if_pos (by rfl)]
        go_wp2
        refine hK.out _ _ ?_
        refine done_ (by kernel_rfl) ?_
        have h7'' := far2 h7' hne (.int .i64 F1) (.int .i64 F2)
        have h8'' := blk_put (cs := #[.int .i64 F1, .int .i64 0]) (cs' := #[.int .i64 F1, .int .i64 F2]) (blk_put (cs := #[.int .i64 0, .int .i64 0]) h8' 0 (.int .i64 F1) rfl) 1 (.int .i64 F2) rfl
        have z := far2 (far2 hHeld.2.1.out (Nat.ne_of_lt p7).symm (.int .i64 A1) (.int .i64 A2)) (Nat.ne_of_lt p8).symm (.int .i64 F1) (.int .i64 F2)
        exact HK _ _ _ h7'' h8'' z (below_set (below_set (below_set (below_set hHeld.2.2.1.out (by omega)) (by omega)) (by omega)) (by omega))
    · skip
      have p7 := lt_of_blk hHeld.2.1.out
      rw [if_pos (by rfl)]
      go_wp2
      refine hK.out _ _ (OfS.keep hHeld (below_alloc (Below.refl _ _) _)) (fun hHeld => ?_)
      clear hK
      have q78 := lt_of_blk h8
      have h8 := keep_of h8 hHeld
      have h7 := new_of hHeld
      generalize World.alloc w2 (.cells #[.int .i64 0, .int .i64 0] 24) = w2 at hHeld h8 h7 ⊢
      refine one_ (i := 3) (N := some 8) #[true, true, true, true, true, true, false, true, true, false, false] rfl rfl (by kernel_rfl) (by decide) (fun K_ hK => ?_)
      refine goes_ Try.func93 (by kernel_rfl) rfl #[.agg #[.int .i64 1, .int .i64 0], .int .i64 n] (by rfl) rfl rfl (by (try simp only [List.map_toArray, List.map_cons, List.map_nil]); first | done | rfl) ?_
      with_reducible refine ((HT _).out).mono ?_
      rintro e w2 ⟨rfl, hb⟩
      refine ⟨_, rfl, ?_⟩
      have h8 := blk_keep h8 hb
      have h7 := blk_keep h7 hb
      refine hK.out _ _ (OfS.keep hHeld hb) (fun hHeld => ?_)
      clear hK hb
      refine norm_ (a' := ?_) ?_ ?_
      rotate_left
      · show Act.put _ (some 8) _ = _
        simp only [Act.put, List.setIfInBounds_toArray, List.set_cons_zero, List.set_cons_succ]
        rfl
      refine one_ (i := 6) (N := some 11) #[true, true, true, true, true, true, true, true, true, false, false] rfl rfl (by kernel_rfl) (by decide) (fun K_ hK => ?_)
      refine goes_ Try.func53 (by kernel_rfl) rfl #[.agg #[.int .i64 x, .int .i64 y]] (by rfl) rfl rfl (by (try simp only [List.map_toArray, List.map_cons, List.map_nil]); first | done | rfl) ?_
      with_reducible refine ((HF _).out).mono ?_
      rintro e w2 ⟨rfl, hb⟩
      refine ⟨_, rfl, ?_⟩
      have h8 := blk_keep h8 hb
      have h7 := blk_keep h7 hb
      refine hK.out _ _ (OfS.keep hHeld hb) (fun hHeld => ?_)
      clear hK hb
      refine norm_ (a' := ?_) ?_ ?_
      rotate_left
      · show Act.put _ (some 11) _ = _
        simp only [Act.put, List.setIfInBounds_toArray, List.set_cons_zero, List.set_cons_succ]
        rfl
      have hne := ne_of_lt' q78
      have c0 := blk_cell h7 0
      have c1 := blk_cell h7 1
      have f0 := blk_frozen h7 0
      have f1 := blk_frozen h7 1
      refine last_ (i := 9) (N := none) #[true, true, true, true, true, true, true, true, true, true, false] rfl rfl (by kernel_rfl) (by decide) (fun K_ hK => ?_)
      rw [if_pos (by rfl)]
      go_wp2
      refine hK.out _ _ ?_
      clear hK c0 c1 f0 f1
      have h8' := far2 h8 (Ne.symm hne) (.int .i64 A1) (.int .i64 A2)
      have h7' := blk_put (cs := #[.int .i64 A1, .int .i64 0]) (cs' := #[.int .i64 A1, .int .i64 A2]) (blk_put (cs := #[.int .i64 0, .int .i64 0]) h7 0 (.int .i64 A1) rfl) 1 (.int .i64 A2) rfl
      have c0 := blk_cell h8' 0
      have c1 := blk_cell h8' 1
      have f0 := blk_frozen h8' 0
      have f1 := blk_frozen h8' 1
      refine last_ (i := 10) (N := none) #[true, true, true, true, true, true, true, true, true, true, true] rfl rfl (by kernel_rfl) (by decide) (fun K_ hK => ?_)
      rw [if_pos (by rfl)]
      go_wp2
      refine hK.out _ _ ?_
      refine done_ (by kernel_rfl) ?_
      have h7'' := far2 h7' hne (.int .i64 F1) (.int .i64 F2)
      have h8'' := blk_put (cs := #[.int .i64 F1, .int .i64 0]) (cs' := #[.int .i64 F1, .int .i64 F2]) (blk_put (cs := #[.int .i64 0, .int .i64 0]) h8' 0 (.int .i64 F1) rfl) 1 (.int .i64 F2) rfl
      have z := far2 (far2 hHeld.2.1.out (Nat.ne_of_lt p7).symm (.int .i64 A1) (.int .i64 A2)) (Nat.ne_of_lt p8).symm (.int .i64 F1) (.int .i64 F2)
      exact HK _ _ _ h7'' h8'' z (below_set (below_set (below_set (below_set hHeld.2.2.1.out (by omega)) (by omega)) (by omega)) (by omega))
end Go.Proofs.Ytpoghhcpoimepaa.P
end
section
/- Several texts in one. -/
section
/- Motions: Fix and Back. -/
namespace Go.Proofs.Ytpoghhcpoimepaa.P
open Go.Proofs.Ytpoghhcpoimepaa.B Go.RowKit Go.Proofs.YtpoghhcpoimepaaW.PrintWords Go.Proofs.YtpoghhcpoimepaaW.PrintLast Go.Proofs.YtpoghhcpoimepaaW.PrintMore Go.Proofs.Ytpoghhcpoimepaa.FX Go.Proofs.Ytpoghhcpoimepaa.H
set_option linter.unusedVariables false
set_option linter.unusedSimpArgs false
attribute [local go_sem] run_store_complex
/-- A motion's quarters. -/
def qt (n : Int) : Nat := (n % 4).toNat
theorem qt_lt (n : Int) : qt n < 4 := by unfold qt; omega
theorem rot_ip (n : Int) : rot (n % 4).toNat 1 0 = ip (qt n) := by
  unfold qt
  have hq : n % 4 = 0 ∨ n % 4 = 1 ∨ n % 4 = 2 ∨ n % 4 = 3 := by omega
  rcases hq with h | h | h | h <;> rw [h] <;> decide
theorem mof_calls (n x y : Int) (w : World) : Calls Try.prog 79 #[.agg #[.int .i64 n, .int .i64 x, .int .i64 y]] w (MovePost (ip (qt n)) (fx x, fx y) w) := by
  have h := of_calls n x y w
  rw [rot_ip] at h
  exact h
theorem near_ip (m : Nat) : near 1 (ip m) := (ip_small m).1
end Go.Proofs.Ytpoghhcpoimepaa.P
end
section
/- Motions: Then. -/
namespace Go.Proofs.Ytpoghhcpoimepaa.P
open Go.Proofs.Ytpoghhcpoimepaa.B Go.RowKit Go.Proofs.YtpoghhcpoimepaaW.PrintWords Go.Proofs.YtpoghhcpoimepaaW.PrintLast Go.Proofs.YtpoghhcpoimepaaW.PrintMore Go.Proofs.Ytpoghhcpoimepaa.FX Go.Proofs.Ytpoghhcpoimepaa.H
set_option linter.unusedVariables false
set_option linter.unusedSimpArgs false
attribute [local go_sem] run_store_complex
abbrev ThS (w0 : World) (n x y n' x' y' : Int) (w' : World) : Prop :=
  Aside0 (w'.heap[w0.heap.size]? = some (.cells #[.int .i64 n, .int .i64 x, .int .i64 y] 34 (0, 0))) ∧ Aside0 (w'.heap[w0.heap.size + 1]? = some (.cells #[.int .i64 n', .int .i64 x', .int .i64 y'] 34 (0, 0))) ∧ Aside0 (w'.heap[w0.heap.size + 1 + 1]? = some (.cells #[.int .i64 0, .int .i64 0, .int .i64 0] 34 (0, 0))) ∧ Aside0 (Below w0.heap.size w0 w') ∧ w'.cell? ⟨w0.heap.size, 0, none⟩ = some (.int .i64 n) ∧ w'.cell? ⟨w0.heap.size, 1, none⟩ = some (.int .i64 x) ∧ w'.cell? ⟨w0.heap.size, 2, none⟩ = some (.int .i64 y) ∧ w'.cell? ⟨w0.heap.size + 1, 0, none⟩ = some (.int .i64 n') ∧ w'.cell? ⟨w0.heap.size + 1, 1, none⟩ = some (.int .i64 x') ∧ w'.cell? ⟨w0.heap.size + 1, 2, none⟩ = some (.int .i64 y') ∧ w'.cell? ⟨w0.heap.size + 1 + 1, 0, none⟩ = some (.int .i64 0) ∧ w'.cell? ⟨w0.heap.size + 1 + 1, 1, none⟩ = some (.int .i64 0) ∧ w'.cell? ⟨w0.heap.size + 1 + 1, 2, none⟩ = some (.int .i64 0) ∧ w'.frozen? ⟨w0.heap.size + 1 + 1, 0, none⟩ = false ∧ w'.frozen? ⟨w0.heap.size + 1 + 1, 1, none⟩ = false ∧ w'.frozen? ⟨w0.heap.size + 1 + 1, 2, none⟩ = false
theorem ThS.mk {w0 : World} {n x y n' x' y' : Int} {w' : World} (h0 : w'.heap[w0.heap.size]? = some (.cells #[.int .i64 n, .int .i64 x, .int .i64 y] 34 (0, 0))) (h1 : w'.heap[w0.heap.size + 1]? = some (.cells #[.int .i64 n', .int .i64 x', .int .i64 y'] 34 (0, 0))) (h2 : w'.heap[w0.heap.size + 1 + 1]? = some (.cells #[.int .i64 0, .int .i64 0, .int .i64 0] 34 (0, 0))) (hB : Below w0.heap.size w0 w') : ThS w0 n x y n' x' y' w' :=
  ⟨⟨h0⟩, ⟨h1⟩, ⟨h2⟩, ⟨hB⟩, blk_cell h0 0, blk_cell h0 1, blk_cell h0 2, blk_cell h1 0, blk_cell h1 1, blk_cell h1 2, blk_cell h2 0, blk_cell h2 1, blk_cell h2 2, blk_frozen h2 0, blk_frozen h2 1, blk_frozen h2 2⟩
theorem ThS.drew {w0 : World} {n x y n' x' y' : Int} {w1 : World} (h : ThS w0 n x y n' x' y' w1) : ThS w0 n x y n' x' y' w1.drew :=
  ThS.mk h.1.out h.2.1.out h.2.2.1.out (below_drew h.2.2.2.1.out)
end Go.Proofs.Ytpoghhcpoimepaa.P
end
section
/- Motions: Do. -/
namespace Go.Proofs.Ytpoghhcpoimepaa.P
open Go.Proofs.Ytpoghhcpoimepaa.B Go.RowKit Go.Proofs.YtpoghhcpoimepaaW.PrintWords Go.Proofs.YtpoghhcpoimepaaW.PrintLast Go.Proofs.YtpoghhcpoimepaaW.PrintMore Go.Proofs.Ytpoghhcpoimepaa.FX Go.Proofs.Ytpoghhcpoimepaa.H
set_option linter.unusedVariables false
set_option linter.unusedSimpArgs false
attribute [local go_sem] run_store_complex
abbrev DoS (w0 : World) (g : Nat) (a b c d : Nat) (u v : Int) (w' : World) : Prop :=
  Aside0 (w'.heap[w0.heap.size + 1]? = some (.cells #[.int .i64 u, .int .i64 v] 24 (0, 0))) ∧ Aside0 (w'.heap[w0.heap.size + 1 + 1]? = some (.cells #[.int .i64 0, .int .i64 0] 24 (0, 0))) ∧ Aside0 (w'.heap[g]? = some (.cells #[.complex .f64 a b, .complex .f64 c d] 109 (0, 0))) ∧ Aside0 (Below w0.heap.size w0 w') ∧ w'.cell? ⟨w0.heap.size + 1, 0, none⟩ = some (.int .i64 u) ∧ w'.cell? ⟨w0.heap.size + 1, 1, none⟩ = some (.int .i64 v) ∧ w'.cell? ⟨w0.heap.size + 1 + 1, 0, none⟩ = some (.int .i64 0) ∧ w'.cell? ⟨w0.heap.size + 1 + 1, 1, none⟩ = some (.int .i64 0) ∧ w'.cell? ⟨g, 0, none⟩ = some (.complex .f64 a b) ∧ w'.cell? ⟨g, 1, none⟩ = some (.complex .f64 c d) ∧ w'.frozen? ⟨w0.heap.size + 1 + 1, 0, none⟩ = false ∧ w'.frozen? ⟨w0.heap.size + 1 + 1, 1, none⟩ = false
theorem DoS.mk {w0 : World} {g : Nat} {a b c d : Nat} {u v : Int} {w' : World} (h0 : w'.heap[w0.heap.size + 1]? = some (.cells #[.int .i64 u, .int .i64 v] 24 (0, 0))) (h1 : w'.heap[w0.heap.size + 1 + 1]? = some (.cells #[.int .i64 0, .int .i64 0] 24 (0, 0))) (h2 : w'.heap[g]? = some (.cells #[.complex .f64 a b, .complex .f64 c d] 109 (0, 0))) (hB : Below w0.heap.size w0 w') : DoS w0 g a b c d u v w' :=
  ⟨⟨h0⟩, ⟨h1⟩, ⟨h2⟩, ⟨hB⟩, blk_cell h0 0, blk_cell h0 1, blk_cell h1 0, blk_cell h1 1, blk_cell h2 0, blk_cell h2 1, blk_frozen h1 0, blk_frozen h1 1⟩
theorem DoS.keep {w0 : World} {g : Nat} {a b c d : Nat} {u v : Int} {w1 w2 : World} (h : DoS w0 g a b c d u v w1) (hb : Below w1.heap.size w1 w2) : DoS w0 g a b c d u v w2 :=
  DoS.mk (blk_keep h.1.out hb) (blk_keep h.2.1.out hb) (blk_keep h.2.2.1.out hb) (below_step h.2.2.2.1.out hb)
theorem DoS.drew {w0 : World} {g : Nat} {a b c d : Nat} {u v : Int} {w1 : World} (h : DoS w0 g a b c d u v w1) : DoS w0 g a b c d u v w1.drew :=
  DoS.mk h.1.out h.2.1.out h.2.2.1.out (below_drew h.2.2.2.1.out)
/-- Where a motion brings a point. -/
def doBy (n x y u v : Int) : Int × Int := ((cm (fx u, fx v) (ip (qt n))).1 + fx x, (cm (fx u, fx v) (ip (qt n))).2 + fx y)
set_option maxHeartbeats 1000000 in
set_option maxRecDepth 100000 in
theorem mdo_calls (n x y u v : Int) (w : World) : Calls Try.prog 55 #[.agg #[.int .i64 n, .int .i64 x, .int .i64 y], .agg #[.int .i64 u, .int .i64 v]] w (AggPost (doBy n x y u v).1 (doBy n x y u v).2 w) := by
  have HO := fun W => Aside0.mk (mof_calls n x y W)
  obtain ⟨⟨D1, D2⟩, hD⟩ : ∃ F, doBy n x y u v = F := ⟨_, rfl⟩
  obtain ⟨U, hU⟩ : ∃ F, fx u = F := ⟨_, rfl⟩
  obtain ⟨V, hV⟩ : ∃ F, fx v = F := ⟨_, rfl⟩
  have HF := fun W => Aside0.mk (show Calls Try.prog 53 #[.agg #[.int .i64 u, .int .i64 v]] W fun e w' => e = .returned (.agg #[.int .i64 U, .int .i64 V]) ∧ Below W.heap.size W w' from by
    have h := fix_calls u v W
    rw [hU, hV] at h
    exact h)
  have bU := fx_le u
  have bV := fx_le v
  rw [hU] at bU
  rw [hV] at bV
  have HPL := fun W => Aside0.mk (mplane_calls U V W)
  have HR := fun (a b c d : Nat) (h : MV a b c d (ip (qt n)) (fx x, fx y)) => Aside0.mk (show ∃ r1 i1 r2 i2, (∀ W : World, (binOp .mul 61 (.complex .f64 (floatOfInt .f64 U) (floatOfInt .f64 V)) (.complex .f64 a b)).run Try.prog W = .ok (.complex .f64 r1 i1) W) ∧ (∀ W : World, (binOp .add 61 (.complex .f64 r1 i1) (.complex .f64 c d)).run Try.prog W = .ok (.complex .f64 r2 i2) W) ∧ ∀ W : World, Calls Try.prog 85 #[.complex .f64 r2 i2] W (AggPost D1 D2 W) from by
    obtain ⟨ha, hb, hc, hd⟩ := h
    have hu := near_ip (qt n)
    have hp : near 1048576 (U, V) := ⟨by simp only []; omega, by simp only []; omega⟩
    have n5 := near_mul hp.1 hu.1; have n6 := near_mul hp.2 hu.2; have n7 := near_mul hp.1 hu.2; have n8 := near_mul hp.2 hu.1
    simp only [] at n5 n6 n7 n8
    have q1 := fx_le x
    have q2 := fx_le y
    simp only [] at hc hd
    obtain ⟨r1, i1, hr1, hi1, k1⟩ := cmul_run (isF_of U (by omega)) (isF_of V (by omega)) ha hb (by omega) (by omega) (by omega) (by omega)
    obtain ⟨r2, i2, hr2, hi2, k2⟩ := cadd_run hr1 hi1 hc hd (by omega) (by omega)
    have e := hD
    unfold doBy at e
    rw [hU, hV] at e
    injection e with e1 e2
    refine ⟨r1, i1, r2, i2, fun W => k1 Try.prog 61 W, fun W => k2 Try.prog 61 W, fun W => ?_⟩
    unfold cm at e1 e2
    simp only [] at e1 e2
    rw [e1] at hr2
    rw [e2] at hi2
    exact mpoint_at W hr2 hi2 (by omega) (by omega))
  rw [hD]
  simp only []
  clear hD hU hV bU bV
  go_enter Try.func55, Try.ntmps55
  go_wp2_with (go_at_call 79; (with_reducible refine ((HO _).out).mono ?_); rintro e w1 ⟨a, b, c, d, rfl, hMV, hb1⟩; have HB1 := Aside0.mk hb1; have HMV := Aside0.mk hMV; clear hb1 hMV)
  obtain ⟨r1, i1, r2, i2, e1, e2, hpt⟩ := (HR a b c d HMV.out).out
  have HPT := fun W => Aside0.mk (hpt W)
  clear HR HMV hpt
  have HS : DoS w w1.heap.size a b c d u v (w1.alloc (.cells #[.complex .f64 a b, .complex .f64 c d] 109)) := DoS.mk (blk_keep (blk_keep (blk_keep (move_new2 w _ _) (below_alloc (Below.refl _ _) _)) HB1.out) (below_alloc (Below.refl _ _) _)) (blk_keep (blk_keep (move_new3 w _ _ _) HB1.out) (below_alloc (Below.refl _ _) _)) (blk_new w1 _) (below_step (below_step (below_alloc (below_alloc (below_alloc (Below.refl _ _) _) _) _) HB1.out) (below_alloc (Below.refl _ _) _))
  clear HB1
  generalize w1.heap.size = g at HS ⊢
  generalize w1.alloc (.cells #[.complex .f64 a b, .complex .f64 c d] 109) = w2 at HS ⊢
  refine start_ (n := 11) (S := DoS w g a b c d u v) (ds := [10]) #[false, false, false, false, false, false, false, false, false, false, false] (by kernel_rfl) rfl rfl (DoS.drew HS) (fun hHeld => ?_)
  clear HS
  refine take_ (i := 0) (N := some 8) (v := ?_) (a' := ?_) #[true, false, false, false, false, false, false, false, false, false, false] rfl rfl (by kernel_rfl) (fun _ _ _ h => h) (Or.inl ⟨by rfl, ?_⟩) hHeld ?_ ?_
  rotate_left
  · rintro w' ⟨_, _, _, _, k1, k2, k3, k4, k5, k6, k7, k8⟩
    go_simp
    with_reducible rfl
  rotate_left
  · simp only [Act.put, List.setIfInBounds_toArray, List.set_cons_zero, List.set_cons_succ]
    rfl
  refine pure_ (i := 3) (N := some 11) (v := ?_) (a' := ?_) #[true, false, false, true, false, false, false, false, false, false, false] rfl rfl (by kernel_rfl) (fun _ _ _ h => h) (Or.inl ⟨by rfl, ?_⟩) ?_ ?_
  rotate_left
  · intro w'
    go_simp
    with_reducible rfl
  rotate_left
  · simp only [Act.put, List.setIfInBounds_toArray, List.set_cons_zero, List.set_cons_succ]
    rfl
  refine take_ (i := 4) (N := some 12) (v := ?_) (a' := ?_) #[true, false, false, true, true, false, false, false, false, false, false] rfl rfl (by kernel_rfl) (fun _ _ _ h => h) (Or.inl ⟨by rfl, ?_⟩) hHeld ?_ ?_
  rotate_left
  · rintro w' ⟨_, _, _, _, k1, k2, k3, k4, k5, k6, k7, k8⟩
    go_simp
    with_reducible rfl
  rotate_left
  · simp only [Act.put, List.setIfInBounds_toArray, List.set_cons_zero, List.set_cons_succ]
    rfl
  refine pure_ (i := 6) (N := some 14) (v := ?_) (a' := ?_) #[true, false, false, true, true, false, true, false, false, false, false] rfl rfl (by kernel_rfl) (fun _ _ _ h => h) (Or.inl ⟨by rfl, ?_⟩) ?_ ?_
  rotate_left
  · intro w'
    go_simp
    with_reducible rfl
  rotate_left
  · simp only [Act.put, List.setIfInBounds_toArray, List.set_cons_zero, List.set_cons_succ]
    rfl
  refine take_ (i := 7) (N := some 15) (v := ?_) (a' := ?_) #[true, false, false, true, true, false, true, true, false, false, false] rfl rfl (by kernel_rfl) (fun _ _ _ h => h) (Or.inl ⟨by rfl, ?_⟩) hHeld ?_ ?_
  rotate_left
  · rintro w' ⟨_, _, _, _, k1, k2, k3, k4, k5, k6, k7, k8⟩
    go_simp
    with_reducible rfl
  rotate_left
  · simp only [Act.put, List.setIfInBounds_toArray, List.set_cons_zero, List.set_cons_succ]
    rfl
  refine one_ (i := 1) (N := some 9) #[true, true, false, true, true, false, true, true, false, false, false] rfl rfl (by kernel_rfl) (by decide) (fun K hK => ?_)
  refine goes_ Try.func53 (by kernel_rfl) rfl #[.agg #[.int .i64 u, .int .i64 v]] (by rfl) rfl rfl (by (try simp only [List.map_toArray, List.map_cons, List.map_nil]); first | done | rfl) ?_
  with_reducible refine ((HF _).out).mono ?_
  rintro e w2 ⟨rfl, hb⟩
  refine ⟨_, rfl, ?_⟩
  have hHeld2 := DoS.keep hHeld hb
  clear hHeld hb
  refine hK.out _ _ hHeld2 (fun hHeld => ?_)
  clear hK hHeld2
  refine norm_ (a' := ?_) ?_ ?_
  rotate_left
  · show Act.put _ (some 9) _ = _
    simp only [Act.put, List.setIfInBounds_toArray, List.set_cons_zero, List.set_cons_succ]
    rfl
  refine one_ (i := 2) (N := some 10) #[true, true, true, true, true, false, true, true, false, false, false] rfl rfl (by kernel_rfl) (by decide) (fun K hK => ?_)
  refine goes_ Try.func86 (by kernel_rfl) rfl #[.agg #[.int .i64 U, .int .i64 V]] (by rfl) rfl rfl (by (try simp only [List.map_toArray, List.map_cons, List.map_nil]); first | done | rfl) ?_
  with_reducible refine ((HPL _).out).mono ?_
  rintro e w2 ⟨rfl, hb⟩
  refine ⟨_, rfl, ?_⟩
  have hHeld2 := DoS.keep hHeld hb
  clear hHeld hb
  refine hK.out _ _ hHeld2 (fun hHeld => ?_)
  clear hK hHeld2
  refine norm_ (a' := ?_) ?_ ?_
  rotate_left
  · show Act.put _ (some 10) _ = _
    simp only [Act.put, List.setIfInBounds_toArray, List.set_cons_zero, List.set_cons_succ]
    rfl
  refine pure_ (i := 5) (N := some 13) (v := ?_) (a' := ?_) #[true, true, true, true, true, true, true, true, false, false, false] rfl rfl (by kernel_rfl) (fun _ _ _ h => h) (Or.inl ⟨by rfl, ?_⟩) ?_ ?_
  rotate_left
  · intro w'
    go_simp
    with_reducible rfl
  rotate_left
  · simp only [Act.put, List.setIfInBounds_toArray, List.set_cons_zero, List.set_cons_succ]
    rfl
  refine pure_ (i := 8) (N := some 16) (v := ?_) (a' := ?_) #[true, true, true, true, true, true, true, true, true, false, false] rfl rfl (by kernel_rfl) (fun _ _ _ h => h) (Or.inl ⟨by rfl, ?_⟩) ?_ ?_
  rotate_left
  · intro w'
    go_simp
    with_reducible rfl
  rotate_left
  · simp only [Act.put, List.setIfInBounds_toArray, List.set_cons_zero, List.set_cons_succ]
    rfl
  refine one_ (i := 9) (N := some 17) #[true, true, true, true, true, true, true, true, true, true, false] rfl rfl (by kernel_rfl) (by decide) (fun K hK => ?_)
  refine goes_ Try.func85 (by kernel_rfl) rfl #[.complex .f64 r2 i2] (by rfl) rfl rfl (by (try simp only [List.map_toArray, List.map_cons, List.map_nil]); first | done | rfl) ?_
  with_reducible refine ((HPT _).out).mono ?_
  rintro e w2 ⟨rfl, hb⟩
  refine ⟨_, rfl, ?_⟩
  have hHeld2 := DoS.keep hHeld hb
  clear hHeld hb
  refine hK.out _ _ hHeld2 (fun hHeld => ?_)
  clear hK hHeld2
  refine norm_ (a' := ?_) ?_ ?_
  rotate_left
  · show Act.put _ (some 17) _ = _
    simp only [Act.put, List.setIfInBounds_toArray, List.set_cons_zero, List.set_cons_succ]
    rfl
  refine last_ (i := 10) (N := none) #[true, true, true, true, true, true, true, true, true, true, true] rfl rfl (by kernel_rfl) (by decide) (fun K hK => ?_)
  obtain ⟨H0, H1, H2, HB, k1, k2, k3, k4, k5, k6, k7, k8⟩ := hHeld
  rw [if_pos (by rfl)]
  go_wp2
  refine hK.out _ _ ?_
  refine done_ (by kernel_rfl) ?_
  go_wp2
  refine bodyPost_ret (results_cell_row rfl _ _ (w.heap.size + 1 + 1) 24 #[.int .i64 D1, .int .i64 D2] (0, 0) _ rfl (blk_put (cs := #[.int .i64 D1, .int .i64 0]) (blk_put (cs := #[.int .i64 0, .int .i64 0]) H1.out 0 _ rfl) 1 _ rfl) Try.underlying24 rfl (by kernel_rfl)) rfl ?_
  exact ⟨rfl, below_set (below_set HB.out (by omega)) (by omega)⟩
end Go.Proofs.Ytpoghhcpoimepaa.P
end
end
section
/- motion.Do, Then, Back: their plain functions. -/
namespace Go.Proofs.Ytpoghhcpoimepaa.P
open Go.Proofs.Ytpoghhcpoimepaa.B Go.RowKit Go.Proofs.YtpoghhcpoimepaaW.PrintWords Go.Proofs.YtpoghhcpoimepaaW.PrintLast Go.Proofs.YtpoghhcpoimepaaW.PrintMore
set_option linter.unusedVariables false
set_option linter.unusedSimpArgs false
def motion_Do.f (a0_0 : Int) (a0_1 : Int) (a0_2 : Int) (a1_0 : Int) (a1_1 : Int) : Option (Int × Int) := some (doBy a0_0 a0_1 a0_2 a1_0 a1_1)
theorem motion_Do.calls (a0_0 : Int) (a0_1 : Int) (a0_2 : Int) (a1_0 : Int) (a1_1 : Int) (r1 : Int) (r2 : Int) (w : World) (h : motion_Do.f a0_0 a0_1 a0_2 a1_0 a1_1 = some (r1, r2)) :
    Calls Try.prog 55 #[.agg #[.int .i64 a0_0, .int .i64 a0_1, .int .i64 a0_2], .agg #[.int .i64 a1_0, .int .i64 a1_1]] w fun e w' => e = .returned (.agg #[.int .i64 r1, .int .i64 r2]) ∧ Below w.heap.size w w' := by
  have h2 := mdo_calls a0_0 a0_1 a0_2 a1_0 a1_1 w
  rw [Option.some.inj h] at h2
  exact h2
end Go.Proofs.Ytpoghhcpoimepaa.P
end
section
/- The closure of fence.Cell. -/
namespace Go.Proofs.Ytpoghhcpoimepaa.P
open Go.Proofs.Ytpoghhcpoimepaa.B Go.RowKit Go.Proofs.YtpoghhcpoimepaaW.PrintWords Go.Proofs.YtpoghhcpoimepaaW.PrintLast Go.Proofs.YtpoghhcpoimepaaW.PrintMore Go.Proofs.Ytpoghhcpoimepaa.FX Go.Proofs.Ytpoghhcpoimepaa.H
set_option linter.unusedVariables false
set_option linter.unusedSimpArgs false
attribute [local go_sem] max2_int min2_int max_two min_two
theorem n64 {x : Int} (h0 : -9223372036854775808 ≤ x) (h1 : x ≤ 9223372036854775807) : wrap64 x = x := by unfold wrap64; omega
theorem mnx (a b : Int) : (if b < a then b else a) = b ∧ b < a ∨ (if b < a then b else a) = a ∧ a ≤ b := by split <;> omega
theorem mxx (a b : Int) : (if a < b then b else a) = b ∧ a < b ∨ (if a < b then b else a) = a ∧ b ≤ a := by split <;> omega
theorem two_allocs (w : World) (o1 o2 : Obj) : Below w.heap.size w ((w.alloc o1).alloc o2) := below_alloc (below_alloc (Below.refl _ _) _) _
/-- What an edge adds to how often a ring goes around a cell. -/
def cellS (ax ay bx by' px py : Int) : Int := if ay = by' ∧ py < ay ∧ (if bx < ax then bx else ax) ≤ px ∧ px < (if ax < bx then bx else ax) then (if ax < bx then -1 else 1) else 0
set_option maxHeartbeats 2000000 in
set_option maxRecDepth 100000 in
theorem cell1_calls (gp gn : Nat) (ax ay bx by' px py n : Int) (w : World) (hp : w.heap[gp]? = some (.cells #[.int .i64 px, .int .i64 py] 24 (0, 0))) (hg : w.heap[gn]? = some (.cells #[.int .i64 n] 3 (0, 0))) (hlt : gp < gn) (hn : -1000 ≤ n ∧ n ≤ 1000) :
    Calls Try.prog 50 #[.agg #[.int .i64 ax, .int .i64 ay], .agg #[.int .i64 bx, .int .i64 by'], .pointer (some ⟨gp, 0, none⟩), .pointer (some ⟨gn, 0, none⟩)] w fun e w' => e = .returned (.bool true) ∧ w'.heap[gn]? = some (.cells #[.int .i64 (n + cellS ax ay bx by' px py)] 3 (0, 0)) ∧ Below gn w w' := by
  have hgl := lt_blk hg; have hpl := lt_blk hp
  have k0 := blk_cell hp 0; have k1 := blk_cell hp 1; have k2 := blk_cell hg 0; have k3 := blk_frozen hg 0
  have HG := Aside0.mk hg; clear hg hp
  have hw1 : wrap64 (n + 1) = n + 1 := n64 (by omega) (by omega)
  have hw2 : wrap64 (n + 1 - 2) = n + 1 - 2 := n64 (by omega) (by omega)
  have hw3 : wrap64 (n - 1) = n - 1 := n64 (by omega) (by omega)
  have HN := Aside0.mk hn; clear hn
  go_enter Try.func50, Try.ntmps50
  go_wp2
  all_goals go_ret
  all_goals have hbb : Below w.heap.size w ((w.alloc (.cells #[.int .i64 ax, .int .i64 ay] 24)).alloc (.cells #[.int .i64 bx, .int .i64 by'] 24)) := below_alloc (below_alloc (Below.refl _ _) _) _
  all_goals (try subst ay)
  all_goals refine ⟨rfl, ?_, ?_⟩
  all_goals first
    | with_reducible exact hbb.mono (Nat.le_of_lt hgl)
    | with_reducible exact ((Below.refl gn w).setCell (Nat.le_refl gn) _).trans ((two_allocs _ _ _).mono (Nat.le_of_lt (lt_blk (blk_set HG.out 0 _))))
    | with_reducible exact (((Below.refl gn w).setCell (Nat.le_refl gn) _).setCell (Nat.le_refl gn) _).trans ((two_allocs _ _ _).mono (Nat.le_of_lt (lt_blk (blk_set (blk_set HG.out 0 _) 0 _))))
    | (rw [show n + cellS ax by' bx by' px py = n + 1 - 2 from (by have M := mnx ax bx; have X := mxx ax bx; unfold cellS; (repeat' split) <;> omega)]; exact blk_keep (blk_set (blk_set HG.out 0 _) 0 _) (two_allocs _ _ _))
    | (rw [show n + cellS ax by' bx by' px py = n + 1 from (by have M := mnx ax bx; have X := mxx ax bx; unfold cellS; (repeat' split) <;> omega)]; exact blk_keep (blk_set HG.out 0 _) (two_allocs _ _ _))
    | (with_reducible refine (blk_keep HG.out hbb).trans ?_; refine congrArg (fun v => some (Obj.cells #[Value.int .i64 v] 3 (0, 0))) ?_; have M := mnx ax bx; have X := mxx ax bx; unfold cellS; (repeat' split) <;> omega)
end Go.Proofs.Ytpoghhcpoimepaa.P
end
section
-- printed by the session's own call of print.py. Not trusted: Lean checks it.
namespace Go.Proofs.Ytpoghhcpoimepaa.P
open Go.RowKit Go.Proofs.YtpoghhcpoimepaaW.PrintWords Go.Proofs.YtpoghhcpoimepaaW.PrintLast Go.Proofs.YtpoghhcpoimepaaW.PrintMore
attribute [local go_sem] max2_int min2_int max_two min_two max_three min_three max_four min_four
set_option linter.unusedVariables false
set_option linter.unusedSimpArgs false
/-! ### tallymanref02_Clip: function 92 -/
def tallymanref02_Clip.f (a0 : Int) (a1 : Int) (a2 : Int) : Option (Int) := if a0 < a1 then (some a1) else (if a0 > a2 then (some a2) else (some a0))
set_option maxHeartbeats 8000000 in
set_option maxRecDepth 100000 in
theorem tallymanref02_Clip.calls (a0 : Int) (a1 : Int) (a2 : Int) (r : Int) (w : World) (h : tallymanref02_Clip.f a0 a1 a2 = some r) :
    Calls Try.prog 92 #[.int .i64 a0, .int .i64 a1, .int .i64 a2] w fun e w' => e = .returned (.int .i64 r) ∧ Drawn0 w w' := by
  have H : (if a0 < a1 then (some a1) else (if a0 > a2 then (some a2) else (some a0))) = some r := h
  clear h
  by_cases c4 : a0 < a1
  · rw [if_pos c4] at H
    have c4b0 : decide (a0 < a1) = true := decide_eq_true c4
    clear c4
    obtain rfl := Option.some.inj H
    go_enter Try.func92, Try.ntmps92
    go_wp2
    go_ret
    exact ⟨by first | rfl | ((repeat first | rw [Int.tdiv_eq_ediv_of_nonneg (by omega)] | rw [Int.tmod_eq_emod_of_nonneg (by omega)]); rfl) | (simp; done) | (simp [*]; done), by repeat (first | exact Drawn0.refl _ | apply Drawn0.step)⟩
  · rw [if_neg c4] at H
    have c4b0 : decide (a0 < a1) = false := decide_eq_false c4
    clear c4
    by_cases c5 : a0 > a2
    · rw [if_pos c5] at H
      have c5b0 : decide (a2 < a0) = true := decide_eq_true c5
      clear c5
      obtain rfl := Option.some.inj H
      go_enter Try.func92, Try.ntmps92
      go_wp2
      go_ret
      exact ⟨by first | rfl | ((repeat first | rw [Int.tdiv_eq_ediv_of_nonneg (by omega)] | rw [Int.tmod_eq_emod_of_nonneg (by omega)]); rfl) | (simp; done) | (simp [*]; done), by repeat (first | exact Drawn0.refl _ | apply Drawn0.step)⟩
    · rw [if_neg c5] at H
      have c5b0 : decide (a2 < a0) = false := decide_eq_false c5
      clear c5
      obtain rfl := Option.some.inj H
      go_enter Try.func92, Try.ntmps92
      go_wp2
      go_ret
      exact ⟨by first | rfl | ((repeat first | rw [Int.tdiv_eq_ediv_of_nonneg (by omega)] | rw [Int.tmod_eq_emod_of_nonneg (by omega)]); rfl) | (simp; done) | (simp [*]; done), by repeat (first | exact Drawn0.refl _ | apply Drawn0.step)⟩
end Go.Proofs.Ytpoghhcpoimepaa.P
end
section
-- printed by the session's own call of print.py. Not trusted: Lean checks it.
namespace Go.Proofs.Ytpoghhcpoimepaa.P
open Go.RowKit Go.Proofs.YtpoghhcpoimepaaW.PrintWords Go.Proofs.YtpoghhcpoimepaaW.PrintLast Go.Proofs.YtpoghhcpoimepaaW.PrintMore
attribute [local go_sem] max2_int min2_int max_two min_two max_three min_three max_four min_four
set_option linter.unusedVariables false
set_option linter.unusedSimpArgs false
/-! ### tallymanref03_part: function 100 -/
def tallymanref03_part.f (a0 : Int) : Option (Int) := (tallymanref02_Clip.f a0 (-1048576) 1048576).bind fun t101 => (some t101)
set_option maxHeartbeats 8000000 in
set_option maxRecDepth 100000 in
theorem tallymanref03_part.calls (a0 : Int) (r : Int) (w : World) (h : tallymanref03_part.f a0 = some r) :
    Calls Try.prog 100 #[.int .i64 a0] w fun e w' => e = .returned (.int .i64 r) ∧ Drawn0 w w' := by
  have H : ((tallymanref02_Clip.f a0 (-1048576) 1048576).bind fun t101 => (some t101)) = some r := h
  clear h
  replace H := Option.bind_eq_some_iff.mp H
  obtain ⟨t101, A20, H⟩ := H
  replace H : (some t101) = some r := H
  have A2 := Aside0.mk A20
  clear A20
  obtain rfl := Option.some.inj H
  go_enter Try.func100, Try.ntmps100
  go_wp2_with (first | ((with_reducible refine gate_callee (f := 92) rfl ?_); refine goesL_ (some 4) rfl rfl Try.func92 (by kernel_rfl) rfl #[.int .i64 a0, .int .i64 (-1048576), .int .i64 1048576] rfl (by (try simp only [List.map_toArray, List.map_cons, List.map_nil]); first | done | rfl | (simp only [List.length_drop, List.length_take]; rfl)) ?_; (with_reducible refine (tallymanref02_Clip.calls a0 (-1048576) 1048576 t101 _ A2.out).mono ?_); rintro e w' ⟨rfl, ⟨nd, rfl⟩⟩; refine ⟨_, rfl, ?_⟩) | (go_at_call 92; (with_reducible refine (tallymanref02_Clip.calls a0 (-1048576) 1048576 t101 _ A2.out).mono ?_); rintro e w' ⟨rfl, ⟨nd, rfl⟩⟩))
  go_ret
  exact ⟨by first | rfl | ((repeat first | rw [Int.tdiv_eq_ediv_of_nonneg (by omega)] | rw [Int.tmod_eq_emod_of_nonneg (by omega)]); rfl) | (simp; done) | (simp [*]; done), by repeat (first | exact Drawn0.refl _ | apply Drawn0.step)⟩
end Go.Proofs.Ytpoghhcpoimepaa.P
end
section
-- printed by the session's own call of print.py. Not trusted: Lean checks it.
namespace Go.Proofs.Ytpoghhcpoimepaa.P
open Go.RowKit Go.Proofs.YtpoghhcpoimepaaW.PrintWords Go.Proofs.YtpoghhcpoimepaaW.PrintLast Go.Proofs.YtpoghhcpoimepaaW.PrintMore
attribute [local go_sem] max2_int min2_int max_two min_two max_three min_three max_four min_four
set_option linter.unusedVariables false
set_option linter.unusedSimpArgs false
/-! ### tallymanref03_Fix: function 95 -/
def tallymanref03_Fix.f (a0_0 : Int) (a0_1 : Int) : Option (Int × Int) := (tallymanref03_part.f a0_0).bind fun t103 => ((tallymanref03_part.f a0_1).bind fun t104 => (some (t103, t104)))
def tallymanref03_Fix.T1 : Bool × List (List Nat × List Nat) := (true, [([], []), ([0], [0]), ([1], [1]), ([], []), ([3], [3]), ([4, 2], [4]), ([2, 5], [2, 5]), ([6, 5, 0, 1, 2, 3, 4, 5, 6], [6])])
def tallymanref03_Fix.B1 : List Nat := [0, 1, 3, 0, 8, 31, 63, 127]
theorem tallymanref03_Fix.tab1 : rtab .any (opsOf Try.f95 1) = tallymanref03_Fix.T1 := by kernel_rfl
theorem tallymanref03_Fix.bits1 : waitsOk tallymanref03_Fix.T1.2 tallymanref03_Fix.B1 = true := by kernel_rfl
set_option maxHeartbeats 8000000 in
set_option maxRecDepth 100000 in
theorem tallymanref03_Fix.calls (a0_0 : Int) (a0_1 : Int) (r1 : Int) (r2 : Int) (w : World) (h : tallymanref03_Fix.f a0_0 a0_1 = some (r1, r2)) :
    Calls Try.prog 95 #[.agg #[.int .i64 a0_0, .int .i64 a0_1]] w fun e w' => e = .returned (.agg #[.int .i64 r1, .int .i64 r2]) ∧ Below w.heap.size w w' := by
  have hu24 := Try.underlying24
  have HB := Aside0.mk (Below.refl w.heap.size w)
  have H : ((tallymanref03_part.f a0_0).bind fun t103 => ((tallymanref03_part.f a0_1).bind fun t104 => (some (t103, t104)))) = some (r1, r2) := h
  clear h
  replace H := Option.bind_eq_some_iff.mp H
  obtain ⟨t103, A20, H⟩ := H
  replace H : ((tallymanref03_part.f a0_1).bind fun t104 => (some (t103, t104))) = some (r1, r2) := H
  have A2 := Aside0.mk A20
  clear A20
  replace H := Option.bind_eq_some_iff.mp H
  obtain ⟨t104, A30, H⟩ := H
  replace H : (some (t103, t104)) = some (r1, r2) := H
  have A3 := Aside0.mk A30
  clear A30
  simp only [Option.some.injEq, Prod.mk.injEq] at H
  obtain ⟨rfl, rfl⟩ := H
  go_enter Try.func95, Try.ntmps95
  try go_wp2_with (first | ((with_reducible refine gate_dst (N := 1) rfl ?_); refine box_event ?hg (N := 1) ?hd (cs := #[.int .i64 a0_0, .int .i64 a0_1]) (t := 24) ?hr ?_; (case hd => rfl); (case hg => rfl); (case hr => first | (go_simp; done) | (go_simp; rfl)); intro gb101 hg w4 hbox hb; have n0_ := Aside0.mk (below_step (by repeat (first | (with_reducible first | exact HB.out | apply below_alloc | apply pw_below_drewN | apply below_drew1) | exact HB.out)) hb); have n1_ := Aside0.mk (hbox); have n2_ := Aside0.mk ((by rw [hg]; exact (below_size (by repeat (first | (with_reducible first | exact HB.out | apply below_alloc | apply pw_below_drewN | apply below_drew1) | exact HB.out))) : w.heap.size ≤ gb101)); have n3_ := Aside0.mk ((by rw [hg]; exact (below_size (by repeat (first | (with_reducible first | exact HB.out | apply below_alloc | apply pw_below_drewN | apply below_drew1) | exact HB.out))) : w.heap.size ≤ gb101)); clear HB; have HB := n0_; have BK101 := n1_; have GW101 := n2_; have GE101 := n3_; clear n0_ n1_ n2_ n3_; clear hb hbox hg) | ((with_reducible refine gate_dst (N := 2) rfl ?_); refine box_event ?hg (N := 2) ?hd (cs := #[.int .i64 0, .int .i64 0]) (t := 24) ?hr ?_; (case hd => rfl); (case hg => rfl); (case hr => first | (go_simp; done) | (go_simp; rfl)); intro gb102 hg w5 hbox hb; have n0_ := Aside0.mk (blk_below (g := gb101) (o := .cells #[.int .i64 a0_0, .int .i64 a0_1] 24 (0, 0)) (by (with_reducible repeat (first | refine blk_drewN ?_ _ | refine blk_drew ?_ | refine blk_alloc ?_ _)); exact BK101.out) hb); have n1_ := Aside0.mk (below_step (by repeat (first | (with_reducible first | exact HB.out | apply below_alloc | apply pw_below_drewN | apply below_drew1 | refine below_set ?_ GE101.out) | exact HB.out)) hb); have n2_ := Aside0.mk (hbox); have n3_ := Aside0.mk ((by rw [hg]; exact (below_size (by repeat (first | (with_reducible first | exact HB.out | apply below_alloc | apply pw_below_drewN | apply below_drew1 | refine below_set ?_ GE101.out) | exact HB.out))) : w.heap.size ≤ gb102)); have n4_ := Aside0.mk ((by rw [hg]; exact (below_size (by repeat (first | (with_reducible first | exact HB.out | apply below_alloc | apply pw_below_drewN | apply below_drew1 | refine below_set ?_ GE101.out) | exact HB.out))) : w.heap.size ≤ gb102)); have n5_ := Aside0.mk ((by rw [hg]; exact Nat.ne_of_lt (blk_lt (g := gb101) (o := .cells #[.int .i64 a0_0, .int .i64 a0_1] 24 (0, 0)) (by (with_reducible repeat (first | refine blk_drewN ?_ _ | refine blk_drew ?_ | refine blk_alloc ?_ _)); exact BK101.out)) : gb101 ≠ gb102)); have n6_ := Aside0.mk ((by rw [hg]; exact Nat.ne_of_gt (blk_lt (g := gb101) (o := .cells #[.int .i64 a0_0, .int .i64 a0_1] 24 (0, 0)) (by (with_reducible repeat (first | refine blk_drewN ?_ _ | refine blk_drew ?_ | refine blk_alloc ?_ _)); exact BK101.out)) : gb102 ≠ gb101)); clear BK101; clear HB; have BK101 := n0_; have HB := n1_; have BK102 := n2_; have GW102 := n3_; have GE102 := n4_; have NB101_102 := n5_; have NB102_101 := n6_; clear n0_ n1_ n2_ n3_ n4_ n5_ n6_; clear hb hbox hg))
  have n0_ := Aside0.mk (blk_drew BK101.out)
  have n1_ := Aside0.mk (blk_drew BK102.out)
  have n2_ := Aside0.mk (below_drew1 HB.out)
  clear BK101
  clear BK102
  clear HB
  have BK101 := n0_
  have BK102 := n1_
  have HB := n2_
  clear n0_ n1_ n2_
  refine start_ (n := 8) (S := fun w' => w'.cell? ⟨gb101, 0, none⟩ = some (.int .i64 a0_0) ∧ w'.cell? ⟨gb101, 1, none⟩ = some (.int .i64 a0_1)) (ds := []) #[false, false, false, false, false, false, false, false] (by kernel_rfl) rfl rfl ⟨(blk_cell BK101.out 0).trans rfl, (blk_cell BK101.out 1).trans rfl⟩ (fun hHeld => ?_); refine with_tabW tallymanref03_Fix.tab1 tallymanref03_Fix.bits1 (fun HT_ HW_ => ?_)
  generalize w5.drew = w6 at BK101 BK102 HB hHeld ⊢
  refine pure_ (i := 0) (N := some 3) (v := ?_) (a' := ?_) #[true, false, false, false, false, false, false, false] rfl rfl (any_of HT_.out (by kernel_rfl)) (fun _ _ _ h => h) (Or.inl ⟨by rfl, ?_⟩) ?_ ?_
  rotate_left
  · intro w'
    go_simp
    with_reducible rfl
  rotate_left
  · simp only [Act.put, List.setIfInBounds_toArray, List.set_cons_zero, List.set_cons_succ, i64_w, i32_w]
    rfl
  refine pure_ (i := 3) (N := some 6) (v := ?_) (a' := ?_) #[true, false, false, true, false, false, false, false] rfl rfl (any_of HT_.out (by kernel_rfl)) (fun _ _ _ h => h) (Or.inl ⟨by rfl, ?_⟩) ?_ ?_
  rotate_left
  · intro w'
    go_simp
    with_reducible rfl
  rotate_left
  · simp only [Act.put, List.setIfInBounds_toArray, List.set_cons_zero, List.set_cons_succ, i64_w, i32_w]
    rfl
  refine take_ (i := 1) (N := some 4) (v := ?_) (a' := ?_) #[true, true, false, true, false, false, false, false] rfl rfl (take_ofW HT_.out HW_.out (by kernel_rfl)) (fun _ _ _ h => h) (Or.inl ⟨by rfl, ?_⟩) hHeld ?_ ?_
  rotate_left
  · rintro w' ⟨s0, s1⟩
    go_simp
    with_reducible rfl
  rotate_left
  · simp only [Act.put, List.setIfInBounds_toArray, List.set_cons_zero, List.set_cons_succ, i64_w, i32_w]
    rfl
  refine take_ (i := 4) (N := some 7) (v := ?_) (a' := ?_) #[true, true, false, true, true, false, false, false] rfl rfl (take_ofW HT_.out HW_.out (by kernel_rfl)) (fun _ _ _ h => h) (Or.inl ⟨by rfl, ?_⟩) hHeld ?_ ?_
  rotate_left
  · rintro w' ⟨s0, s1⟩
    go_simp
    with_reducible rfl
  rotate_left
  · simp only [Act.put, List.setIfInBounds_toArray, List.set_cons_zero, List.set_cons_succ, i64_w, i32_w]
    rfl
  refine one_ (i := 2) (N := some 5) #[true, true, true, true, true, false, false, false] rfl rfl (one_of HT_.out (by kernel_rfl)) (by decide) (fun K hK => ?_)
  refine goes_ Try.func100 (by kernel_rfl) rfl #[.int .i64 a0_0] (by rfl) rfl rfl (by (try simp only [List.map_toArray, List.map_cons, List.map_nil]); first | done | rfl | (simp only [List.length_drop, List.length_take]; rfl)) ?_
  with_reducible refine (tallymanref03_part.calls a0_0 t103 _ A2.out).mono ?_
  rintro e w' ⟨rfl, ⟨nd, rfl⟩⟩
  refine ⟨_, rfl, ?_⟩
  refine hK.out _ _ ⟨(blk_cell BK101.out 0).trans rfl, (blk_cell BK101.out 1).trans rfl⟩ (fun hHeld => ?_)
  clear hK K
  refine norm_ (a' := ?_) ?_ ?_
  rotate_left
  · show Act.put _ (some 5) _ = _
    simp only [Act.put, List.setIfInBounds_toArray, List.set_cons_zero, List.set_cons_succ, i64_w, i32_w]
    rfl
  refine one_ (i := 5) (N := some 8) #[true, true, true, true, true, true, false, false] rfl rfl (one_of HT_.out (by kernel_rfl)) (by decide) (fun K hK => ?_)
  refine goes_ Try.func100 (by kernel_rfl) rfl #[.int .i64 a0_1] (by rfl) rfl rfl (by (try simp only [List.map_toArray, List.map_cons, List.map_nil]); first | done | rfl | (simp only [List.length_drop, List.length_take]; rfl)) ?_
  with_reducible refine (tallymanref03_part.calls a0_1 t104 _ A3.out).mono ?_
  rintro e w' ⟨rfl, ⟨nd, rfl⟩⟩
  refine ⟨_, rfl, ?_⟩
  refine hK.out _ _ ⟨(blk_cell BK101.out 0).trans rfl, (blk_cell BK101.out 1).trans rfl⟩ (fun hHeld => ?_)
  clear hK K
  refine norm_ (a' := ?_) ?_ ?_
  rotate_left
  · show Act.put _ (some 8) _ = _
    simp only [Act.put, List.setIfInBounds_toArray, List.set_cons_zero, List.set_cons_succ, i64_w, i32_w]
    rfl
  refine pure_ (i := 6) (N := some 9) (v := ?_) (a' := ?_) #[true, true, true, true, true, true, true, false] rfl rfl (any_of HT_.out (by kernel_rfl)) (fun _ _ _ h => h) (Or.inl ⟨by rfl, ?_⟩) ?_ ?_
  rotate_left
  · intro w'
    go_simp
    with_reducible rfl
  rotate_left
  · simp only [Act.put, List.setIfInBounds_toArray, List.set_cons_zero, List.set_cons_succ, i64_w, i32_w]
    rfl
  refine one_ (i := 7) (N := none) #[true, true, true, true, true, true, true, true] rfl rfl (one_of HT_.out (by kernel_rfl)) (by decide) (fun K hK => ?_)
  have hs7 : w6.cell? ⟨gb102, 0, none⟩ = some (.int .i64 0) := (blk_cell BK102.out 0).trans rfl
  have hfs7 := blk_frozen BK102.out 0
  have hns7_0 := NB101_102.out
  have hms7_0 := NB102_101.out
  have hs8 : w6.cell? ⟨gb102, 1, none⟩ = some (.int .i64 0) := (blk_cell BK102.out 1).trans rfl
  have hfs8 := blk_frozen BK102.out 1
  have hns8_0 := NB101_102.out
  have hms8_0 := NB102_101.out
  refine skip_ (w1 := ?_) (by rfl) rfl ?_ ?_
  rotate_left
  · go_simp
    rfl
  refine hK.out _ _ ⟨((cell_far (p := ⟨gb102, _, none⟩) NB101_102.out _).trans (((cell_far (p := ⟨gb102, _, none⟩) NB101_102.out _).trans (hHeld.1)))), ((cell_far (p := ⟨gb102, _, none⟩) NB101_102.out _).trans (((cell_far (p := ⟨gb102, _, none⟩) NB101_102.out _).trans (hHeld.2))))⟩ (fun hHeld => ?_)
  clear hK K
  refine done_ (done_of HT_.out (by kernel_rfl)) ?_
  try go_wp2
  refine bodyPost_ret (results_cell_row rfl _ _ gb102 24 #[.int .i64 t103, .int .i64 t104] (0, 0) _ rfl (by (with_reducible repeat (first | refine blk_drewN ?_ _ | refine blk_drew ?_ | refine blk_alloc ?_ _)); refine blk_put (cs := #[.int .i64 t103, .int .i64 0]) ?_ 1 _ rfl; (with_reducible repeat (first | refine blk_drewN ?_ _ | refine blk_drew ?_ | refine blk_alloc ?_ _)); refine blk_put (cs := #[.int .i64 0, .int .i64 0]) ?_ 0 _ rfl; (with_reducible repeat (first | refine blk_drewN ?_ _ | refine blk_drew ?_ | refine blk_alloc ?_ _)); exact BK102.out) Try.underlying24 rfl (by kernel_rfl)) rfl ?_
  exact ⟨by first | rfl | ((repeat first | rw [Int.tdiv_eq_ediv_of_nonneg (by omega)] | rw [Int.tmod_eq_emod_of_nonneg (by omega)]); rfl) | (simp [errW_none, errW_some] <;> rfl) | (simp [*, errW_none, errW_some] <;> rfl), by repeat (first | (with_reducible first | exact HB.out | apply below_alloc | apply pw_below_drewN | apply below_drew1 | refine below_set ?_ GE101.out | refine below_set ?_ GE102.out) | exact HB.out)⟩
end Go.Proofs.Ytpoghhcpoimepaa.P
end
