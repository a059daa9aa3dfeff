/- Several texts in one. -/
import Derived.Test.YtbkcdfiokjhcjaaM5
section
/- Motions: Fix and Back. -/
namespace Go.Proofs.Ytbkcdfiokjhcjaa.P
open Go.Proofs.Ytbkcdfiokjhcjaa.B Go.RowKit Go.Proofs.YtbkcdfiokjhcjaaW.PrintWords Go.Proofs.YtbkcdfiokjhcjaaW.PrintLast Go.Proofs.YtbkcdfiokjhcjaaW.PrintMore Go.Proofs.Ytbkcdfiokjhcjaa.FX Go.Proofs.Ytbkcdfiokjhcjaa.H
set_option linter.unusedVariables false
set_option linter.unusedSimpArgs false
attribute [local go_sem] run_store_complex
/-- A motion's quarters. -/
def qt (n : Int) : Nat := (n % 4).toNat
theorem qt_lt (n : Int) : qt n < 4 := by unfold qt; omega
theorem rot_ip (n : Int) : rot (n % 4).toNat 1 0 = ip (qt n) := by
  unfold qt
  have hq : n % 4 = 0 ∨ n % 4 = 1 ∨ n % 4 = 2 ∨ n % 4 = 3 := by omega
  rcases hq with h | h | h | h <;> rw [h] <;> decide
theorem mof_calls (n x y : Int) (w : World) : Calls Try.prog 58 #[.agg #[.int .i64 n, .int .i64 x, .int .i64 y]] w (MovePost (ip (qt n)) (fx x, fx y) w) := by
  have h := of_calls n x y w
  rw [rot_ip] at h
  exact h
theorem near_fx (x y : Int) : near 1048576 (fx x, fx y) := by
  have h1 := fx_le x
  have h2 := fx_le y
  exact ⟨by simp only []; omega, by simp only []; omega⟩
theorem near_le {m n : Nat} {p : Int × Int} (h : near m p) (hmn : m ≤ n) : near n p := ⟨Nat.le_trans h.1 hmn, Nat.le_trans h.2 hmn⟩
theorem near_ip (m : Nat) : near 1 (ip m) := (ip_small m).1
def ipBack (m : Nat) : Nat := (4 - m) % 4
theorem ip_mirror (m : Nat) (h : m < 4) : ((ip m).1, -(ip m).2) = ip (ipBack m) := by
  match m, h with
  | 0, _ => decide
  | 1, _ => decide
  | 2, _ => decide
  | 3, _ => decide
theorem near_cm {n : Nat} {p t : Int × Int} (hp : near n p) (ht : near 1 t) : near (2 * n) (cm p t) := by
  have a1 := near_mul hp.1 ht.1; have a2 := near_mul hp.2 ht.2; have a3 := near_mul hp.1 ht.2; have a4 := near_mul hp.2 ht.1
  exact ⟨by unfold cm; simp only []; omega, by unfold cm; simp only []; omega⟩
set_option maxHeartbeats 1000000 in
set_option maxRecDepth 100000 in
theorem mfix_calls (n x y : Int) (w : World) : Calls Try.prog 32 #[.agg #[.int .i64 n, .int .i64 x, .int .i64 y]] w (MotPost (qt n : Nat) (fx x) (fx y) w) := by
  have HO := fun W => Aside0.mk (mof_calls n x y W)
  have HP := fun (a b c d : Nat) (h : MV a b c d (ip (qt n)) (fx x, fx y)) W => Aside0.mk (motion_calls a b c d (qt n) (fx x, fx y) W (qt_lt n) h (near_le (near_fx x y) (by decide)))
  obtain ⟨q, hq⟩ : ∃ q : Nat, qt n = q := ⟨_, rfl⟩
  obtain ⟨F1, hF1⟩ : ∃ F, fx x = F := ⟨_, rfl⟩
  obtain ⟨F2, hF2⟩ : ∃ F, fx y = F := ⟨_, rfl⟩
  rw [hq, hF1, hF2] at HO HP
  rw [hq, hF1, hF2]
  simp only [] at HP
  clear hq hF1 hF2
  go_enter Try.func32, Try.ntmps32
  go_wp2_with (first | (go_at_call 58; (with_reducible refine ((HO _).out).mono ?_); rintro e w1 ⟨a, b, c, d, rfl, hMV, hb1⟩; have HB1 := Aside0.mk hb1; have HMV := Aside0.mk hMV; clear hb1 hMV) | (go_at_call 59; (with_reducible refine ((HP _ _ _ _ HMV.out _).out).mono ?_); rintro e w2 ⟨rfl, hb2⟩; have hbk := blk_keep (blk_keep (move_new2 w (.cells #[.int .i64 n, .int .i64 x, .int .i64 y] 35) (.cells #[.int .i64 0, .int .i64 0, .int .i64 0] 35)) HB1.out) hb2; have HBK := Aside0.mk hbk; have hc0 := blk_cell hbk 0; have hc1 := blk_cell hbk 1; have hc2 := blk_cell hbk 2; have hf0 := blk_frozen hbk 0; have hf1 := blk_frozen hbk 1; have hf2 := blk_frozen hbk 2; have HB2 := Aside0.mk (below_step (below_step (below_alloc (below_alloc (Below.refl w.heap.size w) _) _) HB1.out) hb2); clear hb2 hbk HB1))
  refine bodyPost_ret (results_cell_row rfl _ _ (w.heap.size + 1) 35 #[.int .i64 q, .int .i64 F1, .int .i64 F2] (0, 0) _ rfl (blk_put (cs := #[.int .i64 q, .int .i64 F1, .int .i64 0]) (blk_put (cs := #[.int .i64 q, .int .i64 0, .int .i64 0]) (blk_put (cs := #[.int .i64 0, .int .i64 0, .int .i64 0]) HBK.out 0 _ rfl) 1 _ rfl) 2 _ rfl) Try.underlying35 rfl (by kernel_rfl)) rfl ?_
  exact ⟨rfl, below_set (below_set (below_set HB2.out (by omega)) (by omega)) (by omega)⟩
/-- What undoes a motion: its addend. -/
def backBy (n x y : Int) : Int × Int := cm (-fx x, -fx y) (ip (ipBack (qt n)))
set_option maxHeartbeats 1000000 in
set_option maxRecDepth 100000 in
theorem mbackm_calls (n x y : Int) (w : World) : Calls Try.prog 38 #[.agg #[.int .i64 n, .int .i64 x, .int .i64 y]] w (MotPost (ipBack (qt n) : Nat) (backBy n x y).1 (backBy n x y).2 w) := by
  have HO := fun W => Aside0.mk (mof_calls n x y W)
  have HQ := fun (a b c d : Nat) (h : MV a b c d (ip (qt n)) (fx x, fx y)) W => Aside0.mk (show Calls Try.prog 63 #[mv a b c d] W (MovePost (ip (ipBack (qt n))) (backBy n x y) W) from by
    have h2 := mback_calls a b c d _ _ W h (near_ip _) (near_le (near_fx x y) (by decide))
    rw [ip_mirror _ (qt_lt n)] at h2
    exact h2)
  have nb : near 4000000000 (backBy n x y) := by
    have h1 := fx_le x
    have h2 := fx_le y
    exact near_le (near_cm (n := 1048576) ⟨by simp only []; omega, by simp only []; omega⟩ (near_ip _)) (by decide)
  have HP := fun (a b c d : Nat) (h : MV a b c d (ip (ipBack (qt n))) (backBy n x y)) W => Aside0.mk (motion_calls a b c d (ipBack (qt n)) (backBy n x y) W (by unfold ipBack; omega) h nb)
  clear nb
  obtain ⟨q, hq⟩ : ∃ q : Nat, ipBack (qt n) = q := ⟨_, rfl⟩
  obtain ⟨⟨F1, F2⟩, hF⟩ : ∃ F, backBy n x y = F := ⟨_, rfl⟩
  rw [hq, hF] at HQ HP
  rw [hq, hF]
  simp only [] at HP
  clear hq hF
  go_enter Try.func38, Try.ntmps38
  go_wp2_with (first | (go_at_call 58; (with_reducible refine ((HO _).out).mono ?_); rintro e w1 ⟨a, b, c, d, rfl, hMV, hb1⟩; have HB1 := Aside0.mk hb1; have HMV := Aside0.mk hMV; clear hb1 hMV) | (go_at_call 63; (with_reducible refine ((HQ _ _ _ _ HMV.out _).out).mono ?_); rintro e w3 ⟨a', b', c', d', rfl, hMV, hb3⟩; have HB3 := Aside0.mk hb3; have HMW := Aside0.mk hMV; clear hb3 hMV) | (go_at_call 59; (with_reducible refine ((HP _ _ _ _ HMW.out _).out).mono ?_); rintro e w2 ⟨rfl, hb2⟩; have hbk := blk_keep (blk_keep (blk_keep (move_new2 w (.cells #[.int .i64 n, .int .i64 x, .int .i64 y] 35) (.cells #[.int .i64 0, .int .i64 0, .int .i64 0] 35)) HB1.out) HB3.out) hb2; have HBK := Aside0.mk hbk; have hc0 := blk_cell hbk 0; have hc1 := blk_cell hbk 1; have hc2 := blk_cell hbk 2; have hf0 := blk_frozen hbk 0; have hf1 := blk_frozen hbk 1; have hf2 := blk_frozen hbk 2; have HB2 := Aside0.mk (below_step (below_step (below_step (below_alloc (below_alloc (Below.refl w.heap.size w) _) _) HB1.out) HB3.out) hb2); clear hb2 hbk HB1 HB3))
  refine bodyPost_ret (results_cell_row rfl _ _ (w.heap.size + 1) 35 #[.int .i64 q, .int .i64 F1, .int .i64 F2] (0, 0) _ rfl (blk_put (cs := #[.int .i64 q, .int .i64 F1, .int .i64 0]) (blk_put (cs := #[.int .i64 q, .int .i64 0, .int .i64 0]) (blk_put (cs := #[.int .i64 0, .int .i64 0, .int .i64 0]) HBK.out 0 _ rfl) 1 _ rfl) 2 _ rfl) Try.underlying35 rfl (by kernel_rfl)) rfl ?_
  exact ⟨rfl, below_set (below_set (below_set HB2.out (by omega)) (by omega)) (by omega)⟩
end Go.Proofs.Ytbkcdfiokjhcjaa.P
end

section
/- Motions: Then. -/
namespace Go.Proofs.Ytbkcdfiokjhcjaa.P
open Go.Proofs.Ytbkcdfiokjhcjaa.B Go.RowKit Go.Proofs.YtbkcdfiokjhcjaaW.PrintWords Go.Proofs.YtbkcdfiokjhcjaaW.PrintLast Go.Proofs.YtbkcdfiokjhcjaaW.PrintMore Go.Proofs.Ytbkcdfiokjhcjaa.FX Go.Proofs.Ytbkcdfiokjhcjaa.H
set_option linter.unusedVariables false
set_option linter.unusedSimpArgs false
attribute [local go_sem] run_store_complex
abbrev ThS (w0 : World) (n x y n' x' y' : Int) (w' : World) : Prop :=
  Aside0 (w'.heap[w0.heap.size]? = some (.cells #[.int .i64 n, .int .i64 x, .int .i64 y] 35 (0, 0))) ∧ Aside0 (w'.heap[w0.heap.size + 1]? = some (.cells #[.int .i64 n', .int .i64 x', .int .i64 y'] 35 (0, 0))) ∧ Aside0 (w'.heap[w0.heap.size + 1 + 1]? = some (.cells #[.int .i64 0, .int .i64 0, .int .i64 0] 35 (0, 0))) ∧ Aside0 (Below w0.heap.size w0 w') ∧ w'.cell? ⟨w0.heap.size, 0, none⟩ = some (.int .i64 n) ∧ w'.cell? ⟨w0.heap.size, 1, none⟩ = some (.int .i64 x) ∧ w'.cell? ⟨w0.heap.size, 2, none⟩ = some (.int .i64 y) ∧ w'.cell? ⟨w0.heap.size + 1, 0, none⟩ = some (.int .i64 n') ∧ w'.cell? ⟨w0.heap.size + 1, 1, none⟩ = some (.int .i64 x') ∧ w'.cell? ⟨w0.heap.size + 1, 2, none⟩ = some (.int .i64 y') ∧ w'.cell? ⟨w0.heap.size + 1 + 1, 0, none⟩ = some (.int .i64 0) ∧ w'.cell? ⟨w0.heap.size + 1 + 1, 1, none⟩ = some (.int .i64 0) ∧ w'.cell? ⟨w0.heap.size + 1 + 1, 2, none⟩ = some (.int .i64 0) ∧ w'.frozen? ⟨w0.heap.size + 1 + 1, 0, none⟩ = false ∧ w'.frozen? ⟨w0.heap.size + 1 + 1, 1, none⟩ = false ∧ w'.frozen? ⟨w0.heap.size + 1 + 1, 2, none⟩ = false
theorem ThS.mk {w0 : World} {n x y n' x' y' : Int} {w' : World} (h0 : w'.heap[w0.heap.size]? = some (.cells #[.int .i64 n, .int .i64 x, .int .i64 y] 35 (0, 0))) (h1 : w'.heap[w0.heap.size + 1]? = some (.cells #[.int .i64 n', .int .i64 x', .int .i64 y'] 35 (0, 0))) (h2 : w'.heap[w0.heap.size + 1 + 1]? = some (.cells #[.int .i64 0, .int .i64 0, .int .i64 0] 35 (0, 0))) (hB : Below w0.heap.size w0 w') : ThS w0 n x y n' x' y' w' :=
  ⟨⟨h0⟩, ⟨h1⟩, ⟨h2⟩, ⟨hB⟩, blk_cell h0 0, blk_cell h0 1, blk_cell h0 2, blk_cell h1 0, blk_cell h1 1, blk_cell h1 2, blk_cell h2 0, blk_cell h2 1, blk_cell h2 2, blk_frozen h2 0, blk_frozen h2 1, blk_frozen h2 2⟩
theorem ThS.keep {w0 : World} {n x y n' x' y' : Int} {w1 w2 : World} (h : ThS w0 n x y n' x' y' w1) (hb : Below w1.heap.size w1 w2) : ThS w0 n x y n' x' y' w2 :=
  ThS.mk (blk_keep h.1.out hb) (blk_keep h.2.1.out hb) (blk_keep h.2.2.1.out hb) (below_step h.2.2.2.1.out hb)
theorem ThS.drew {w0 : World} {n x y n' x' y' : Int} {w1 : World} (h : ThS w0 n x y n' x' y' w1) : ThS w0 n x y n' x' y' w1.drew :=
  ThS.mk h.1.out h.2.1.out h.2.2.1.out (below_drew h.2.2.2.1.out)
def cadd (x y : Int × Int) : Int × Int := (x.1 + y.1, x.2 + y.2)
/-- Motions one behind the other: the addend. -/
def thenBy (x y n' x' y' : Int) : Int × Int := ((cm (fx x, fx y) (ip (qt n'))).1 + fx x', (cm (fx x, fx y) (ip (qt n'))).2 + fx y')
theorem cm_ip (a b : Nat) (ha : a < 4) (hb : b < 4) : cm (ip a) (ip b) = ip ((a + b) % 4) := by
  have h1 : a = 0 ∨ a = 1 ∨ a = 2 ∨ a = 3 := by omega
  have h2 : b = 0 ∨ b = 1 ∨ b = 2 ∨ b = 3 := by omega
  rcases h1 with h | h | h | h <;> rcases h2 with h' | h' | h' | h' <;> rw [h, h'] <;> decide
set_option maxHeartbeats 1000000 in
set_option maxRecDepth 100000 in
theorem mthenm_calls (n x y n' x' y' : Int) (w : World) : Calls Try.prog 36 #[.agg #[.int .i64 n, .int .i64 x, .int .i64 y], .agg #[.int .i64 n', .int .i64 x', .int .i64 y']] w (MotPost ((qt n + qt n') % 4 : Nat) (thenBy x y n' x' y').1 (thenBy x y n' x' y').2 w) := by
  have HO := fun W => Aside0.mk (mof_calls n x y W)
  have HO' := fun W => Aside0.mk (mof_calls n' x' y' W)
  have HQ := fun (a b c d a' b' c' d' : Nat) (h : MV a b c d (ip (qt n)) (fx x, fx y)) (h' : MV a' b' c' d' (ip (qt n')) (fx x', fx y')) W => Aside0.mk (show Calls Try.prog 62 #[mv a b c d, mv a' b' c' d'] W (MovePost (ip ((qt n + qt n') % 4)) (thenBy x y n' x' y') W) from by
    have h2 := mthen_calls a b c d a' b' c' d' _ _ _ _ W h h' (near_ip _) (near_ip _) (near_le (near_fx x y) (by decide)) (near_le (near_fx x' y') (by decide))
    rw [cm_ip _ _ (qt_lt n) (qt_lt n')] at h2
    exact h2)
  have nb : near 4000000000 (thenBy x y n' x' y') := by
    have h0 := near_cm (near_fx x y) (near_ip (qt n'))
    have h3 := fx_le x'
    have h4 := fx_le y'
    have h5 := h0.1
    have h6 := h0.2
    exact ⟨by unfold thenBy; simp only []; omega, by unfold thenBy; simp only []; omega⟩
  have HP := fun (a b c d : Nat) (h : MV a b c d (ip ((qt n + qt n') % 4)) (thenBy x y n' x' y')) W => Aside0.mk (motion_calls a b c d ((qt n + qt n') % 4) (thenBy x y n' x' y') W (by omega) h nb)
  clear nb
  obtain ⟨q, hq⟩ : ∃ q : Nat, (qt n + qt n') % 4 = q := ⟨_, rfl⟩
  obtain ⟨⟨F1, F2⟩, hF⟩ : ∃ F, thenBy x y n' x' y' = F := ⟨_, rfl⟩
  rw [hq, hF] at HQ HP
  rw [hq, hF]
  simp only [] at HP
  clear hq hF
  have HS : ThS w n x y n' x' y' (((w.alloc (.cells #[.int .i64 n, .int .i64 x, .int .i64 y] 35)).alloc (.cells #[.int .i64 n', .int .i64 x', .int .i64 y'] 35)).alloc (.cells #[.int .i64 0, .int .i64 0, .int .i64 0] 35)) := ThS.mk (blk_keep (blk_keep (blk_new w _) (below_alloc (Below.refl _ _) _)) (below_alloc (Below.refl _ _) _)) (blk_keep (move_new2 w _ _) (below_alloc (Below.refl _ _) _)) (move_new3 w _ _ _) (below_alloc (below_alloc (below_alloc (Below.refl _ _) _) _) _)
  go_enter Try.func36, Try.ntmps36
  go_wp2
  refine start_ (n := 7) (S := ThS w n x y n' x' y') (ds := [6]) #[false, false, false, false, false, false, false] (by kernel_rfl) rfl rfl (ThS.drew HS) (fun hHeld => ?_)
  clear HS
  refine take_ (i := 0) (N := some 5) (v := ?_) (a' := ?_) #[true, false, false, false, false, false, false] rfl rfl (by kernel_rfl) (fun _ _ _ h => h) (Or.inl ⟨by rfl, ?_⟩) hHeld ?_ ?_
  rotate_left
  · rintro w' ⟨_, _, _, _, k1, k2, k3, k4, k5, k6, k7, k8, k9, k10, k11, k12⟩
    go_simp
    with_reducible rfl
  rotate_left
  · simp only [Act.put, List.setIfInBounds_toArray, List.set_cons_zero, List.set_cons_succ]
    rfl
  refine take_ (i := 2) (N := some 7) (v := ?_) (a' := ?_) #[true, false, true, false, false, false, false] rfl rfl (by kernel_rfl) (fun _ _ _ h => h) (Or.inl ⟨by rfl, ?_⟩) hHeld ?_ ?_
  rotate_left
  · rintro w' ⟨_, _, _, _, k1, k2, k3, k4, k5, k6, k7, k8, k9, k10, k11, k12⟩
    go_simp
    with_reducible rfl
  rotate_left
  · simp only [Act.put, List.setIfInBounds_toArray, List.set_cons_zero, List.set_cons_succ]
    rfl
  refine one_ (i := 1) (N := some 6) #[true, true, true, false, false, false, false] rfl rfl (by kernel_rfl) (by decide) (fun K hK => ?_)
  refine goes_ Try.func58 (by kernel_rfl) rfl #[.agg #[.int .i64 n, .int .i64 x, .int .i64 y]] (by rfl) rfl rfl (by (try simp only [List.map_toArray, List.map_cons, List.map_nil]); first | done | rfl) ?_
  with_reducible refine ((HO _).out).mono ?_
  rintro e w2 ⟨a, b, c, d, rfl, h1, hb⟩
  refine ⟨_, rfl, ?_⟩
  have hHeld2 := ThS.keep hHeld hb
  clear hHeld hb
  refine hK.out _ _ hHeld2 (fun hHeld => ?_)
  clear hK hHeld2
  refine norm_ (a' := ?_) ?_ ?_
  rotate_left
  · show Act.put _ (some 6) _ = _
    simp only [Act.put, List.setIfInBounds_toArray, List.set_cons_zero, List.set_cons_succ]
    rfl
  have H1 := Aside0.mk h1; clear h1
  refine one_ (i := 3) (N := some 8) #[true, true, true, true, false, false, false] rfl rfl (by kernel_rfl) (by decide) (fun K hK => ?_)
  refine goes_ Try.func58 (by kernel_rfl) rfl #[.agg #[.int .i64 n', .int .i64 x', .int .i64 y']] (by rfl) rfl rfl (by (try simp only [List.map_toArray, List.map_cons, List.map_nil]); first | done | rfl) ?_
  with_reducible refine ((HO' _).out).mono ?_
  rintro e w2 ⟨a', b', c', d', rfl, h1, hb⟩
  refine ⟨_, rfl, ?_⟩
  have hHeld2 := ThS.keep hHeld hb
  clear hHeld hb
  refine hK.out _ _ hHeld2 (fun hHeld => ?_)
  clear hK hHeld2
  refine norm_ (a' := ?_) ?_ ?_
  rotate_left
  · show Act.put _ (some 8) _ = _
    simp only [Act.put, List.setIfInBounds_toArray, List.set_cons_zero, List.set_cons_succ]
    rfl
  have H2 := Aside0.mk h1; clear h1
  refine one_ (i := 4) (N := some 9) #[true, true, true, true, true, false, false] rfl rfl (by kernel_rfl) (by decide) (fun K hK => ?_)
  refine goes_ Try.func62 (by kernel_rfl) rfl #[mv a b c d, mv a' b' c' d'] (by rfl) rfl rfl (by (try simp only [List.map_toArray, List.map_cons, List.map_nil]); first | done | rfl) ?_
  with_reducible refine ((HQ _ _ _ _ _ _ _ _ H1.out H2.out _).out).mono ?_
  rintro e w2 ⟨e1, e2, e3, e4, rfl, h1, hb⟩
  refine ⟨_, rfl, ?_⟩
  have hHeld2 := ThS.keep hHeld hb
  clear hHeld hb
  refine hK.out _ _ hHeld2 (fun hHeld => ?_)
  clear hK hHeld2
  refine norm_ (a' := ?_) ?_ ?_
  rotate_left
  · show Act.put _ (some 9) _ = _
    simp only [Act.put, List.setIfInBounds_toArray, List.set_cons_zero, List.set_cons_succ]
    rfl
  have H3 := Aside0.mk h1; clear h1
  refine one_ (i := 5) (N := some 10) #[true, true, true, true, true, true, false] rfl rfl (by kernel_rfl) (by decide) (fun K hK => ?_)
  refine goes_ Try.func59 (by kernel_rfl) rfl #[mv e1 e2 e3 e4] (by rfl) rfl rfl (by (try simp only [List.map_toArray, List.map_cons, List.map_nil]); first | done | rfl) ?_
  with_reducible refine ((HP _ _ _ _ H3.out _).out).mono ?_
  rintro e w2 ⟨rfl, hb⟩
  refine ⟨_, rfl, ?_⟩
  have hHeld2 := ThS.keep hHeld hb
  clear hHeld hb
  refine hK.out _ _ hHeld2 (fun hHeld => ?_)
  clear hK hHeld2
  refine norm_ (a' := ?_) ?_ ?_
  rotate_left
  · show Act.put _ (some 10) _ = _
    simp only [Act.put, List.setIfInBounds_toArray, List.set_cons_zero, List.set_cons_succ]
    rfl
  refine last_ (i := 6) (N := none) #[true, true, true, true, true, true, true] rfl rfl (by kernel_rfl) (by decide) (fun K hK => ?_)
  obtain ⟨H0, H1, H2, HB, k1, k2, k3, k4, k5, k6, k7, k8, k9, k10, k11, k12⟩ := hHeld
  rw [if_pos (by rfl)]
  go_wp2
  refine hK.out _ _ ?_
  refine done_ (by kernel_rfl) ?_
  go_wp2
  refine bodyPost_ret (results_cell_row rfl _ _ (w.heap.size + 1 + 1) 35 #[.int .i64 q, .int .i64 F1, .int .i64 F2] (0, 0) _ rfl (blk_put (cs := #[.int .i64 q, .int .i64 F1, .int .i64 0]) (blk_put (cs := #[.int .i64 q, .int .i64 0, .int .i64 0]) (blk_put (cs := #[.int .i64 0, .int .i64 0, .int .i64 0]) H2.out 0 _ rfl) 1 _ rfl) 2 _ rfl) Try.underlying35 rfl (by kernel_rfl)) rfl ?_
  exact ⟨rfl, below_set (below_set (below_set HB.out (by omega)) (by omega)) (by omega)⟩
end Go.Proofs.Ytbkcdfiokjhcjaa.P
end

section
/- Motions: Do. -/
namespace Go.Proofs.Ytbkcdfiokjhcjaa.P
open Go.Proofs.Ytbkcdfiokjhcjaa.B Go.RowKit Go.Proofs.YtbkcdfiokjhcjaaW.PrintWords Go.Proofs.YtbkcdfiokjhcjaaW.PrintLast Go.Proofs.YtbkcdfiokjhcjaaW.PrintMore Go.Proofs.Ytbkcdfiokjhcjaa.FX Go.Proofs.Ytbkcdfiokjhcjaa.H
set_option linter.unusedVariables false
set_option linter.unusedSimpArgs false
attribute [local go_sem] run_store_complex
abbrev DoS (w0 : World) (g : Nat) (a b c d : Nat) (u v : Int) (w' : World) : Prop :=
  Aside0 (w'.heap[w0.heap.size + 1]? = some (.cells #[.int .i64 u, .int .i64 v] 23 (0, 0))) ∧ Aside0 (w'.heap[w0.heap.size + 1 + 1]? = some (.cells #[.int .i64 0, .int .i64 0] 23 (0, 0))) ∧ Aside0 (w'.heap[g]? = some (.cells #[.complex .f64 a b, .complex .f64 c d] 61 (0, 0))) ∧ Aside0 (Below w0.heap.size w0 w') ∧ w'.cell? ⟨w0.heap.size + 1, 0, none⟩ = some (.int .i64 u) ∧ w'.cell? ⟨w0.heap.size + 1, 1, none⟩ = some (.int .i64 v) ∧ w'.cell? ⟨w0.heap.size + 1 + 1, 0, none⟩ = some (.int .i64 0) ∧ w'.cell? ⟨w0.heap.size + 1 + 1, 1, none⟩ = some (.int .i64 0) ∧ w'.cell? ⟨g, 0, none⟩ = some (.complex .f64 a b) ∧ w'.cell? ⟨g, 1, none⟩ = some (.complex .f64 c d) ∧ w'.frozen? ⟨w0.heap.size + 1 + 1, 0, none⟩ = false ∧ w'.frozen? ⟨w0.heap.size + 1 + 1, 1, none⟩ = false
theorem DoS.mk {w0 : World} {g : Nat} {a b c d : Nat} {u v : Int} {w' : World} (h0 : w'.heap[w0.heap.size + 1]? = some (.cells #[.int .i64 u, .int .i64 v] 23 (0, 0))) (h1 : w'.heap[w0.heap.size + 1 + 1]? = some (.cells #[.int .i64 0, .int .i64 0] 23 (0, 0))) (h2 : w'.heap[g]? = some (.cells #[.complex .f64 a b, .complex .f64 c d] 61 (0, 0))) (hB : Below w0.heap.size w0 w') : DoS w0 g a b c d u v w' :=
  ⟨⟨h0⟩, ⟨h1⟩, ⟨h2⟩, ⟨hB⟩, blk_cell h0 0, blk_cell h0 1, blk_cell h1 0, blk_cell h1 1, blk_cell h2 0, blk_cell h2 1, blk_frozen h1 0, blk_frozen h1 1⟩
theorem DoS.keep {w0 : World} {g : Nat} {a b c d : Nat} {u v : Int} {w1 w2 : World} (h : DoS w0 g a b c d u v w1) (hb : Below w1.heap.size w1 w2) : DoS w0 g a b c d u v w2 :=
  DoS.mk (blk_keep h.1.out hb) (blk_keep h.2.1.out hb) (blk_keep h.2.2.1.out hb) (below_step h.2.2.2.1.out hb)
theorem DoS.drew {w0 : World} {g : Nat} {a b c d : Nat} {u v : Int} {w1 : World} (h : DoS w0 g a b c d u v w1) : DoS w0 g a b c d u v w1.drew :=
  DoS.mk h.1.out h.2.1.out h.2.2.1.out (below_drew h.2.2.2.1.out)
/-- Where a motion brings a point. -/
def doBy (n x y u v : Int) : Int × Int := ((cm (fx u, fx v) (ip (qt n))).1 + fx x, (cm (fx u, fx v) (ip (qt n))).2 + fx y)
set_option maxHeartbeats 1000000 in
set_option maxRecDepth 100000 in
theorem mdo_calls (n x y u v : Int) (w : World) : Calls Try.prog 34 #[.agg #[.int .i64 n, .int .i64 x, .int .i64 y], .agg #[.int .i64 u, .int .i64 v]] w (AggPost (doBy n x y u v).1 (doBy n x y u v).2 w) := by
  have HO := fun W => Aside0.mk (mof_calls n x y W)
  obtain ⟨⟨D1, D2⟩, hD⟩ : ∃ F, doBy n x y u v = F := ⟨_, rfl⟩
  obtain ⟨U, hU⟩ : ∃ F, fx u = F := ⟨_, rfl⟩
  obtain ⟨V, hV⟩ : ∃ F, fx v = F := ⟨_, rfl⟩
  have HF := fun W => Aside0.mk (show Calls Try.prog 19 #[.agg #[.int .i64 u, .int .i64 v]] W fun e w' => e = .returned (.agg #[.int .i64 U, .int .i64 V]) ∧ Below W.heap.size W w' from by
    have h := fix_calls u v W
    rw [hU, hV] at h
    exact h)
  have bU := fx_le u
  have bV := fx_le v
  rw [hU] at bU
  rw [hV] at bV
  have HPL := fun W => Aside0.mk (mplane_calls U V W)
  have HR := fun (a b c d : Nat) (h : MV a b c d (ip (qt n)) (fx x, fx y)) => Aside0.mk (show ∃ r1 i1 r2 i2, (∀ W : World, (binOp .mul 53 (.complex .f64 (floatOfInt .f64 U) (floatOfInt .f64 V)) (.complex .f64 a b)).run Try.prog W = .ok (.complex .f64 r1 i1) W) ∧ (∀ W : World, (binOp .add 53 (.complex .f64 r1 i1) (.complex .f64 c d)).run Try.prog W = .ok (.complex .f64 r2 i2) W) ∧ ∀ W : World, Calls Try.prog 60 #[.complex .f64 r2 i2] W (AggPost D1 D2 W) from by
    obtain ⟨ha, hb, hc, hd⟩ := h
    have hu := near_ip (qt n)
    have hp : near 1048576 (U, V) := ⟨by simp only []; omega, by simp only []; omega⟩
    have n5 := near_mul hp.1 hu.1; have n6 := near_mul hp.2 hu.2; have n7 := near_mul hp.1 hu.2; have n8 := near_mul hp.2 hu.1
    simp only [] at n5 n6 n7 n8
    have q1 := fx_le x
    have q2 := fx_le y
    simp only [] at hc hd
    obtain ⟨r1, i1, hr1, hi1, k1⟩ := cmul_run (isF_of U (by omega)) (isF_of V (by omega)) ha hb (by omega) (by omega) (by omega) (by omega)
    obtain ⟨r2, i2, hr2, hi2, k2⟩ := cadd_run hr1 hi1 hc hd (by omega) (by omega)
    have e := hD
    unfold doBy at e
    rw [hU, hV] at e
    injection e with e1 e2
    refine ⟨r1, i1, r2, i2, fun W => k1 Try.prog 53 W, fun W => k2 Try.prog 53 W, fun W => ?_⟩
    unfold cm at e1 e2
    simp only [] at e1 e2
    rw [e1] at hr2
    rw [e2] at hi2
    exact mpoint_at W hr2 hi2 (by omega) (by omega))
  rw [hD]
  simp only []
  clear hD hU hV bU bV
  go_enter Try.func34, Try.ntmps34
  go_wp2_with (go_at_call 58; (with_reducible refine ((HO _).out).mono ?_); rintro e w1 ⟨a, b, c, d, rfl, hMV, hb1⟩; have HB1 := Aside0.mk hb1; have HMV := Aside0.mk hMV; clear hb1 hMV)
  obtain ⟨r1, i1, r2, i2, e1, e2, hpt⟩ := (HR a b c d HMV.out).out
  have HPT := fun W => Aside0.mk (hpt W)
  clear HR HMV hpt
  have HS : DoS w w1.heap.size a b c d u v (w1.alloc (.cells #[.complex .f64 a b, .complex .f64 c d] 61)) := DoS.mk (blk_keep (blk_keep (blk_keep (move_new2 w _ _) (below_alloc (Below.refl _ _) _)) HB1.out) (below_alloc (Below.refl _ _) _)) (blk_keep (blk_keep (move_new3 w _ _ _) HB1.out) (below_alloc (Below.refl _ _) _)) (blk_new w1 _) (below_step (below_step (below_alloc (below_alloc (below_alloc (Below.refl _ _) _) _) _) HB1.out) (below_alloc (Below.refl _ _) _))
  clear HB1
  generalize w1.heap.size = g at HS ⊢
  generalize w1.alloc (.cells #[.complex .f64 a b, .complex .f64 c d] 61) = w2 at HS ⊢
  refine start_ (n := 11) (S := DoS w g a b c d u v) (ds := [10]) #[false, false, false, false, false, false, false, false, false, false, false] (by kernel_rfl) rfl rfl (DoS.drew HS) (fun hHeld => ?_)
  clear HS
  refine take_ (i := 0) (N := some 8) (v := ?_) (a' := ?_) #[true, false, false, false, false, false, false, false, false, false, false] rfl rfl (by kernel_rfl) (fun _ _ _ h => h) (Or.inl ⟨by rfl, ?_⟩) hHeld ?_ ?_
  rotate_left
  · rintro w' ⟨_, _, _, _, k1, k2, k3, k4, k5, k6, k7, k8⟩
    go_simp
    with_reducible rfl
  rotate_left
  · simp only [Act.put, List.setIfInBounds_toArray, List.set_cons_zero, List.set_cons_succ]
    rfl
  refine pure_ (i := 3) (N := some 11) (v := ?_) (a' := ?_) #[true, false, false, true, false, false, false, false, false, false, false] rfl rfl (by kernel_rfl) (fun _ _ _ h => h) (Or.inl ⟨by rfl, ?_⟩) ?_ ?_
  rotate_left
  · intro w'
    go_simp
    with_reducible rfl
  rotate_left
  · simp only [Act.put, List.setIfInBounds_toArray, List.set_cons_zero, List.set_cons_succ]
    rfl
  refine take_ (i := 4) (N := some 12) (v := ?_) (a' := ?_) #[true, false, false, true, true, false, false, false, false, false, false] rfl rfl (by kernel_rfl) (fun _ _ _ h => h) (Or.inl ⟨by rfl, ?_⟩) hHeld ?_ ?_
  rotate_left
  · rintro w' ⟨_, _, _, _, k1, k2, k3, k4, k5, k6, k7, k8⟩
    go_simp
    with_reducible rfl
  rotate_left
  · simp only [Act.put, List.setIfInBounds_toArray, List.set_cons_zero, List.set_cons_succ]
    rfl
  refine pure_ (i := 6) (N := some 14) (v := ?_) (a' := ?_) #[true, false, false, true, true, false, true, false, false, false, false] rfl rfl (by kernel_rfl) (fun _ _ _ h => h) (Or.inl ⟨by rfl, ?_⟩) ?_ ?_
  rotate_left
  · intro w'
    go_simp
    with_reducible rfl
  rotate_left
  · simp only [Act.put, List.setIfInBounds_toArray, List.set_cons_zero, List.set_cons_succ]
    rfl
  refine take_ (i := 7) (N := some 15) (v := ?_) (a' := ?_) #[true, false, false, true, true, false, true, true, false, false, false] rfl rfl (by kernel_rfl) (fun _ _ _ h => h) (Or.inl ⟨by rfl, ?_⟩) hHeld ?_ ?_
  rotate_left
  · rintro w' ⟨_, _, _, _, k1, k2, k3, k4, k5, k6, k7, k8⟩
    go_simp
    with_reducible rfl
  rotate_left
  · simp only [Act.put, List.setIfInBounds_toArray, List.set_cons_zero, List.set_cons_succ]
    rfl
  refine one_ (i := 1) (N := some 9) #[true, true, false, true, true, false, true, true, false, false, false] rfl rfl (by kernel_rfl) (by decide) (fun K hK => ?_)
  refine goes_ Try.func19 (by kernel_rfl) rfl #[.agg #[.int .i64 u, .int .i64 v]] (by rfl) rfl rfl (by (try simp only [List.map_toArray, List.map_cons, List.map_nil]); first | done | rfl) ?_
  with_reducible refine ((HF _).out).mono ?_
  rintro e w2 ⟨rfl, hb⟩
  refine ⟨_, rfl, ?_⟩
  have hHeld2 := DoS.keep hHeld hb
  clear hHeld hb
  refine hK.out _ _ hHeld2 (fun hHeld => ?_)
  clear hK hHeld2
  refine norm_ (a' := ?_) ?_ ?_
  rotate_left
  · show Act.put _ (some 9) _ = _
    simp only [Act.put, List.setIfInBounds_toArray, List.set_cons_zero, List.set_cons_succ]
    rfl
  refine one_ (i := 2) (N := some 10) #[true, true, true, true, true, false, true, true, false, false, false] rfl rfl (by kernel_rfl) (by decide) (fun K hK => ?_)
  refine goes_ Try.func61 (by kernel_rfl) rfl #[.agg #[.int .i64 U, .int .i64 V]] (by rfl) rfl rfl (by (try simp only [List.map_toArray, List.map_cons, List.map_nil]); first | done | rfl) ?_
  with_reducible refine ((HPL _).out).mono ?_
  rintro e w2 ⟨rfl, hb⟩
  refine ⟨_, rfl, ?_⟩
  have hHeld2 := DoS.keep hHeld hb
  clear hHeld hb
  refine hK.out _ _ hHeld2 (fun hHeld => ?_)
  clear hK hHeld2
  refine norm_ (a' := ?_) ?_ ?_
  rotate_left
  · show Act.put _ (some 10) _ = _
    simp only [Act.put, List.setIfInBounds_toArray, List.set_cons_zero, List.set_cons_succ]
    rfl
  refine pure_ (i := 5) (N := some 13) (v := ?_) (a' := ?_) #[true, true, true, true, true, true, true, true, false, false, false] rfl rfl (by kernel_rfl) (fun _ _ _ h => h) (Or.inl ⟨by rfl, ?_⟩) ?_ ?_
  rotate_left
  · intro w'
    go_simp
    with_reducible rfl
  rotate_left
  · simp only [Act.put, List.setIfInBounds_toArray, List.set_cons_zero, List.set_cons_succ]
    rfl
  refine pure_ (i := 8) (N := some 16) (v := ?_) (a' := ?_) #[true, true, true, true, true, true, true, true, true, false, false] rfl rfl (by kernel_rfl) (fun _ _ _ h => h) (Or.inl ⟨by rfl, ?_⟩) ?_ ?_
  rotate_left
  · intro w'
    go_simp
    with_reducible rfl
  rotate_left
  · simp only [Act.put, List.setIfInBounds_toArray, List.set_cons_zero, List.set_cons_succ]
    rfl
  refine one_ (i := 9) (N := some 17) #[true, true, true, true, true, true, true, true, true, true, false] rfl rfl (by kernel_rfl) (by decide) (fun K hK => ?_)
  refine goes_ Try.func60 (by kernel_rfl) rfl #[.complex .f64 r2 i2] (by rfl) rfl rfl (by (try simp only [List.map_toArray, List.map_cons, List.map_nil]); first | done | rfl) ?_
  with_reducible refine ((HPT _).out).mono ?_
  rintro e w2 ⟨rfl, hb⟩
  refine ⟨_, rfl, ?_⟩
  have hHeld2 := DoS.keep hHeld hb
  clear hHeld hb
  refine hK.out _ _ hHeld2 (fun hHeld => ?_)
  clear hK hHeld2
  refine norm_ (a' := ?_) ?_ ?_
  rotate_left
  · show Act.put _ (some 17) _ = _
    simp only [Act.put, List.setIfInBounds_toArray, List.set_cons_zero, List.set_cons_succ]
    rfl
  refine last_ (i := 10) (N := none) #[true, true, true, true, true, true, true, true, true, true, true] rfl rfl (by kernel_rfl) (by decide) (fun K hK => ?_)
  obtain ⟨H0, H1, H2, HB, k1, k2, k3, k4, k5, k6, k7, k8⟩ := hHeld
  rw [if_pos (by rfl)]
  go_wp2
  refine hK.out _ _ ?_
  refine done_ (by kernel_rfl) ?_
  go_wp2
  refine bodyPost_ret (results_cell_row rfl _ _ (w.heap.size + 1 + 1) 23 #[.int .i64 D1, .int .i64 D2] (0, 0) _ rfl (blk_put (cs := #[.int .i64 D1, .int .i64 0]) (blk_put (cs := #[.int .i64 0, .int .i64 0]) H1.out 0 _ rfl) 1 _ rfl) Try.underlying23 rfl (by kernel_rfl)) rfl ?_
  exact ⟨rfl, below_set (below_set HB.out (by omega)) (by omega)⟩
end Go.Proofs.Ytbkcdfiokjhcjaa.P
end

section
/- Motions: Times. -/
namespace Go.Proofs.Ytbkcdfiokjhcjaa.P
open Go.Proofs.Ytbkcdfiokjhcjaa.B Go.RowKit Go.Proofs.YtbkcdfiokjhcjaaW.PrintWords Go.Proofs.YtbkcdfiokjhcjaaW.PrintLast Go.Proofs.YtbkcdfiokjhcjaaW.PrintMore Go.Proofs.Ytbkcdfiokjhcjaa.FX Go.Proofs.Ytbkcdfiokjhcjaa.H
set_option linter.unusedVariables false
set_option linter.unusedSimpArgs false
attribute [local go_sem] max2_int min2_int max_two min_two
/-- One motion behind another one. -/
def mstep (a m : Int × Int × Int) : Int × Int × Int := (((qt a.1 + qt m.1) % 4 : Nat), thenBy a.2.1 a.2.2 m.1 m.2.1 m.2.2)
def mtimes (m : Int × Int × Int) : Nat → Int × Int × Int
  | 0 => (0, 0, 0)
  | k + 1 => mstep (mtimes m k) m
def tcount (n : Int) : Nat := (min (max n 0) 1000).toNat
abbrev mo (m : Int × Int × Int) : Value := .agg #[.int .i64 m.1, .int .i64 m.2.1, .int .i64 m.2.2]
abbrev mcells (m : Int × Int × Int) : Obj := .cells #[.int .i64 m.1, .int .i64 m.2.1, .int .i64 m.2.2] 35 (0, 0)
abbrev TiS (w0 : World) (m o : Int × Int × Int) (w' : World) : Prop :=
  Aside0 (w'.heap[w0.heap.size]? = some (mcells m)) ∧ Aside0 (w'.heap[w0.heap.size + 1]? = some (mcells (0, 0, 0))) ∧ Aside0 (w'.heap[w0.heap.size + 1 + 1]? = some (mcells o)) ∧ Aside0 (Below w0.heap.size w0 w')
theorem mstep_calls (a m : Int × Int × Int) (w : World) : Calls Try.prog 36 #[mo a, mo m] w fun e w' => e = .returned (mo (mstep a m)) ∧ Below w.heap.size w w' := by
  obtain ⟨a1, a2, a3⟩ := a
  obtain ⟨m1, m2, m3⟩ := m
  exact mthenm_calls a1 a2 a3 m1 m2 m3 w
theorem far3 {W : World} {a b : Nat} {o : Obj} (h : W.heap[b]? = some o) (hne : a ≠ b) (v1 v2 v3 : Value) : (((W.setCell ⟨a, 0, none⟩ v1).setCell ⟨a, 1, none⟩ v2).setCell ⟨a, 2, none⟩ v3).heap[b]? = some o := by
  rw [Below.heap_setCell _ _ _ b (fun e => hne e.symm), Below.heap_setCell _ _ _ b (fun e => hne e.symm), Below.heap_setCell _ _ _ b (fun e => hne e.symm)]; exact h
theorem cells3 {W : World} {g : Nat} {o o2 : Int × Int × Int} (h : W.heap[g]? = some (mcells o)) : (((W.setCell ⟨g, 0, none⟩ (.int .i64 o2.1)).setCell ⟨g, 1, none⟩ (.int .i64 o2.2.1)).setCell ⟨g, 2, none⟩ (.int .i64 o2.2.2)).heap[g]? = some (mcells o2) :=
  blk_put (cs := #[.int .i64 o2.1, .int .i64 o2.2.1, .int .i64 o.2.2]) (blk_put (cs := #[.int .i64 o2.1, .int .i64 o.2.1, .int .i64 o.2.2]) (blk_put h 0 _ rfl) 1 _ rfl) 2 _ rfl
set_option maxHeartbeats 1000000 in
set_option maxRecDepth 100000 in
theorem mtimes_calls (m : Int × Int × Int) (n : Int) (w : World) : Calls Try.prog 41 #[mo m, .int .i64 n] w fun e w' => e = .returned (mo (mtimes m (tcount n))) ∧ Below w.heap.size w w' := by
  have HS := fun a W => Aside0.mk (mstep_calls a m W)
  have hct : min (max n 0) 1000 = ((tcount n : Nat) : Int) := by unfold tcount; omega
  generalize tcount n = c at hct ⊢
  go_enter Try.func41, Try.ntmps41
  go_wp2
  all_goals
    have HT : TiS w m (mtimes m 0) (((w.alloc (mcells m)).alloc (mcells (0, 0, 0))).alloc (mcells (0, 0, 0))) := ⟨⟨blk_keep (blk_keep (blk_new w _) (below_alloc (Below.refl _ _) _)) (below_alloc (Below.refl _ _) _)⟩, ⟨blk_keep (move_new2 w _ _) (below_alloc (Below.refl _ _) _)⟩, ⟨move_new3 w _ _ _⟩, ⟨below_alloc (below_alloc (below_alloc (Below.refl _ _) _) _) _⟩⟩
    go_loopw [11] (fun v11 wr => ∃ (k : Nat), k ≤ c ∧ v11 = .int .i64 k ∧ TiS w m (mtimes m k) wr) (fun v11 _ => c - (intOf v11).toNat)
    case atStart => exact ⟨0, by omega, rfl, HT⟩
    case round =>
      obtain ⟨k, hk, rfl, H1, H2, H3, HB⟩ := hrel
      clear HT
      by_cases hlt : k < c
      · first
        | (exfalso; omega; done)
        | (have e1 : mstep (mtimes m k) m = mtimes m (k + 1) := rfl
           have HC := fun W => Aside0.mk (show Calls Try.prog 36 #[mo (mtimes m k), mo m] W fun e w' => e = .returned (mo (mtimes m (k + 1))) ∧ Below W.heap.size W w' from by rw [← e1]; exact (HS (mtimes m k) W).out)
           clear HS e1
           obtain ⟨o2, ho2⟩ : ∃ o, mtimes m (k + 1) = o := ⟨_, rfl⟩
           obtain ⟨o1, ho1⟩ : ∃ o, mtimes m k = o := ⟨_, rfl⟩
           rw [ho1, ho2] at HC
           rw [ho1] at H3
           clear ho1
           have c0 := blk_cell H1.out 0
           have c1 := blk_cell H1.out 1
           have c2 := blk_cell H1.out 2
           have d0 := blk_cell H3.out 0
           have d1 := blk_cell H3.out 1
           have d2 := blk_cell H3.out 2
           go_wp2_with (go_at_call 36; (with_reducible refine ((HC _).out).mono ?_); rintro e w2 ⟨rfl, hb2⟩; have H1b := Aside0.mk (blk_keep H1.out hb2); have H2b := Aside0.mk (blk_keep H2.out hb2); have H3b := Aside0.mk (blk_keep H3.out hb2); have d0 := blk_cell H3b.out 0; have d1 := blk_cell H3b.out 1; have d2 := blk_cell H3b.out 2; have f0 := blk_frozen H3b.out 0; have f1 := blk_frozen H3b.out 1; have f2 := blk_frozen H3b.out 2; have HBb := Aside0.mk (below_step HB.out hb2); clear hb2)
           refine ⟨⟨k + 1, by omega, rfl, ⟨far3 H1b.out (by omega) _ _ _⟩, ⟨far3 H2b.out (by omega) _ _ _⟩, ⟨?_⟩, ⟨below_set (below_set (below_set HBb.out (by omega)) (by omega)) (by omega)⟩⟩, by simp [intOf]; omega⟩
           rw [ho2]
           exact cells3 H3b.out)
      · obtain rfl : k = c := by omega
        clear HS
        obtain ⟨o1, ho1⟩ : ∃ o, mtimes m k = o := ⟨_, rfl⟩
        rw [ho1] at H3
        have d0 := blk_cell H3.out 0
        have d1 := blk_cell H3.out 1
        have d2 := blk_cell H3.out 2
        have t0 := blk_cell H2.out 0
        have t1 := blk_cell H2.out 1
        have t2 := blk_cell H2.out 2
        have f0 := blk_frozen H2.out 0
        have f1 := blk_frozen H2.out 1
        have f2 := blk_frozen H2.out 2
        go_wp2
        refine bodyPost_ret (results_cell_row rfl _ _ (w.heap.size + 1) 35 #[.int .i64 o1.1, .int .i64 o1.2.1, .int .i64 o1.2.2] (0, 0) _ rfl (cells3 H2.out) Try.underlying35 rfl (by kernel_rfl)) rfl ?_
        exact ⟨rfl, below_set (below_set (below_set HB.out (by omega)) (by omega)) (by omega)⟩
end Go.Proofs.Ytbkcdfiokjhcjaa.P
end
