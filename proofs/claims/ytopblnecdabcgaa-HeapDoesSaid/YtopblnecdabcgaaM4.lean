/- Several texts of this proof in one: what the law's functions come to, and the lemmas (some as the kit's print.sh printed them, what is not used struck). -/
import Derived.Test.YtopblnecdabcgaaM2
import Derived.Test.YtopblnecdabcgaaM3
import Derived.Deep.Slices
import Derived.ChangeArms
import Derived.Deep.Upon
import Derived.Deep.Cut
import Derived.Deep.CutRange
section
-- printed by the session's own call of print.py. Not trusted: Lean checks it.
namespace Go.Proofs.Ytopblnecdabcgaa.P
open Go.RowKit Go.Proofs.YtopblnecdabcgaaW.PrintWords Go.Proofs.YtopblnecdabcgaaW.PrintLast Go.Proofs.YtopblnecdabcgaaW.PrintMore
attribute [local go_sem] max2_int min2_int max_two min_two max_three min_three max_four min_four
set_option linter.unusedVariables false
set_option linter.unusedSimpArgs false
/-! ### tallymanref13_Put: function 23 -/
def tallymanref13_Put.l0 : Nat → List (S37) → Bool → List (S37) → Bool → Int → Int → Int → Int → Option ((List (S37)) × Bool)
  | 0, _, _, _, _, _, _, _, _ => none
  | k + 1, x6, x7, x8, x9, x10, x102000, x102001, x102002 => if x10 < (x6.length : Int) then (if x9 = true then (if 0 ≤ x10 then (if x8.length < 5864062014805 then (tallymanref13_Put.l0 k x6 x7 (x8 ++ [(⟨(rd_T37 x6 x10).f0, (rd_T37 x6 x10).f1, (rd_T37 x6 x10).f2⟩ : S37)]) x9 (wrap64 (x10 + 1)) x102000 x102001 x102002) else (none)) else (none)) else (if 0 ≤ x10 then ((tallymanref13_Ahead.f x102000 x102001 x102002 ((rd_T37 x6 x10).f0) ((rd_T37 x6 x10).f1) ((rd_T37 x6 x10).f2)).bind fun t111 => (if t111 = true then (if x8.length < 5864062014805 then ((some (x8 ++ [(⟨x102000, x102001, x102002⟩ : S37)] : List (S37))).bind fun y112 => (if y112.length < 5864062014805 then (tallymanref13_Put.l0 k x6 x7 (y112 ++ [(⟨(rd_T37 x6 x10).f0, (rd_T37 x6 x10).f1, (rd_T37 x6 x10).f2⟩ : S37)]) true (wrap64 (x10 + 1)) x102000 x102001 x102002) else (none))) else (none)) else (if x8.length < 5864062014805 then (tallymanref13_Put.l0 k x6 x7 (x8 ++ [(⟨(rd_T37 x6 x10).f0, (rd_T37 x6 x10).f1, (rd_T37 x6 x10).f2⟩ : S37)]) x9 (wrap64 (x10 + 1)) x102000 x102001 x102002) else (none)))) else (none))) else (if x9 = true then (some (x8, !x7)) else (if x8.length < 5864062014805 then (some ((x8 ++ [(⟨x102000, x102001, x102002⟩ : S37)]), !x7)) else (none)))
def tallymanref13_Put.f (k : Nat) (l0 : List (S37)) (a1_0 : Int) (a1_1 : Int) (a1_2 : Int) : Option ((List (S37)) × Bool) := (tallymanref13_Drop.f k l0 a1_0).bind fun bt102 => (tallymanref13_Put.l0 k bt102.1 bt102.2 ([] : List (S37)) false 0 a1_0 a1_1 a1_2)
theorem tallymanref13_Put.mono_l : ∀ k, (∀ y0 y1 y2 y3 y4 y5 y6 y7, LeO (tallymanref13_Put.l0 k y0 y1 y2 y3 y4 y5 y6 y7) (tallymanref13_Put.l0 (k + 1) y0 y1 y2 y3 y4 y5 y6 y7))
  | 0 => fun _ _ _ _ _ _ _ _ r h => by simp [tallymanref13_Put.l0] at h
  | k + 1 => by
    have ih0 := tallymanref13_Put.mono_l k
    · intro y0 y1 y2 y3 y4 y5 y6 y7
      unfold tallymanref13_Put.l0
      repeat' first
      | (with_reducible exact ih0 _ _ _ _ _ _ _ _)
      | (with_reducible exact tallymanref13_Drop.mono _ _ _)
      | (with_reducible exact LeO.refl _)
      | (with_reducible exact LeO.none _)
      | (with_reducible refine LeO.ite ?_ ?_)
      | (with_reducible refine LeO.bind ?_ (fun _ => ?_))
      | exact ih0 _ _ _ _ _ _ _ _
      | exact tallymanref13_Drop.mono _ _ _
      | exact LeO.none _
      | refine LeO.ite ?_ ?_
      | refine LeO.bind ?_ (fun _ => ?_)
theorem tallymanref13_Put.mono : ∀ a0 a1 a2 a3 k, LeO (tallymanref13_Put.f k a0 a1 a2 a3) (tallymanref13_Put.f (k + 1) a0 a1 a2 a3) := by
  intro a0 a1 a2 a3 k
  have ih0 := tallymanref13_Put.mono_l k
  unfold tallymanref13_Put.f
  repeat' first
      | (with_reducible exact ih0 _ _ _ _ _ _ _ _)
      | (with_reducible exact tallymanref13_Drop.mono _ _ _)
      | (with_reducible exact LeO.refl _)
      | (with_reducible exact LeO.none _)
      | (with_reducible refine LeO.ite ?_ ?_)
      | (with_reducible refine LeO.bind ?_ (fun _ => ?_))
      | exact ih0 _ _ _ _ _ _ _ _
      | exact tallymanref13_Drop.mono _ _ _
      | exact LeO.none _
      | refine LeO.ite ?_ ?_
      | refine LeO.bind ?_ (fun _ => ?_)
def tallymanref13_Put.T7 : Bool × List (List Nat × List Nat) := (true, [([], []), ([0], [0]), ([1], [1]), ([2], [2]), ([2], [2]), ([2], [2]), ([4, 5, 2], [2, 4, 5]), ([6, 2], [2, 6]), ([3, 7, 2, 2], [2, 3, 7]), ([2, 8], [2, 8])])
def tallymanref13_Put.B7 : List Nat := [0, 1, 3, 7, 7, 7, 55, 119, 255, 511]
theorem tallymanref13_Put.tab7 : rtab .any (opsOf Try.f23 7) = tallymanref13_Put.T7 := by kernel_rfl
theorem tallymanref13_Put.bits7 : waitsOk tallymanref13_Put.T7.2 tallymanref13_Put.B7 = true := by kernel_rfl
set_option maxHeartbeats 8000000 in
set_option maxRecDepth 100000 in
theorem tallymanref13_Put.calls (k : Nat) (A0 : Option Addr) (c0 : Nat) (l0 : List (S37)) (a1_0 : Int) (a1_1 : Int) (a1_2 : Int) (r1 : List (S37)) (r2 : Bool) (w : World) (hr0 : Kd.C k37 w A0 l0.length l0) (hc0 : l0.length ≤ c0) (h : tallymanref13_Put.f k l0 a1_0 a1_1 a1_2 = some (r1, r2)) :
    Calls Try.prog 23 #[.slice A0 l0.length c0, .agg #[.int .i64 a1_0, .int .i64 a1_1, .int .i64 a1_2]] w fun e w' => ∃ v0_ : Value, e = .returned (.tuple #[v0_, .bool r2]) ∧ Kd.R k37 37 w' w.heap.size (fun _ => True) v0_ r1 ∧ Below w.heap.size w w' := by
  have hu37 := Try.underlying37
  have HR0 := Aside0.mk hr0
  have HC0 := Aside0.mk hc0
  clear hr0 hc0
  have HB := Aside0.mk (Below.refl w.heap.size w)
  have H : ((tallymanref13_Drop.f k l0 a1_0).bind fun bt102 => (tallymanref13_Put.l0 k bt102.1 bt102.2 ([] : List (S37)) false 0 a1_0 a1_1 a1_2)) = some (r1, r2) := h
  clear h
  replace H := Option.bind_eq_some_iff.mp H
  obtain ⟨⟨t102, t103⟩, A30, H⟩ := H
  replace H : (tallymanref13_Put.l0 k t102 t103 ([] : List (S37)) false 0 a1_0 a1_1 a1_2) = some (r1, r2) := H
  have A3 := Aside0.mk A30
  clear A30
  have H' := Aside0.mk H
  clear H
  go_enter Try.func23, Try.ntmps23
  go_wp2_with (first | ((with_reducible refine gate_dst (N := 3) rfl ?_); refine box_event ?hg (N := 3) ?hd (cs := #[.int .i64 a1_0, .int .i64 a1_1, .int .i64 a1_2]) (t := 37) ?hr ?_; (case hd => rfl); (case hg => rfl); (case hr => first | (go_simp; done) | (go_simp; rfl)); intro gb101 hg w4 hbox hb; have n0_ := Aside0.mk (below_step (by repeat (first | (with_reducible first | exact HB.out | apply below_alloc | apply pw_below_drewN | apply below_drew1) | exact HB.out)) hb); have n1_ := Aside0.mk (hbox); have n2_ := Aside0.mk ((by rw [hg]; exact (below_size (by repeat (first | (with_reducible first | exact HB.out | apply below_alloc | apply pw_below_drewN | apply below_drew1) | exact HB.out))) : w.heap.size ≤ gb101)); have n3_ := Aside0.mk ((by rw [hg]; exact (below_size (by repeat (first | (with_reducible first | exact HB.out | apply below_alloc | apply pw_below_drewN | apply below_drew1) | exact HB.out))) : w.heap.size ≤ gb101)); clear HB; have HB := n0_; have BK101 := n1_; have GW101 := n2_; have GE101 := n3_; clear n0_ n1_ n2_ n3_; clear hb hbox hg; have hcz5_0 : w4.cell? ⟨gb101, 0, none⟩ = some (.int .i64 a1_0) := (blk_cell BK101.out 0).trans rfl; have hcz5_1 : w4.cell? ⟨gb101, 1, none⟩ = some (.int .i64 a1_1) := (blk_cell BK101.out 1).trans rfl; have hcz5_2 : w4.cell? ⟨gb101, 2, none⟩ = some (.int .i64 a1_2) := (blk_cell BK101.out 2).trans rfl; have hfz5_0 := blk_frozen BK101.out 0; have hfz5_1 := blk_frozen BK101.out 1; have hfz5_2 := blk_frozen BK101.out 2) | ((with_reducible refine gate_callee (f := 25) rfl ?_); refine goesL_ (some 15) rfl rfl Try.func25 (by kernel_rfl) rfl #[.slice A0 l0.length c0, .int .i64 a1_0] rfl (by (try simp only [List.map_toArray, List.map_cons, List.map_nil]); first | done | rfl | (simp only [List.length_drop, List.length_take]; rfl)) ?_; (with_reducible refine (tallymanref13_Drop.calls k _ _ l0 a1_0 t102 t103 _ ?side1 ?side2 A3.out).mono ?_); (case side1 => repeat (first | exact (Kd.C_below HR0.out HB.out) | (with_reducible refine Kd.C_alloc ?_ _) | (with_reducible refine Kd.C_drewN ?_ _) | (with_reducible refine Kd.C_drew ?_))); (case side2 => exact HC0.out); rintro e w6 ⟨v104, rfl, ho0, hb⟩; refine ⟨_, rfl, ?_⟩; have n0_ := Aside0.mk (Kd.R_lower (Kd.R_newB ho0 (g := gb101) (o := .cells #[.int .i64 a1_0, .int .i64 a1_1, .int .i64 a1_2] 37 (0, 0)) (by (with_reducible repeat (first | refine blk_drewN ?_ _ | refine blk_drew ?_ | refine blk_alloc ?_ _)); exact BK101.out)) (below_size (by repeat (first | (with_reducible first | exact HB.out | apply below_alloc | apply pw_below_drewN | apply below_drew1 | refine below_set ?_ GE101.out) | exact HB.out)))); have n1_ := Aside0.mk (blk_below (g := gb101) (o := .cells #[.int .i64 a1_0, .int .i64 a1_1, .int .i64 a1_2] 37 (0, 0)) (by (with_reducible repeat (first | refine blk_drewN ?_ _ | refine blk_drew ?_ | refine blk_alloc ?_ _)); exact BK101.out) hb); have n2_ := Aside0.mk (below_step (by repeat (first | (with_reducible first | exact HB.out | apply below_alloc | apply pw_below_drewN | apply below_drew1 | refine below_set ?_ GE101.out) | exact HB.out)) hb); clear BK101; clear HB; have HO105 := n0_; have BK101 := n1_; have HB := n2_; clear n0_ n1_ n2_; (try clear hb); (try clear hb2); (try clear hk); (try clear hi); (try clear ho0)))
  go_loopg [8, 9, 10] k (fun kq v8 v9 v10 w' => ∃ (x8_1 : List (S37)) (x9_1 : Bool) (x10_1 : Int), v9 = .bool x9_1 ∧ v10 = .int .i64 x10_1 ∧ Aside0 (tallymanref13_Put.l0 kq t102 t103 x8_1 x9_1 x10_1 a1_0 a1_1 a1_2 = some (r1, r2)) ∧ Aside0 (kq ≤ k) ∧ Aside0 (Kd.R k37 37 w' w.heap.size (fun k_ => some k_ ≠ (v8 : Value).ownBlock ∧ k_ ≠ gb101) v104 t102) ∧ Aside0 (Kd.R k37 37 w' w.heap.size (fun k_ => some k_ ≠ (v104 : Value).ownBlock ∧ k_ ≠ gb101) v8 x8_1) ∧ Aside0 (w'.heap[gb101]? = some (.cells #[.int .i64 a1_0, .int .i64 a1_1, .int .i64 a1_2] 37 (0, 0))) ∧ Aside0 (Below w.heap.size w w'))
  case atStart => exact ⟨(([] : List (S37))), (false), (0), (by first | rfl | (simp; done) | (simp [*]; done)), (by first | rfl | (simp; done) | (simp [*]; done)), H', ⟨Nat.le_refl _⟩, ⟨by (with_reducible repeat (first | apply Kd.R_alloc | apply Kd.R_drewN | apply Kd.R_drew)); exact Kd.R_mono HO105.out (fun _ hk => ⟨(by simp [Value.ownBlock]), hk.2⟩)⟩, ⟨by first | exact Kd.R_nil _ _ _ _ _ | exact Kd.N_nil _ _ _ _ _ | exact Kd.V_nil _ _ _ _ _ | exact Kd.Q_nil _ _ _ _ _ | exact Kd.S_nil _ _ _ _ _⟩, ⟨by (with_reducible repeat (first | refine blk_drewN ?_ _ | refine blk_drew ?_ | refine blk_alloc ?_ _)); exact BK101.out⟩, ⟨by repeat (first | (with_reducible first | exact HB.out | apply below_alloc | apply pw_below_drewN | apply below_drew1 | refine below_set ?_ GE101.out) | exact HB.out)⟩⟩
  case round =>
    clear H'
    try clear c2
    try clear p2
    try clear hcz5_0
    try clear hcz5_1
    try clear hcz5_2
    try clear hfz5_0
    try clear hfz5_1
    try clear hfz5_2
    obtain ⟨x8_1, x9_1, x10_1, rfl, rfl, HA, HK1, HO_6, HO_8, BK101, HB⟩ := hrel
    cases gk with
    | zero => exact absurd HA.out (by simp [tallymanref13_Put.l0])
    | succ k1 =>
      have H := HA.out
      clear HA
      simp only [tallymanref13_Put.l0] at H
      by_cases c7 : x10_1 < (t102.length : Int)
      · rw [if_pos c7] at H
        have c7b0 : decide (x10_1 < (t102.length : Int)) = true := decide_eq_true c7
        clear c7
        by_cases c8 : x9_1 = true
        · subst c8
          have H1 : (if 0 ≤ x10_1 then (if x8_1.length < 5864062014805 then (tallymanref13_Put.l0 k1 t102 t103 (x8_1 ++ [(⟨(rd_T37 t102 x10_1).f0, (rd_T37 t102 x10_1).f1, (rd_T37 t102 x10_1).f2⟩ : S37)]) true (wrap64 (x10_1 + 1)) a1_0 a1_1 a1_2) else (none)) else (none)) = some (r1, r2) := by rw [if_pos rfl] at H; exact H
          clear H
          have H := H1
          clear H1
          by_cases c9 : 0 ≤ x10_1
          · rw [if_pos c9] at H
            have c9b0 : decide (0 ≤ x10_1) = true := decide_eq_true c9
            clear c9
            by_cases c10 : x8_1.length < 5864062014805
            · rw [if_pos c10] at H
              have LMc10 := Aside0.mk c10
              clear c10
              obtain ⟨y107, hy107⟩ : ∃ y_ : List (S37), y_ = (x8_1 ++ [(⟨(rd_T37 t102 x10_1).f0, (rd_T37 t102 x10_1).f1, (rd_T37 t102 x10_1).f2⟩ : S37)]) := ⟨_, rfl⟩
              replace H : (tallymanref13_Put.l0 k1 t102 t103 y107 true (wrap64 (x10_1 + 1)) a1_0 a1_1 a1_2) = some (r1, r2) := by first | (rw [hy107]; with_reducible exact H) | (have H2_ := (Option.bind_some _ _).symm.trans H; rw [hy107]; with_reducible exact H2_) | (have H2_ := (Option.bind_some _ _).symm.trans H; with_reducible exact H2_) | with_reducible exact H | (rw [hy107]; exact H) | exact H
              have Ny107 := Aside0.mk hy107
              clear hy107
              have H' := Aside0.mk H
              clear H
              obtain ⟨Ao11, co11, eo11⟩ := Kd.R_slice HO_6.out
              subst eo11
              try go_wp2
              have n0_ := Aside0.mk (Kd.R_drew HO_6.out)
              have n1_ := Aside0.mk (Kd.R_drew HO_8.out)
              have n2_ := Aside0.mk (blk_drew BK101.out)
              have n3_ := Aside0.mk (below_drew1 HB.out)
              clear HO_6
              clear HO_8
              clear BK101
              clear HB
              have HO_6 := n0_
              have HO_8 := n1_
              have BK101 := n2_
              have HB := n3_
              clear n0_ n1_ n2_ n3_
              refine start_ (n := 10) (S := fun w' => True) (ds := []) #[false, false, false, false, false, false, false, false, false, false] (by kernel_rfl) rfl rfl trivial (fun hHeld => ?_); refine with_tabW tallymanref13_Put.tab7 tallymanref13_Put.bits7 (fun HT_ HW_ => ?_)
              generalize wr.drew = w12 at HO_6 HO_8 BK101 HB hHeld ⊢
              refine pure_ (i := 0) (N := some 24) (v := ?_) (a' := ?_) #[true, false, false, false, false, false, false, false, false, false] rfl rfl (any_of HT_.out (by kernel_rfl)) (fun _ _ _ h => h) (Or.inl ⟨by rfl, ?_⟩) ?_ ?_
              rotate_left
              · intro w'
                go_simp
                with_reducible rfl
              rotate_left
              · simp only [Act.put, List.setIfInBounds_toArray, List.set_cons_zero, List.set_cons_succ, i64_w, i32_w]
                rfl
              refine pure_ (i := 1) (N := some 25) (v := ?_) (a' := ?_) #[true, true, false, false, false, false, false, false, false, false] rfl rfl (any_of HT_.out (by kernel_rfl)) (fun _ _ _ h => h) (Or.inl ⟨by rfl, ?_⟩) ?_ ?_
              rotate_left
              · intro w'
                go_simp
                with_reducible rfl
              rotate_left
              · simp only [Act.put, List.setIfInBounds_toArray, List.set_cons_zero, List.set_cons_succ, i64_w, i32_w]
                rfl
              refine pure_ (i := 2) (N := some 26) (v := ?_) (a' := ?_) #[true, true, true, false, false, false, false, false, false, false] rfl rfl (any_of HT_.out (by kernel_rfl)) (fun _ _ _ h => h) (Or.inl ⟨by rfl, ?_⟩) ?_ ?_
              rotate_left
              · intro w'
                go_simp
                with_reducible rfl
              rotate_left
              · simp only [Act.put, List.setIfInBounds_toArray, List.set_cons_zero, List.set_cons_succ, i64_w, i32_w]
                rfl
              refine pure_ (i := 3) (N := some 27) (v := undef) (a' := ?_) #[true, true, true, true, false, false, false, false, false, false] rfl rfl (any_of HT_.out (by kernel_rfl)) (fun _ _ _ h => h) (Or.inr ⟨by rfl, rfl⟩) ?_ ?_
              rotate_left
              · simp only [Act.put, List.setIfInBounds_toArray, List.set_cons_zero, List.set_cons_succ, i64_w, i32_w]
                rfl
              refine pure_ (i := 4) (N := some 28) (v := undef) (a' := ?_) #[true, true, true, true, true, false, false, false, false, false] rfl rfl (any_of HT_.out (by kernel_rfl)) (fun _ _ _ h => h) (Or.inr ⟨by rfl, rfl⟩) ?_ ?_
              rotate_left
              · simp only [Act.put, List.setIfInBounds_toArray, List.set_cons_zero, List.set_cons_succ, i64_w, i32_w]
                rfl
              refine pure_ (i := 5) (N := some 29) (v := undef) (a' := ?_) #[true, true, true, true, true, true, false, false, false, false] rfl rfl (any_of HT_.out (by kernel_rfl)) (fun _ _ _ h => h) (Or.inr ⟨by rfl, rfl⟩) ?_ ?_
              rotate_left
              · simp only [Act.put, List.setIfInBounds_toArray, List.set_cons_zero, List.set_cons_succ, i64_w, i32_w]
                rfl
              refine pure_ (i := 6) (N := some 30) (v := undef) (a' := ?_) #[true, true, true, true, true, true, true, false, false, false] rfl rfl (any_of HT_.out (by kernel_rfl)) (fun _ _ _ h => h) (Or.inr ⟨by rfl, rfl⟩) ?_ ?_
              rotate_left
              · simp only [Act.put, List.setIfInBounds_toArray, List.set_cons_zero, List.set_cons_succ, i64_w, i32_w]
                rfl
              refine pure_ (i := 7) (N := some 31) (v := undef) (a' := ?_) #[true, true, true, true, true, true, true, true, false, false] rfl rfl (any_of HT_.out (by kernel_rfl)) (fun _ _ _ h => h) (Or.inr ⟨by rfl, rfl⟩) ?_ ?_
              rotate_left
              · simp only [Act.put, List.setIfInBounds_toArray, List.set_cons_zero, List.set_cons_succ, i64_w, i32_w]
                rfl
              refine pure_ (i := 8) (N := some 32) (v := undef) (a' := ?_) #[true, true, true, true, true, true, true, true, true, false] rfl rfl (any_of HT_.out (by kernel_rfl)) (fun _ _ _ h => h) (Or.inr ⟨by rfl, rfl⟩) ?_ ?_
              rotate_left
              · simp only [Act.put, List.setIfInBounds_toArray, List.set_cons_zero, List.set_cons_succ, i64_w, i32_w]
                rfl
              refine pure_ (i := 9) (N := some 33) (v := ?_) (a' := ?_) #[true, true, true, true, true, true, true, true, true, true] rfl rfl (any_of HT_.out (by kernel_rfl)) (fun _ _ _ h => h) (Or.inl ⟨by rfl, ?_⟩) ?_ ?_
              rotate_left
              · intro w'
                go_simp
                with_reducible rfl
              rotate_left
              · simp only [Act.put, List.setIfInBounds_toArray, List.set_cons_zero, List.set_cons_succ, i64_w, i32_w]
                rfl
              refine done_ (done_of HT_.out (by kernel_rfl)) ?_
              have p106 : 0 ≤ (x10_1 : Int) := of_decide_eq_true (by first | (with_reducible assumption) | assumption)
              have q106 : x10_1 < (t102.length : Int) := of_decide_eq_true (by first | (with_reducible assumption) | assumption)
              obtain ⟨ad106, e106, hx106_0, hx106_1, hx106_2⟩ := at_T37 (Kd.R_reads' HO_6.out).2.2 x10_1 p106 q106
              cases e106
              replace p106 := eq_true p106
              replace q106 := eq_true q106
              try go_wp2_with (first | ((with_reducible refine gate_builtin (b := .append) (xs := #[.tmp 38, .tmp 43]) rfl ?_); at_builtin; refine Kd.R_append k37 (w0 := w) w.heap.size rfl (.tmp 38) (.tmp 43) 35 37 (.agg #[(.int .i64 0), (.int .i64 0), (.int .i64 0)]) 24 rfl Try.underlying35 info37 rfl (by decide) (by omega) u8 x8_1 (⟨(rd_T37 t102 x10_1).f0, (rd_T37 t102 x10_1).f1, (rd_T37 t102 x10_1).f2⟩ : S37) [.int .i64 ((rd_T37 t102 x10_1).f0), .int .i64 ((rd_T37 t102 x10_1).f1), .int .i64 ((rd_T37 t102 x10_1).f2)] (fun k_ => some k_ ≠ (.slice (some ad106) t102.length co11 : Value).ownBlock ∧ k_ ≠ gb101) (fun _ => False) rfl rfl ?aP (fun _ hk => hk.elim) ?aF ?aO ?aB ?aS ?aL ?_; (case aP => exact k37_mkM _ _ _ (⟨(rd_T37 t102 x10_1).f0, (rd_T37 t102 x10_1).f1, (rd_T37 t102 x10_1).f2⟩ : S37)); (case aB => exact (by repeat (first | (with_reducible first | exact HB.out | apply below_alloc | apply pw_below_drewN | apply below_drew1 | refine below_set ?_ GE101.out) | exact HB.out))); (case aF => exact (fun k_ hk => ⟨Kd.fresh' (Kd.R_lt (by (with_reducible repeat (first | apply Kd.R_alloc | apply Kd.R_drewN | apply Kd.R_drew)); exact HO_6.out)) k_ hk, Kd.freshB (g := gb101) (o := .cells #[.int .i64 a1_0, .int .i64 a1_1, .int .i64 a1_2] 37 (0, 0)) (by (with_reducible repeat (first | refine blk_drewN ?_ _ | refine blk_drew ?_ | refine blk_alloc ?_ _)); exact BK101.out) k_ hk⟩)); (case aO => exact (by (with_reducible repeat (first | apply Kd.R_alloc | apply Kd.R_drewN | apply Kd.R_drew)); exact HO_8.out)); (case aS => exact (below_size (by repeat (first | (with_reducible first | exact HB.out | apply below_alloc | apply pw_below_drewN | apply below_drew1 | refine below_set ?_ GE101.out) | exact HB.out)))); (case aL => have := LMc10.out; omega); intro v108 w13 ho hb hg hat; rw [← Ny107.out] at ho; have n0_ := Aside0.mk (Kd.R_after (ok := (fun k_ => k_ ≠ gb101)) (by (with_reducible repeat (first | apply Kd.R_alloc | apply Kd.R_drewN | apply Kd.R_drew)); exact Kd.R_mono HO_6.out (fun _ hk => ⟨hk.2, hk.1⟩)) hg hat); have n1_ := Aside0.mk (blk_grown (g := gb101) (o := .cells #[.int .i64 a1_0, .int .i64 a1_1, .int .i64 a1_2] 37 (0, 0)) (by (with_reducible repeat (first | refine blk_drewN ?_ _ | refine blk_drew ?_ | refine blk_alloc ?_ _)); exact BK101.out) hg (Kd.R_away HO_8.out (fun _ hk => hk.2))); have n2_ := Aside0.mk (hb); have n3_ := Aside0.mk (ho); clear HO_6; clear BK101; clear HB; clear HO_8; have HO_6 := n0_; have BK101 := n1_; have HB := n2_; have HO109 := n3_; clear n0_ n1_ n2_ n3_; clear ho hb hg hat))
              go_roundg k1
              case measure => have := HK1.out; omega
              case rel => exact ⟨(y107), (true), (wrap64 (x10_1 + 1)), (by first | rfl | (simp; done) | (simp [*]; done)), (by first | rfl | (simp; done) | (simp [*]; done)), H', ⟨by have := HK1.out; omega⟩, ⟨by (with_reducible repeat (first | apply Kd.R_alloc | apply Kd.R_drewN | apply Kd.R_drew)); exact Kd.R_mono HO_6.out (fun _ hk => ⟨hk.2, hk.1⟩)⟩, ⟨by (with_reducible repeat (first | apply Kd.R_alloc | apply Kd.R_drewN | apply Kd.R_drew)); exact HO109.out⟩, ⟨by (with_reducible repeat (first | refine blk_drewN ?_ _ | refine blk_drew ?_ | refine blk_alloc ?_ _)); exact BK101.out⟩, ⟨by repeat (first | (with_reducible first | exact HB.out | apply below_alloc | apply pw_below_drewN | apply below_drew1 | refine below_set ?_ GE101.out) | exact HB.out)⟩⟩
            · rw [if_neg c10] at H
              exact absurd H (by simp)
          · rw [if_neg c9] at H
            exact absurd H (by simp)
        · replace c8 := Bool.eq_false_iff.mpr c8
          subst c8
          have H1 : (if 0 ≤ x10_1 then ((tallymanref13_Ahead.f a1_0 a1_1 a1_2 ((rd_T37 t102 x10_1).f0) ((rd_T37 t102 x10_1).f1) ((rd_T37 t102 x10_1).f2)).bind fun t111 => (if t111 = true then (if x8_1.length < 5864062014805 then ((some (x8_1 ++ [(⟨a1_0, a1_1, a1_2⟩ : S37)] : List (S37))).bind fun y112 => (if y112.length < 5864062014805 then (tallymanref13_Put.l0 k1 t102 t103 (y112 ++ [(⟨(rd_T37 t102 x10_1).f0, (rd_T37 t102 x10_1).f1, (rd_T37 t102 x10_1).f2⟩ : S37)]) true (wrap64 (x10_1 + 1)) a1_0 a1_1 a1_2) else (none))) else (none)) else (if x8_1.length < 5864062014805 then (tallymanref13_Put.l0 k1 t102 t103 (x8_1 ++ [(⟨(rd_T37 t102 x10_1).f0, (rd_T37 t102 x10_1).f1, (rd_T37 t102 x10_1).f2⟩ : S37)]) false (wrap64 (x10_1 + 1)) a1_0 a1_1 a1_2) else (none)))) else (none)) = some (r1, r2) := by rw [if_neg (show ¬ (false = true) by decide)] at H; exact H
          clear H
          have H := H1
          clear H1
          by_cases c14 : 0 ≤ x10_1
          · rw [if_pos c14] at H
            have c14b0 : decide (0 ≤ x10_1) = true := decide_eq_true c14
            clear c14
            replace H := Option.bind_eq_some_iff.mp H
            obtain ⟨t111, A150, H⟩ := H
            replace H : (if t111 = true then (if x8_1.length < 5864062014805 then ((some (x8_1 ++ [(⟨a1_0, a1_1, a1_2⟩ : S37)] : List (S37))).bind fun y112 => (if y112.length < 5864062014805 then (tallymanref13_Put.l0 k1 t102 t103 (y112 ++ [(⟨(rd_T37 t102 x10_1).f0, (rd_T37 t102 x10_1).f1, (rd_T37 t102 x10_1).f2⟩ : S37)]) true (wrap64 (x10_1 + 1)) a1_0 a1_1 a1_2) else (none))) else (none)) else (if x8_1.length < 5864062014805 then (tallymanref13_Put.l0 k1 t102 t103 (x8_1 ++ [(⟨(rd_T37 t102 x10_1).f0, (rd_T37 t102 x10_1).f1, (rd_T37 t102 x10_1).f2⟩ : S37)]) false (wrap64 (x10_1 + 1)) a1_0 a1_1 a1_2) else (none))) = some (r1, r2) := H
            have A15 := Aside0.mk A150
            clear A150
            by_cases c16 : t111 = true
            · subst c16
              have H1 : (if x8_1.length < 5864062014805 then ((some (x8_1 ++ [(⟨a1_0, a1_1, a1_2⟩ : S37)] : List (S37))).bind fun y112 => (if y112.length < 5864062014805 then (tallymanref13_Put.l0 k1 t102 t103 (y112 ++ [(⟨(rd_T37 t102 x10_1).f0, (rd_T37 t102 x10_1).f1, (rd_T37 t102 x10_1).f2⟩ : S37)]) true (wrap64 (x10_1 + 1)) a1_0 a1_1 a1_2) else (none))) else (none)) = some (r1, r2) := by rw [if_pos rfl] at H; exact H
              clear H
              have H := H1
              clear H1
              by_cases c17 : x8_1.length < 5864062014805
              · rw [if_pos c17] at H
                have LMc17 := Aside0.mk c17
                clear c17
                obtain ⟨y112, hy112⟩ : ∃ y_ : List (S37), y_ = (x8_1 ++ [(⟨a1_0, a1_1, a1_2⟩ : S37)]) := ⟨_, rfl⟩
                replace H : (if y112.length < 5864062014805 then (tallymanref13_Put.l0 k1 t102 t103 (y112 ++ [(⟨(rd_T37 t102 x10_1).f0, (rd_T37 t102 x10_1).f1, (rd_T37 t102 x10_1).f2⟩ : S37)]) true (wrap64 (x10_1 + 1)) a1_0 a1_1 a1_2) else (none)) = some (r1, r2) := by first | (rw [hy112]; with_reducible exact H) | (have H2_ := (Option.bind_some _ _).symm.trans H; rw [hy112]; with_reducible exact H2_) | (have H2_ := (Option.bind_some _ _).symm.trans H; with_reducible exact H2_) | with_reducible exact H | (rw [hy112]; exact H) | exact H
                have Ny112 := Aside0.mk hy112
                clear hy112
                by_cases c18 : y112.length < 5864062014805
                · rw [if_pos c18] at H
                  have LMc18 := Aside0.mk c18
                  clear c18
                  obtain ⟨y116, hy116⟩ : ∃ y_ : List (S37), y_ = (y112 ++ [(⟨(rd_T37 t102 x10_1).f0, (rd_T37 t102 x10_1).f1, (rd_T37 t102 x10_1).f2⟩ : S37)]) := ⟨_, rfl⟩
                  replace H : (tallymanref13_Put.l0 k1 t102 t103 y116 true (wrap64 (x10_1 + 1)) a1_0 a1_1 a1_2) = some (r1, r2) := by first | (rw [hy116]; with_reducible exact H) | (have H2_ := (Option.bind_some _ _).symm.trans H; rw [hy116]; with_reducible exact H2_) | (have H2_ := (Option.bind_some _ _).symm.trans H; with_reducible exact H2_) | with_reducible exact H | (rw [hy116]; exact H) | exact H
                  have Ny116 := Aside0.mk hy116
                  clear hy116
                  have H' := Aside0.mk H
                  clear H
                  obtain ⟨Ao19, co19, eo19⟩ := Kd.R_slice HO_6.out
                  subst eo19
                  try go_wp2
                  have n0_ := Aside0.mk (Kd.R_drew HO_6.out)
                  have n1_ := Aside0.mk (Kd.R_drew HO_8.out)
                  have n2_ := Aside0.mk (blk_drew BK101.out)
                  have n3_ := Aside0.mk (below_drew1 HB.out)
                  clear HO_6
                  clear HO_8
                  clear BK101
                  clear HB
                  have HO_6 := n0_
                  have HO_8 := n1_
                  have BK101 := n2_
                  have HB := n3_
                  clear n0_ n1_ n2_ n3_
                  have p110 : 0 ≤ (x10_1 : Int) := of_decide_eq_true (by first | (with_reducible assumption) | assumption)
                  have q110 : x10_1 < (t102.length : Int) := of_decide_eq_true (by first | (with_reducible assumption) | assumption)
                  obtain ⟨ad110, e110, hx110_0, hx110_1, hx110_2⟩ := at_T37 (Kd.R_reads' HO_6.out).2.2 x10_1 p110 q110
                  cases e110
                  replace p110 := eq_true p110
                  replace q110 := eq_true q110
                  refine start_ (n := 10) (S := fun w' => w'.cell? ⟨gb101, 0, none⟩ = some (.int .i64 a1_0) ∧ w'.cell? ⟨gb101, 1, none⟩ = some (.int .i64 a1_1) ∧ w'.cell? ⟨gb101, 2, none⟩ = some (.int .i64 a1_2) ∧ w'.cell? (ad110.add ((x10_1).toNat * 3)) = some (.int .i64 ((rd_T37 t102 x10_1).f0)) ∧ w'.cell? ⟨(ad110.add ((x10_1).toNat * 3)).block, (ad110.add ((x10_1).toNat * 3)).off + 1, none⟩ = some (.int .i64 ((rd_T37 t102 x10_1).f1)) ∧ w'.cell? ⟨(ad110.add ((x10_1).toNat * 3)).block, (ad110.add ((x10_1).toNat * 3)).off + 2, none⟩ = some (.int .i64 ((rd_T37 t102 x10_1).f2))) (ds := []) #[false, false, false, false, false, false, false, false, false, false] (by kernel_rfl) rfl rfl ⟨(blk_cell BK101.out 0).trans rfl, (blk_cell BK101.out 1).trans rfl, (blk_cell BK101.out 2).trans rfl, hx110_0, hx110_1, hx110_2⟩ (fun hHeld => ?_); refine with_tabW tallymanref13_Put.tab7 tallymanref13_Put.bits7 (fun HT_ HW_ => ?_)
                  generalize wr.drew = w20 at HO_6 HO_8 BK101 HB hx110_0 hx110_1 hx110_2 hHeld ⊢
                  refine pure_ (i := 0) (N := some 24) (v := ?_) (a' := ?_) #[true, false, false, false, false, false, false, false, false, false] rfl rfl (any_of HT_.out (by kernel_rfl)) (fun _ _ _ h => h) (Or.inl ⟨by rfl, ?_⟩) ?_ ?_
                  rotate_left
                  · intro w'
                    go_simp
                    with_reducible rfl
                  rotate_left
                  · simp only [Act.put, List.setIfInBounds_toArray, List.set_cons_zero, List.set_cons_succ, i64_w, i32_w]
                    rfl
                  refine pure_ (i := 1) (N := some 25) (v := ?_) (a' := ?_) #[true, true, false, false, false, false, false, false, false, false] rfl rfl (any_of HT_.out (by kernel_rfl)) (fun _ _ _ h => h) (Or.inl ⟨by rfl, ?_⟩) ?_ ?_
                  rotate_left
                  · intro w'
                    go_simp
                    with_reducible rfl
                  rotate_left
                  · simp only [Act.put, List.setIfInBounds_toArray, List.set_cons_zero, List.set_cons_succ, i64_w, i32_w]
                    rfl
                  refine pure_ (i := 2) (N := some 26) (v := ?_) (a' := ?_) #[true, true, true, false, false, false, false, false, false, false] rfl rfl (any_of HT_.out (by kernel_rfl)) (fun _ _ _ h => h) (Or.inl ⟨by rfl, ?_⟩) ?_ ?_
                  rotate_left
                  · intro w'
                    go_simp
                    with_reducible rfl
                  rotate_left
                  · simp only [Act.put, List.setIfInBounds_toArray, List.set_cons_zero, List.set_cons_succ, i64_w, i32_w]
                    rfl
                  refine pure_ (i := 4) (N := some 28) (v := ?_) (a' := ?_) #[true, true, true, false, true, false, false, false, false, false] rfl rfl (any_of HT_.out (by kernel_rfl)) (fun _ _ _ h => h) (Or.inl ⟨by rfl, ?_⟩) ?_ ?_
                  rotate_left
                  · intro w'
                    go_simp
                    with_reducible rfl
                  rotate_left
                  · simp only [Act.put, List.setIfInBounds_toArray, List.set_cons_zero, List.set_cons_succ, i64_w, i32_w]
                    rfl
                  refine pure_ (i := 5) (N := some 29) (v := ?_) (a' := ?_) #[true, true, true, false, true, true, false, false, false, false] rfl rfl (any_of HT_.out (by kernel_rfl)) (fun _ _ _ h => h) (Or.inl ⟨by rfl, ?_⟩) ?_ ?_
                  rotate_left
                  · intro w'
                    go_simp
                    with_reducible rfl
                  rotate_left
                  · simp only [Act.put, List.setIfInBounds_toArray, List.set_cons_zero, List.set_cons_succ, i64_w, i32_w]
                    rfl
                  refine pure_ (i := 6) (N := some 30) (v := ?_) (a' := ?_) #[true, true, true, false, true, true, true, false, false, false] rfl rfl (any_of HT_.out (by kernel_rfl)) (fun _ _ _ h => h) (Or.inl ⟨by rfl, ?_⟩) ?_ ?_
                  rotate_left
                  · intro w'
                    go_simp
                    with_reducible rfl
                  rotate_left
                  · simp only [Act.put, List.setIfInBounds_toArray, List.set_cons_zero, List.set_cons_succ, i64_w, i32_w]
                    rfl
                  refine take_ (i := 3) (N := some 27) (v := ?_) (a' := ?_) #[true, true, true, true, true, true, true, false, false, false] rfl rfl (take_ofW HT_.out HW_.out (by kernel_rfl)) (fun _ _ _ h => h) (Or.inl ⟨by rfl, ?_⟩) hHeld ?_ ?_
                  rotate_left
                  · rintro w' ⟨s0, s1, s2, s3, s4, s5⟩
                    go_simp
                    with_reducible rfl
                  rotate_left
                  · simp only [Act.put, List.setIfInBounds_toArray, List.set_cons_zero, List.set_cons_succ, i64_w, i32_w]
                    rfl
                  refine take_ (i := 7) (N := some 31) (v := ?_) (a' := ?_) #[true, true, true, true, true, true, true, true, false, false] rfl rfl (take_ofW HT_.out HW_.out (by kernel_rfl)) (fun _ _ _ h => h) (Or.inl ⟨by rfl, ?_⟩) hHeld ?_ ?_
                  rotate_left
                  · rintro w' ⟨s0, s1, s2, s3, s4, s5⟩
                    go_simp
                    with_reducible rfl
                  rotate_left
                  · simp only [Act.put, List.setIfInBounds_toArray, List.set_cons_zero, List.set_cons_succ, i64_w, i32_w]
                    rfl
                  refine one_ (i := 8) (N := some 32) #[true, true, true, true, true, true, true, true, true, false] rfl rfl (one_of HT_.out (by kernel_rfl)) (by decide) (fun K hK => ?_)
                  refine goes_ Try.func34 (by kernel_rfl) rfl #[.agg #[.int .i64 a1_0, .int .i64 a1_1, .int .i64 a1_2], .agg #[.int .i64 ((rd_T37 t102 x10_1).f0), .int .i64 ((rd_T37 t102 x10_1).f1), .int .i64 ((rd_T37 t102 x10_1).f2)]] (by rfl) rfl rfl (by (try simp only [List.map_toArray, List.map_cons, List.map_nil]); first | done | rfl | (simp only [List.length_drop, List.length_take]; rfl)) ?_
                  with_reducible refine (tallymanref13_Ahead.calls a1_0 a1_1 a1_2 ((rd_T37 t102 x10_1).f0) ((rd_T37 t102 x10_1).f1) ((rd_T37 t102 x10_1).f2) true _ A15.out).mono ?_
                  rintro e w21 ⟨rfl, hb⟩
                  have HS3_ := (hb.cell (World.block_lt_of_cell? _ _ (hHeld.2.2.2.1))).trans (hHeld.2.2.2.1)
                  have HS4_ := (hb.cell (World.block_lt_of_cell? _ _ (hHeld.2.2.2.2.1))).trans (hHeld.2.2.2.2.1)
                  have HS5_ := (hb.cell (World.block_lt_of_cell? _ _ (hHeld.2.2.2.2.2))).trans (hHeld.2.2.2.2.2)
                  refine ⟨_, rfl, ?_⟩
                  have n0_ := Aside0.mk (Kd.R_below (by (with_reducible repeat (first | apply Kd.R_alloc | apply Kd.R_drewN | apply Kd.R_drew)); exact HO_6.out) hb)
                  have n1_ := Aside0.mk (Kd.R_below (by (with_reducible repeat (first | apply Kd.R_alloc | apply Kd.R_drewN | apply Kd.R_drew)); exact HO_8.out) hb)
                  have n2_ := Aside0.mk (blk_below (g := gb101) (o := .cells #[.int .i64 a1_0, .int .i64 a1_1, .int .i64 a1_2] 37 (0, 0)) (by (with_reducible repeat (first | refine blk_drewN ?_ _ | refine blk_drew ?_ | refine blk_alloc ?_ _)); exact BK101.out) hb)
                  have n3_ := Aside0.mk (below_step (by repeat (first | (with_reducible first | exact HB.out | apply below_alloc | apply pw_below_drewN | apply below_drew1 | refine below_set ?_ GE101.out) | exact HB.out)) hb)
                  clear HO_6
                  clear HO_8
                  clear BK101
                  clear HB
                  have HO_6 := n0_
                  have HO_8 := n1_
                  have BK101 := n2_
                  have HB := n3_
                  clear n0_ n1_ n2_ n3_
                  (try clear hb)
                  (try clear hb2)
                  (try clear hk)
                  (try clear hi)
                  refine hK.out _ _ ⟨(blk_cell BK101.out 0).trans rfl, (blk_cell BK101.out 1).trans rfl, (blk_cell BK101.out 2).trans rfl, HS3_, HS4_, HS5_⟩ (fun hHeld => ?_)
                  clear hK K
                  refine norm_ (a' := ?_) ?_ ?_
                  rotate_left
                  · show Act.put _ (some 32) _ = _
                    simp only [Act.put, List.setIfInBounds_toArray, List.set_cons_zero, List.set_cons_succ, i64_w, i32_w]
                    rfl
                  refine pure_ (i := 9) (N := some 33) (v := ?_) (a' := ?_) #[true, true, true, true, true, true, true, true, true, true] rfl rfl (any_of HT_.out (by kernel_rfl)) (fun _ _ _ h => h) (Or.inl ⟨by rfl, ?_⟩) ?_ ?_
                  rotate_left
                  · intro w'
                    go_simp
                    with_reducible rfl
                  rotate_left
                  · simp only [Act.put, List.setIfInBounds_toArray, List.set_cons_zero, List.set_cons_succ, i64_w, i32_w]
                    rfl
                  refine done_ (done_of HT_.out (by kernel_rfl)) ?_
                  have hcz22_0 : w21.cell? ⟨gb101, 0, none⟩ = some (.int .i64 a1_0) := (blk_cell BK101.out 0).trans rfl
                  have hcz22_1 : w21.cell? ⟨gb101, 1, none⟩ = some (.int .i64 a1_1) := (blk_cell BK101.out 1).trans rfl
                  have hcz22_2 : w21.cell? ⟨gb101, 2, none⟩ = some (.int .i64 a1_2) := (blk_cell BK101.out 2).trans rfl
                  have hfz22_0 := blk_frozen BK101.out 0
                  have hfz22_1 := blk_frozen BK101.out 1
                  have hfz22_2 := blk_frozen BK101.out 2
                  try go_wp2_with (first | ((with_reducible refine gate_builtin (b := .append) (xs := #[.tmp 34, .tmp 36]) rfl ?_); at_builtin; refine Kd.R_append k37 (w0 := w) w.heap.size rfl (.tmp 34) (.tmp 36) 35 37 (.agg #[(.int .i64 0), (.int .i64 0), (.int .i64 0)]) 24 rfl Try.underlying35 info37 rfl (by decide) (by omega) u8 x8_1 (⟨a1_0, a1_1, a1_2⟩ : S37) [.int .i64 a1_0, .int .i64 a1_1, .int .i64 a1_2] (fun k_ => some k_ ≠ (.slice (some ad110) t102.length co19 : Value).ownBlock ∧ k_ ≠ gb101) (fun _ => False) rfl rfl ?aP (fun _ hk => hk.elim) ?aF ?aO ?aB ?aS ?aL ?_; (case aP => exact k37_mkM _ _ _ (⟨a1_0, a1_1, a1_2⟩ : S37)); (case aB => exact (by repeat (first | (with_reducible first | exact HB.out | apply below_alloc | apply pw_below_drewN | apply below_drew1 | refine below_set ?_ GE101.out) | exact HB.out))); (case aF => exact (fun k_ hk => ⟨Kd.fresh' (Kd.R_lt (by (with_reducible repeat (first | apply Kd.R_alloc | apply Kd.R_drewN | apply Kd.R_drew)); exact HO_6.out)) k_ hk, Kd.freshB (g := gb101) (o := .cells #[.int .i64 a1_0, .int .i64 a1_1, .int .i64 a1_2] 37 (0, 0)) (by (with_reducible repeat (first | refine blk_drewN ?_ _ | refine blk_drew ?_ | refine blk_alloc ?_ _)); exact BK101.out) k_ hk⟩)); (case aO => exact (by (with_reducible repeat (first | apply Kd.R_alloc | apply Kd.R_drewN | apply Kd.R_drew)); exact HO_8.out)); (case aS => exact (below_size (by repeat (first | (with_reducible first | exact HB.out | apply below_alloc | apply pw_below_drewN | apply below_drew1 | refine below_set ?_ GE101.out) | exact HB.out)))); (case aL => have := LMc17.out; omega); intro v113 w23 ho hb hg hat; rw [← Ny112.out] at ho; have n0_ := Aside0.mk (Kd.R_after (ok := (fun k_ => k_ ≠ gb101)) (by (with_reducible repeat (first | apply Kd.R_alloc | apply Kd.R_drewN | apply Kd.R_drew)); exact Kd.R_mono HO_6.out (fun _ hk => ⟨hk.2, hk.1⟩)) hg hat); have n1_ := Aside0.mk (blk_grown (g := gb101) (o := .cells #[.int .i64 a1_0, .int .i64 a1_1, .int .i64 a1_2] 37 (0, 0)) (by (with_reducible repeat (first | refine blk_drewN ?_ _ | refine blk_drew ?_ | refine blk_alloc ?_ _)); exact BK101.out) hg (Kd.R_away HO_8.out (fun _ hk => hk.2))); have n2_ := Aside0.mk (hb); have n3_ := Aside0.mk (ho); clear HO_6; clear BK101; clear HB; clear HO_8; have HO_6 := n0_; have BK101 := n1_; have HB := n2_; have HO114 := n3_; clear n0_ n1_ n2_ n3_; clear ho hb hg hat; have p115 : 0 ≤ (x10_1 : Int) := of_decide_eq_true (by first | (with_reducible assumption) | assumption); have q115 : x10_1 < (t102.length : Int) := of_decide_eq_true (by first | (with_reducible assumption) | assumption); obtain ⟨ad115, e115, hx115_0, hx115_1, hx115_2⟩ := at_T37 (Kd.R_reads' HO_6.out).2.2 x10_1 p115 q115; obtain rfl : ad110 = ad115 := (by injection e115); replace p115 := eq_true p115; replace q115 := eq_true q115) | ((with_reducible refine gate_builtin (b := .append) (xs := #[.tmp 38, .tmp 43]) rfl ?_); at_builtin; refine Kd.R_append k37 (w0 := w) w.heap.size rfl (.tmp 38) (.tmp 43) 35 37 (.agg #[(.int .i64 0), (.int .i64 0), (.int .i64 0)]) 24 rfl Try.underlying35 info37 rfl (by decide) (by omega) v113 y112 (⟨(rd_T37 t102 x10_1).f0, (rd_T37 t102 x10_1).f1, (rd_T37 t102 x10_1).f2⟩ : S37) [.int .i64 ((rd_T37 t102 x10_1).f0), .int .i64 ((rd_T37 t102 x10_1).f1), .int .i64 ((rd_T37 t102 x10_1).f2)] (fun k_ => some k_ ≠ (.slice (some ad110) t102.length co19 : Value).ownBlock ∧ k_ ≠ gb101) (fun _ => False) rfl rfl ?aP (fun _ hk => hk.elim) ?aF ?aO ?aB ?aS ?aL ?_; (case aP => exact k37_mkM _ _ _ (⟨(rd_T37 t102 x10_1).f0, (rd_T37 t102 x10_1).f1, (rd_T37 t102 x10_1).f2⟩ : S37)); (case aB => exact (by repeat (first | (with_reducible first | exact HB.out | apply below_alloc | apply pw_below_drewN | apply below_drew1 | refine below_set ?_ GE101.out) | exact HB.out))); (case aF => exact (fun k_ hk => ⟨Kd.fresh' (Kd.R_lt (by (with_reducible repeat (first | apply Kd.R_alloc | apply Kd.R_drewN | apply Kd.R_drew)); exact HO_6.out)) k_ hk, Kd.freshB (g := gb101) (o := .cells #[.int .i64 a1_0, .int .i64 a1_1, .int .i64 a1_2] 37 (0, 0)) (by (with_reducible repeat (first | refine blk_drewN ?_ _ | refine blk_drew ?_ | refine blk_alloc ?_ _)); exact BK101.out) k_ hk⟩)); (case aO => exact (by (with_reducible repeat (first | apply Kd.R_alloc | apply Kd.R_drewN | apply Kd.R_drew)); exact HO114.out)); (case aS => exact (below_size (by repeat (first | (with_reducible first | exact HB.out | apply below_alloc | apply pw_below_drewN | apply below_drew1 | refine below_set ?_ GE101.out) | exact HB.out)))); (case aL => have := LMc18.out; omega); intro v117 w24 ho hb hg hat; rw [← Ny116.out] at ho; have n0_ := Aside0.mk (Kd.R_after (ok := (fun k_ => k_ ≠ gb101)) (by (with_reducible repeat (first | apply Kd.R_alloc | apply Kd.R_drewN | apply Kd.R_drew)); exact HO_6.out) hg hat); have n1_ := Aside0.mk (blk_grown (g := gb101) (o := .cells #[.int .i64 a1_0, .int .i64 a1_1, .int .i64 a1_2] 37 (0, 0)) (by (with_reducible repeat (first | refine blk_drewN ?_ _ | refine blk_drew ?_ | refine blk_alloc ?_ _)); exact BK101.out) hg (Kd.R_away HO114.out (fun _ hk => hk.2))); have n2_ := Aside0.mk (hb); have n3_ := Aside0.mk (ho); clear HO_6; clear BK101; clear HB; clear HO114; have HO_6 := n0_; have BK101 := n1_; have HB := n2_; have HO118 := n3_; clear n0_ n1_ n2_ n3_; clear ho hb hg hat))
                  go_roundg k1
                  case measure => have := HK1.out; omega
                  case rel => exact ⟨(y116), (true), (wrap64 (x10_1 + 1)), (by first | rfl | (simp; done) | (simp [*]; done)), (by first | rfl | (simp; done) | (simp [*]; done)), H', ⟨by have := HK1.out; omega⟩, ⟨by (with_reducible repeat (first | apply Kd.R_alloc | apply Kd.R_drewN | apply Kd.R_drew)); exact Kd.R_mono HO_6.out (fun _ hk => ⟨hk.2, hk.1⟩)⟩, ⟨by (with_reducible repeat (first | apply Kd.R_alloc | apply Kd.R_drewN | apply Kd.R_drew)); exact HO118.out⟩, ⟨by (with_reducible repeat (first | refine blk_drewN ?_ _ | refine blk_drew ?_ | refine blk_alloc ?_ _)); exact BK101.out⟩, ⟨by repeat (first | (with_reducible first | exact HB.out | apply below_alloc | apply pw_below_drewN | apply below_drew1 | refine below_set ?_ GE101.out) | exact HB.out)⟩⟩
                · rw [if_neg c18] at H
                  exact absurd H (by simp)
              · rw [if_neg c17] at H
                exact absurd H (by simp)
            · replace c16 := Bool.eq_false_iff.mpr c16
              subst c16
              have H1 : (if x8_1.length < 5864062014805 then (tallymanref13_Put.l0 k1 t102 t103 (x8_1 ++ [(⟨(rd_T37 t102 x10_1).f0, (rd_T37 t102 x10_1).f1, (rd_T37 t102 x10_1).f2⟩ : S37)]) false (wrap64 (x10_1 + 1)) a1_0 a1_1 a1_2) else (none)) = some (r1, r2) := by rw [if_neg (show ¬ (false = true) by decide)] at H; exact H
              clear H
              have H := H1
              clear H1
              by_cases c25 : x8_1.length < 5864062014805
              · rw [if_pos c25] at H
                have LMc25 := Aside0.mk c25
                clear c25
                obtain ⟨y120, hy120⟩ : ∃ y_ : List (S37), y_ = (x8_1 ++ [(⟨(rd_T37 t102 x10_1).f0, (rd_T37 t102 x10_1).f1, (rd_T37 t102 x10_1).f2⟩ : S37)]) := ⟨_, rfl⟩
                replace H : (tallymanref13_Put.l0 k1 t102 t103 y120 false (wrap64 (x10_1 + 1)) a1_0 a1_1 a1_2) = some (r1, r2) := by first | (rw [hy120]; with_reducible exact H) | (have H2_ := (Option.bind_some _ _).symm.trans H; rw [hy120]; with_reducible exact H2_) | (have H2_ := (Option.bind_some _ _).symm.trans H; with_reducible exact H2_) | with_reducible exact H | (rw [hy120]; exact H) | exact H
                have Ny120 := Aside0.mk hy120
                clear hy120
                have H' := Aside0.mk H
                clear H
                obtain ⟨Ao26, co26, eo26⟩ := Kd.R_slice HO_6.out
                subst eo26
                try go_wp2
                have n0_ := Aside0.mk (Kd.R_drew HO_6.out)
                have n1_ := Aside0.mk (Kd.R_drew HO_8.out)
                have n2_ := Aside0.mk (blk_drew BK101.out)
                have n3_ := Aside0.mk (below_drew1 HB.out)
                clear HO_6
                clear HO_8
                clear BK101
                clear HB
                have HO_6 := n0_
                have HO_8 := n1_
                have BK101 := n2_
                have HB := n3_
                clear n0_ n1_ n2_ n3_
                have p110 : 0 ≤ (x10_1 : Int) := of_decide_eq_true (by first | (with_reducible assumption) | assumption)
                have q110 : x10_1 < (t102.length : Int) := of_decide_eq_true (by first | (with_reducible assumption) | assumption)
                obtain ⟨ad110, e110, hx110_0, hx110_1, hx110_2⟩ := at_T37 (Kd.R_reads' HO_6.out).2.2 x10_1 p110 q110
                cases e110
                replace p110 := eq_true p110
                replace q110 := eq_true q110
                refine start_ (n := 10) (S := fun w' => w'.cell? ⟨gb101, 0, none⟩ = some (.int .i64 a1_0) ∧ w'.cell? ⟨gb101, 1, none⟩ = some (.int .i64 a1_1) ∧ w'.cell? ⟨gb101, 2, none⟩ = some (.int .i64 a1_2) ∧ w'.cell? (ad110.add ((x10_1).toNat * 3)) = some (.int .i64 ((rd_T37 t102 x10_1).f0)) ∧ w'.cell? ⟨(ad110.add ((x10_1).toNat * 3)).block, (ad110.add ((x10_1).toNat * 3)).off + 1, none⟩ = some (.int .i64 ((rd_T37 t102 x10_1).f1)) ∧ w'.cell? ⟨(ad110.add ((x10_1).toNat * 3)).block, (ad110.add ((x10_1).toNat * 3)).off + 2, none⟩ = some (.int .i64 ((rd_T37 t102 x10_1).f2))) (ds := []) #[false, false, false, false, false, false, false, false, false, false] (by kernel_rfl) rfl rfl ⟨(blk_cell BK101.out 0).trans rfl, (blk_cell BK101.out 1).trans rfl, (blk_cell BK101.out 2).trans rfl, hx110_0, hx110_1, hx110_2⟩ (fun hHeld => ?_); refine with_tabW tallymanref13_Put.tab7 tallymanref13_Put.bits7 (fun HT_ HW_ => ?_)
                generalize wr.drew = w27 at HO_6 HO_8 BK101 HB hx110_0 hx110_1 hx110_2 hHeld ⊢
                refine pure_ (i := 0) (N := some 24) (v := ?_) (a' := ?_) #[true, false, false, false, false, false, false, false, false, false] rfl rfl (any_of HT_.out (by kernel_rfl)) (fun _ _ _ h => h) (Or.inl ⟨by rfl, ?_⟩) ?_ ?_
                rotate_left
                · intro w'
                  go_simp
                  with_reducible rfl
                rotate_left
                · simp only [Act.put, List.setIfInBounds_toArray, List.set_cons_zero, List.set_cons_succ, i64_w, i32_w]
                  rfl
                refine pure_ (i := 1) (N := some 25) (v := ?_) (a' := ?_) #[true, true, false, false, false, false, false, false, false, false] rfl rfl (any_of HT_.out (by kernel_rfl)) (fun _ _ _ h => h) (Or.inl ⟨by rfl, ?_⟩) ?_ ?_
                rotate_left
                · intro w'
                  go_simp
                  with_reducible rfl
                rotate_left
                · simp only [Act.put, List.setIfInBounds_toArray, List.set_cons_zero, List.set_cons_succ, i64_w, i32_w]
                  rfl
                refine pure_ (i := 2) (N := some 26) (v := ?_) (a' := ?_) #[true, true, true, false, false, false, false, false, false, false] rfl rfl (any_of HT_.out (by kernel_rfl)) (fun _ _ _ h => h) (Or.inl ⟨by rfl, ?_⟩) ?_ ?_
                rotate_left
                · intro w'
                  go_simp
                  with_reducible rfl
                rotate_left
                · simp only [Act.put, List.setIfInBounds_toArray, List.set_cons_zero, List.set_cons_succ, i64_w, i32_w]
                  rfl
                refine pure_ (i := 4) (N := some 28) (v := ?_) (a' := ?_) #[true, true, true, false, true, false, false, false, false, false] rfl rfl (any_of HT_.out (by kernel_rfl)) (fun _ _ _ h => h) (Or.inl ⟨by rfl, ?_⟩) ?_ ?_
                rotate_left
                · intro w'
                  go_simp
                  with_reducible rfl
                rotate_left
                · simp only [Act.put, List.setIfInBounds_toArray, List.set_cons_zero, List.set_cons_succ, i64_w, i32_w]
                  rfl
                refine pure_ (i := 5) (N := some 29) (v := ?_) (a' := ?_) #[true, true, true, false, true, true, false, false, false, false] rfl rfl (any_of HT_.out (by kernel_rfl)) (fun _ _ _ h => h) (Or.inl ⟨by rfl, ?_⟩) ?_ ?_
                rotate_left
                · intro w'
                  go_simp
                  with_reducible rfl
                rotate_left
                · simp only [Act.put, List.setIfInBounds_toArray, List.set_cons_zero, List.set_cons_succ, i64_w, i32_w]
                  rfl
                refine pure_ (i := 6) (N := some 30) (v := ?_) (a' := ?_) #[true, true, true, false, true, true, true, false, false, false] rfl rfl (any_of HT_.out (by kernel_rfl)) (fun _ _ _ h => h) (Or.inl ⟨by rfl, ?_⟩) ?_ ?_
                rotate_left
                · intro w'
                  go_simp
                  with_reducible rfl
                rotate_left
                · simp only [Act.put, List.setIfInBounds_toArray, List.set_cons_zero, List.set_cons_succ, i64_w, i32_w]
                  rfl
                refine take_ (i := 3) (N := some 27) (v := ?_) (a' := ?_) #[true, true, true, true, true, true, true, false, false, false] rfl rfl (take_ofW HT_.out HW_.out (by kernel_rfl)) (fun _ _ _ h => h) (Or.inl ⟨by rfl, ?_⟩) hHeld ?_ ?_
                rotate_left
                · rintro w' ⟨s0, s1, s2, s3, s4, s5⟩
                  go_simp
                  with_reducible rfl
                rotate_left
                · simp only [Act.put, List.setIfInBounds_toArray, List.set_cons_zero, List.set_cons_succ, i64_w, i32_w]
                  rfl
                refine take_ (i := 7) (N := some 31) (v := ?_) (a' := ?_) #[true, true, true, true, true, true, true, true, false, false] rfl rfl (take_ofW HT_.out HW_.out (by kernel_rfl)) (fun _ _ _ h => h) (Or.inl ⟨by rfl, ?_⟩) hHeld ?_ ?_
                rotate_left
                · rintro w' ⟨s0, s1, s2, s3, s4, s5⟩
                  go_simp
                  with_reducible rfl
                rotate_left
                · simp only [Act.put, List.setIfInBounds_toArray, List.set_cons_zero, List.set_cons_succ, i64_w, i32_w]
                  rfl
                refine one_ (i := 8) (N := some 32) #[true, true, true, true, true, true, true, true, true, false] rfl rfl (one_of HT_.out (by kernel_rfl)) (by decide) (fun K hK => ?_)
                refine goes_ Try.func34 (by kernel_rfl) rfl #[.agg #[.int .i64 a1_0, .int .i64 a1_1, .int .i64 a1_2], .agg #[.int .i64 ((rd_T37 t102 x10_1).f0), .int .i64 ((rd_T37 t102 x10_1).f1), .int .i64 ((rd_T37 t102 x10_1).f2)]] (by rfl) rfl rfl (by (try simp only [List.map_toArray, List.map_cons, List.map_nil]); first | done | rfl | (simp only [List.length_drop, List.length_take]; rfl)) ?_
                with_reducible refine (tallymanref13_Ahead.calls a1_0 a1_1 a1_2 ((rd_T37 t102 x10_1).f0) ((rd_T37 t102 x10_1).f1) ((rd_T37 t102 x10_1).f2) false _ A15.out).mono ?_
                rintro e w28 ⟨rfl, hb⟩
                have HS3_ := (hb.cell (World.block_lt_of_cell? _ _ (hHeld.2.2.2.1))).trans (hHeld.2.2.2.1)
                have HS4_ := (hb.cell (World.block_lt_of_cell? _ _ (hHeld.2.2.2.2.1))).trans (hHeld.2.2.2.2.1)
                have HS5_ := (hb.cell (World.block_lt_of_cell? _ _ (hHeld.2.2.2.2.2))).trans (hHeld.2.2.2.2.2)
                refine ⟨_, rfl, ?_⟩
                have n0_ := Aside0.mk (Kd.R_below (by (with_reducible repeat (first | apply Kd.R_alloc | apply Kd.R_drewN | apply Kd.R_drew)); exact HO_6.out) hb)
                have n1_ := Aside0.mk (Kd.R_below (by (with_reducible repeat (first | apply Kd.R_alloc | apply Kd.R_drewN | apply Kd.R_drew)); exact HO_8.out) hb)
                have n2_ := Aside0.mk (blk_below (g := gb101) (o := .cells #[.int .i64 a1_0, .int .i64 a1_1, .int .i64 a1_2] 37 (0, 0)) (by (with_reducible repeat (first | refine blk_drewN ?_ _ | refine blk_drew ?_ | refine blk_alloc ?_ _)); exact BK101.out) hb)
                have n3_ := Aside0.mk (below_step (by repeat (first | (with_reducible first | exact HB.out | apply below_alloc | apply pw_below_drewN | apply below_drew1 | refine below_set ?_ GE101.out) | exact HB.out)) hb)
                clear HO_6
                clear HO_8
                clear BK101
                clear HB
                have HO_6 := n0_
                have HO_8 := n1_
                have BK101 := n2_
                have HB := n3_
                clear n0_ n1_ n2_ n3_
                (try clear hb)
                (try clear hb2)
                (try clear hk)
                (try clear hi)
                refine hK.out _ _ ⟨(blk_cell BK101.out 0).trans rfl, (blk_cell BK101.out 1).trans rfl, (blk_cell BK101.out 2).trans rfl, HS3_, HS4_, HS5_⟩ (fun hHeld => ?_)
                clear hK K
                refine norm_ (a' := ?_) ?_ ?_
                rotate_left
                · show Act.put _ (some 32) _ = _
                  simp only [Act.put, List.setIfInBounds_toArray, List.set_cons_zero, List.set_cons_succ, i64_w, i32_w]
                  rfl
                refine pure_ (i := 9) (N := some 33) (v := ?_) (a' := ?_) #[true, true, true, true, true, true, true, true, true, true] rfl rfl (any_of HT_.out (by kernel_rfl)) (fun _ _ _ h => h) (Or.inl ⟨by rfl, ?_⟩) ?_ ?_
                rotate_left
                · intro w'
                  go_simp
                  with_reducible rfl
                rotate_left
                · simp only [Act.put, List.setIfInBounds_toArray, List.set_cons_zero, List.set_cons_succ, i64_w, i32_w]
                  rfl
                refine done_ (done_of HT_.out (by kernel_rfl)) ?_
                have p119 : 0 ≤ (x10_1 : Int) := of_decide_eq_true (by first | (with_reducible assumption) | assumption)
                have q119 : x10_1 < (t102.length : Int) := of_decide_eq_true (by first | (with_reducible assumption) | assumption)
                obtain ⟨ad119, e119, hx119_0, hx119_1, hx119_2⟩ := at_T37 (Kd.R_reads' HO_6.out).2.2 x10_1 p119 q119
                obtain rfl : ad110 = ad119 := (by injection e119)
                replace p119 := eq_true p119
                replace q119 := eq_true q119
                try go_wp2_with (first | ((with_reducible refine gate_builtin (b := .append) (xs := #[.tmp 38, .tmp 43]) rfl ?_); at_builtin; refine Kd.R_append k37 (w0 := w) w.heap.size rfl (.tmp 38) (.tmp 43) 35 37 (.agg #[(.int .i64 0), (.int .i64 0), (.int .i64 0)]) 24 rfl Try.underlying35 info37 rfl (by decide) (by omega) u8 x8_1 (⟨(rd_T37 t102 x10_1).f0, (rd_T37 t102 x10_1).f1, (rd_T37 t102 x10_1).f2⟩ : S37) [.int .i64 ((rd_T37 t102 x10_1).f0), .int .i64 ((rd_T37 t102 x10_1).f1), .int .i64 ((rd_T37 t102 x10_1).f2)] (fun k_ => some k_ ≠ (.slice (some ad110) t102.length co26 : Value).ownBlock ∧ k_ ≠ gb101) (fun _ => False) rfl rfl ?aP (fun _ hk => hk.elim) ?aF ?aO ?aB ?aS ?aL ?_; (case aP => exact k37_mkM _ _ _ (⟨(rd_T37 t102 x10_1).f0, (rd_T37 t102 x10_1).f1, (rd_T37 t102 x10_1).f2⟩ : S37)); (case aB => exact (by repeat (first | (with_reducible first | exact HB.out | apply below_alloc | apply pw_below_drewN | apply below_drew1 | refine below_set ?_ GE101.out) | exact HB.out))); (case aF => exact (fun k_ hk => ⟨Kd.fresh' (Kd.R_lt (by (with_reducible repeat (first | apply Kd.R_alloc | apply Kd.R_drewN | apply Kd.R_drew)); exact HO_6.out)) k_ hk, Kd.freshB (g := gb101) (o := .cells #[.int .i64 a1_0, .int .i64 a1_1, .int .i64 a1_2] 37 (0, 0)) (by (with_reducible repeat (first | refine blk_drewN ?_ _ | refine blk_drew ?_ | refine blk_alloc ?_ _)); exact BK101.out) k_ hk⟩)); (case aO => exact (by (with_reducible repeat (first | apply Kd.R_alloc | apply Kd.R_drewN | apply Kd.R_drew)); exact HO_8.out)); (case aS => exact (below_size (by repeat (first | (with_reducible first | exact HB.out | apply below_alloc | apply pw_below_drewN | apply below_drew1 | refine below_set ?_ GE101.out) | exact HB.out)))); (case aL => have := LMc25.out; omega); intro v121 w29 ho hb hg hat; rw [← Ny120.out] at ho; have n0_ := Aside0.mk (Kd.R_after (ok := (fun k_ => k_ ≠ gb101)) (by (with_reducible repeat (first | apply Kd.R_alloc | apply Kd.R_drewN | apply Kd.R_drew)); exact Kd.R_mono HO_6.out (fun _ hk => ⟨hk.2, hk.1⟩)) hg hat); have n1_ := Aside0.mk (blk_grown (g := gb101) (o := .cells #[.int .i64 a1_0, .int .i64 a1_1, .int .i64 a1_2] 37 (0, 0)) (by (with_reducible repeat (first | refine blk_drewN ?_ _ | refine blk_drew ?_ | refine blk_alloc ?_ _)); exact BK101.out) hg (Kd.R_away HO_8.out (fun _ hk => hk.2))); have n2_ := Aside0.mk (hb); have n3_ := Aside0.mk (ho); clear HO_6; clear BK101; clear HB; clear HO_8; have HO_6 := n0_; have BK101 := n1_; have HB := n2_; have HO122 := n3_; clear n0_ n1_ n2_ n3_; clear ho hb hg hat))
                go_roundg k1
                case measure => have := HK1.out; omega
                case rel => exact ⟨(y120), (false), (wrap64 (x10_1 + 1)), (by first | rfl | (simp; done) | (simp [*]; done)), (by first | rfl | (simp; done) | (simp [*]; done)), H', ⟨by have := HK1.out; omega⟩, ⟨by (with_reducible repeat (first | apply Kd.R_alloc | apply Kd.R_drewN | apply Kd.R_drew)); exact Kd.R_mono HO_6.out (fun _ hk => ⟨hk.2, hk.1⟩)⟩, ⟨by (with_reducible repeat (first | apply Kd.R_alloc | apply Kd.R_drewN | apply Kd.R_drew)); exact HO122.out⟩, ⟨by (with_reducible repeat (first | refine blk_drewN ?_ _ | refine blk_drew ?_ | refine blk_alloc ?_ _)); exact BK101.out⟩, ⟨by repeat (first | (with_reducible first | exact HB.out | apply below_alloc | apply pw_below_drewN | apply below_drew1 | refine below_set ?_ GE101.out) | exact HB.out)⟩⟩
              · rw [if_neg c25] at H
                exact absurd H (by simp)
          · rw [if_neg c14] at H
            exact absurd H (by simp)
      · rw [if_neg c7] at H
        have c7b0 : decide (x10_1 < (t102.length : Int)) = false := decide_eq_false c7
        clear c7
        by_cases c30 : x9_1 = true
        · subst c30
          have H1 : (some (x8_1, !t103)) = some (r1, r2) := by rw [if_pos rfl] at H; exact H
          clear H
          have H := H1
          clear H1
          simp only [Option.some.injEq, Prod.mk.injEq] at H
          obtain ⟨rfl, rfl⟩ := H
          obtain ⟨Ao31, co31, eo31⟩ := Kd.R_slice HO_6.out
          subst eo31
          go_wp2
          go_ret2
          exact ⟨_, by first | rfl | (simp [errW_none, errW_some] <;> rfl) | (simp [*, errW_none, errW_some] <;> rfl), by (with_reducible repeat (first | apply Kd.R_alloc | apply Kd.R_drewN | apply Kd.R_drew)); exact Kd.R_mono HO_8.out (fun _ hk => trivial), by repeat (first | (with_reducible first | exact HB.out | apply below_alloc | apply pw_below_drewN | apply below_drew1 | refine below_set ?_ GE101.out) | exact HB.out)⟩
        · replace c30 := Bool.eq_false_iff.mpr c30
          subst c30
          have H1 : (if x8_1.length < 5864062014805 then (some ((x8_1 ++ [(⟨a1_0, a1_1, a1_2⟩ : S37)]), !t103)) else (none)) = some (r1, r2) := by rw [if_neg (show ¬ (false = true) by decide)] at H; exact H
          clear H
          have H := H1
          clear H1
          by_cases c32 : x8_1.length < 5864062014805
          · rw [if_pos c32] at H
            have LMc32 := Aside0.mk c32
            clear c32
            obtain ⟨y123, hy123⟩ : ∃ y_ : List (S37), y_ = (x8_1 ++ [(⟨a1_0, a1_1, a1_2⟩ : S37)]) := ⟨_, rfl⟩
            replace H : (some (y123, !t103)) = some (r1, r2) := by first | (rw [hy123]; with_reducible exact H) | (have H2_ := (Option.bind_some _ _).symm.trans H; rw [hy123]; with_reducible exact H2_) | (have H2_ := (Option.bind_some _ _).symm.trans H; with_reducible exact H2_) | with_reducible exact H | (rw [hy123]; exact H) | exact H
            have Ny123 := Aside0.mk hy123
            clear hy123
            simp only [Option.some.injEq, Prod.mk.injEq] at H
            obtain ⟨rfl, rfl⟩ := H
            obtain ⟨Ao33, co33, eo33⟩ := Kd.R_slice HO_6.out
            subst eo33
            have hcz34_0 : wr.cell? ⟨gb101, 0, none⟩ = some (.int .i64 a1_0) := (blk_cell BK101.out 0).trans rfl
            have hcz34_1 : wr.cell? ⟨gb101, 1, none⟩ = some (.int .i64 a1_1) := (blk_cell BK101.out 1).trans rfl
            have hcz34_2 : wr.cell? ⟨gb101, 2, none⟩ = some (.int .i64 a1_2) := (blk_cell BK101.out 2).trans rfl
            have hfz34_0 := blk_frozen BK101.out 0
            have hfz34_1 := blk_frozen BK101.out 1
            have hfz34_2 := blk_frozen BK101.out 2
            go_wp2_with (first | ((with_reducible refine gate_builtin (b := .append) (xs := #[.tmp 47, .tmp 49]) rfl ?_); at_builtin; refine Kd.R_append k37 (w0 := w) w.heap.size rfl (.tmp 47) (.tmp 49) 35 37 (.agg #[(.int .i64 0), (.int .i64 0), (.int .i64 0)]) 24 rfl Try.underlying35 info37 rfl (by decide) (by omega) u8 x8_1 (⟨a1_0, a1_1, a1_2⟩ : S37) [.int .i64 a1_0, .int .i64 a1_1, .int .i64 a1_2] (fun k_ => some k_ ≠ (.slice Ao33 t102.length co33 : Value).ownBlock ∧ k_ ≠ gb101) (fun _ => False) rfl rfl ?aP (fun _ hk => hk.elim) ?aF ?aO ?aB ?aS ?aL ?_; (case aP => exact k37_mkM _ _ _ (⟨a1_0, a1_1, a1_2⟩ : S37)); (case aB => exact (by repeat (first | (with_reducible first | exact HB.out | apply below_alloc | apply pw_below_drewN | apply below_drew1 | refine below_set ?_ GE101.out) | exact HB.out))); (case aF => exact (fun k_ hk => ⟨Kd.fresh' (Kd.R_lt (by (with_reducible repeat (first | apply Kd.R_alloc | apply Kd.R_drewN | apply Kd.R_drew)); exact HO_6.out)) k_ hk, Kd.freshB (g := gb101) (o := .cells #[.int .i64 a1_0, .int .i64 a1_1, .int .i64 a1_2] 37 (0, 0)) (by (with_reducible repeat (first | refine blk_drewN ?_ _ | refine blk_drew ?_ | refine blk_alloc ?_ _)); exact BK101.out) k_ hk⟩)); (case aO => exact (by (with_reducible repeat (first | apply Kd.R_alloc | apply Kd.R_drewN | apply Kd.R_drew)); exact HO_8.out)); (case aS => exact (below_size (by repeat (first | (with_reducible first | exact HB.out | apply below_alloc | apply pw_below_drewN | apply below_drew1 | refine below_set ?_ GE101.out) | exact HB.out)))); (case aL => have := LMc32.out; omega); intro v124 w35 ho hb hg hat; rw [← Ny123.out] at ho; have n0_ := Aside0.mk (Kd.R_after (ok := (fun k_ => k_ ≠ gb101)) (by (with_reducible repeat (first | apply Kd.R_alloc | apply Kd.R_drewN | apply Kd.R_drew)); exact Kd.R_mono HO_6.out (fun _ hk => ⟨hk.2, hk.1⟩)) hg hat); have n1_ := Aside0.mk (blk_grown (g := gb101) (o := .cells #[.int .i64 a1_0, .int .i64 a1_1, .int .i64 a1_2] 37 (0, 0)) (by (with_reducible repeat (first | refine blk_drewN ?_ _ | refine blk_drew ?_ | refine blk_alloc ?_ _)); exact BK101.out) hg (Kd.R_away HO_8.out (fun _ hk => hk.2))); have n2_ := Aside0.mk (hb); have n3_ := Aside0.mk (ho); clear HO_6; clear BK101; clear HB; clear HO_8; have HO_6 := n0_; have BK101 := n1_; have HB := n2_; have HO125 := n3_; clear n0_ n1_ n2_ n3_; clear ho hb hg hat))
            go_ret2
            exact ⟨_, by first | rfl | (simp [errW_none, errW_some] <;> rfl) | (simp [*, errW_none, errW_some] <;> rfl), by (with_reducible repeat (first | apply Kd.R_alloc | apply Kd.R_drewN | apply Kd.R_drew)); exact Kd.R_mono HO125.out (fun _ hk => trivial), by repeat (first | (with_reducible first | exact HB.out | apply below_alloc | apply pw_below_drewN | apply below_drew1 | refine below_set ?_ GE101.out) | exact HB.out)⟩
          · rw [if_neg c32] at H
            exact absurd H (by simp)
end Go.Proofs.Ytopblnecdabcgaa.P
end
section
-- printed by the session's own call of print.py. Not trusted: Lean checks it.
namespace Go.Proofs.Ytopblnecdabcgaa.P
open Go.RowKit Go.Proofs.YtopblnecdabcgaaW.PrintWords Go.Proofs.YtopblnecdabcgaaW.PrintLast Go.Proofs.YtopblnecdabcgaaW.PrintMore
attribute [local go_sem] max2_int min2_int max_two min_two max_three min_three max_four min_four
set_option linter.unusedVariables false
set_option linter.unusedSimpArgs false
/-! ### tallymanref13_Find: function 29 -/
def tallymanref13_Find.l0 : Nat → List (S37) → Int → Int → Option (Int × Int × Int × Bool)
  | 0, _, _, _ => none
  | k + 1, x0, x1, x6 => if x6 < (x0.length : Int) then (if 0 ≤ x6 then (if ((rd_T37 x0 x6).f0) = x1 then (some ((rd_T37 x0 x6).f0, (rd_T37 x0 x6).f1, (rd_T37 x0 x6).f2, true)) else (tallymanref13_Find.l0 k x0 x1 (wrap64 (x6 + 1)))) else (none)) else (some (0, 0, 0, false))
def tallymanref13_Find.f (k : Nat) (l0 : List (S37)) (a1 : Int) : Option (Int × Int × Int × Bool) := tallymanref13_Find.l0 k l0 a1 0
theorem tallymanref13_Find.mono_l : ∀ k, (∀ y0 y1 y2, LeO (tallymanref13_Find.l0 k y0 y1 y2) (tallymanref13_Find.l0 (k + 1) y0 y1 y2))
  | 0 => fun _ _ _ r h => by simp [tallymanref13_Find.l0] at h
  | k + 1 => by
    have ih0 := tallymanref13_Find.mono_l k
    · intro y0 y1 y2
      unfold tallymanref13_Find.l0
      repeat' first
      | (with_reducible exact ih0 _ _ _)
      | (with_reducible exact LeO.refl _)
      | (with_reducible exact LeO.none _)
      | (with_reducible refine LeO.ite ?_ ?_)
      | (with_reducible refine LeO.bind ?_ (fun _ => ?_))
      | exact ih0 _ _ _
      | exact LeO.none _
      | refine LeO.ite ?_ ?_
      | refine LeO.bind ?_ (fun _ => ?_)
theorem tallymanref13_Find.mono : ∀ a0 a1 k, LeO (tallymanref13_Find.f k a0 a1) (tallymanref13_Find.f (k + 1) a0 a1) := by
  intro a0 a1 k
  have ih0 := tallymanref13_Find.mono_l k
  unfold tallymanref13_Find.f
  repeat' first
      | (with_reducible exact ih0 _ _ _)
      | (with_reducible exact LeO.refl _)
      | (with_reducible exact LeO.none _)
      | (with_reducible refine LeO.ite ?_ ?_)
      | (with_reducible refine LeO.bind ?_ (fun _ => ?_))
      | exact ih0 _ _ _
      | exact LeO.none _
      | refine LeO.ite ?_ ?_
      | refine LeO.bind ?_ (fun _ => ?_)
set_option maxHeartbeats 8000000 in
set_option maxRecDepth 100000 in
theorem tallymanref13_Find.calls (k : Nat) (A0 : Option Addr) (c0 : Nat) (l0 : List (S37)) (a1 : Int) (r1 : Int) (r2 : Int) (r3 : Int) (r4 : Bool) (w : World) (hr0 : Kd.C k37 w A0 l0.length l0) (hc0 : l0.length ≤ c0) (h : tallymanref13_Find.f k l0 a1 = some (r1, r2, r3, r4)) :
    Calls Try.prog 29 #[.slice A0 l0.length c0, .int .i64 a1] w fun e w' => e = .returned (.tuple #[.agg #[.int .i64 r1, .int .i64 r2, .int .i64 r3], .bool r4]) ∧ Below w.heap.size w w' := by
  have hu37 := Try.underlying37
  have HR0 := Aside0.mk hr0
  have HC0 := Aside0.mk hc0
  clear hr0 hc0
  have HB := Aside0.mk (Below.refl w.heap.size w)
  have H : (tallymanref13_Find.l0 k l0 a1 0) = some (r1, r2, r3, r4) := h
  clear h
  have H' := Aside0.mk H
  clear H
  go_enter Try.func29, Try.ntmps29
  go_wp2_with (first | ((with_reducible refine gate_dst (N := 4) rfl ?_); refine box_event ?hg (N := 4) ?hd (cs := #[.int .i64 0, .int .i64 0, .int .i64 0]) (t := 37) ?hr ?_; (case hd => rfl); (case hg => rfl); (case hr => first | (go_simp; done) | (go_simp; rfl)); intro gb101 hg w3 hbox hb; have n0_ := Aside0.mk (below_step (by repeat (first | (with_reducible first | exact HB.out | apply below_alloc | apply pw_below_drewN | apply below_drew1) | exact HB.out)) hb); have n1_ := Aside0.mk (hbox); have n2_ := Aside0.mk ((by rw [hg]; exact (below_size (by repeat (first | (with_reducible first | exact HB.out | apply below_alloc | apply pw_below_drewN | apply below_drew1) | exact HB.out))) : w.heap.size ≤ gb101)); have n3_ := Aside0.mk ((by rw [hg]; exact (below_size (by repeat (first | (with_reducible first | exact HB.out | apply below_alloc | apply pw_below_drewN | apply below_drew1) | exact HB.out))) : w.heap.size ≤ gb101)); clear HB; have HB := n0_; have BK101 := n1_; have GW101 := n2_; have GE101 := n3_; clear n0_ n1_ n2_ n3_; clear hb hbox hg))
  go_loopg [6] k (fun kq v6 w' => ∃ (x6_1 : Int) (x102000_1 : Int) (x102001_1 : Int) (x102002_1 : Int), v6 = .int .i64 x6_1 ∧ Aside0 (tallymanref13_Find.l0 kq l0 a1 x6_1 = some (r1, r2, r3, r4)) ∧ Aside0 (kq ≤ k) ∧ Aside0 (w'.heap[gb101]? = some (.cells #[.int .i64 x102000_1, .int .i64 x102001_1, .int .i64 x102002_1] 37 (0, 0))) ∧ Aside0 (Below w.heap.size w w'))
  case atStart => exact ⟨(0), (0), (0), (0), (by first | rfl | (simp; done) | (simp [*]; done)), H', ⟨Nat.le_refl _⟩, ⟨by (with_reducible repeat (first | refine blk_drewN ?_ _ | refine blk_drew ?_ | refine blk_alloc ?_ _)); exact BK101.out⟩, ⟨by repeat (first | (with_reducible first | exact HB.out | apply below_alloc | apply pw_below_drewN | apply below_drew1 | refine below_set ?_ GE101.out) | exact HB.out)⟩⟩
  case round =>
    clear H'
    try clear c2
    try clear p2
    obtain ⟨x6_1, x102000_1, x102001_1, x102002_1, rfl, HA, HK1, BK101, HB⟩ := hrel
    cases gk with
    | zero => exact absurd HA.out (by simp [tallymanref13_Find.l0])
    | succ k1 =>
      have H := HA.out
      clear HA
      simp only [tallymanref13_Find.l0] at H
      by_cases c4 : x6_1 < (l0.length : Int)
      · rw [if_pos c4] at H
        have c4b0 : decide (x6_1 < (l0.length : Int)) = true := decide_eq_true c4
        clear c4
        by_cases c5 : 0 ≤ x6_1
        · rw [if_pos c5] at H
          have c5b0 : decide (0 ≤ x6_1) = true := decide_eq_true c5
          clear c5
          by_cases c6 : ((rd_T37 l0 x6_1).f0) = a1
          · rw [if_pos c6] at H
            have c6b0 : (((rd_T37 l0 x6_1).f0) == a1) = true := beq_iff_eq.mpr c6
            have c6b1 : (((rd_T37 l0 x6_1).f0) != a1) = false := bne_eq_false_iff_eq.mpr c6
            clear c6
            simp only [Option.some.injEq, Prod.mk.injEq] at H
            obtain ⟨rfl, rfl, rfl, rfl⟩ := H
            have p102 : 0 ≤ (x6_1 : Int) := of_decide_eq_true (by first | (with_reducible assumption) | assumption)
            have q102 : x6_1 < (l0.length : Int) := of_decide_eq_true (by first | (with_reducible assumption) | assumption)
            obtain ⟨ad102, e102, hx102_0, hx102_1, hx102_2⟩ := at_T37 HR0.out x6_1 p102 q102
            cases e102
            replace hx102_0 := (HB.out.cell (World.block_lt_of_cell? w _ hx102_0)).trans hx102_0
            replace hx102_1 := (HB.out.cell (World.block_lt_of_cell? w _ hx102_1)).trans hx102_1
            replace hx102_2 := (HB.out.cell (World.block_lt_of_cell? w _ hx102_2)).trans hx102_2
            replace p102 := eq_true p102
            replace q102 := eq_true q102
            have p103 : 0 ≤ (x6_1 : Int) := of_decide_eq_true (by first | (with_reducible assumption) | assumption)
            have q103 : x6_1 < (l0.length : Int) := of_decide_eq_true (by first | (with_reducible assumption) | assumption)
            obtain ⟨ad103, e103, hx103_0, hx103_1, hx103_2⟩ := at_T37 HR0.out x6_1 p103 q103
            obtain rfl : ad102 = ad103 := (by injection e103)
            replace hx103_0 := (HB.out.cell (World.block_lt_of_cell? w _ hx103_0)).trans hx103_0
            replace hx103_1 := (HB.out.cell (World.block_lt_of_cell? w _ hx103_1)).trans hx103_1
            replace hx103_2 := (HB.out.cell (World.block_lt_of_cell? w _ hx103_2)).trans hx103_2
            replace p103 := eq_true p103
            replace q103 := eq_true q103
            have hcz7_0 : wr.cell? ⟨gb101, 0, none⟩ = some (.int .i64 x102000_1) := (blk_cell BK101.out 0).trans rfl
            have hcz7_1 : wr.cell? ⟨gb101, 1, none⟩ = some (.int .i64 x102001_1) := (blk_cell BK101.out 1).trans rfl
            have hcz7_2 : wr.cell? ⟨gb101, 2, none⟩ = some (.int .i64 x102002_1) := (blk_cell BK101.out 2).trans rfl
            have hfz7_0 := blk_frozen BK101.out 0
            have hfz7_1 := blk_frozen BK101.out 1
            have hfz7_2 := blk_frozen BK101.out 2
            go_wp2
            refine bodyPost_ret (results_ct rfl _ _ gb101 37 #[.int .i64 ((rd_T37 l0 x6_1).f0), .int .i64 ((rd_T37 l0 x6_1).f1), .int .i64 ((rd_T37 l0 x6_1).f2)] (0, 0) _ rfl (by (with_reducible repeat (first | refine blk_drewN ?_ _ | refine blk_drew ?_ | refine blk_alloc ?_ _)); refine blk_put (cs := #[.int .i64 ((rd_T37 l0 x6_1).f0), .int .i64 ((rd_T37 l0 x6_1).f1), .int .i64 x102002_1]) ?_ 2 _ rfl; (with_reducible repeat (first | refine blk_drewN ?_ _ | refine blk_drew ?_ | refine blk_alloc ?_ _)); refine blk_put (cs := #[.int .i64 ((rd_T37 l0 x6_1).f0), .int .i64 x102001_1, .int .i64 x102002_1]) ?_ 1 _ rfl; (with_reducible repeat (first | refine blk_drewN ?_ _ | refine blk_drew ?_ | refine blk_alloc ?_ _)); refine blk_put (cs := #[.int .i64 x102000_1, .int .i64 x102001_1, .int .i64 x102002_1]) ?_ 0 _ rfl; (with_reducible repeat (first | refine blk_drewN ?_ _ | refine blk_drew ?_ | refine blk_alloc ?_ _)); exact BK101.out) Try.underlying37 rfl (by kernel_rfl)) rfl ?_
            exact ⟨by first | rfl | ((repeat first | rw [Int.tdiv_eq_ediv_of_nonneg (by omega)] | rw [Int.tmod_eq_emod_of_nonneg (by omega)]); rfl) | (simp [errW_none, errW_some] <;> rfl) | (simp [*, errW_none, errW_some] <;> rfl), by repeat (first | (with_reducible first | exact HB.out | apply below_alloc | apply pw_below_drewN | apply below_drew1 | refine below_set ?_ GE101.out) | exact HB.out)⟩
          · rw [if_neg c6] at H
            have c6b0 : (((rd_T37 l0 x6_1).f0) == a1) = false := beq_eq_false_iff_ne.mpr c6
            have c6b1 : (((rd_T37 l0 x6_1).f0) != a1) = true := bne_iff_ne.mpr c6
            have H' := Aside0.mk H
            clear H
            have p102 : 0 ≤ (x6_1 : Int) := of_decide_eq_true (by first | (with_reducible assumption) | assumption)
            have q102 : x6_1 < (l0.length : Int) := of_decide_eq_true (by first | (with_reducible assumption) | assumption)
            obtain ⟨ad102, e102, hx102_0, hx102_1, hx102_2⟩ := at_T37 HR0.out x6_1 p102 q102
            cases e102
            replace hx102_0 := (HB.out.cell (World.block_lt_of_cell? w _ hx102_0)).trans hx102_0
            replace hx102_1 := (HB.out.cell (World.block_lt_of_cell? w _ hx102_1)).trans hx102_1
            replace hx102_2 := (HB.out.cell (World.block_lt_of_cell? w _ hx102_2)).trans hx102_2
            replace p102 := eq_true p102
            replace q102 := eq_true q102
            go_wp2
            go_roundg k1
            case measure => have := HK1.out; omega
            case rel => exact ⟨(wrap64 (x6_1 + 1)), (x102000_1), (x102001_1), (x102002_1), (by first | rfl | (simp; done) | (simp [*]; done)), H', ⟨by have := HK1.out; omega⟩, ⟨by (with_reducible repeat (first | refine blk_drewN ?_ _ | refine blk_drew ?_ | refine blk_alloc ?_ _)); exact BK101.out⟩, ⟨by repeat (first | (with_reducible first | exact HB.out | apply below_alloc | apply pw_below_drewN | apply below_drew1 | refine below_set ?_ GE101.out) | exact HB.out)⟩⟩
        · rw [if_neg c5] at H
          exact absurd H (by simp)
      · rw [if_neg c4] at H
        have c4b0 : decide (x6_1 < (l0.length : Int)) = false := decide_eq_false c4
        clear c4
        simp only [Option.some.injEq, Prod.mk.injEq] at H
        obtain ⟨rfl, rfl, rfl, rfl⟩ := H
        have hcz8_0 : wr.cell? ⟨gb101, 0, none⟩ = some (.int .i64 x102000_1) := (blk_cell BK101.out 0).trans rfl
        have hcz8_1 : wr.cell? ⟨gb101, 1, none⟩ = some (.int .i64 x102001_1) := (blk_cell BK101.out 1).trans rfl
        have hcz8_2 : wr.cell? ⟨gb101, 2, none⟩ = some (.int .i64 x102002_1) := (blk_cell BK101.out 2).trans rfl
        have hfz8_0 := blk_frozen BK101.out 0
        have hfz8_1 := blk_frozen BK101.out 1
        have hfz8_2 := blk_frozen BK101.out 2
        go_wp2
        refine bodyPost_ret (results_ct rfl _ _ gb101 37 #[.int .i64 0, .int .i64 0, .int .i64 0] (0, 0) _ rfl (by (with_reducible repeat (first | refine blk_drewN ?_ _ | refine blk_drew ?_ | refine blk_alloc ?_ _)); refine blk_put (cs := #[.int .i64 0, .int .i64 0, .int .i64 x102002_1]) ?_ 2 _ rfl; (with_reducible repeat (first | refine blk_drewN ?_ _ | refine blk_drew ?_ | refine blk_alloc ?_ _)); refine blk_put (cs := #[.int .i64 0, .int .i64 x102001_1, .int .i64 x102002_1]) ?_ 1 _ rfl; (with_reducible repeat (first | refine blk_drewN ?_ _ | refine blk_drew ?_ | refine blk_alloc ?_ _)); refine blk_put (cs := #[.int .i64 x102000_1, .int .i64 x102001_1, .int .i64 x102002_1]) ?_ 0 _ rfl; (with_reducible repeat (first | refine blk_drewN ?_ _ | refine blk_drew ?_ | refine blk_alloc ?_ _)); exact BK101.out) Try.underlying37 rfl (by kernel_rfl)) rfl ?_
        exact ⟨by first | rfl | ((repeat first | rw [Int.tdiv_eq_ediv_of_nonneg (by omega)] | rw [Int.tmod_eq_emod_of_nonneg (by omega)]); rfl) | (simp [errW_none, errW_some] <;> rfl) | (simp [*, errW_none, errW_some] <;> rfl), by repeat (first | (with_reducible first | exact HB.out | apply below_alloc | apply pw_below_drewN | apply below_drew1 | refine below_set ?_ GE101.out) | exact HB.out)⟩
end Go.Proofs.Ytopblnecdabcgaa.P
end
section
-- printed by the session's own call of print.py. Not trusted: Lean checks it.
namespace Go.Proofs.Ytopblnecdabcgaa.P
open Go.RowKit Go.Proofs.YtopblnecdabcgaaW.PrintWords Go.Proofs.YtopblnecdabcgaaW.PrintLast Go.Proofs.YtopblnecdabcgaaW.PrintMore
attribute [local go_sem] max2_int min2_int max_two min_two max_three min_three max_four min_four
set_option linter.unusedVariables false
set_option linter.unusedSimpArgs false
/-! ### tallymanref13_IDs: function 33 -/
def tallymanref13_IDs.l0 : Nat → List (S37) → List Int → Int → Option (List Int)
  | 0, _, _, _ => none
  | k + 1, x0, x3, x4 => if x4 < (x0.length : Int) then (if 0 ≤ x4 then (if x3.length < 17592186044416 then (tallymanref13_IDs.l0 k x0 (x3 ++ [(rd_T37 x0 x4).f0]) (wrap64 (x4 + 1))) else (none)) else (none)) else (some x3)
def tallymanref13_IDs.f (k : Nat) (l0 : List (S37)) : Option (List Int) := tallymanref13_IDs.l0 k l0 ([] : List Int) 0
theorem tallymanref13_IDs.mono_l : ∀ k, (∀ y0 y1 y2, LeO (tallymanref13_IDs.l0 k y0 y1 y2) (tallymanref13_IDs.l0 (k + 1) y0 y1 y2))
  | 0 => fun _ _ _ r h => by simp [tallymanref13_IDs.l0] at h
  | k + 1 => by
    have ih0 := tallymanref13_IDs.mono_l k
    · intro y0 y1 y2
      unfold tallymanref13_IDs.l0
      repeat' first
      | (with_reducible exact ih0 _ _ _)
      | (with_reducible exact LeO.refl _)
      | (with_reducible exact LeO.none _)
      | (with_reducible refine LeO.ite ?_ ?_)
      | (with_reducible refine LeO.bind ?_ (fun _ => ?_))
      | exact ih0 _ _ _
      | exact LeO.none _
      | refine LeO.ite ?_ ?_
      | refine LeO.bind ?_ (fun _ => ?_)
theorem tallymanref13_IDs.mono : ∀ a0 k, LeO (tallymanref13_IDs.f k a0) (tallymanref13_IDs.f (k + 1) a0) := by
  intro a0 k
  have ih0 := tallymanref13_IDs.mono_l k
  unfold tallymanref13_IDs.f
  repeat' first
      | (with_reducible exact ih0 _ _ _)
      | (with_reducible exact LeO.refl _)
      | (with_reducible exact LeO.none _)
      | (with_reducible refine LeO.ite ?_ ?_)
      | (with_reducible refine LeO.bind ?_ (fun _ => ?_))
      | exact ih0 _ _ _
      | exact LeO.none _
      | refine LeO.ite ?_ ?_
      | refine LeO.bind ?_ (fun _ => ?_)
set_option maxHeartbeats 8000000 in
set_option maxRecDepth 100000 in
theorem tallymanref13_IDs.calls (k : Nat) (A0 : Option Addr) (c0 : Nat) (l0 : List (S37)) (r : List Int) (w : World) (hr0 : Kd.C k37 w A0 l0.length l0) (hc0 : l0.length ≤ c0) (h : tallymanref13_IDs.f k l0 = some r) :
    Calls Try.prog 33 #[.slice A0 l0.length c0] w fun e w' => ∃ v0_ : Value, e = .returned (v0_) ∧ Kd.R (Kd.int .i64) 3 w' w.heap.size (fun _ => True) v0_ r ∧ Below w.heap.size w w' := by
  have HR0 := Aside0.mk hr0
  have HC0 := Aside0.mk hc0
  clear hr0 hc0
  have HB := Aside0.mk (Below.refl w.heap.size w)
  have H : (tallymanref13_IDs.l0 k l0 ([] : List Int) 0) = some r := h
  clear h
  have H' := Aside0.mk H
  clear H
  go_enter Try.func33, Try.ntmps33
  go_wp2
  go_loopg [3, 4] k (fun kq v3 v4 w' => ∃ (x3_1 : List Int) (x4_1 : Int), v4 = .int .i64 x4_1 ∧ Aside0 (tallymanref13_IDs.l0 kq l0 x3_1 x4_1 = some r) ∧ Aside0 (kq ≤ k) ∧ Aside0 (Kd.R (Kd.int .i64) 3 w' w.heap.size (fun _ => True) v3 x3_1) ∧ Aside0 (Below w.heap.size w w'))
  case atStart => exact ⟨(([] : List Int)), (0), (by first | rfl | (simp; done) | (simp [*]; done)), H', ⟨Nat.le_refl _⟩, ⟨by first | exact Kd.R_nil _ _ _ _ _ | exact Kd.N_nil _ _ _ _ _ | exact Kd.V_nil _ _ _ _ _ | exact Kd.Q_nil _ _ _ _ _ | exact Kd.S_nil _ _ _ _ _⟩, ⟨by repeat (first | (with_reducible first | exact HB.out | apply below_alloc | apply pw_below_drewN | apply below_drew1) | exact HB.out)⟩⟩
  case round =>
    clear H'
    obtain ⟨x3_1, x4_1, rfl, HA, HK1, HO_3, HB⟩ := hrel
    cases gk with
    | zero => exact absurd HA.out (by simp [tallymanref13_IDs.l0])
    | succ k1 =>
      have H := HA.out
      clear HA
      simp only [tallymanref13_IDs.l0] at H
      by_cases c2 : x4_1 < (l0.length : Int)
      · rw [if_pos c2] at H
        have c2b0 : decide (x4_1 < (l0.length : Int)) = true := decide_eq_true c2
        clear c2
        by_cases c3 : 0 ≤ x4_1
        · rw [if_pos c3] at H
          have c3b0 : decide (0 ≤ x4_1) = true := decide_eq_true c3
          clear c3
          by_cases c4 : x3_1.length < 17592186044416
          · rw [if_pos c4] at H
            have LMc4 := Aside0.mk c4
            clear c4
            obtain ⟨y102, hy102⟩ : ∃ y_ : List Int, y_ = (x3_1 ++ [(rd_T37 l0 x4_1).f0]) := ⟨_, rfl⟩
            replace H : (tallymanref13_IDs.l0 k1 l0 y102 (wrap64 (x4_1 + 1))) = some r := by first | (rw [hy102]; with_reducible exact H) | (have H2_ := (Option.bind_some _ _).symm.trans H; rw [hy102]; with_reducible exact H2_) | (have H2_ := (Option.bind_some _ _).symm.trans H; with_reducible exact H2_) | with_reducible exact H | (rw [hy102]; exact H) | exact H
            have Ny102 := Aside0.mk hy102
            clear hy102
            have H' := Aside0.mk H
            clear H
            have p101 : 0 ≤ (x4_1 : Int) := of_decide_eq_true (by first | (with_reducible assumption) | assumption)
            have q101 : x4_1 < (l0.length : Int) := of_decide_eq_true (by first | (with_reducible assumption) | assumption)
            obtain ⟨ad101, e101, hx101_0, hx101_1, hx101_2⟩ := at_T37 HR0.out x4_1 p101 q101
            cases e101
            replace hx101_0 := (HB.out.cell (World.block_lt_of_cell? w _ hx101_0)).trans hx101_0
            replace hx101_1 := (HB.out.cell (World.block_lt_of_cell? w _ hx101_1)).trans hx101_1
            replace hx101_2 := (HB.out.cell (World.block_lt_of_cell? w _ hx101_2)).trans hx101_2
            replace p101 := eq_true p101
            replace q101 := eq_true q101
            go_wp2_with (first | ((with_reducible refine gate_builtin (b := .append) (xs := #[.tmp 11, .tmp 17]) rfl ?_); at_builtin; refine Kd.R_append (Kd.int .i64) (w0 := w) w.heap.size rfl (.tmp 11) (.tmp 17) 53 3 (.int .i64 0) 8 rfl Try.underlying53 info3 rfl (by decide) (by omega) u3 x3_1 ((rd_T37 l0 x4_1).f0) [.int .i64 ((rd_T37 l0 x4_1).f0)] (fun _ => True) (fun _ => False) rfl rfl ?aP (fun _ hk => hk.elim) ?aF ?aO ?aB ?aS ?aL ?_; (case aP => exact rfl); (case aB => exact (by repeat (first | (with_reducible first | exact HB.out | apply below_alloc | apply pw_below_drewN | apply below_drew1) | exact HB.out))); (case aF => exact (fun _ _ => trivial)); (case aO => exact (by (with_reducible repeat (first | apply Kd.R_alloc | apply Kd.R_drewN | apply Kd.R_drew)); exact HO_3.out)); (case aS => exact (below_size (by repeat (first | (with_reducible first | exact HB.out | apply below_alloc | apply pw_below_drewN | apply below_drew1) | exact HB.out)))); (case aL => have := LMc4.out; omega); intro v103 w5 ho hb hg hat; rw [← Ny102.out] at ho; have n0_ := Aside0.mk (hb); have n1_ := Aside0.mk (ho); clear HB; clear HO_3; have HB := n0_; have HO104 := n1_; clear n0_ n1_; clear ho hb hg hat))
            go_roundg k1
            case measure => have := HK1.out; omega
            case rel => exact ⟨(y102), (wrap64 (x4_1 + 1)), (by first | rfl | (simp; done) | (simp [*]; done)), H', ⟨by have := HK1.out; omega⟩, ⟨by (with_reducible repeat (first | apply Kd.R_alloc | apply Kd.R_drewN | apply Kd.R_drew)); exact HO104.out⟩, ⟨by repeat (first | (with_reducible first | exact HB.out | apply below_alloc | apply pw_below_drewN | apply below_drew1) | exact HB.out)⟩⟩
          · rw [if_neg c4] at H
            exact absurd H (by simp)
        · rw [if_neg c3] at H
          exact absurd H (by simp)
      · rw [if_neg c2] at H
        have c2b0 : decide (x4_1 < (l0.length : Int)) = false := decide_eq_false c2
        clear c2
        obtain rfl := Option.some.inj H
        go_wp2
        go_ret
        exact ⟨_, by first | rfl | (simp [errW_none, errW_some] <;> rfl) | (simp [*, errW_none, errW_some] <;> rfl), by (with_reducible repeat (first | apply Kd.R_alloc | apply Kd.R_drewN | apply Kd.R_drew)); exact HO_3.out, by repeat (first | (with_reducible first | exact HB.out | apply below_alloc | apply pw_below_drewN | apply below_drew1) | exact HB.out)⟩
end Go.Proofs.Ytopblnecdabcgaa.P
end
section
-- printed by the session's own call of print.py. Not trusted: Lean checks it.
namespace Go.Proofs.Ytopblnecdabcgaa.P
open Go.RowKit Go.Proofs.YtopblnecdabcgaaW.PrintWords Go.Proofs.YtopblnecdabcgaaW.PrintLast Go.Proofs.YtopblnecdabcgaaW.PrintMore
attribute [local go_sem] max2_int min2_int max_two min_two max_three min_three max_four min_four
set_option linter.unusedVariables false
set_option linter.unusedSimpArgs false
/-! ### tallymanref01_Ints: function 31 -/
def tallymanref01_Ints.l0 : Nat → List Int → List Int → Int → Option (Bool)
  | 0, _, _, _ => none
  | k + 1, x0, x1, x5 => if x5 < (x0.length : Int) then (if 0 ≤ x5 then (if x5 < (x1.length : Int) then (if (rd x0 x5) = (rd x1 x5) then (tallymanref01_Ints.l0 k x0 x1 (wrap64 (x5 + 1))) else (some false)) else (none)) else (none)) else (some true)
def tallymanref01_Ints.f (k : Nat) (l0 : List Int) (l1 : List Int) : Option (Bool) := if (l0.length : Int) = (l1.length : Int) then (tallymanref01_Ints.l0 k l0 l1 0) else (some false)
theorem tallymanref01_Ints.mono_l : ∀ k, (∀ y0 y1 y2, LeO (tallymanref01_Ints.l0 k y0 y1 y2) (tallymanref01_Ints.l0 (k + 1) y0 y1 y2))
  | 0 => fun _ _ _ r h => by simp [tallymanref01_Ints.l0] at h
  | k + 1 => by
    have ih0 := tallymanref01_Ints.mono_l k
    · intro y0 y1 y2
      unfold tallymanref01_Ints.l0
      repeat' first
      | (with_reducible exact ih0 _ _ _)
      | (with_reducible exact LeO.refl _)
      | (with_reducible exact LeO.none _)
      | (with_reducible refine LeO.ite ?_ ?_)
      | (with_reducible refine LeO.bind ?_ (fun _ => ?_))
      | exact ih0 _ _ _
      | exact LeO.none _
      | refine LeO.ite ?_ ?_
      | refine LeO.bind ?_ (fun _ => ?_)
theorem tallymanref01_Ints.mono : ∀ a0 a1 k, LeO (tallymanref01_Ints.f k a0 a1) (tallymanref01_Ints.f (k + 1) a0 a1) := by
  intro a0 a1 k
  have ih0 := tallymanref01_Ints.mono_l k
  unfold tallymanref01_Ints.f
  repeat' first
      | (with_reducible exact ih0 _ _ _)
      | (with_reducible exact LeO.refl _)
      | (with_reducible exact LeO.none _)
      | (with_reducible refine LeO.ite ?_ ?_)
      | (with_reducible refine LeO.bind ?_ (fun _ => ?_))
      | exact ih0 _ _ _
      | exact LeO.none _
      | refine LeO.ite ?_ ?_
      | refine LeO.bind ?_ (fun _ => ?_)
set_option maxHeartbeats 8000000 in
set_option maxRecDepth 100000 in
theorem tallymanref01_Ints.calls (k : Nat) (A0 : Option Addr) (c0 : Nat) (l0 : List Int) (A1 : Option Addr) (c1 : Nat) (l1 : List Int) (r : Bool) (w : World) (hr0 : Kd.C (Kd.int .i64) w A0 l0.length l0) (hc0 : l0.length ≤ c0) (hr1 : Kd.C (Kd.int .i64) w A1 l1.length l1) (hc1 : l1.length ≤ c1) (h : tallymanref01_Ints.f k l0 l1 = some r) :
    Calls Try.prog 31 #[.slice A0 l0.length c0, .slice A1 l1.length c1] w fun e w' => e = .returned (.bool r) ∧ Drawn0 w w' := by
  have HR0 := Aside0.mk hr0
  have HC0 := Aside0.mk hc0
  clear hr0 hc0
  have HR1 := Aside0.mk hr1
  have HC1 := Aside0.mk hc1
  clear hr1 hc1
  have H : (if (l0.length : Int) = (l1.length : Int) then (tallymanref01_Ints.l0 k l0 l1 0) else (some false)) = some r := h
  clear h
  by_cases c3 : (l0.length : Int) = (l1.length : Int)
  · rw [if_pos c3] at H
    have c3b0 : ((l0.length : Int) == (l1.length : Int)) = true := beq_iff_eq.mpr c3
    have c3b1 : ((l0.length : Int) != (l1.length : Int)) = false := bne_eq_false_iff_eq.mpr c3
    have c3b2 : (l0.length == l1.length) = true := by first | simpa using c3 | (simp at c3 ⊢; omega)
    clear c3
    have H' := Aside0.mk H
    clear H
    go_enter Try.func31, Try.ntmps31
    go_wp2
    repeat (go_quiet (fail); try go_wp2)
    go_loopg [5] k (fun kq v5 w' => ∃ (x5_1 : Int), v5 = .int .i64 x5_1 ∧ Aside0 (tallymanref01_Ints.l0 kq l0 l1 x5_1 = some r) ∧ Aside0 (kq ≤ k) ∧ Drawn0 w w')
    case atStart => exact ⟨(0), (by first | rfl | (simp; done) | (simp [*]; done)), H', ⟨Nat.le_refl _⟩, by repeat (first | exact Drawn0.refl _ | apply Drawn0.step)⟩
    case round =>
      clear H'
      try clear c1
      try clear p2
      try clear c3
      try clear c3b0
      try clear c3b1
      try clear c3b2
      obtain ⟨x5_1, rfl, HA, HK1, ⟨m1, rfl⟩⟩ := hrel
      cases gk with
      | zero => exact absurd HA.out (by simp [tallymanref01_Ints.l0])
      | succ k1 =>
        have H := HA.out
        clear HA
        simp only [tallymanref01_Ints.l0] at H
        by_cases c4 : x5_1 < (l0.length : Int)
        · rw [if_pos c4] at H
          have c4b0 : decide (x5_1 < (l0.length : Int)) = true := decide_eq_true c4
          clear c4
          by_cases c5 : 0 ≤ x5_1
          · rw [if_pos c5] at H
            have c5b0 : decide (0 ≤ x5_1) = true := decide_eq_true c5
            clear c5
            by_cases c6 : x5_1 < (l1.length : Int)
            · rw [if_pos c6] at H
              have c6b0 : decide (x5_1 < (l1.length : Int)) = true := decide_eq_true c6
              clear c6
              by_cases c7 : (rd l0 x5_1) = (rd l1 x5_1)
              · rw [if_pos c7] at H
                have c7b0 : ((rd l0 x5_1) == (rd l1 x5_1)) = true := beq_iff_eq.mpr c7
                have c7b1 : ((rd l0 x5_1) != (rd l1 x5_1)) = false := bne_eq_false_iff_eq.mpr c7
                clear c7
                have H' := Aside0.mk H
                clear H
                have p101 : 0 ≤ (x5_1 : Int) := of_decide_eq_true (by first | (with_reducible assumption) | assumption)
                have q101 : x5_1 < (l0.length : Int) := of_decide_eq_true (by first | (with_reducible assumption) | assumption)
                obtain ⟨ad101, e101, hx101_0⟩ := Kd.at_int HR0.out x5_1 p101 q101
                cases e101
                replace p101 := eq_true p101
                replace q101 := eq_true q101
                have p102 : 0 ≤ (x5_1 : Int) := of_decide_eq_true (by first | (with_reducible assumption) | assumption)
                have q102 : x5_1 < (l1.length : Int) := of_decide_eq_true (by first | (with_reducible assumption) | assumption)
                obtain ⟨ad102, e102, hx102_0⟩ := Kd.at_int HR1.out x5_1 p102 q102
                cases e102
                replace p102 := eq_true p102
                replace q102 := eq_true q102
                go_wp2
                repeat (go_quiet (fail); try go_wp2)
                go_roundg k1
                case measure => have := HK1.out; omega
                case rel => exact ⟨(wrap64 (x5_1 + 1)), (by first | rfl | (simp; done) | (simp [*]; done)), H', ⟨by have := HK1.out; omega⟩, by repeat (first | exact Drawn0.refl _ | apply Drawn0.step)⟩
              · rw [if_neg c7] at H
                have c7b0 : ((rd l0 x5_1) == (rd l1 x5_1)) = false := beq_eq_false_iff_ne.mpr c7
                have c7b1 : ((rd l0 x5_1) != (rd l1 x5_1)) = true := bne_iff_ne.mpr c7
                obtain rfl := Option.some.inj H
                have p101 : 0 ≤ (x5_1 : Int) := of_decide_eq_true (by first | (with_reducible assumption) | assumption)
                have q101 : x5_1 < (l0.length : Int) := of_decide_eq_true (by first | (with_reducible assumption) | assumption)
                obtain ⟨ad101, e101, hx101_0⟩ := Kd.at_int HR0.out x5_1 p101 q101
                cases e101
                replace p101 := eq_true p101
                replace q101 := eq_true q101
                have p102 : 0 ≤ (x5_1 : Int) := of_decide_eq_true (by first | (with_reducible assumption) | assumption)
                have q102 : x5_1 < (l1.length : Int) := of_decide_eq_true (by first | (with_reducible assumption) | assumption)
                obtain ⟨ad102, e102, hx102_0⟩ := Kd.at_int HR1.out x5_1 p102 q102
                cases e102
                replace p102 := eq_true p102
                replace q102 := eq_true q102
                go_wp2
                repeat (go_quiet (fail); try go_wp2)
                go_ret
                exact ⟨by first | rfl | ((repeat first | rw [Int.tdiv_eq_ediv_of_nonneg (by omega)] | rw [Int.tmod_eq_emod_of_nonneg (by omega)]); rfl) | (simp; done) | (simp [*]; done), by repeat (first | exact Drawn0.refl _ | apply Drawn0.step)⟩
            · rw [if_neg c6] at H
              exact absurd H (by simp)
          · rw [if_neg c5] at H
            exact absurd H (by simp)
        · rw [if_neg c4] at H
          have c4b0 : decide (x5_1 < (l0.length : Int)) = false := decide_eq_false c4
          clear c4
          obtain rfl := Option.some.inj H
          go_wp2
          repeat (go_quiet (fail); try go_wp2)
          go_ret
          exact ⟨by first | rfl | ((repeat first | rw [Int.tdiv_eq_ediv_of_nonneg (by omega)] | rw [Int.tmod_eq_emod_of_nonneg (by omega)]); rfl) | (simp; done) | (simp [*]; done), by repeat (first | exact Drawn0.refl _ | apply Drawn0.step)⟩
  · rw [if_neg c3] at H
    have c3b0 : ((l0.length : Int) == (l1.length : Int)) = false := beq_eq_false_iff_ne.mpr c3
    have c3b1 : ((l0.length : Int) != (l1.length : Int)) = true := bne_iff_ne.mpr c3
    have c3b2 : (l0.length == l1.length) = false := by first | simpa using c3 | (simp at c3 ⊢; omega)
    obtain rfl := Option.some.inj H
    go_enter Try.func31, Try.ntmps31
    go_wp2
    repeat (go_quiet (fail); try go_wp2)
    go_ret
    exact ⟨by first | rfl | ((repeat first | rw [Int.tdiv_eq_ediv_of_nonneg (by omega)] | rw [Int.tmod_eq_emod_of_nonneg (by omega)]); rfl) | (simp; done) | (simp [*]; done), by repeat (first | exact Drawn0.refl _ | apply Drawn0.step)⟩
end Go.Proofs.Ytopblnecdabcgaa.P
end
section
/- Heaps: what the document's row tells (plain). -/
namespace Go.Proofs.Ytopblnecdabcgaa.P
open Go.RowKit Go.Proofs.YtopblnecdabcgaaW.PrintWords Go.Proofs.YtopblnecdabcgaaW.PrintLast Go.Proofs.YtopblnecdabcgaaW.PrintMore
set_option linter.unusedVariables false
set_option linter.unusedSimpArgs false
theorem rd37 (l : List Th) (i : Nat) : rd_T37 l (i : Int) = atH l i := rfl
theorem w_next (i : Nat) (h : i ≤ 100000) : wrap64 ((i : Int) + 1) = ((i + 1 : Nat) : Int) := by rw [w64_id (by omega) (by omega)]; rfl
theorem take_at (l : List Th) (i : Nat) (h : i < l.length) : l.take (i + 1) = l.take i ++ [atH l i] := by rw [List.take_succ_eq_append_getElem h, atH_get l i h]
theorem drop_at (l : List Th) (i : Nat) (h : i < l.length) : l.drop i = atH l i :: l.drop (i + 1) := by rw [List.drop_eq_getElem_cons h, atH_get l i h]
theorem small_len {n m : Nat} (h : n ≤ m) (hm : m ≤ 100000) : n < 5864062014805 := Nat.lt_of_le_of_lt h (Nat.lt_of_le_of_lt hm (by decide))
theorem small_len2 {n m : Nat} (h : n ≤ m) (hm : m ≤ 100000) : n < 17592186044416 := Nat.lt_of_le_of_lt h (Nat.lt_of_le_of_lt hm (by decide))
theorem drop_loop (l : List Th) (id : Int) (hl : l.length ≤ 1000) : ∀ (d i : Nat) (o : List Th), i + d = l.length → o = dropH (l.take i) id → Ev (fun k => tallymanref13_Drop.l0 k l id o (i : Int)) (dropH l id, decide (((dropH l id).length : Int) < (l.length : Int))) := by
  intro d
  induction d with
  | zero =>
    intro i o hi ho
    obtain rfl : i = l.length := hi
    rw [List.take_length] at ho
    subst ho
    exact Ev.step (fun k => by rw [tallymanref13_Drop.l0, if_neg (Int.lt_irrefl _)]) (Ev.now _)
  | succ d ih =>
    intro i o hi ho
    have hlt : i < l.length := by omega
    have g1 : (i : Int) < (l.length : Int) := Int.ofNat_lt.2 hlt
    have g2 : (0 : Int) ≤ (i : Int) := Int.natCast_nonneg i
    have w1 := w_next i (by omega)
    have e : dropH (l.take (i + 1)) id = dropH (l.take i) id ++ dropH [atH l i] id := by rw [take_at l i hlt]; unfold dropH; rw [List.filter_append]
    by_cases c : (atH l i).f0 = id
    · have e2 : dropH (l.take (i + 1)) id = o := by rw [e, ho, drop_cons_same c]; exact List.append_nil _
      exact Ev.step (fun k => by rw [tallymanref13_Drop.l0, if_pos g1, if_pos g2, rd37, if_pos c, w1]) (ih (i + 1) o (by omega) e2.symm)
    · have e2 : dropH (l.take (i + 1)) id = o ++ [atH l i] := by rw [e, ho, drop_cons_other c]; rfl
      have hol : o.length ≤ l.length := by
        rw [ho]
        exact Nat.le_trans (List.length_filter_le _ _) (by rw [List.length_take]; exact Nat.min_le_right _ _)
      have hs := small_len hol (by omega)
      exact Ev.step (fun k => by rw [tallymanref13_Drop.l0, if_pos g1, if_pos g2, rd37, if_neg c, if_pos hs, w1]) (ih (i + 1) (o ++ [atH l i]) (by omega) e2.symm)
theorem drop_ref (l : List Th) (id : Int) (hl : l.length ≤ 1000) : Ev (fun k => tallymanref13_Drop.f k l id) (dropH l id, decide (((dropH l id).length : Int) < (l.length : Int))) :=
  drop_loop l id hl l.length 0 [] (by omega) rfl
theorem ahead_ref (x y : Th) : tallymanref13_Ahead.f x.f0 x.f1 x.f2 y.f0 y.f1 y.f2 = some (decide (ahd x y)) := by
  unfold tallymanref13_Ahead.f
  by_cases h1 : x.f1 = y.f1
  · rw [if_pos h1]
    by_cases h2 : x.f2 = y.f2
    · rw [if_pos h2]; congr 1; rw [decide_eq_decide]; unfold ahd; omega
    · rw [if_neg h2]; congr 1; rw [decide_eq_decide]; unfold ahd; omega
  · rw [if_neg h1]; congr 1; rw [decide_eq_decide]; unfold ahd; omega
theorem put_loop (r : List Th) (b : Bool) (x : Th) (hl : r.length ≤ 1000) : ∀ (d i : Nat) (o : List Th) (done : Bool), i + d = r.length → o.length ≤ i + 1 → (done = true → ∀ t, t = r.drop i → Ev (fun k => tallymanref13_Put.l0 k r b o done (i : Int) x.f0 x.f1 x.f2) (o ++ t, !b)) ∧ (done = false → o.length ≤ i → ∀ t, t = insH x (r.drop i) → Ev (fun k => tallymanref13_Put.l0 k r b o done (i : Int) x.f0 x.f1 x.f2) (o ++ t, !b)) := by
  intro d
  induction d with
  | zero =>
    intro i o done hi ho
    obtain rfl : i = r.length := hi
    rw [List.drop_length]
    have hs := small_len ho (by omega)
    refine ⟨fun hd t ht => ?_, fun hd _ t ht => ?_⟩
    · subst hd
      subst ht
      rw [List.append_nil]
      exact Ev.step (fun k => by rw [tallymanref13_Put.l0, if_neg (Int.lt_irrefl _), if_pos rfl]) (Ev.now _)
    · subst hd
      subst ht
      rw [insH]
      exact Ev.step (fun k => by rw [tallymanref13_Put.l0, if_neg (Int.lt_irrefl _), if_neg Bool.false_ne_true, if_pos hs]) (Ev.now _)
  | succ d ih =>
    intro i o done hi ho
    have hlt : i < r.length := by omega
    have g1 : (i : Int) < (r.length : Int) := Int.ofNat_lt.2 hlt
    have g2 : (0 : Int) ≤ (i : Int) := Int.natCast_nonneg i
    have w1 := w_next i (by omega)
    have hs := small_len ho (by omega)
    have hdr := drop_at r i hlt
    refine ⟨fun hd t ht => ?_, fun hd ho2 t ht => ?_⟩
    · subst hd
      rw [ht, hdr]
      have := (ih (i + 1) (o ++ [atH r i]) true (by omega) (by rw [List.length_append, List.length_singleton]; omega)).1 rfl _ rfl
      rw [List.append_assoc] at this
      exact Ev.step (fun k => by rw [tallymanref13_Put.l0, if_pos g1, if_pos rfl, if_pos g2, if_pos hs, rd37, w1]) this
    · subst hd
      rw [ht, hdr, insH]
      have ha := ahead_ref x (atH r i)
      by_cases c : ahd x (atH r i)
      · rw [if_pos c]
        rw [decide_eq_true c] at ha
        have hs2 : (o ++ [x]).length < 5864062014805 := small_len (m := i + 1) (by rw [List.length_append, List.length_singleton]; omega) (by omega)
        have := (ih (i + 1) (o ++ [x] ++ [atH r i]) true (by omega) (by rw [List.length_append, List.length_append, List.length_singleton, List.length_singleton]; omega)).1 rfl _ rfl
        rw [List.append_assoc, List.append_assoc] at this
        rw [show o ++ x :: atH r i :: r.drop (i + 1) = o ++ ([x] ++ ([atH r i] ++ r.drop (i + 1))) from rfl]
        refine Ev.step (fun k => by rw [tallymanref13_Put.l0, if_pos g1, if_neg Bool.false_ne_true, if_pos g2, rd37, ha, Option.bind_some, if_pos rfl, if_pos hs, Option.bind_some, if_pos hs2, w1]) ?_
        rw [List.append_assoc]
        exact this
      · rw [if_neg c]
        rw [decide_eq_false c] at ha
        have := (ih (i + 1) (o ++ [atH r i]) false (by omega) (by rw [List.length_append, List.length_singleton]; omega)).2 rfl (by rw [List.length_append, List.length_singleton]; omega) _ rfl
        rw [List.append_assoc] at this
        exact Ev.step (fun k => by rw [tallymanref13_Put.l0, if_pos g1, if_neg Bool.false_ne_true, if_pos g2, rd37, ha, Option.bind_some, if_neg Bool.false_ne_true, if_pos hs, w1]) this
theorem drop_had {l : List Th} {id : Int} : decide (((dropH l id).length : Int) < (l.length : Int)) = decide (findH l id ≠ none) := by
  rw [decide_eq_decide]
  constructor
  · intro h c
    have : dropH l id = l := drop_id_none (fun y hy e => by
      have := List.find?_eq_none.1 c y hy
      simp [e] at this)
    rw [this] at h
    omega
  · intro h
    obtain ⟨x, hx⟩ := Option.ne_none_iff_exists'.1 h
    have hm := List.mem_of_find?_eq_some hx
    have he := List.find?_some hx
    have h2 := List.length_filter_lt_length_iff_exists (l := l) (p := fun y : Th => decide (y.f0 ≠ id)) |>.2 ⟨x, hm, by simpa using he⟩
    exact Int.ofNat_lt.2 h2
theorem put_ref (l : List Th) (x : Th) (hl : l.length ≤ 1000) : Ev (fun k => tallymanref13_Put.f k l x.f0 x.f1 x.f2) (putH l x, decide (findH l x.f0 = none)) := by
  refine Ev.bind (drop_ref l x.f0 hl) ?_
  have h := (put_loop (dropH l x.f0) (decide (((dropH l x.f0).length : Int) < (l.length : Int))) x (Nat.le_trans (List.length_filter_le _ _) hl) (dropH l x.f0).length 0 [] false (by omega) (Nat.zero_le _)).2 rfl (Nat.le_refl _) _ rfl
  rw [drop_had] at h ⊢
  have e : (!decide (findH l x.f0 ≠ none)) = decide (findH l x.f0 = none) := by by_cases c : findH l x.f0 = none <;> simp [c]
  rw [e] at h
  exact h
def findV : Option Th → Int × Int × Int × Bool
  | none => (0, 0, 0, false)
  | some x => (x.f0, x.f1, x.f2, true)
theorem find_ref (l : List Th) (id : Int) (hl : l.length ≤ 1000) : Ev (fun k => tallymanref13_Find.f k l id) (findV (findH l id)) := by
  have go : ∀ (d i : Nat), i + d = l.length → Ev (fun k => tallymanref13_Find.l0 k l id (i : Int)) (findV (findH (l.drop i) id)) := by
    intro d
    induction d with
    | zero =>
      intro i hi
      obtain rfl : i = l.length := hi
      rw [List.drop_length]
      exact Ev.step (fun k => by rw [tallymanref13_Find.l0, if_neg (Int.lt_irrefl _)]) (Ev.now (0, 0, 0, false))
    | succ d ih =>
      intro i hi
      have hlt : i < l.length := by omega
      have g1 : (i : Int) < (l.length : Int) := Int.ofNat_lt.2 hlt
      have g2 : (0 : Int) ≤ (i : Int) := Int.natCast_nonneg i
      have w1 := w_next i (by omega)
      rw [drop_at l i hlt]
      by_cases c : (atH l i).f0 = id
      · have e : findH (atH l i :: l.drop (i + 1)) id = some (atH l i) := List.find?_cons_of_pos (by simpa using c)
        rw [e]
        exact Ev.step (fun k => by rw [tallymanref13_Find.l0, if_pos g1, if_pos g2, rd37, if_pos c]) (Ev.now ((atH l i).f0, (atH l i).f1, (atH l i).f2, true))
      · have e : findH (atH l i :: l.drop (i + 1)) id = findH (l.drop (i + 1)) id := List.find?_cons_of_neg (by simpa using c)
        rw [e]
        exact Ev.step (fun k => by rw [tallymanref13_Find.l0, if_pos g1, if_pos g2, rd37, if_neg c, w1]) (ih (i + 1) (by omega))
  exact go l.length 0 (by omega)
theorem ids_ref (l : List Th) (hl : l.length ≤ 1000) : Ev (fun k => tallymanref13_IDs.f k l) (l.map S37.f0) := by
  have go : ∀ (d i : Nat) (o : List Int), i + d = l.length → o = (l.take i).map S37.f0 → Ev (fun k => tallymanref13_IDs.l0 k l o (i : Int)) (l.map S37.f0) := by
    intro d
    induction d with
    | zero =>
      intro i o hi ho
      obtain rfl : i = l.length := hi
      rw [List.take_length] at ho
      subst ho
      exact Ev.step (fun k => by rw [tallymanref13_IDs.l0, if_neg (Int.lt_irrefl _)]) (Ev.now _)
    | succ d ih =>
      intro i o hi ho
      have hlt : i < l.length := by omega
      have g1 : (i : Int) < (l.length : Int) := Int.ofNat_lt.2 hlt
      have g2 : (0 : Int) ≤ (i : Int) := Int.natCast_nonneg i
      have w1 := w_next i (by omega)
      have hs : o.length < 17592186044416 := small_len2 (m := l.length) (by rw [ho, List.length_map, List.length_take]; exact Nat.min_le_right _ _) (by omega)
      have e : (l.take (i + 1)).map S37.f0 = o ++ [(atH l i).f0] := by rw [take_at l i hlt, List.map_append, ho]; rfl
      exact Ev.step (fun k => by rw [tallymanref13_IDs.l0, if_pos g1, if_pos g2, if_pos hs, rd37, w1]) (ih (i + 1) _ (by omega) e.symm)
  exact go l.length 0 [] (by omega) rfl
theorem ints_same (l : List Int) (hl : l.length ≤ 1000) : Ev (fun k => tallymanref01_Ints.f k l l) true := by
  have go : ∀ (d i : Nat), i + d = l.length → Ev (fun k => tallymanref01_Ints.l0 k l l (i : Int)) true := by
    intro d
    induction d with
    | zero =>
      intro i hi
      obtain rfl : i = l.length := hi
      exact Ev.step (fun k => by rw [tallymanref01_Ints.l0, if_neg (Int.lt_irrefl _)]) (Ev.now _)
    | succ d ih =>
      intro i hi
      have hlt : i < l.length := by omega
      have g1 : (i : Int) < (l.length : Int) := Int.ofNat_lt.2 hlt
      have g2 : (0 : Int) ≤ (i : Int) := Int.natCast_nonneg i
      have w1 := w_next i (by omega)
      exact Ev.step (fun k => by rw [tallymanref01_Ints.l0, if_pos g1, if_pos g2, if_pos g1, if_pos rfl, w1]) (ih (i + 1) (by omega))
  unfold tallymanref01_Ints.f
  exact Ev.congr (fun k => if_pos rfl) (go l.length 0 (by omega))
end Go.Proofs.Ytopblnecdabcgaa.P
end
section
/- What came in, of any type that is made of numbers, texts, slices and structs: its value, and how it reads. -/
namespace Go.Proofs.Ytopblnecdabcgaa.TR
open Go.RowKit Go.ChangeShapes Go.WideShapes Go.Deep Go.Proofs.YtopblnecdabcgaaW.PrintWords Go.Proofs.YtopblnecdabcgaaW.PrintLast Go.Proofs.YtopblnecdabcgaaW.PrintMore
set_option linter.unusedVariables false
set_option linter.unusedSimpArgs false
/-- What the cells of type t hold, where they are well formed, is of the kind d. -/
def Tr {α : Type} (P : Program) (t : TypeId) (d : Kd α) (Wf : α → Prop) : Prop :=
  ∀ (H : Type) (enc : TypeId × Value → H) (w : World) (n : Nat) (cs : List Value) (x : DataW H × List MemPlace), DataW.trod enc P w 0 (fun _ => true) true n t cs = some x → ∃ a, d.K w a cs ∧ Wf a
theorem Tr_int {P : Program} {t : TypeId} {k : IntKind} (ht : P.underlying t = some (.int k)) : Tr P t (Kd.int k) (fun z => (Lit.int k z).wf = true) := by
  intro H enc w n cs x h
  obtain ⟨z, rfl, _, hw⟩ := DataW.trod_int ht h
  exact ⟨z, rfl, hw⟩
theorem Tr_iso {α β : Type} {P : Program} {t : TypeId} {d : Kd α} {Wf : α → Prop} (f : β → α) (g : α → β) (hg : ∀ a, f (g a) = a) (h : Tr P t d Wf) : Tr P t (Kd.iso d f) (fun b => Wf (f b)) := by
  intro H enc w n cs x hx
  obtain ⟨a, hK, hW⟩ := h H enc w n cs x hx
  exact ⟨g a, by show d.K w (f (g a)) cs; rw [hg]; exact hK, by show Wf (f (g a)); rw [hg]; exact hW⟩
theorem build {α : Type} (p : Nat → α → Prop) : ∀ n, (∀ i, i < n → ∃ a, p i a) → ∃ l : List α, l.length = n ∧ ∀ j a, l[j]? = some a → p j a := by
  intro n
  induction n with
  | zero => intro _; exact ⟨[], rfl, fun j a h => by simp at h⟩
  | succ n ih =>
    intro h
    obtain ⟨l, hl, hp⟩ := ih (fun i hi => h i (by omega))
    obtain ⟨a, ha⟩ := h n (by omega)
    refine ⟨l ++ [a], by simp [hl], fun j b hb => ?_⟩
    by_cases hj : j < l.length
    · rw [List.getElem?_append_left hj] at hb
      exact hp j b hb
    · rw [List.getElem?_append_right (by omega)] at hb
      have : j - l.length = 0 := by
        have := (List.getElem?_eq_some_iff.1 hb).1
        simp at this
        omega
      rw [this] at hb
      simp only [List.getElem?_cons_zero, Option.some.injEq] at hb
      subst hb
      rw [show j = n by omega]
      exact ha
theorem Tr_slice {α : Type} {P : Program} {t e : TypeId} {d : Kd α} {Wf : α → Prop} (ht : P.underlying t = some (.slice e)) (hc : P.cellsOf e = d.sz) (h : Tr P e d Wf) : Tr P t (Kd.slice e d) (fun l => ∀ a ∈ l, Wf a) := by
  intro H enc w n cs x hx
  rcases open_slice ht hx with ⟨rfl, _⟩ | ⟨a, len, cap, m, n', D, Pl, rfl, _, hle, hm, hmm, _, hel⟩
  · exact ⟨[], ⟨none, 0, rfl, Nat.le_refl _, Kd.C_nil d w⟩, fun a ha => by simp at ha⟩
  · have hmc : m = cap := by simpa using hmm
    obtain ⟨l, hl, hp⟩ := build (fun i (b : α) => (∃ cs', cs'.length = d.sz ∧ d.K w b cs' ∧ ∀ j u, cs'[j]? = some u → w.cell? (a.add (i * d.sz + j)) = some u) ∧ Wf b) len (fun i hi => by
      obtain ⟨cs', h1, h2⟩ := hel i (by omega)
      obtain ⟨_, h3, h4⟩ := World.cells?_some h1
      obtain ⟨b, hK, hW⟩ := h H enc w n' cs' _ h2
      refine ⟨b, ⟨cs', by rw [h3, hc], hK, fun j u hu => ?_⟩, hW⟩
      have hj := (List.getElem?_eq_some_iff.1 hu).1
      rw [← hc, ← Go.Deep.add_add, h4 j (by omega), hu])
    refine ⟨l, ⟨some a, cap, by rw [hl], by omega, ⟨rfl, ?_, fun _ => ⟨a, rfl, fun j b hb => (hp j b hb).1⟩⟩⟩, fun b hb => ?_⟩
    · unfold maxLen at hm; omega
    · obtain ⟨j, hj⟩ := List.getElem?_of_mem hb
      exact (hp j b hj).2
/-- The fields from one on, one behind the other. -/
theorem seg (cs : List Value) (o a b : Nat) : (cs.drop o).take (a + b) = (cs.drop o).take a ++ (cs.drop (o + a)).take b := by
  rw [List.take_add, List.drop_drop]
theorem pair_K {α β : Type} {d : Kd α} {e : Kd β} {w : World} {cs : List Value} {o : Nat} {a : α} {b : β} {s r : Nat} (h1 : d.K w a ((cs.drop o).take s)) (h2 : e.K w b ((cs.drop (o + s)).take r)) : (Kd.pair d e).K w (a, b) ((cs.drop o).take (s + r)) :=
  ⟨_, _, seg cs o s r, h1, h2⟩
/-- A struct's fields from one offset on, of the kinds of a pair of pairs. -/
def Fs {α : Type} (P : Program) (fs : List Field) (o : Nat) (d : Kd α) (Wf : α → Prop) (sz : Nat) : Prop :=
  ∀ (H : Type) (enc : TypeId × Value → H) (w : World) (n : Nat) (cs : List Value), (∀ f ∈ fs, ∃ y, DataW.trod enc P w 0 (fun _ => true) true n f.type ((cs.drop f.offset).take (P.cellsOf f.type)) = some y) → ∃ a, d.K w a ((cs.drop o).take sz) ∧ Wf a
theorem Fs_one {α : Type} {P : Program} {f : Field} {d : Kd α} {Wf : α → Prop} {o s : Nat} (ho : f.offset = o) (hs : P.cellsOf f.type = s) (h : Tr P f.type d Wf) : Fs P [f] o d Wf s := by
  intro H enc w n cs hf
  obtain ⟨y, hy⟩ := hf f (by simp)
  rw [ho, hs] at hy
  exact h H enc w n _ y hy
theorem Fs_cons {α β : Type} {P : Program} {f : Field} {fs : List Field} {d : Kd α} {e : Kd β} {Wf : α → Prop} {Wg : β → Prop} {o s r : Nat} (ho : f.offset = o) (hs : P.cellsOf f.type = s) (h : Tr P f.type d Wf) (hr : Fs P fs (o + s) e Wg r) : Fs P (f :: fs) o (Kd.pair d e) (fun x => Wf x.1 ∧ Wg x.2) (s + r) := by
  intro H enc w n cs hf
  obtain ⟨y, hy⟩ := hf f (by simp)
  rw [ho, hs] at hy
  obtain ⟨a, ha, hwa⟩ := h H enc w n _ y hy
  obtain ⟨b, hb, hwb⟩ := hr H enc w n cs (fun g hg => hf g (by simp [hg]))
  exact ⟨(a, b), pair_K ha hb, hwa, hwb⟩
theorem Tr_struct {α : Type} {P : Program} {t : TypeId} {fs : List Field} {d : Kd α} {Wf : α → Prop} {s : Nat} (ht : P.underlying t = some (.struct fs.toArray)) (hs : P.cellsOf t = s) (h : Fs P fs 0 d Wf s) : Tr P t d Wf := by
  intro H enc w n cs x hx
  obtain ⟨xs, n', _, _, hl, hlen, hf⟩ := DataW.trod_struct ht hx
  obtain ⟨a, hK, hW⟩ := h H enc w n' cs (fun f hfm => by
    obtain ⟨i, hi⟩ := List.getElem?_of_mem hfm
    have h1 := hf i f (by simpa using hi)
    have hil : i < fs.length := (List.getElem?_eq_some_iff.1 hi).1
    have h2 : i < xs.length := by rw [hlen]; simpa using hil
    exact ⟨xs[i], by rw [h1]; exact List.getElem?_eq_getElem h2⟩)
  rw [List.drop_zero, List.take_of_length_le (by omega)] at hK
  exact ⟨a, hK, hW⟩
end Go.Proofs.Ytopblnecdabcgaa.TR
end
section
namespace Go.Proofs.Ytopblnecdabcgaa.P
open Go.RowKit Go.Proofs.YtopblnecdabcgaaW.PrintWords Go.Proofs.YtopblnecdabcgaaW.PrintLast Go.Proofs.YtopblnecdabcgaaW.PrintMore
set_option linter.unusedVariables false
set_option linter.unusedSimpArgs false
-- cells of a row of numbers
theorem add_plain' (g i j : Nat) : (⟨g, i, none⟩ : Addr).add j = ⟨g, i + j, none⟩ := by unfold Addr.add; split <;> simp_all
theorem C_of_cells {k : IntKind} {w : World} {ad : Addr} {l : List Int} (hl : l.length ≤ 9223372036854775807) (h : ∀ j u, (l.map (Value.int k))[j]? = some u → w.cell? (ad.add j) = some u) : Kd.C (Kd.int k) w (some ad) l.length l := by
  refine ⟨rfl, hl, fun _ => ⟨ad, rfl, fun j p hp => ⟨[.int k p], rfl, rfl, fun i u hu => ?_⟩⟩⟩
  cases i with
  | zero =>
    simp only [List.getElem?_cons_zero, Option.some.injEq] at hu
    subst hu
    simp only [Nat.add_zero, show (Kd.int k).sz = 1 from rfl, Nat.mul_one]
    exact h j _ (by rw [List.getElem?_map, hp]; rfl)
  | succ i => simp at hu
theorem C_lit {k : IntKind} (w : World) (l : List Int) (hl : l.length ≤ 9223372036854775807) (e : Nat) {cs : Array Value} (hcs : cs = (l.map (Value.int k)).toArray) : Kd.C (Kd.int k) (w.alloc (.cells cs e)) (some ⟨w.heap.size, 0, none⟩) l.length l := by
  subst hcs
  refine C_of_cells hl ?_
  intro j u hu
  have hj : j < (l.map (Value.int k)).length := (List.getElem?_eq_some_iff.1 hu).1
  rw [add_plain', Nat.zero_add]
  rw [blk_cell (blk_new w (.cells _ e)), List.getElem?_toArray]
  exact hu
end Go.Proofs.Ytopblnecdabcgaa.P
end
section
/- Heaps: what the laws' walks carry; alive. -/
namespace Go.Proofs.Ytopblnecdabcgaa.P
open Go.RowKit Go.Proofs.YtopblnecdabcgaaW.PrintWords Go.Proofs.YtopblnecdabcgaaW.PrintLast Go.Proofs.YtopblnecdabcgaaW.PrintMore Go.Proofs.Ytopblnecdabcgaa.H Go.Proofs.Ytopblnecdabcgaa.MP Go.Proofs.Ytopblnecdabcgaa.RP
set_option linter.unusedVariables false
set_option linter.unusedSimpArgs false
abbrev Acth := Int × Th
def kAct : Kd Acth := Kd.pair (Kd.int .i64) k37
def wfT (x : Th) : Prop := wfI x.f0 ∧ wfI x.f1 ∧ wfI x.f2
set_option maxRecDepth 100000 in
theorem Tr37 : TR.Tr Try.prog 37 k37 wfT := by
  have h := TR.Tr_iso (fun x : Th => (x.f0, x.f1, x.f2)) (fun p => ⟨p.1, p.2.1, p.2.2⟩) (fun _ => rfl) (TR.Tr_struct (P := Try.prog) (s := 3) Try.underlying37 (by kernel_rfl) (TR.Fs_cons (s := 1) rfl (by kernel_rfl) (TR.Tr_int Try.underlying3) (TR.Fs_cons (s := 1) rfl (by kernel_rfl) (TR.Tr_int Try.underlying3) (TR.Fs_one (s := 1) rfl (by kernel_rfl) (TR.Tr_int Try.underlying3)))))
  intro H enc w n cs x hv
  obtain ⟨l, h1, h2⟩ := h _ _ _ _ _ _ hv
  exact ⟨l, h1, h2⟩
set_option maxRecDepth 100000 in
theorem Tr32 : TR.Tr Try.prog 32 (Kd.slice 39 kAct) (fun l => ∀ p ∈ l, wfI p.1 ∧ wfT p.2) :=
  TR.Tr_slice (P := Try.prog) Try.underlying32 (by kernel_rfl) (TR.Tr_struct (P := Try.prog) (s := 4) Try.underlying39 (by kernel_rfl) (TR.Fs_cons (s := 1) rfl (by kernel_rfl) (TR.Tr_int Try.underlying3) (TR.Fs_one (s := 3) rfl (by kernel_rfl) Tr37)))
theorem at_act {w : World} {A : Option Addr} {n : Nat} {l : List Acth} (h : kAct.C w A n l) (i : Nat) (hi : i < l.length) : ∃ ad, A = some ad ∧ w.cell? (ad.add (i * 4)) = some (.int .i64 l[i].1) ∧ w.cell? ⟨(ad.add (i * 4)).block, (ad.add (i * 4)).off + 1, none⟩ = some (.int .i64 l[i].2.f0) ∧
    w.cell? ⟨(ad.add (i * 4)).block, (ad.add (i * 4)).off + 2, none⟩ = some (.int .i64 l[i].2.f1) ∧ w.cell? ⟨(ad.add (i * 4)).block, (ad.add (i * 4)).off + 3, none⟩ = some (.int .i64 l[i].2.f2) := by
  have hn := h.1
  obtain ⟨ad, c, e, _, hK, hc0⟩ := Kd.C_get h (0, ⟨0, 0, 0⟩) (i : Int) (by omega) (by omega)
  have hc : ∀ j u, c[j]? = some u → w.cell? (ad.add (i * 4 + j)) = some u := hc0
  have e2 : l.getD (i : Int).toNat (0, ⟨0, 0, 0⟩) = l[i] := by rw [Int.toNat_natCast, List.getD_eq_getElem?_getD, List.getElem?_eq_getElem hi]; rfl
  rw [e2] at hK
  obtain ⟨c1, c2, rfl, rfl, hK2⟩ := hK
  obtain rfl := k37_open hK2
  exact ⟨ad, e, hc 0 _ rfl, by rw [← add_field _ _ 1 (by omega)]; exact hc 1 _ rfl, by rw [← add_field _ _ 2 (by omega)]; exact hc 2 _ rfl, by rw [← add_field _ _ 3 (by omega)]; exact hc 3 _ rfl⟩
/-- A heap of a call that began when there were b blocks. -/
structure HpC (b : Nat) (w : World) (hb N : Nat) (l : List Th) : Prop where
  ex : ∃ Q, Hpl w hb Q N l ∧ ∀ k, Q k → b ≤ k
theorem hpc_below {b : Nat} {w w' : World} {hb N : Nat} {l : List Th} (h : HpC b w hb N l) (k : Below w.heap.size w w') : HpC b w' hb N l := by
  obtain ⟨Q, h1, h2⟩ := h
  exact ⟨Q, hpl_below h1 k, h2⟩
theorem new_c (w : World) : Calls Try.prog 21 #[] w fun e w' => ∃ hb, e = .returned (.pointer (some ⟨hb, 0, none⟩)) ∧ HpC w.heap.size w' hb 0 [] ∧ Below w.heap.size w w' :=
  (new_calls w).mono fun e w' ⟨hb, h1, h2, h3⟩ => ⟨hb, h1, ⟨_, h2, fun k hk => hk.1⟩, h3⟩
theorem put_c {b : Nat} {w : World} {hb N : Nat} {l : List Th} (h : HpC b w hb N l) (hb0 : b ≤ w.heap.size) (x : Th) (hid : wfI x.f0) (hN : N ≤ 100000000) (hl : l.length ≤ 1000) (r : Bool) (l' : List Th) (hr : decide (findH l x.f0 = none) = r) (hl' : putH l x = l') :
    Calls Try.prog 22 #[.pointer (some ⟨hb, 0, none⟩), .int .i64 x.f0, .int .i64 x.f1, .int .i64 x.f2] w fun e w' => e = .returned (.bool r) ∧ HpC b w' hb (N + 3000) l' ∧ Below b w w' := by
  obtain ⟨Q, h1, h2⟩ := h
  refine (put_calls hb x w Q N l h1 hid hN hl).mono fun e w' ⟨p1, p2, p3⟩ => ?_
  rw [hr] at p1
  rw [hl'] at p2
  exact ⟨p1, ⟨_, hpl_mono p2 (by omega), fun k hk => hk.elim (h2 k) (fun h => Nat.le_trans hb0 h.1)⟩, p3.below hb0 (fun j hj hn => by have := h2 j hn; omega)⟩
theorem drop_c {b : Nat} {w : World} {hb N : Nat} {l : List Th} (h : HpC b w hb N l) (hb0 : b ≤ w.heap.size) (id : Int) (hid : wfI id) (hN : N ≤ 100000000) (hl : l.length ≤ 1000) (r : Bool) (l' : List Th) (hr : decide (findH l id ≠ none) = r) (hl' : dropH l id = l') :
    Calls Try.prog 24 #[.pointer (some ⟨hb, 0, none⟩), .int .i64 id] w fun e w' => e = .returned (.bool r) ∧ HpC b w' hb (N + 3000) l' ∧ Below b w w' := by
  obtain ⟨Q, h1, h2⟩ := h
  refine (drop_calls hb id w Q N l h1 hid hN hl).mono fun e w' ⟨p1, p2, p3⟩ => ?_
  rw [hr] at p1
  rw [hl'] at p2
  exact ⟨p1, ⟨_, hpl_mono p2 (by omega), h2⟩, p3.below hb0 (fun j hj hn => by have := h2 j hn; omega)⟩
theorem first_c {b : Nat} {w : World} {hb N : Nat} {l : List Th} (h : HpC b w hb N l) : Calls Try.prog 27 #[.pointer (some ⟨hb, 0, none⟩)] w fun e w' => e = .returned (.tuple #[.int .i64 (headI l), .bool (someB l)]) ∧ Below w.heap.size w w' := by
  obtain ⟨Q, h1, h2⟩ := h
  exact first_calls hb w Q N l h1
theorem len_c {b : Nat} {w : World} {hb N : Nat} {l : List Th} (h : HpC b w hb N l) : Calls Try.prog 30 #[.pointer (some ⟨hb, 0, none⟩)] w fun e w' => e = .returned (.int .i64 l.length) ∧ Below w.heap.size w w' := by
  obtain ⟨Q, h1, h2⟩ := h
  exact len_calls hb w Q N l h1
theorem all_c {b : Nat} {w : World} {hb N : Nat} {l : List Th} (h : HpC b w hb N l) (hl : l.length ≤ 1000) : Calls Try.prog 32 #[.pointer (some ⟨hb, 0, none⟩)] w fun e w' => ∃ A c, e = .returned (.slice A (l.map S37.f0).length c) ∧ (l.map S37.f0).length ≤ c ∧ Kd.C (Kd.int .i64) w' A (l.map S37.f0).length (l.map S37.f0) ∧ Below w.heap.size w w' := by
  obtain ⟨Q, h1, h2⟩ := h
  refine (all_calls hb w Q N l h1 hl).mono fun e w' ⟨v, p1, p2, p3⟩ => ?_
  obtain ⟨A, c, rfl, hc, hC⟩ := Kd.R_reads p2
  exact ⟨A, c, p1, hc, hC, p3⟩
theorem ints_c (l : List Int) (hl : l.length ≤ 1000) (A B : Option Addr) (c d : Nat) (w : World) (h1 : Kd.C (Kd.int .i64) w A l.length l) (hc : l.length ≤ c) (h2 : Kd.C (Kd.int .i64) w B l.length l) (hd : l.length ≤ d) :
    Calls Try.prog 31 #[.slice A l.length c, .slice B l.length d] w fun e w' => e = .returned (.bool true) ∧ Below w.heap.size w w' := by
  obtain ⟨k, hk⟩ := Ev.rounds (ints_same l hl)
  exact (tallymanref01_Ints.calls k A c l B d l true w h1 hc h2 hd hk).mono fun e w' ⟨p1, p2⟩ => ⟨p1, p2.below⟩
def t1H : Th := ⟨1, 5, 2⟩
def t2H : Th := ⟨2, 5, 1⟩
def t3H : Th := ⟨3, 4, 0⟩
def t4H : Th := ⟨3, 4, 9⟩
set_option maxHeartbeats 4000000 in
set_option maxRecDepth 100000 in
theorem alive13_calls (w : World) : Calls Try.prog 20 #[] w fun e w' => e = .returned (.bool true) ∧ Below w.heap.size w w' := by
  have wf1 : wfI 1 := wf_of (by decide) (by decide)
  have wf2 : wfI 2 := wf_of (by decide) (by decide)
  have wf3 : wfI 3 := wf_of (by decide) (by decide)
  have P1 := fun W xb (h : HpC w.heap.size W xb 0 []) hs => Aside0.mk (show Calls Try.prog 22 #[.pointer (some ⟨xb, 0, none⟩), .int .i64 1, .int .i64 5, .int .i64 2] W _ from put_c h hs t1H wf1 (by omega) (by decide) true [t1H] rfl rfl)
  have P2 := fun W xb (h : HpC w.heap.size W xb 3000 [t1H]) hs => Aside0.mk (show Calls Try.prog 22 #[.pointer (some ⟨xb, 0, none⟩), .int .i64 2, .int .i64 5, .int .i64 1] W _ from put_c h hs t2H wf2 (by omega) (by decide) true [t2H, t1H] rfl rfl)
  have P3 := fun W xb (h : HpC w.heap.size W xb 6000 [t2H, t1H]) hs => Aside0.mk (show Calls Try.prog 22 #[.pointer (some ⟨xb, 0, none⟩), .int .i64 3, .int .i64 4, .int .i64 0] W _ from put_c h hs t3H wf3 (by omega) (by decide) true [t2H, t1H, t3H] rfl rfl)
  have P4 := fun W xb (h : HpC w.heap.size W xb 9000 [t2H, t1H, t3H]) hs => Aside0.mk (show Calls Try.prog 22 #[.pointer (some ⟨xb, 0, none⟩), .int .i64 3, .int .i64 4, .int .i64 9] W _ from put_c h hs t4H wf3 (by omega) (by decide) false [t2H, t1H, t4H] rfl rfl)
  have D1 := fun W xb (h : HpC w.heap.size W xb 12000 [t2H, t1H, t4H]) hs => Aside0.mk (show Calls Try.prog 24 #[.pointer (some ⟨xb, 0, none⟩), .int .i64 2] W _ from drop_c h hs 2 wf2 (by omega) (by decide) true [t1H, t4H] rfl rfl)
  have D2 := fun W xb (h : HpC w.heap.size W xb 15000 [t1H, t4H]) hs => Aside0.mk (show Calls Try.prog 24 #[.pointer (some ⟨xb, 0, none⟩), .int .i64 2] W _ from drop_c h hs 2 wf2 (by omega) (by decide) false [t1H, t4H] rfl rfl)
  have FF := fun W xb (h : HpC w.heap.size W xb 9000 [t2H, t1H, t3H]) => Aside0.mk (show Calls Try.prog 27 #[.pointer (some ⟨xb, 0, none⟩)] W (fun e w' => e = .returned (.tuple #[.int .i64 2, .bool true]) ∧ Below W.heap.size W w') from first_c h)
  have AA := fun W xb (h : HpC w.heap.size W xb 12000 [t2H, t1H, t4H]) => Aside0.mk (show Calls Try.prog 32 #[.pointer (some ⟨xb, 0, none⟩)] W (fun e w' => ∃ A c, e = .returned (.slice A 3 c) ∧ 3 ≤ c ∧ Kd.C (Kd.int .i64) w' A 3 [2, 1, 3] ∧ Below W.heap.size W w') from all_c h (by decide))
  have LL := fun W xb (h : HpC w.heap.size W xb 18000 [t1H, t4H]) => Aside0.mk (show Calls Try.prog 30 #[.pointer (some ⟨xb, 0, none⟩)] W (fun e w' => e = .returned (.int .i64 2) ∧ Below W.heap.size W w') from len_c h)
  have II := fun A B c d W (h1 : Kd.C (Kd.int .i64) W A 3 [2, 1, 3]) (hc : 3 ≤ c) (h2 : Kd.C (Kd.int .i64) W B 3 [2, 1, 3] ∧ 3 ≤ d) => Aside0.mk (show Calls Try.prog 31 #[.slice A 3 c, .slice B 3 d] W (fun e w' => e = .returned (.bool true) ∧ Below W.heap.size W w') from ints_c [2, 1, 3] (by decide) A B c d W h1 hc h2.1 h2.2)
  have CL := fun W : World => (show Kd.C (Kd.int .i64) (W.alloc (.cells #[.int .i64 2, .int .i64 1, .int .i64 3] 3)) (some ⟨W.heap.size, 0, none⟩) 3 [2, 1, 3] ∧ 3 ≤ 3 from ⟨C_lit W [2, 1, 3] (by decide) 3 rfl, Nat.le_refl _⟩)
  have CL := Aside0.mk CL
  clear wf1 wf2 wf3
  go_enter Try.func20, Try.ntmps20
  go_wp2_with (first
    | (go_at_call 21; (with_reducible refine (new_c _).mono ?_); rintro e w1 ⟨xb, rfl, h1, hb1⟩; have H1 := Aside0.mk h1; have HB1 := Aside0.mk hb1; clear h1 hb1)
    | (go_at_call 22; refine ((P4 _ xb (hpc_below H4.out HBF.out) (HBF'.out.size)).out).mono ?_; rintro e w5 ⟨rfl, h5, hb5⟩; have H5 := Aside0.mk h5; have HB5 := Aside0.mk (HBF'.out.trans hb5); clear h5 hb5)
    | (go_at_call 22; refine ((P3 _ xb H3.out HB3.out.size).out).mono ?_; rintro e w4 ⟨rfl, h4, hb4⟩; have H4 := Aside0.mk h4; have HB4 := Aside0.mk (HB3.out.trans hb4); clear h4 hb4)
    | (go_at_call 22; refine ((P2 _ xb H2.out HB2.out.size).out).mono ?_; rintro e w3 ⟨rfl, h3, hb3⟩; have H3 := Aside0.mk h3; have HB3 := Aside0.mk (HB2.out.trans hb3); clear h3 hb3)
    | (go_at_call 22; refine ((P1 _ xb H1.out HB1.out.size).out).mono ?_; rintro e w2 ⟨rfl, h2, hb2⟩; have H2 := Aside0.mk h2; have HB2 := Aside0.mk (HB1.out.trans hb2); clear h2 hb2)
    | (go_at_call 27; (with_reducible refine ((FF _ xb H4.out).out).mono ?_); rintro e wf ⟨rfl, hbf⟩; have HBF := Aside0.mk hbf; have HBF' := Aside0.mk (HB4.out.trans (hbf.mono HB4.out.size)); clear hbf)
    | (go_at_call 32; (with_reducible refine ((AA _ xb H5.out).out).mono ?_); rintro e w6 ⟨A6, c6, rfl, hc6, hC6, hb6⟩; have H6 := Aside0.mk (hpc_below H5.out hb6); have HB6 := Aside0.mk (HB5.out.trans (hb6.mono HB5.out.size)); have HC6 := Aside0.mk hC6; have Hc6 := Aside0.mk hc6; clear hb6 hC6 hc6)
    | (go_at_call 31; (with_reducible refine (II _ _ _ _ _ (Kd.C_alloc HC6.out _) Hc6.out (CL.out _)).out.mono ?_); rintro e w7 ⟨rfl, hb7⟩; have HB7 := Aside0.mk (below_step (below_alloc (Below.refl _ _) _) hb7); clear hb7)
    | (go_at_call 24; refine ((D2 _ xb H8.out HB8.out.size).out).mono ?_; rintro e w9 ⟨rfl, h9, hb9⟩; have H9 := Aside0.mk h9; have HB9 := Aside0.mk (HB8.out.trans hb9); clear h9 hb9)
    | (go_at_call 24; refine ((D1 _ xb (hpc_below H6.out HB7.out) (Nat.le_trans HB6.out.size HB7.out.size)).out).mono ?_; rintro e w8 ⟨rfl, h8, hb8⟩; have H8 := Aside0.mk h8; have HB8 := Aside0.mk ((HB6.out.trans (HB7.out.mono HB6.out.size)).trans hb8); clear h8 hb8)
    | (go_at_call 30; (with_reducible refine ((LL _ xb H9.out).out).mono ?_); rintro e wA ⟨rfl, hbA⟩; have HBA := Aside0.mk (HB9.out.trans (hbA.mono HB9.out.size)); clear hbA))
  go_ret
  exact ⟨rfl, HBA.out⟩
end Go.Proofs.Ytopblnecdabcgaa.P
end
section
/- HeapDoes: the calls, with what the law holds beside the heap. -/
namespace Go.Proofs.Ytopblnecdabcgaa.P
open Go.RowKit Go.Proofs.YtopblnecdabcgaaW.PrintWords Go.Proofs.YtopblnecdabcgaaW.PrintLast Go.Proofs.YtopblnecdabcgaaW.PrintMore Go.Proofs.Ytopblnecdabcgaa.H Go.Proofs.Ytopblnecdabcgaa.MP Go.Proofs.Ytopblnecdabcgaa.RP
set_option linter.unusedVariables false
set_option linter.unusedSimpArgs false
theorem F_of_R37 {W : World} {base : Nat} {P : Nat → Prop} {e : Nat} {A : Option Addr} {n c : Nat} {xs : List Th} (h : Kd.R k37 e W base P (.slice A n c) xs) : Kd.F k37 W P A xs.length xs :=
  fun W' hW => (Kd.R_reads' (Kd.R_step h hW)).2.2
/-- The heap lies as l1, the law's row reads l2; the variable at bx is o. -/
structure HdB (w : World) (xb bx : Nat) (o : Obj) (l1 l2 : List Th) (A : Option Addr) (c B : Nat) (W : World) : Prop where
  ex : ∃ Q N, Hpl W xb Q N l1 ∧ (∀ k, Q k → w.heap.size ≤ k) ∧ ¬ Q bx ∧ Kd.F k37 W (fun k => ¬ Q k) A l2.length l2 ∧ N ≤ B
  cap : l2.length ≤ c
  box : W.heap[bx]? = some o
  below : Below w.heap.size w W
structure HdH (w : World) (xb : Nat) (l1 l2 : List Th) (A : Option Addr) (c B : Nat) (W : World) : Prop where
  ex : ∃ Q N, Hpl W xb Q N l1 ∧ (∀ k, Q k → w.heap.size ≤ k) ∧ Kd.F k37 W (fun k => ¬ Q k) A l2.length l2 ∧ N ≤ B
  cap : l2.length ≤ c
  below : Below w.heap.size w W
section
variable {w : World} {xb bx : Nat} {o : Obj} {l1 l2 : List Th} {A : Option Addr} {c B : Nat} {W : World}
theorem hd_box (h : HdH w xb l1 l2 A c B W) (o : Obj) : HdB w xb W.heap.size o l1 l2 A c B (W.alloc o) := by
  obtain ⟨⟨Q, N, h1, h2, h3, h4⟩, hc, hb⟩ := h
  exact ⟨⟨Q, N, hpl_below h1 (below_alloc (Below.refl _ _) _), h2, fun c => by have := h1.own _ c; omega, Kd.F_alloc h3 _, h4⟩, hc, blk_new W o, below_alloc hb o⟩
theorem hd_unbox (h : HdB w xb bx o l1 l2 A c B W) : HdH w xb l1 l2 A c B W := by
  obtain ⟨⟨Q, N, h1, h2, _, h3, h4⟩, hc, _, hb⟩ := h
  exact ⟨⟨Q, N, h1, h2, h3, h4⟩, hc, hb⟩
theorem hd_below (h : HdB w xb bx o l1 l2 A c B W) {W' : World} (k : Below W.heap.size W W') : HdB w xb bx o l1 l2 A c B W' := by
  obtain ⟨⟨Q, N, h1, h2, h5, h3, h4⟩, hc, ho, hb⟩ := h
  exact ⟨⟨Q, N, hpl_below h1 k, h2, h5, Kd.F_below h3 k, h4⟩, hc, blk_keep ho k, below_step hb k⟩
theorem hd_len (h : HdB w xb bx o l1 l2 A c B W) : Kd.C k37 W A l2.length l2 := by
  obtain ⟨⟨Q, N, h1, h2, h5, h3, h4⟩, hc, ho, hb⟩ := h
  exact Kd.F_now h3
/-- A call that leaves all as it was. -/
theorem hd_same (h : HdB w xb bx o l1 l2 A c B W) {fn : FuncId} {args : Array Value} {e0 : Ending} (hc : Calls Try.prog fn args W fun e w' => e = e0 ∧ Below W.heap.size W w') : Calls Try.prog fn args W fun e w' => e = e0 ∧ HdB w xb bx o l1 l2 A c B w' :=
  hc.mono fun e w' ⟨p1, p2⟩ => ⟨p1, hd_below h p2⟩
theorem hd_turn (h : HdB w xb bx o l1 l2 A c B W) {W' : World} {Q : Nat → Prop} {N : Nat} {l1' : List Th} (h1 : Hpl W xb Q N l1) (h2 : ∀ k, Q k → w.heap.size ≤ k) (h5 : ¬ Q bx) (h3 : Kd.F k37 W (fun k => ¬ Q k) A l2.length l2) {Q' : Nat → Prop} {N' : Nat} (hQ' : ∀ k, Q' k → Q k ∨ W.heap.size ≤ k) (hp : Hpl W' xb Q' N' l1') (hN : N' ≤ B + 3000) (hk : KpB Q W W') : HdB w xb bx o l1' l2 A c (B + 3000) W' := by
  obtain ⟨_, hc, ho, hb⟩ := h
  refine ⟨⟨Q', N', hp, fun k hk' => (hQ' k hk').elim (h2 k) (fun h => Nat.le_trans hb.size h), fun q => (hQ' _ q).elim h5 (fun h => by have := lt_blk ho; omega), ?_, hN⟩, hc, (hk.block bx (lt_blk ho) h5).trans ho, hb.trans (hk.below hb.size (fun j hj hn => by have := h2 j hn; omega))⟩
  have h6 := Kd.F_step (Kd.F_bound h3) (fun k ho hl => hk.block k hl ho.1)
  exact Kd.F_mono h6 (fun k hk2 q => (hQ' k q).elim hk2.1 (fun h => by have := hk2.2; omega))
theorem hd_put (h : HdB w xb bx o l1 l2 A c B W) (x : Th) (hx : wfI x.f0) (hB : B ≤ 10000000) (hl : l1.length ≤ 1000) : Calls Try.prog 22 #[.pointer (some ⟨xb, 0, none⟩), .int .i64 x.f0, .int .i64 x.f1, .int .i64 x.f2] W fun e w' => e = .returned (.bool (decide (findH l1 x.f0 = none))) ∧ HdB w xb bx o (putH l1 x) l2 A c (B + 3000) w' := by
  have h' := h
  obtain ⟨⟨Q, N, h1, h2, h5, h3, h4⟩, _⟩ := h
  exact (put_calls xb x W Q N l1 h1 hx (by omega) hl).mono fun e w' ⟨p1, p2, p3⟩ => ⟨p1, hd_turn h' h1 h2 h5 h3 (fun k hk => hk.imp id (fun h => h.1)) p2 (by omega) p3⟩
theorem hd_drop (h : HdB w xb bx o l1 l2 A c B W) (id : Int) (hx : wfI id) (hB : B ≤ 10000000) (hl : l1.length ≤ 1000) : Calls Try.prog 24 #[.pointer (some ⟨xb, 0, none⟩), .int .i64 id] W fun e w' => e = .returned (.bool (decide (findH l1 id ≠ none))) ∧ HdB w xb bx o (dropH l1 id) l2 A c (B + 3000) w' := by
  have h' := h
  obtain ⟨⟨Q, N, h1, h2, h5, h3, h4⟩, _⟩ := h
  exact (drop_calls xb id W Q N l1 h1 hx (by omega) hl).mono fun e w' ⟨p1, p2, p3⟩ => ⟨p1, hd_turn h' h1 h2 h5 h3 (fun k hk => .inl hk) p2 (by omega) p3⟩
theorem hd_pop (h : HdB w xb bx o l1 l2 A c B W) (hB : B ≤ 10000000) (hl : l1.length ≤ 1000) : Calls Try.prog 26 #[.pointer (some ⟨xb, 0, none⟩)] W fun e w' => e = .returned (.tuple #[.int .i64 (headI l1), .bool (someB l1)]) ∧ HdB w xb bx o l1.tail l2 A c (B + 3000) w' := by
  have h' := h
  obtain ⟨⟨Q, N, h1, h2, h5, h3, h4⟩, _⟩ := h
  exact (pop_calls xb W Q N l1 h1 (by omega) hl).mono fun e w' ⟨p1, p2, p3⟩ => ⟨p1, hd_turn h' h1 h2 h5 h3 (fun k hk => .inl hk) p2 (by omega) p3⟩
theorem hd_rnew (h : HdB w xb bx o l1 l2 A c B W) {w' : World} {v : Value} {r : List Th} (hR : Kd.R k37 37 w' W.heap.size (fun _ => True) v r) (hb : Below W.heap.size W w') : ∃ A' c', v = .slice A' r.length c' ∧ HdB w xb bx o l1 r A' c' B w' := by
  obtain ⟨A', c', rfl, hc', _⟩ := Kd.R_reads hR
  have h' := hd_below h hb
  obtain ⟨⟨Q, N, h1, h2, h5, h3, h4⟩, _⟩ := h
  obtain ⟨_, _, ho, hbb⟩ := h'
  refine ⟨A', c', rfl, ⟨Q, N, hpl_below h1 hb, h2, h5, F_of_R37 (Kd.R_mono (Kd.R_bound hR) (fun k hk q => by have := h1.own k q; have := hk.2.1; omega)), h4⟩, hc', ho, hbb⟩
theorem hd_rput (h : HdB w xb bx o l1 l2 A c B W) (x : Th) (hl : l2.length ≤ 1000) : Calls Try.prog 23 #[.slice A l2.length c, .agg #[.int .i64 x.f0, .int .i64 x.f1, .int .i64 x.f2]] W fun e w' => ∃ A' c', e = .returned (.tuple #[.slice A' (putH l2 x).length c', .bool (decide (findH l2 x.f0 = none))]) ∧ HdB w xb bx o l1 (putH l2 x) A' c' B w' := by
  obtain ⟨k, hk⟩ := Ev.rounds (put_ref l2 x hl)
  refine (tallymanref13_Put.calls k A c l2 x.f0 x.f1 x.f2 _ _ W (hd_len h) h.cap hk).mono fun e w' ⟨v, p1, p2, p3⟩ => ?_
  obtain ⟨A', c', rfl, h'⟩ := hd_rnew h p2 p3
  exact ⟨A', c', p1, h'⟩
theorem hd_rdrop (h : HdB w xb bx o l1 l2 A c B W) (id : Int) (hl : l2.length ≤ 1000) : Calls Try.prog 25 #[.slice A l2.length c, .int .i64 id] W fun e w' => ∃ A' c', e = .returned (.tuple #[.slice A' (dropH l2 id).length c', .bool (decide (findH l2 id ≠ none))]) ∧ HdB w xb bx o l1 (dropH l2 id) A' c' B w' := by
  obtain ⟨k, hk⟩ := Ev.rounds (drop_ref l2 id hl)
  rw [drop_had] at hk
  refine (tallymanref13_Drop.calls k A c l2 id _ _ W (hd_len h) h.cap hk).mono fun e w' ⟨v, p1, p2, p3⟩ => ?_
  obtain ⟨A', c', rfl, h'⟩ := hd_rnew h p2 p3
  exact ⟨A', c', p1, h'⟩
theorem hd_first (h : HdB w xb bx o l1 l2 A c B W) : Calls Try.prog 27 #[.pointer (some ⟨xb, 0, none⟩)] W fun e w' => e = .returned (.tuple #[.int .i64 (headI l1), .bool (someB l1)]) ∧ HdB w xb bx o l1 l2 A c B w' := by
  have h' := h
  obtain ⟨⟨Q, N, h1, _⟩, _⟩ := h
  exact hd_same h' (first_calls xb W Q N l1 h1)
theorem hd_lenc (h : HdB w xb bx o l1 l2 A c B W) : Calls Try.prog 30 #[.pointer (some ⟨xb, 0, none⟩)] W fun e w' => e = .returned (.int .i64 l1.length) ∧ HdB w xb bx o l1 l2 A c B w' := by
  have h' := h
  obtain ⟨⟨Q, N, h1, _⟩, _⟩ := h
  exact hd_same h' (len_calls xb W Q N l1 h1)
theorem hd_has (h : HdB w xb bx o l1 l2 A c B W) (id : Int) (hx : wfI id) {y : Value} (hy : hasV l1 id = y) : Calls Try.prog 28 #[.pointer (some ⟨xb, 0, none⟩), .int .i64 id] W fun e w' => e = .returned y ∧ HdB w xb bx o l1 l2 A c B w' := by
  subst hy
  have h' := h
  obtain ⟨⟨Q, N, h1, _⟩, _⟩ := h
  exact hd_same h' (has_calls xb id W Q N l1 h1 hx)
theorem hd_rfind (h : HdB w xb bx o l1 l2 A c B W) (id : Int) (hl : l2.length ≤ 1000) {p q r : Int} {b : Bool} (hy : findV (findH l2 id) = (p, q, r, b)) : Calls Try.prog 29 #[.slice A l2.length c, .int .i64 id] W fun e w' => e = .returned (.tuple #[.agg #[.int .i64 p, .int .i64 q, .int .i64 r], .bool b]) ∧ HdB w xb bx o l1 l2 A c B w' := by
  obtain ⟨k, hk⟩ := Ev.rounds (find_ref l2 id hl)
  rw [hy] at hk
  exact hd_same h (tallymanref13_Find.calls k A c l2 id p q r b W (hd_len h) h.cap hk)
theorem hd_all (h : HdB w xb bx o l1 l2 A c B W) (hl : l1.length ≤ 1000) : Calls Try.prog 32 #[.pointer (some ⟨xb, 0, none⟩)] W fun e w' => ∃ A' c', e = .returned (.slice A' l1.length c') ∧ l1.length ≤ c' ∧ Kd.C (Kd.int .i64) w' A' l1.length (l1.map S37.f0) ∧ HdB w xb bx o l1 l2 A c B w' := by
  have h' := h
  obtain ⟨⟨Q, N, h1, _⟩, _⟩ := h
  refine (all_calls xb W Q N l1 h1 hl).mono fun e w' ⟨v, p1, p2, p3⟩ => ?_
  obtain ⟨A', c', rfl, hc, hC⟩ := Kd.R_reads p2
  rw [List.length_map] at p1 hc hC
  exact ⟨A', c', p1, hc, hC, hd_below h' p3⟩
theorem hd_rids (h : HdB w xb bx o l1 l2 A c B W) (hl : l2.length ≤ 1000) : Calls Try.prog 33 #[.slice A l2.length c] W fun e w' => ∃ A' c', e = .returned (.slice A' l2.length c') ∧ l2.length ≤ c' ∧ Kd.C (Kd.int .i64) w' A' l2.length (l2.map S37.f0) ∧ HdB w xb bx o l1 l2 A c B w' ∧ Below W.heap.size W w' := by
  obtain ⟨k, hk⟩ := Ev.rounds (ids_ref l2 hl)
  refine (tallymanref13_IDs.calls k A c l2 _ W (hd_len h) h.cap hk).mono fun e w' ⟨v, p1, p2, p3⟩ => ?_
  obtain ⟨A', c', rfl, hc, hC⟩ := Kd.R_reads p2
  rw [List.length_map] at p1 hc hC
  exact ⟨A', c', p1, hc, hC, hd_below h p3, p3⟩
theorem hd_ints (h : HdB w xb bx o l1 l2 A c B W) {l : List Int} {n : Nat} (hn : l.length = n) (hl : n ≤ 1000) {A1 A2 : Option Addr} {c1 c2 : Nat} (h1 : Kd.C (Kd.int .i64) W A1 n l) (hc1 : n ≤ c1) (h2 : Kd.C (Kd.int .i64) W A2 n l) (hc2 : n ≤ c2) :
    Calls Try.prog 31 #[.slice A1 n c1, .slice A2 n c2] W fun e w' => e = .returned (.bool true) ∧ HdB w xb bx o l1 l2 A c B w' := by
  subst hn
  exact hd_same h (ints_c l hl A1 A2 c1 c2 W h1 hc1 h2 hc2)
/-- The head of the law's row. -/
theorem hd_head {x : Th} {t : List Th} (h : HdB w xb bx o l1 l2 A c B W) (hx : l2 = x :: t) : ∃ ad, A = some ad ∧ W.cell? ad = some (.int .i64 x.f0) := by
  subst hx
  obtain ⟨ad, c', e, _, hK, hc0⟩ := Kd.C_get (hd_len h) ⟨0, 0, 0⟩ 0 (by decide) (by rw [List.length_cons]; omega)
  obtain rfl := k37_open hK
  have := hc0 0 _ rfl
  refine ⟨ad, e, ?_⟩
  have e2 : ad.add ((0 : Int).toNat * k37.sz + 0) = ad := by
    show ad.add 0 = ad
    obtain ⟨b, o, s⟩ := ad
    unfold Addr.add
    split <;> simp_all
  rw [e2] at this
  exact this
theorem hd_head2 {x : Th} {t : List Th} {ad : Addr} (h : HdB w xb bx o l1 l2 (some ad) c B W) (hx : l2 = x :: t) : ∀ o, (W.alloc o).cell? ad = some (.int .i64 x.f0) := by
  obtain ⟨ad', e, hc⟩ := hd_head h hx
  injection e with e
  subst e
  exact fun o => pw_cell_below (below_alloc (Below.refl _ _) o) hc
theorem hd_head3 {x : Th} {t : List Th} {ad : Addr} (h : HdB w xb bx o l1 l2 (some ad) c B W) (hx : l2 = x :: t) : W.cell? ad = some (.int .i64 x.f0) := by
  obtain ⟨ad', e, hc⟩ := hd_head h hx
  injection e with e
  subst e
  exact hc
theorem hd_fin (h : HdB w xb bx o l1 l2 A c B W) {B2 : Nat} (hB : B ≤ B2) : HdH w xb l1 l2 A c B2 W := by
  obtain ⟨⟨Q, N, h1, h2, h3, h4⟩, hc, hb⟩ := hd_unbox h
  exact ⟨⟨Q, N, h1, h2, h3, by omega⟩, hc, hb⟩
theorem hd_eq (h : HdB w xb bx o l1 l2 A c B W) {l1' l2' : List Th} (e1 : l1 = l1') (e2 : l2 = l2') : HdB w xb bx o l1' l2' A c B W := e1 ▸ e2 ▸ h
theorem some_nil {l : List Th} (h : l = []) : someB l = false ∧ headI l = 0 ∧ decide (0 < l.length) = false := by subst h; exact ⟨rfl, rfl, rfl⟩
theorem some_cons {l : List Th} {y : Th} {t : List Th} (h : l = y :: t) : someB l = true ∧ headI l = y.f0 ∧ decide (0 < l.length) = true ∧ (0 : Int) < (l.length : Int) ∧ l.length = t.length + 1 := by subst h; exact ⟨rfl, rfl, by simp, by rw [List.length_cons]; omega, rfl⟩
/-- all[1:] -/
theorem cut_run (A : Option Addr) (n c : Nat) (hc : n + 1 ≤ c) : ∃ A', (∀ W' : World, (Instr.slice 35 (.slice A (n + 1) c) (some (.int .i64 1)) none none).run Try.prog W' = .ok (.slice A' n (c - 1)) W') ∧
    ∀ {w : World} {xb bx : Nat} {o : Obj} {l1 t : List Th} {x : Th} {B : Nat} {W : World}, t.length = n → HdB w xb bx o l1 (x :: t) A c B W → HdB w xb bx o l1 t A' (c - 1) B W := by
  have hi : ∃ i, Try.prog.info? 37 = some i ∧ i.size = 3 := by
    have h : (Try.prog.info? 37).map (fun i => i.size) = some 3 := by kernel_rfl
    obtain ⟨i, h1, h2⟩ := Option.map_eq_some_iff.1 h
    exact ⟨i, h1, h2⟩
  obtain ⟨i37, hi37, hs37⟩ := hi
  refine ⟨_, cut_from 35 37 .i64 Try.underlying35 hi37 3 hs37 A (n + 1) c 1 (by omega) (by omega), fun {w xb bx o l1 t x B W} ht h => ?_⟩
  obtain ⟨⟨Q, N, h1, h2, h5, h3, h4⟩, hc, ho, hb⟩ := h
  rw [List.length_cons] at hc
  refine ⟨⟨Q, N, h1, h2, h5, ?_, h4⟩, by omega, ho, hb⟩
  exact Kd.F_cut h3 (m := 1) (by rw [List.length_cons]; omega) (by rw [List.length_cons]; exact hc)
end
end Go.Proofs.Ytopblnecdabcgaa.P
end
