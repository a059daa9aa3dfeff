/- Several texts of this proof in one: what the law's functions come to, and the lemmas (some as the kit's print.sh printed them, what is not used struck). -/
import Derived.Test.YtopblnecdabcgaaM2
import Derived.Test.YtopblnecdabcgaaM6
import Derived.Test.YtopblnecdabcgaaM3
import Derived.Deep.Slices
import Derived.ChangeArms
import Derived.Deep.RegionHeld3
import Derived.Deep.DeepCutAuto
import Derived.Deep.CutBlock
section
-- printed by the session's own call of print.py. Not trusted: Lean checks it.
namespace Go.Proofs.Ytopblnecdabcgaa.P
open Go.RowKit Go.Proofs.YtopblnecdabcgaaW.PrintWords Go.Proofs.YtopblnecdabcgaaW.PrintLast Go.Proofs.YtopblnecdabcgaaW.PrintMore
attribute [local go_sem] max2_int min2_int max_two min_two max_three min_three max_four min_four
set_option linter.unusedVariables false
set_option linter.unusedSimpArgs false
/-! ### tallymanlaw37_alive: function 35 -/
def tallymanlaw37_alive.f  : Option (Bool) := (some (([(⟨1, (⟨0, 0⟩ : S108), (⟨0, 0⟩ : S108)⟩ : S110)] : List (S110)) : List (S110))).bind fun y101 => ((bound_Grants.f 4 2 1 3 2 1 0 y101).bind fun t105 => (if t105 = 2 then ((bound_Quiet.f 4 2 1 3 2 1 0 y101).bind fun t106 => (if t106 = 6 then ((bound_Leases.f 4 2 1 3 2 1 0 y101).bind fun t107 => (if t107 = 8 then ((bound_Done.f 4 2 1 3 2 1 0 y101).bind fun t108 => (if t108 = 102 then ((bound_Ripe.f 4 2 1 3 2 1 0 y101 1048570).bind fun t109 => (some (t109 == 5))) else (some false))) else (some false))) else (some false))) else (some false)))
set_option maxHeartbeats 8000000 in
set_option maxRecDepth 100000 in
theorem tallymanlaw37_alive.calls  (r : Bool) (w : World) (h : tallymanlaw37_alive.f  = some r) :
    Calls Try.prog 35 #[] w fun e w' => e = .returned (.bool r) ∧ Below w.heap.size w w' := by
  have hu110 := Try.underlying110
  have hu61 := Try.underlying61
  have HB := Aside0.mk (Below.refl w.heap.size w)
  have H : ((some (([(⟨1, (⟨0, 0⟩ : S108), (⟨0, 0⟩ : S108)⟩ : S110)] : List (S110)) : List (S110))).bind fun y101 => ((bound_Grants.f 4 2 1 3 2 1 0 y101).bind fun t105 => (if t105 = 2 then ((bound_Quiet.f 4 2 1 3 2 1 0 y101).bind fun t106 => (if t106 = 6 then ((bound_Leases.f 4 2 1 3 2 1 0 y101).bind fun t107 => (if t107 = 8 then ((bound_Done.f 4 2 1 3 2 1 0 y101).bind fun t108 => (if t108 = 102 then ((bound_Ripe.f 4 2 1 3 2 1 0 y101 1048570).bind fun t109 => (some (t109 == 5))) else (some false))) else (some false))) else (some false))) else (some false)))) = some r := h
  clear h
  obtain ⟨y101, hy101⟩ : ∃ y_ : List (S110), y_ = (([(⟨1, (⟨0, 0⟩ : S108), (⟨0, 0⟩ : S108)⟩ : S110)] : List (S110))) := ⟨_, rfl⟩
  replace H : ((bound_Grants.f 4 2 1 3 2 1 0 y101).bind fun t105 => (if t105 = 2 then ((bound_Quiet.f 4 2 1 3 2 1 0 y101).bind fun t106 => (if t106 = 6 then ((bound_Leases.f 4 2 1 3 2 1 0 y101).bind fun t107 => (if t107 = 8 then ((bound_Done.f 4 2 1 3 2 1 0 y101).bind fun t108 => (if t108 = 102 then ((bound_Ripe.f 4 2 1 3 2 1 0 y101 1048570).bind fun t109 => (some (t109 == 5))) else (some false))) else (some false))) else (some false))) else (some false))) = some r := by first | (rw [hy101]; with_reducible exact H) | (have H2_ := (Option.bind_some _ _).symm.trans H; rw [hy101]; with_reducible exact H2_) | (have H2_ := (Option.bind_some _ _).symm.trans H; with_reducible exact H2_) | with_reducible exact H | (rw [hy101]; exact H) | exact H
  have Ny101 := Aside0.mk hy101
  clear hy101
  replace H := Option.bind_eq_some_iff.mp H
  obtain ⟨t105, A10, H⟩ := H
  replace H : (if t105 = 2 then ((bound_Quiet.f 4 2 1 3 2 1 0 y101).bind fun t106 => (if t106 = 6 then ((bound_Leases.f 4 2 1 3 2 1 0 y101).bind fun t107 => (if t107 = 8 then ((bound_Done.f 4 2 1 3 2 1 0 y101).bind fun t108 => (if t108 = 102 then ((bound_Ripe.f 4 2 1 3 2 1 0 y101 1048570).bind fun t109 => (some (t109 == 5))) else (some false))) else (some false))) else (some false))) else (some false)) = some r := H
  have A1 := Aside0.mk A10
  clear A10
  by_cases c2 : t105 = 2
  · rw [if_pos c2] at H
    have c2b0 : (t105 == 2) = true := beq_iff_eq.mpr c2
    have c2b1 : (t105 != 2) = false := bne_eq_false_iff_eq.mpr c2
    clear c2
    replace H := Option.bind_eq_some_iff.mp H
    obtain ⟨t106, A30, H⟩ := H
    replace H : (if t106 = 6 then ((bound_Leases.f 4 2 1 3 2 1 0 y101).bind fun t107 => (if t107 = 8 then ((bound_Done.f 4 2 1 3 2 1 0 y101).bind fun t108 => (if t108 = 102 then ((bound_Ripe.f 4 2 1 3 2 1 0 y101 1048570).bind fun t109 => (some (t109 == 5))) else (some false))) else (some false))) else (some false)) = some r := H
    have A3 := Aside0.mk A30
    clear A30
    by_cases c4 : t106 = 6
    · rw [if_pos c4] at H
      have c4b0 : (t106 == 6) = true := beq_iff_eq.mpr c4
      have c4b1 : (t106 != 6) = false := bne_eq_false_iff_eq.mpr c4
      clear c4
      replace H := Option.bind_eq_some_iff.mp H
      obtain ⟨t107, A50, H⟩ := H
      replace H : (if t107 = 8 then ((bound_Done.f 4 2 1 3 2 1 0 y101).bind fun t108 => (if t108 = 102 then ((bound_Ripe.f 4 2 1 3 2 1 0 y101 1048570).bind fun t109 => (some (t109 == 5))) else (some false))) else (some false)) = some r := H
      have A5 := Aside0.mk A50
      clear A50
      by_cases c6 : t107 = 8
      · rw [if_pos c6] at H
        have c6b0 : (t107 == 8) = true := beq_iff_eq.mpr c6
        have c6b1 : (t107 != 8) = false := bne_eq_false_iff_eq.mpr c6
        clear c6
        replace H := Option.bind_eq_some_iff.mp H
        obtain ⟨t108, A70, H⟩ := H
        replace H : (if t108 = 102 then ((bound_Ripe.f 4 2 1 3 2 1 0 y101 1048570).bind fun t109 => (some (t109 == 5))) else (some false)) = some r := H
        have A7 := Aside0.mk A70
        clear A70
        by_cases c8 : t108 = 102
        · rw [if_pos c8] at H
          have c8b0 : (t108 == 102) = true := beq_iff_eq.mpr c8
          have c8b1 : (t108 != 102) = false := bne_eq_false_iff_eq.mpr c8
          clear c8
          replace H := Option.bind_eq_some_iff.mp H
          obtain ⟨t109, A90, H⟩ := H
          replace H : (some (t109 == 5)) = some r := H
          have A9 := Aside0.mk A90
          clear A90
          obtain rfl := Option.some.inj H
          go_enter Try.func35, Try.ntmps35
          go_wp2_with (first | ((with_reducible refine gate_dst (N := 3) rfl ?_); refine Kd.R_lit k110 _ 110 ?hg (N := 3) ?hd (xs := ([(⟨1, (⟨0, 0⟩ : S108), (⟨0, 0⟩ : S108)⟩ : S110)] : List (S110))) (inner := [.int .i64 1, .int .i64 0, .int .i64 0, .int .i64 0, .int .i64 0]) (ok := fun _ => True) (okp := fun _ => True) ?hr ?hp (fun _ hk => hk) trivial (Below.refl _ _) (Nat.le_refl _) (by simp) ?_; (case hd => rfl); (case hg => rfl); (case hr => first | (go_simp; done) | (go_simp; rfl)); (case hp => exact (Reps.c5 (show Kd.M k110 _ _ _ (⟨1, (⟨0, 0⟩ : S108), (⟨0, 0⟩ : S108)⟩ : S110) [.int .i64 1, .int .i64 0, .int .i64 0, .int .i64 0, .int .i64 0] from (k110_mkM _ _ _ (⟨1, (⟨0, 0⟩ : S108), (⟨0, 0⟩ : S108)⟩ : S110) )) (Reps.none _ _))); intro v102 w10 ho11 hb hg_ hnew_; clear hg_ hnew_; (first | rw [← Ny101.out] at ho11 | (simp only [Int.reduceToNat] at ho11; rw [← Ny101.out] at ho11)); have n0_ := Aside0.mk (Kd.R_lower ho11 (below_size (by repeat (first | (with_reducible first | exact HB.out | apply below_alloc | apply pw_below_drewN | apply below_drew1) | exact HB.out)))); have n1_ := Aside0.mk (below_step (by repeat (first | (with_reducible first | exact HB.out | apply below_alloc | apply pw_below_drewN | apply below_drew1) | exact HB.out)) hb); clear HB; have HO103 := n0_; have HB := n1_; clear n0_ n1_; clear hb ho11; obtain ⟨Ao12, co12, eo12⟩ := Kd.R_slice HO103.out; subst eo12) | ((with_reducible refine gate_dst (N := 1) rfl ?_); refine box_event ?hg (N := 1) ?hd (cs := #[.int .i64 0, .int .i64 0, .int .i64 0, .int .i64 0, .int .i64 0, .int .i64 0, .int .i64 0, .slice none 0 0]) (t := 61) ?hr ?_; (case hd => rfl); (case hg => rfl); (case hr => first | (go_simp; done) | (go_simp; rfl)); intro gb104 hg w13 hbox hb; have n0_ := Aside0.mk (Kd.R_below (by (with_reducible repeat (first | apply Kd.R_alloc | apply Kd.R_drewN | apply Kd.R_drew)); exact HO103.out) hb); have n1_ := Aside0.mk (below_step (by repeat (first | (with_reducible first | exact HB.out | apply below_alloc | apply pw_below_drewN | apply below_drew1) | exact HB.out)) hb); have n2_ := Aside0.mk (hbox); have n3_ := Aside0.mk ((by rw [hg]; exact (below_size (by repeat (first | (with_reducible first | exact HB.out | apply below_alloc | apply pw_below_drewN | apply below_drew1) | exact HB.out))) : w.heap.size ≤ gb104)); have n4_ := Aside0.mk ((by rw [hg]; exact (below_size (by repeat (first | (with_reducible first | exact HB.out | apply below_alloc | apply pw_below_drewN | apply below_drew1) | exact HB.out))) : w.heap.size ≤ gb104)); clear HO103; clear HB; have HO103 := n0_; have HB := n1_; have BK104 := n2_; have GW104 := n3_; have GE104 := n4_; clear n0_ n1_ n2_ n3_ n4_; clear hb hbox hg; have hcz14_0 : w13.cell? ⟨gb104, 0, none⟩ = some (.int .i64 0) := (blk_cell BK104.out 0).trans rfl; have hcz14_1 : w13.cell? ⟨gb104, 1, none⟩ = some (.int .i64 0) := (blk_cell BK104.out 1).trans rfl; have hcz14_2 : w13.cell? ⟨gb104, 2, none⟩ = some (.int .i64 0) := (blk_cell BK104.out 2).trans rfl; have hcz14_3 : w13.cell? ⟨gb104, 3, none⟩ = some (.int .i64 0) := (blk_cell BK104.out 3).trans rfl; have hcz14_4 : w13.cell? ⟨gb104, 4, none⟩ = some (.int .i64 0) := (blk_cell BK104.out 4).trans rfl; have hcz14_5 : w13.cell? ⟨gb104, 5, none⟩ = some (.int .i64 0) := (blk_cell BK104.out 5).trans rfl; have hcz14_6 : w13.cell? ⟨gb104, 6, none⟩ = some (.int .i64 0) := (blk_cell BK104.out 6).trans rfl; have hcz14_7 : w13.cell? ⟨gb104, 7, none⟩ = some (.slice none 0 0) := (blk_cell BK104.out 7).trans rfl; have hfz14_0 := blk_frozen BK104.out 0; have hfz14_1 := blk_frozen BK104.out 1; have hfz14_2 := blk_frozen BK104.out 2; have hfz14_3 := blk_frozen BK104.out 3; have hfz14_4 := blk_frozen BK104.out 4; have hfz14_5 := blk_frozen BK104.out 5; have hfz14_6 := blk_frozen BK104.out 6; have hfz14_7 := blk_frozen BK104.out 7) | ((with_reducible refine gate_callee (f := 36) rfl ?_); refine goesL_ (some 6) rfl rfl Try.func36 (by kernel_rfl) rfl #[.agg #[.int .i64 4, .int .i64 2, .int .i64 1, .int .i64 3, .int .i64 2, .int .i64 1, .int .i64 0, .slice Ao12 y101.length co12]] rfl (by (try simp only [List.map_toArray, List.map_cons, List.map_nil]); first | done | rfl | (simp only [List.length_drop, List.length_take]; rfl)) ?_; (with_reducible refine (bound_Grants.calls 4 2 1 3 2 1 0 _ _ y101 t105 _ ?side1 ?side2 A1.out).mono ?_); (case side1 => refine (Kd.R_reads' (e := 110) (base := w.heap.size) (ok := fun k_ => True) (n := y101.length) (c := co12) ?_).2.2; exact (by (with_reducible repeat (first | apply Kd.R_alloc | apply Kd.R_drewN | apply Kd.R_drew)); exact (Kd.R_mono (Kd.R_far (p := ⟨gb104, 7, none⟩) (Kd.R_far (p := ⟨gb104, 6, none⟩) (Kd.R_far (p := ⟨gb104, 5, none⟩) (Kd.R_far (p := ⟨gb104, 4, none⟩) (Kd.R_far (p := ⟨gb104, 3, none⟩) (Kd.R_far (p := ⟨gb104, 2, none⟩) (Kd.R_far (p := ⟨gb104, 1, none⟩) (Kd.R_far (p := ⟨gb104, 0, none⟩) (Kd.R_types HO103.out BK104.out (by decide)) (fun _ hk => hk.2) (.int .i64 4)) (fun _ hk => hk.2) (.int .i64 2)) (fun _ hk => hk.2) (.int .i64 1)) (fun _ hk => hk.2) (.int .i64 3)) (fun _ hk => hk.2) (.int .i64 2)) (fun _ hk => hk.2) (.int .i64 1)) (fun _ hk => hk.2) (.int .i64 0)) (fun _ hk => hk.2) (.slice Ao12 y101.length co12)) (fun _ h_ => h_.1)))); (case side2 => exact (Kd.R_reads' HO103.out).2.1); rintro e w15 ⟨rfl, hb⟩; refine ⟨_, rfl, ?_⟩; have n0_ := Aside0.mk (Kd.R_below (by (with_reducible repeat (first | apply Kd.R_alloc | apply Kd.R_drewN | apply Kd.R_drew)); exact (Kd.R_mono (Kd.R_far (p := ⟨gb104, 7, none⟩) (Kd.R_far (p := ⟨gb104, 6, none⟩) (Kd.R_far (p := ⟨gb104, 5, none⟩) (Kd.R_far (p := ⟨gb104, 4, none⟩) (Kd.R_far (p := ⟨gb104, 3, none⟩) (Kd.R_far (p := ⟨gb104, 2, none⟩) (Kd.R_far (p := ⟨gb104, 1, none⟩) (Kd.R_far (p := ⟨gb104, 0, none⟩) (Kd.R_types HO103.out BK104.out (by decide)) (fun _ hk => hk.2) (.int .i64 4)) (fun _ hk => hk.2) (.int .i64 2)) (fun _ hk => hk.2) (.int .i64 1)) (fun _ hk => hk.2) (.int .i64 3)) (fun _ hk => hk.2) (.int .i64 2)) (fun _ hk => hk.2) (.int .i64 1)) (fun _ hk => hk.2) (.int .i64 0)) (fun _ hk => hk.2) (.slice Ao12 y101.length co12)) (fun _ h_ => h_.1))) hb); have n1_ := Aside0.mk (blk_below (g := gb104) (o := .cells #[.int .i64 4, .int .i64 2, .int .i64 1, .int .i64 3, .int .i64 2, .int .i64 1, .int .i64 0, .slice Ao12 y101.length co12] 61 (0, 0)) (by (with_reducible repeat (first | refine blk_drewN ?_ _ | refine blk_drew ?_ | refine blk_alloc ?_ _)); refine blk_put (cs := #[.int .i64 4, .int .i64 2, .int .i64 1, .int .i64 3, .int .i64 2, .int .i64 1, .int .i64 0, .slice none 0 0]) ?_ 7 _ rfl; (with_reducible repeat (first | refine blk_drewN ?_ _ | refine blk_drew ?_ | refine blk_alloc ?_ _)); refine blk_put (cs := #[.int .i64 4, .int .i64 2, .int .i64 1, .int .i64 3, .int .i64 2, .int .i64 1, .int .i64 0, .slice none 0 0]) ?_ 6 _ rfl; (with_reducible repeat (first | refine blk_drewN ?_ _ | refine blk_drew ?_ | refine blk_alloc ?_ _)); refine blk_put (cs := #[.int .i64 4, .int .i64 2, .int .i64 1, .int .i64 3, .int .i64 2, .int .i64 0, .int .i64 0, .slice none 0 0]) ?_ 5 _ rfl; (with_reducible repeat (first | refine blk_drewN ?_ _ | refine blk_drew ?_ | refine blk_alloc ?_ _)); refine blk_put (cs := #[.int .i64 4, .int .i64 2, .int .i64 1, .int .i64 3, .int .i64 0, .int .i64 0, .int .i64 0, .slice none 0 0]) ?_ 4 _ rfl; (with_reducible repeat (first | refine blk_drewN ?_ _ | refine blk_drew ?_ | refine blk_alloc ?_ _)); refine blk_put (cs := #[.int .i64 4, .int .i64 2, .int .i64 1, .int .i64 0, .int .i64 0, .int .i64 0, .int .i64 0, .slice none 0 0]) ?_ 3 _ rfl; (with_reducible repeat (first | refine blk_drewN ?_ _ | refine blk_drew ?_ | refine blk_alloc ?_ _)); refine blk_put (cs := #[.int .i64 4, .int .i64 2, .int .i64 0, .int .i64 0, .int .i64 0, .int .i64 0, .int .i64 0, .slice none 0 0]) ?_ 2 _ rfl; (with_reducible repeat (first | refine blk_drewN ?_ _ | refine blk_drew ?_ | refine blk_alloc ?_ _)); refine blk_put (cs := #[.int .i64 4, .int .i64 0, .int .i64 0, .int .i64 0, .int .i64 0, .int .i64 0, .int .i64 0, .slice none 0 0]) ?_ 1 _ rfl; (with_reducible repeat (first | refine blk_drewN ?_ _ | refine blk_drew ?_ | refine blk_alloc ?_ _)); refine blk_put (cs := #[.int .i64 0, .int .i64 0, .int .i64 0, .int .i64 0, .int .i64 0, .int .i64 0, .int .i64 0, .slice none 0 0]) ?_ 0 _ rfl; (with_reducible repeat (first | refine blk_drewN ?_ _ | refine blk_drew ?_ | refine blk_alloc ?_ _)); exact BK104.out) hb); have n2_ := Aside0.mk (below_step (by repeat (first | (with_reducible first | exact HB.out | apply below_alloc | apply pw_below_drewN | apply below_drew1 | refine below_set ?_ GE104.out) | exact HB.out)) hb); clear HO103; clear BK104; clear HB; have HO103 := n0_; have BK104 := n1_; have HB := n2_; clear n0_ n1_ n2_; (try clear hb); (try clear hb2); (try clear hk); (try clear hi); have hcz16_0 : w15.cell? ⟨gb104, 0, none⟩ = some (.int .i64 4) := (blk_cell BK104.out 0).trans rfl; have hcz16_1 : w15.cell? ⟨gb104, 1, none⟩ = some (.int .i64 2) := (blk_cell BK104.out 1).trans rfl; have hcz16_2 : w15.cell? ⟨gb104, 2, none⟩ = some (.int .i64 1) := (blk_cell BK104.out 2).trans rfl; have hcz16_3 : w15.cell? ⟨gb104, 3, none⟩ = some (.int .i64 3) := (blk_cell BK104.out 3).trans rfl; have hcz16_4 : w15.cell? ⟨gb104, 4, none⟩ = some (.int .i64 2) := (blk_cell BK104.out 4).trans rfl; have hcz16_5 : w15.cell? ⟨gb104, 5, none⟩ = some (.int .i64 1) := (blk_cell BK104.out 5).trans rfl; have hcz16_6 : w15.cell? ⟨gb104, 6, none⟩ = some (.int .i64 0) := (blk_cell BK104.out 6).trans rfl; have hcz16_7 : w15.cell? ⟨gb104, 7, none⟩ = some (.slice Ao12 y101.length co12) := (blk_cell BK104.out 7).trans rfl; have hfz16_0 := blk_frozen BK104.out 0; have hfz16_1 := blk_frozen BK104.out 1; have hfz16_2 := blk_frozen BK104.out 2; have hfz16_3 := blk_frozen BK104.out 3; have hfz16_4 := blk_frozen BK104.out 4; have hfz16_5 := blk_frozen BK104.out 5; have hfz16_6 := blk_frozen BK104.out 6; have hfz16_7 := blk_frozen BK104.out 7) | (go_at_call 38; (with_reducible refine (bound_Quiet.calls 4 2 1 3 2 1 0 _ _ y101 t106 _ ?side1 ?side2 A3.out).mono ?_); (case side1 => repeat (first | exact (Kd.R_reads' HO103.out).2.2 | (with_reducible refine Kd.C_alloc ?_ _) | (with_reducible refine Kd.C_drewN ?_ _) | (with_reducible refine Kd.C_drew ?_))); (case side2 => exact (Kd.R_reads' HO103.out).2.1); rintro e w17 ⟨rfl, hb⟩; have n0_ := Aside0.mk (Kd.R_below (by (with_reducible repeat (first | apply Kd.R_alloc | apply Kd.R_drewN | apply Kd.R_drew)); exact HO103.out) hb); have n1_ := Aside0.mk (blk_below (g := gb104) (o := .cells #[.int .i64 4, .int .i64 2, .int .i64 1, .int .i64 3, .int .i64 2, .int .i64 1, .int .i64 0, .slice Ao12 y101.length co12] 61 (0, 0)) (by (with_reducible repeat (first | refine blk_drewN ?_ _ | refine blk_drew ?_ | refine blk_alloc ?_ _)); exact BK104.out) hb); have n2_ := Aside0.mk (below_step (by repeat (first | (with_reducible first | exact HB.out | apply below_alloc | apply pw_below_drewN | apply below_drew1 | refine below_set ?_ GE104.out) | exact HB.out)) hb); clear HO103; clear BK104; clear HB; have HO103 := n0_; have BK104 := n1_; have HB := n2_; clear n0_ n1_ n2_; (try clear hb); (try clear hb2); (try clear hk); (try clear hi); have hcz18_0 : w17.cell? ⟨gb104, 0, none⟩ = some (.int .i64 4) := (blk_cell BK104.out 0).trans rfl; have hcz18_1 : w17.cell? ⟨gb104, 1, none⟩ = some (.int .i64 2) := (blk_cell BK104.out 1).trans rfl; have hcz18_2 : w17.cell? ⟨gb104, 2, none⟩ = some (.int .i64 1) := (blk_cell BK104.out 2).trans rfl; have hcz18_3 : w17.cell? ⟨gb104, 3, none⟩ = some (.int .i64 3) := (blk_cell BK104.out 3).trans rfl; have hcz18_4 : w17.cell? ⟨gb104, 4, none⟩ = some (.int .i64 2) := (blk_cell BK104.out 4).trans rfl; have hcz18_5 : w17.cell? ⟨gb104, 5, none⟩ = some (.int .i64 1) := (blk_cell BK104.out 5).trans rfl; have hcz18_6 : w17.cell? ⟨gb104, 6, none⟩ = some (.int .i64 0) := (blk_cell BK104.out 6).trans rfl; have hcz18_7 : w17.cell? ⟨gb104, 7, none⟩ = some (.slice Ao12 y101.length co12) := (blk_cell BK104.out 7).trans rfl; have hfz18_0 := blk_frozen BK104.out 0; have hfz18_1 := blk_frozen BK104.out 1; have hfz18_2 := blk_frozen BK104.out 2; have hfz18_3 := blk_frozen BK104.out 3; have hfz18_4 := blk_frozen BK104.out 4; have hfz18_5 := blk_frozen BK104.out 5; have hfz18_6 := blk_frozen BK104.out 6; have hfz18_7 := blk_frozen BK104.out 7) | (go_at_call 40; (with_reducible refine (bound_Leases.calls 4 2 1 3 2 1 0 _ _ y101 t107 _ ?side1 ?side2 A5.out).mono ?_); (case side1 => repeat (first | exact (Kd.R_reads' HO103.out).2.2 | (with_reducible refine Kd.C_alloc ?_ _) | (with_reducible refine Kd.C_drewN ?_ _) | (with_reducible refine Kd.C_drew ?_))); (case side2 => exact (Kd.R_reads' HO103.out).2.1); rintro e w19 ⟨rfl, hb⟩; have n0_ := Aside0.mk (Kd.R_below (by (with_reducible repeat (first | apply Kd.R_alloc | apply Kd.R_drewN | apply Kd.R_drew)); exact HO103.out) hb); have n1_ := Aside0.mk (blk_below (g := gb104) (o := .cells #[.int .i64 4, .int .i64 2, .int .i64 1, .int .i64 3, .int .i64 2, .int .i64 1, .int .i64 0, .slice Ao12 y101.length co12] 61 (0, 0)) (by (with_reducible repeat (first | refine blk_drewN ?_ _ | refine blk_drew ?_ | refine blk_alloc ?_ _)); exact BK104.out) hb); have n2_ := Aside0.mk (below_step (by repeat (first | (with_reducible first | exact HB.out | apply below_alloc | apply pw_below_drewN | apply below_drew1 | refine below_set ?_ GE104.out) | exact HB.out)) hb); clear HO103; clear BK104; clear HB; have HO103 := n0_; have BK104 := n1_; have HB := n2_; clear n0_ n1_ n2_; (try clear hb); (try clear hb2); (try clear hk); (try clear hi); have hcz20_0 : w19.cell? ⟨gb104, 0, none⟩ = some (.int .i64 4) := (blk_cell BK104.out 0).trans rfl; have hcz20_1 : w19.cell? ⟨gb104, 1, none⟩ = some (.int .i64 2) := (blk_cell BK104.out 1).trans rfl; have hcz20_2 : w19.cell? ⟨gb104, 2, none⟩ = some (.int .i64 1) := (blk_cell BK104.out 2).trans rfl; have hcz20_3 : w19.cell? ⟨gb104, 3, none⟩ = some (.int .i64 3) := (blk_cell BK104.out 3).trans rfl; have hcz20_4 : w19.cell? ⟨gb104, 4, none⟩ = some (.int .i64 2) := (blk_cell BK104.out 4).trans rfl; have hcz20_5 : w19.cell? ⟨gb104, 5, none⟩ = some (.int .i64 1) := (blk_cell BK104.out 5).trans rfl; have hcz20_6 : w19.cell? ⟨gb104, 6, none⟩ = some (.int .i64 0) := (blk_cell BK104.out 6).trans rfl; have hcz20_7 : w19.cell? ⟨gb104, 7, none⟩ = some (.slice Ao12 y101.length co12) := (blk_cell BK104.out 7).trans rfl; have hfz20_0 := blk_frozen BK104.out 0; have hfz20_1 := blk_frozen BK104.out 1; have hfz20_2 := blk_frozen BK104.out 2; have hfz20_3 := blk_frozen BK104.out 3; have hfz20_4 := blk_frozen BK104.out 4; have hfz20_5 := blk_frozen BK104.out 5; have hfz20_6 := blk_frozen BK104.out 6; have hfz20_7 := blk_frozen BK104.out 7) | (go_at_call 42; (with_reducible refine (bound_Done.calls 4 2 1 3 2 1 0 _ _ y101 t108 _ ?side1 ?side2 A7.out).mono ?_); (case side1 => repeat (first | exact (Kd.R_reads' HO103.out).2.2 | (with_reducible refine Kd.C_alloc ?_ _) | (with_reducible refine Kd.C_drewN ?_ _) | (with_reducible refine Kd.C_drew ?_))); (case side2 => exact (Kd.R_reads' HO103.out).2.1); rintro e w21 ⟨rfl, hb⟩; have n0_ := Aside0.mk (Kd.R_below (by (with_reducible repeat (first | apply Kd.R_alloc | apply Kd.R_drewN | apply Kd.R_drew)); exact HO103.out) hb); have n1_ := Aside0.mk (blk_below (g := gb104) (o := .cells #[.int .i64 4, .int .i64 2, .int .i64 1, .int .i64 3, .int .i64 2, .int .i64 1, .int .i64 0, .slice Ao12 y101.length co12] 61 (0, 0)) (by (with_reducible repeat (first | refine blk_drewN ?_ _ | refine blk_drew ?_ | refine blk_alloc ?_ _)); exact BK104.out) hb); have n2_ := Aside0.mk (below_step (by repeat (first | (with_reducible first | exact HB.out | apply below_alloc | apply pw_below_drewN | apply below_drew1 | refine below_set ?_ GE104.out) | exact HB.out)) hb); clear HO103; clear BK104; clear HB; have HO103 := n0_; have BK104 := n1_; have HB := n2_; clear n0_ n1_ n2_; (try clear hb); (try clear hb2); (try clear hk); (try clear hi); have hcz22_0 : w21.cell? ⟨gb104, 0, none⟩ = some (.int .i64 4) := (blk_cell BK104.out 0).trans rfl; have hcz22_1 : w21.cell? ⟨gb104, 1, none⟩ = some (.int .i64 2) := (blk_cell BK104.out 1).trans rfl; have hcz22_2 : w21.cell? ⟨gb104, 2, none⟩ = some (.int .i64 1) := (blk_cell BK104.out 2).trans rfl; have hcz22_3 : w21.cell? ⟨gb104, 3, none⟩ = some (.int .i64 3) := (blk_cell BK104.out 3).trans rfl; have hcz22_4 : w21.cell? ⟨gb104, 4, none⟩ = some (.int .i64 2) := (blk_cell BK104.out 4).trans rfl; have hcz22_5 : w21.cell? ⟨gb104, 5, none⟩ = some (.int .i64 1) := (blk_cell BK104.out 5).trans rfl; have hcz22_6 : w21.cell? ⟨gb104, 6, none⟩ = some (.int .i64 0) := (blk_cell BK104.out 6).trans rfl; have hcz22_7 : w21.cell? ⟨gb104, 7, none⟩ = some (.slice Ao12 y101.length co12) := (blk_cell BK104.out 7).trans rfl; have hfz22_0 := blk_frozen BK104.out 0; have hfz22_1 := blk_frozen BK104.out 1; have hfz22_2 := blk_frozen BK104.out 2; have hfz22_3 := blk_frozen BK104.out 3; have hfz22_4 := blk_frozen BK104.out 4; have hfz22_5 := blk_frozen BK104.out 5; have hfz22_6 := blk_frozen BK104.out 6; have hfz22_7 := blk_frozen BK104.out 7) | (go_at_call 44; (with_reducible refine (bound_Ripe.calls 4 2 1 3 2 1 0 _ _ y101 1048570 t109 _ ?side1 ?side2 A9.out).mono ?_); (case side1 => repeat (first | exact (Kd.R_reads' HO103.out).2.2 | (with_reducible refine Kd.C_alloc ?_ _) | (with_reducible refine Kd.C_drewN ?_ _) | (with_reducible refine Kd.C_drew ?_))); (case side2 => exact (Kd.R_reads' HO103.out).2.1); rintro e w23 ⟨rfl, hb⟩; have n0_ := Aside0.mk (Kd.R_below (by (with_reducible repeat (first | apply Kd.R_alloc | apply Kd.R_drewN | apply Kd.R_drew)); exact HO103.out) hb); have n1_ := Aside0.mk (blk_below (g := gb104) (o := .cells #[.int .i64 4, .int .i64 2, .int .i64 1, .int .i64 3, .int .i64 2, .int .i64 1, .int .i64 0, .slice Ao12 y101.length co12] 61 (0, 0)) (by (with_reducible repeat (first | refine blk_drewN ?_ _ | refine blk_drew ?_ | refine blk_alloc ?_ _)); exact BK104.out) hb); have n2_ := Aside0.mk (below_step (by repeat (first | (with_reducible first | exact HB.out | apply below_alloc | apply pw_below_drewN | apply below_drew1 | refine below_set ?_ GE104.out) | exact HB.out)) hb); clear HO103; clear BK104; clear HB; have HO103 := n0_; have BK104 := n1_; have HB := n2_; clear n0_ n1_ n2_; (try clear hb); (try clear hb2); (try clear hk); (try clear hi)))
          go_ret
          exact ⟨by first | rfl | ((repeat first | rw [Int.tdiv_eq_ediv_of_nonneg (by omega)] | rw [Int.tmod_eq_emod_of_nonneg (by omega)]); rfl) | (simp [errW_none, errW_some] <;> rfl) | (simp [*, errW_none, errW_some] <;> rfl), by repeat (first | (with_reducible first | exact HB.out | apply below_alloc | apply pw_below_drewN | apply below_drew1 | refine below_set ?_ GE104.out) | exact HB.out)⟩
        · rw [if_neg c8] at H
          have c8b0 : (t108 == 102) = false := beq_eq_false_iff_ne.mpr c8
          have c8b1 : (t108 != 102) = true := bne_iff_ne.mpr c8
          obtain rfl := Option.some.inj H
          go_enter Try.func35, Try.ntmps35
          go_wp2_with (first | ((with_reducible refine gate_dst (N := 3) rfl ?_); refine Kd.R_lit k110 _ 110 ?hg (N := 3) ?hd (xs := ([(⟨1, (⟨0, 0⟩ : S108), (⟨0, 0⟩ : S108)⟩ : S110)] : List (S110))) (inner := [.int .i64 1, .int .i64 0, .int .i64 0, .int .i64 0, .int .i64 0]) (ok := fun _ => True) (okp := fun _ => True) ?hr ?hp (fun _ hk => hk) trivial (Below.refl _ _) (Nat.le_refl _) (by simp) ?_; (case hd => rfl); (case hg => rfl); (case hr => first | (go_simp; done) | (go_simp; rfl)); (case hp => exact (Reps.c5 (show Kd.M k110 _ _ _ (⟨1, (⟨0, 0⟩ : S108), (⟨0, 0⟩ : S108)⟩ : S110) [.int .i64 1, .int .i64 0, .int .i64 0, .int .i64 0, .int .i64 0] from (k110_mkM _ _ _ (⟨1, (⟨0, 0⟩ : S108), (⟨0, 0⟩ : S108)⟩ : S110) )) (Reps.none _ _))); intro v102 w24 ho25 hb hg_ hnew_; clear hg_ hnew_; (first | rw [← Ny101.out] at ho25 | (simp only [Int.reduceToNat] at ho25; rw [← Ny101.out] at ho25)); have n0_ := Aside0.mk (Kd.R_lower ho25 (below_size (by repeat (first | (with_reducible first | exact HB.out | apply below_alloc | apply pw_below_drewN | apply below_drew1) | exact HB.out)))); have n1_ := Aside0.mk (below_step (by repeat (first | (with_reducible first | exact HB.out | apply below_alloc | apply pw_below_drewN | apply below_drew1) | exact HB.out)) hb); clear HB; have HO103 := n0_; have HB := n1_; clear n0_ n1_; clear hb ho25; obtain ⟨Ao26, co26, eo26⟩ := Kd.R_slice HO103.out; subst eo26) | ((with_reducible refine gate_dst (N := 1) rfl ?_); refine box_event ?hg (N := 1) ?hd (cs := #[.int .i64 0, .int .i64 0, .int .i64 0, .int .i64 0, .int .i64 0, .int .i64 0, .int .i64 0, .slice none 0 0]) (t := 61) ?hr ?_; (case hd => rfl); (case hg => rfl); (case hr => first | (go_simp; done) | (go_simp; rfl)); intro gb104 hg w27 hbox hb; have n0_ := Aside0.mk (Kd.R_below (by (with_reducible repeat (first | apply Kd.R_alloc | apply Kd.R_drewN | apply Kd.R_drew)); exact HO103.out) hb); have n1_ := Aside0.mk (below_step (by repeat (first | (with_reducible first | exact HB.out | apply below_alloc | apply pw_below_drewN | apply below_drew1) | exact HB.out)) hb); have n2_ := Aside0.mk (hbox); have n3_ := Aside0.mk ((by rw [hg]; exact (below_size (by repeat (first | (with_reducible first | exact HB.out | apply below_alloc | apply pw_below_drewN | apply below_drew1) | exact HB.out))) : w.heap.size ≤ gb104)); have n4_ := Aside0.mk ((by rw [hg]; exact (below_size (by repeat (first | (with_reducible first | exact HB.out | apply below_alloc | apply pw_below_drewN | apply below_drew1) | exact HB.out))) : w.heap.size ≤ gb104)); clear HO103; clear HB; have HO103 := n0_; have HB := n1_; have BK104 := n2_; have GW104 := n3_; have GE104 := n4_; clear n0_ n1_ n2_ n3_ n4_; clear hb hbox hg; have hcz28_0 : w27.cell? ⟨gb104, 0, none⟩ = some (.int .i64 0) := (blk_cell BK104.out 0).trans rfl; have hcz28_1 : w27.cell? ⟨gb104, 1, none⟩ = some (.int .i64 0) := (blk_cell BK104.out 1).trans rfl; have hcz28_2 : w27.cell? ⟨gb104, 2, none⟩ = some (.int .i64 0) := (blk_cell BK104.out 2).trans rfl; have hcz28_3 : w27.cell? ⟨gb104, 3, none⟩ = some (.int .i64 0) := (blk_cell BK104.out 3).trans rfl; have hcz28_4 : w27.cell? ⟨gb104, 4, none⟩ = some (.int .i64 0) := (blk_cell BK104.out 4).trans rfl; have hcz28_5 : w27.cell? ⟨gb104, 5, none⟩ = some (.int .i64 0) := (blk_cell BK104.out 5).trans rfl; have hcz28_6 : w27.cell? ⟨gb104, 6, none⟩ = some (.int .i64 0) := (blk_cell BK104.out 6).trans rfl; have hcz28_7 : w27.cell? ⟨gb104, 7, none⟩ = some (.slice none 0 0) := (blk_cell BK104.out 7).trans rfl; have hfz28_0 := blk_frozen BK104.out 0; have hfz28_1 := blk_frozen BK104.out 1; have hfz28_2 := blk_frozen BK104.out 2; have hfz28_3 := blk_frozen BK104.out 3; have hfz28_4 := blk_frozen BK104.out 4; have hfz28_5 := blk_frozen BK104.out 5; have hfz28_6 := blk_frozen BK104.out 6; have hfz28_7 := blk_frozen BK104.out 7) | ((with_reducible refine gate_callee (f := 36) rfl ?_); refine goesL_ (some 6) rfl rfl Try.func36 (by kernel_rfl) rfl #[.agg #[.int .i64 4, .int .i64 2, .int .i64 1, .int .i64 3, .int .i64 2, .int .i64 1, .int .i64 0, .slice Ao26 y101.length co26]] rfl (by (try simp only [List.map_toArray, List.map_cons, List.map_nil]); first | done | rfl | (simp only [List.length_drop, List.length_take]; rfl)) ?_; (with_reducible refine (bound_Grants.calls 4 2 1 3 2 1 0 _ _ y101 t105 _ ?side1 ?side2 A1.out).mono ?_); (case side1 => refine (Kd.R_reads' (e := 110) (base := w.heap.size) (ok := fun k_ => True) (n := y101.length) (c := co26) ?_).2.2; exact (by (with_reducible repeat (first | apply Kd.R_alloc | apply Kd.R_drewN | apply Kd.R_drew)); exact (Kd.R_mono (Kd.R_far (p := ⟨gb104, 7, none⟩) (Kd.R_far (p := ⟨gb104, 6, none⟩) (Kd.R_far (p := ⟨gb104, 5, none⟩) (Kd.R_far (p := ⟨gb104, 4, none⟩) (Kd.R_far (p := ⟨gb104, 3, none⟩) (Kd.R_far (p := ⟨gb104, 2, none⟩) (Kd.R_far (p := ⟨gb104, 1, none⟩) (Kd.R_far (p := ⟨gb104, 0, none⟩) (Kd.R_types HO103.out BK104.out (by decide)) (fun _ hk => hk.2) (.int .i64 4)) (fun _ hk => hk.2) (.int .i64 2)) (fun _ hk => hk.2) (.int .i64 1)) (fun _ hk => hk.2) (.int .i64 3)) (fun _ hk => hk.2) (.int .i64 2)) (fun _ hk => hk.2) (.int .i64 1)) (fun _ hk => hk.2) (.int .i64 0)) (fun _ hk => hk.2) (.slice Ao26 y101.length co26)) (fun _ h_ => h_.1)))); (case side2 => exact (Kd.R_reads' HO103.out).2.1); rintro e w29 ⟨rfl, hb⟩; refine ⟨_, rfl, ?_⟩; have n0_ := Aside0.mk (Kd.R_below (by (with_reducible repeat (first | apply Kd.R_alloc | apply Kd.R_drewN | apply Kd.R_drew)); exact (Kd.R_mono (Kd.R_far (p := ⟨gb104, 7, none⟩) (Kd.R_far (p := ⟨gb104, 6, none⟩) (Kd.R_far (p := ⟨gb104, 5, none⟩) (Kd.R_far (p := ⟨gb104, 4, none⟩) (Kd.R_far (p := ⟨gb104, 3, none⟩) (Kd.R_far (p := ⟨gb104, 2, none⟩) (Kd.R_far (p := ⟨gb104, 1, none⟩) (Kd.R_far (p := ⟨gb104, 0, none⟩) (Kd.R_types HO103.out BK104.out (by decide)) (fun _ hk => hk.2) (.int .i64 4)) (fun _ hk => hk.2) (.int .i64 2)) (fun _ hk => hk.2) (.int .i64 1)) (fun _ hk => hk.2) (.int .i64 3)) (fun _ hk => hk.2) (.int .i64 2)) (fun _ hk => hk.2) (.int .i64 1)) (fun _ hk => hk.2) (.int .i64 0)) (fun _ hk => hk.2) (.slice Ao26 y101.length co26)) (fun _ h_ => h_.1))) hb); have n1_ := Aside0.mk (blk_below (g := gb104) (o := .cells #[.int .i64 4, .int .i64 2, .int .i64 1, .int .i64 3, .int .i64 2, .int .i64 1, .int .i64 0, .slice Ao26 y101.length co26] 61 (0, 0)) (by (with_reducible repeat (first | refine blk_drewN ?_ _ | refine blk_drew ?_ | refine blk_alloc ?_ _)); refine blk_put (cs := #[.int .i64 4, .int .i64 2, .int .i64 1, .int .i64 3, .int .i64 2, .int .i64 1, .int .i64 0, .slice none 0 0]) ?_ 7 _ rfl; (with_reducible repeat (first | refine blk_drewN ?_ _ | refine blk_drew ?_ | refine blk_alloc ?_ _)); refine blk_put (cs := #[.int .i64 4, .int .i64 2, .int .i64 1, .int .i64 3, .int .i64 2, .int .i64 1, .int .i64 0, .slice none 0 0]) ?_ 6 _ rfl; (with_reducible repeat (first | refine blk_drewN ?_ _ | refine blk_drew ?_ | refine blk_alloc ?_ _)); refine blk_put (cs := #[.int .i64 4, .int .i64 2, .int .i64 1, .int .i64 3, .int .i64 2, .int .i64 0, .int .i64 0, .slice none 0 0]) ?_ 5 _ rfl; (with_reducible repeat (first | refine blk_drewN ?_ _ | refine blk_drew ?_ | refine blk_alloc ?_ _)); refine blk_put (cs := #[.int .i64 4, .int .i64 2, .int .i64 1, .int .i64 3, .int .i64 0, .int .i64 0, .int .i64 0, .slice none 0 0]) ?_ 4 _ rfl; (with_reducible repeat (first | refine blk_drewN ?_ _ | refine blk_drew ?_ | refine blk_alloc ?_ _)); refine blk_put (cs := #[.int .i64 4, .int .i64 2, .int .i64 1, .int .i64 0, .int .i64 0, .int .i64 0, .int .i64 0, .slice none 0 0]) ?_ 3 _ rfl; (with_reducible repeat (first | refine blk_drewN ?_ _ | refine blk_drew ?_ | refine blk_alloc ?_ _)); refine blk_put (cs := #[.int .i64 4, .int .i64 2, .int .i64 0, .int .i64 0, .int .i64 0, .int .i64 0, .int .i64 0, .slice none 0 0]) ?_ 2 _ rfl; (with_reducible repeat (first | refine blk_drewN ?_ _ | refine blk_drew ?_ | refine blk_alloc ?_ _)); refine blk_put (cs := #[.int .i64 4, .int .i64 0, .int .i64 0, .int .i64 0, .int .i64 0, .int .i64 0, .int .i64 0, .slice none 0 0]) ?_ 1 _ rfl; (with_reducible repeat (first | refine blk_drewN ?_ _ | refine blk_drew ?_ | refine blk_alloc ?_ _)); refine blk_put (cs := #[.int .i64 0, .int .i64 0, .int .i64 0, .int .i64 0, .int .i64 0, .int .i64 0, .int .i64 0, .slice none 0 0]) ?_ 0 _ rfl; (with_reducible repeat (first | refine blk_drewN ?_ _ | refine blk_drew ?_ | refine blk_alloc ?_ _)); exact BK104.out) hb); have n2_ := Aside0.mk (below_step (by repeat (first | (with_reducible first | exact HB.out | apply below_alloc | apply pw_below_drewN | apply below_drew1 | refine below_set ?_ GE104.out) | exact HB.out)) hb); clear HO103; clear BK104; clear HB; have HO103 := n0_; have BK104 := n1_; have HB := n2_; clear n0_ n1_ n2_; (try clear hb); (try clear hb2); (try clear hk); (try clear hi); have hcz30_0 : w29.cell? ⟨gb104, 0, none⟩ = some (.int .i64 4) := (blk_cell BK104.out 0).trans rfl; have hcz30_1 : w29.cell? ⟨gb104, 1, none⟩ = some (.int .i64 2) := (blk_cell BK104.out 1).trans rfl; have hcz30_2 : w29.cell? ⟨gb104, 2, none⟩ = some (.int .i64 1) := (blk_cell BK104.out 2).trans rfl; have hcz30_3 : w29.cell? ⟨gb104, 3, none⟩ = some (.int .i64 3) := (blk_cell BK104.out 3).trans rfl; have hcz30_4 : w29.cell? ⟨gb104, 4, none⟩ = some (.int .i64 2) := (blk_cell BK104.out 4).trans rfl; have hcz30_5 : w29.cell? ⟨gb104, 5, none⟩ = some (.int .i64 1) := (blk_cell BK104.out 5).trans rfl; have hcz30_6 : w29.cell? ⟨gb104, 6, none⟩ = some (.int .i64 0) := (blk_cell BK104.out 6).trans rfl; have hcz30_7 : w29.cell? ⟨gb104, 7, none⟩ = some (.slice Ao26 y101.length co26) := (blk_cell BK104.out 7).trans rfl; have hfz30_0 := blk_frozen BK104.out 0; have hfz30_1 := blk_frozen BK104.out 1; have hfz30_2 := blk_frozen BK104.out 2; have hfz30_3 := blk_frozen BK104.out 3; have hfz30_4 := blk_frozen BK104.out 4; have hfz30_5 := blk_frozen BK104.out 5; have hfz30_6 := blk_frozen BK104.out 6; have hfz30_7 := blk_frozen BK104.out 7) | (go_at_call 38; (with_reducible refine (bound_Quiet.calls 4 2 1 3 2 1 0 _ _ y101 t106 _ ?side1 ?side2 A3.out).mono ?_); (case side1 => repeat (first | exact (Kd.R_reads' HO103.out).2.2 | (with_reducible refine Kd.C_alloc ?_ _) | (with_reducible refine Kd.C_drewN ?_ _) | (with_reducible refine Kd.C_drew ?_))); (case side2 => exact (Kd.R_reads' HO103.out).2.1); rintro e w31 ⟨rfl, hb⟩; have n0_ := Aside0.mk (Kd.R_below (by (with_reducible repeat (first | apply Kd.R_alloc | apply Kd.R_drewN | apply Kd.R_drew)); exact HO103.out) hb); have n1_ := Aside0.mk (blk_below (g := gb104) (o := .cells #[.int .i64 4, .int .i64 2, .int .i64 1, .int .i64 3, .int .i64 2, .int .i64 1, .int .i64 0, .slice Ao26 y101.length co26] 61 (0, 0)) (by (with_reducible repeat (first | refine blk_drewN ?_ _ | refine blk_drew ?_ | refine blk_alloc ?_ _)); exact BK104.out) hb); have n2_ := Aside0.mk (below_step (by repeat (first | (with_reducible first | exact HB.out | apply below_alloc | apply pw_below_drewN | apply below_drew1 | refine below_set ?_ GE104.out) | exact HB.out)) hb); clear HO103; clear BK104; clear HB; have HO103 := n0_; have BK104 := n1_; have HB := n2_; clear n0_ n1_ n2_; (try clear hb); (try clear hb2); (try clear hk); (try clear hi); have hcz32_0 : w31.cell? ⟨gb104, 0, none⟩ = some (.int .i64 4) := (blk_cell BK104.out 0).trans rfl; have hcz32_1 : w31.cell? ⟨gb104, 1, none⟩ = some (.int .i64 2) := (blk_cell BK104.out 1).trans rfl; have hcz32_2 : w31.cell? ⟨gb104, 2, none⟩ = some (.int .i64 1) := (blk_cell BK104.out 2).trans rfl; have hcz32_3 : w31.cell? ⟨gb104, 3, none⟩ = some (.int .i64 3) := (blk_cell BK104.out 3).trans rfl; have hcz32_4 : w31.cell? ⟨gb104, 4, none⟩ = some (.int .i64 2) := (blk_cell BK104.out 4).trans rfl; have hcz32_5 : w31.cell? ⟨gb104, 5, none⟩ = some (.int .i64 1) := (blk_cell BK104.out 5).trans rfl; have hcz32_6 : w31.cell? ⟨gb104, 6, none⟩ = some (.int .i64 0) := (blk_cell BK104.out 6).trans rfl; have hcz32_7 : w31.cell? ⟨gb104, 7, none⟩ = some (.slice Ao26 y101.length co26) := (blk_cell BK104.out 7).trans rfl; have hfz32_0 := blk_frozen BK104.out 0; have hfz32_1 := blk_frozen BK104.out 1; have hfz32_2 := blk_frozen BK104.out 2; have hfz32_3 := blk_frozen BK104.out 3; have hfz32_4 := blk_frozen BK104.out 4; have hfz32_5 := blk_frozen BK104.out 5; have hfz32_6 := blk_frozen BK104.out 6; have hfz32_7 := blk_frozen BK104.out 7) | (go_at_call 40; (with_reducible refine (bound_Leases.calls 4 2 1 3 2 1 0 _ _ y101 t107 _ ?side1 ?side2 A5.out).mono ?_); (case side1 => repeat (first | exact (Kd.R_reads' HO103.out).2.2 | (with_reducible refine Kd.C_alloc ?_ _) | (with_reducible refine Kd.C_drewN ?_ _) | (with_reducible refine Kd.C_drew ?_))); (case side2 => exact (Kd.R_reads' HO103.out).2.1); rintro e w33 ⟨rfl, hb⟩; have n0_ := Aside0.mk (Kd.R_below (by (with_reducible repeat (first | apply Kd.R_alloc | apply Kd.R_drewN | apply Kd.R_drew)); exact HO103.out) hb); have n1_ := Aside0.mk (blk_below (g := gb104) (o := .cells #[.int .i64 4, .int .i64 2, .int .i64 1, .int .i64 3, .int .i64 2, .int .i64 1, .int .i64 0, .slice Ao26 y101.length co26] 61 (0, 0)) (by (with_reducible repeat (first | refine blk_drewN ?_ _ | refine blk_drew ?_ | refine blk_alloc ?_ _)); exact BK104.out) hb); have n2_ := Aside0.mk (below_step (by repeat (first | (with_reducible first | exact HB.out | apply below_alloc | apply pw_below_drewN | apply below_drew1 | refine below_set ?_ GE104.out) | exact HB.out)) hb); clear HO103; clear BK104; clear HB; have HO103 := n0_; have BK104 := n1_; have HB := n2_; clear n0_ n1_ n2_; (try clear hb); (try clear hb2); (try clear hk); (try clear hi); have hcz34_0 : w33.cell? ⟨gb104, 0, none⟩ = some (.int .i64 4) := (blk_cell BK104.out 0).trans rfl; have hcz34_1 : w33.cell? ⟨gb104, 1, none⟩ = some (.int .i64 2) := (blk_cell BK104.out 1).trans rfl; have hcz34_2 : w33.cell? ⟨gb104, 2, none⟩ = some (.int .i64 1) := (blk_cell BK104.out 2).trans rfl; have hcz34_3 : w33.cell? ⟨gb104, 3, none⟩ = some (.int .i64 3) := (blk_cell BK104.out 3).trans rfl; have hcz34_4 : w33.cell? ⟨gb104, 4, none⟩ = some (.int .i64 2) := (blk_cell BK104.out 4).trans rfl; have hcz34_5 : w33.cell? ⟨gb104, 5, none⟩ = some (.int .i64 1) := (blk_cell BK104.out 5).trans rfl; have hcz34_6 : w33.cell? ⟨gb104, 6, none⟩ = some (.int .i64 0) := (blk_cell BK104.out 6).trans rfl; have hcz34_7 : w33.cell? ⟨gb104, 7, none⟩ = some (.slice Ao26 y101.length co26) := (blk_cell BK104.out 7).trans rfl; have hfz34_0 := blk_frozen BK104.out 0; have hfz34_1 := blk_frozen BK104.out 1; have hfz34_2 := blk_frozen BK104.out 2; have hfz34_3 := blk_frozen BK104.out 3; have hfz34_4 := blk_frozen BK104.out 4; have hfz34_5 := blk_frozen BK104.out 5; have hfz34_6 := blk_frozen BK104.out 6; have hfz34_7 := blk_frozen BK104.out 7) | (go_at_call 42; (with_reducible refine (bound_Done.calls 4 2 1 3 2 1 0 _ _ y101 t108 _ ?side1 ?side2 A7.out).mono ?_); (case side1 => repeat (first | exact (Kd.R_reads' HO103.out).2.2 | (with_reducible refine Kd.C_alloc ?_ _) | (with_reducible refine Kd.C_drewN ?_ _) | (with_reducible refine Kd.C_drew ?_))); (case side2 => exact (Kd.R_reads' HO103.out).2.1); rintro e w35 ⟨rfl, hb⟩; have n0_ := Aside0.mk (Kd.R_below (by (with_reducible repeat (first | apply Kd.R_alloc | apply Kd.R_drewN | apply Kd.R_drew)); exact HO103.out) hb); have n1_ := Aside0.mk (blk_below (g := gb104) (o := .cells #[.int .i64 4, .int .i64 2, .int .i64 1, .int .i64 3, .int .i64 2, .int .i64 1, .int .i64 0, .slice Ao26 y101.length co26] 61 (0, 0)) (by (with_reducible repeat (first | refine blk_drewN ?_ _ | refine blk_drew ?_ | refine blk_alloc ?_ _)); exact BK104.out) hb); have n2_ := Aside0.mk (below_step (by repeat (first | (with_reducible first | exact HB.out | apply below_alloc | apply pw_below_drewN | apply below_drew1 | refine below_set ?_ GE104.out) | exact HB.out)) hb); clear HO103; clear BK104; clear HB; have HO103 := n0_; have BK104 := n1_; have HB := n2_; clear n0_ n1_ n2_; (try clear hb); (try clear hb2); (try clear hk); (try clear hi)))
          go_ret
          exact ⟨by first | rfl | ((repeat first | rw [Int.tdiv_eq_ediv_of_nonneg (by omega)] | rw [Int.tmod_eq_emod_of_nonneg (by omega)]); rfl) | (simp [errW_none, errW_some] <;> rfl) | (simp [*, errW_none, errW_some] <;> rfl), by repeat (first | (with_reducible first | exact HB.out | apply below_alloc | apply pw_below_drewN | apply below_drew1 | refine below_set ?_ GE104.out) | exact HB.out)⟩
      · rw [if_neg c6] at H
        have c6b0 : (t107 == 8) = false := beq_eq_false_iff_ne.mpr c6
        have c6b1 : (t107 != 8) = true := bne_iff_ne.mpr c6
        obtain rfl := Option.some.inj H
        go_enter Try.func35, Try.ntmps35
        go_wp2_with (first | ((with_reducible refine gate_dst (N := 3) rfl ?_); refine Kd.R_lit k110 _ 110 ?hg (N := 3) ?hd (xs := ([(⟨1, (⟨0, 0⟩ : S108), (⟨0, 0⟩ : S108)⟩ : S110)] : List (S110))) (inner := [.int .i64 1, .int .i64 0, .int .i64 0, .int .i64 0, .int .i64 0]) (ok := fun _ => True) (okp := fun _ => True) ?hr ?hp (fun _ hk => hk) trivial (Below.refl _ _) (Nat.le_refl _) (by simp) ?_; (case hd => rfl); (case hg => rfl); (case hr => first | (go_simp; done) | (go_simp; rfl)); (case hp => exact (Reps.c5 (show Kd.M k110 _ _ _ (⟨1, (⟨0, 0⟩ : S108), (⟨0, 0⟩ : S108)⟩ : S110) [.int .i64 1, .int .i64 0, .int .i64 0, .int .i64 0, .int .i64 0] from (k110_mkM _ _ _ (⟨1, (⟨0, 0⟩ : S108), (⟨0, 0⟩ : S108)⟩ : S110) )) (Reps.none _ _))); intro v102 w36 ho37 hb hg_ hnew_; clear hg_ hnew_; (first | rw [← Ny101.out] at ho37 | (simp only [Int.reduceToNat] at ho37; rw [← Ny101.out] at ho37)); have n0_ := Aside0.mk (Kd.R_lower ho37 (below_size (by repeat (first | (with_reducible first | exact HB.out | apply below_alloc | apply pw_below_drewN | apply below_drew1) | exact HB.out)))); have n1_ := Aside0.mk (below_step (by repeat (first | (with_reducible first | exact HB.out | apply below_alloc | apply pw_below_drewN | apply below_drew1) | exact HB.out)) hb); clear HB; have HO103 := n0_; have HB := n1_; clear n0_ n1_; clear hb ho37; obtain ⟨Ao38, co38, eo38⟩ := Kd.R_slice HO103.out; subst eo38) | ((with_reducible refine gate_dst (N := 1) rfl ?_); refine box_event ?hg (N := 1) ?hd (cs := #[.int .i64 0, .int .i64 0, .int .i64 0, .int .i64 0, .int .i64 0, .int .i64 0, .int .i64 0, .slice none 0 0]) (t := 61) ?hr ?_; (case hd => rfl); (case hg => rfl); (case hr => first | (go_simp; done) | (go_simp; rfl)); intro gb104 hg w39 hbox hb; have n0_ := Aside0.mk (Kd.R_below (by (with_reducible repeat (first | apply Kd.R_alloc | apply Kd.R_drewN | apply Kd.R_drew)); exact HO103.out) hb); have n1_ := Aside0.mk (below_step (by repeat (first | (with_reducible first | exact HB.out | apply below_alloc | apply pw_below_drewN | apply below_drew1) | exact HB.out)) hb); have n2_ := Aside0.mk (hbox); have n3_ := Aside0.mk ((by rw [hg]; exact (below_size (by repeat (first | (with_reducible first | exact HB.out | apply below_alloc | apply pw_below_drewN | apply below_drew1) | exact HB.out))) : w.heap.size ≤ gb104)); have n4_ := Aside0.mk ((by rw [hg]; exact (below_size (by repeat (first | (with_reducible first | exact HB.out | apply below_alloc | apply pw_below_drewN | apply below_drew1) | exact HB.out))) : w.heap.size ≤ gb104)); clear HO103; clear HB; have HO103 := n0_; have HB := n1_; have BK104 := n2_; have GW104 := n3_; have GE104 := n4_; clear n0_ n1_ n2_ n3_ n4_; clear hb hbox hg; have hcz40_0 : w39.cell? ⟨gb104, 0, none⟩ = some (.int .i64 0) := (blk_cell BK104.out 0).trans rfl; have hcz40_1 : w39.cell? ⟨gb104, 1, none⟩ = some (.int .i64 0) := (blk_cell BK104.out 1).trans rfl; have hcz40_2 : w39.cell? ⟨gb104, 2, none⟩ = some (.int .i64 0) := (blk_cell BK104.out 2).trans rfl; have hcz40_3 : w39.cell? ⟨gb104, 3, none⟩ = some (.int .i64 0) := (blk_cell BK104.out 3).trans rfl; have hcz40_4 : w39.cell? ⟨gb104, 4, none⟩ = some (.int .i64 0) := (blk_cell BK104.out 4).trans rfl; have hcz40_5 : w39.cell? ⟨gb104, 5, none⟩ = some (.int .i64 0) := (blk_cell BK104.out 5).trans rfl; have hcz40_6 : w39.cell? ⟨gb104, 6, none⟩ = some (.int .i64 0) := (blk_cell BK104.out 6).trans rfl; have hcz40_7 : w39.cell? ⟨gb104, 7, none⟩ = some (.slice none 0 0) := (blk_cell BK104.out 7).trans rfl; have hfz40_0 := blk_frozen BK104.out 0; have hfz40_1 := blk_frozen BK104.out 1; have hfz40_2 := blk_frozen BK104.out 2; have hfz40_3 := blk_frozen BK104.out 3; have hfz40_4 := blk_frozen BK104.out 4; have hfz40_5 := blk_frozen BK104.out 5; have hfz40_6 := blk_frozen BK104.out 6; have hfz40_7 := blk_frozen BK104.out 7) | ((with_reducible refine gate_callee (f := 36) rfl ?_); refine goesL_ (some 6) rfl rfl Try.func36 (by kernel_rfl) rfl #[.agg #[.int .i64 4, .int .i64 2, .int .i64 1, .int .i64 3, .int .i64 2, .int .i64 1, .int .i64 0, .slice Ao38 y101.length co38]] rfl (by (try simp only [List.map_toArray, List.map_cons, List.map_nil]); first | done | rfl | (simp only [List.length_drop, List.length_take]; rfl)) ?_; (with_reducible refine (bound_Grants.calls 4 2 1 3 2 1 0 _ _ y101 t105 _ ?side1 ?side2 A1.out).mono ?_); (case side1 => refine (Kd.R_reads' (e := 110) (base := w.heap.size) (ok := fun k_ => True) (n := y101.length) (c := co38) ?_).2.2; exact (by (with_reducible repeat (first | apply Kd.R_alloc | apply Kd.R_drewN | apply Kd.R_drew)); exact (Kd.R_mono (Kd.R_far (p := ⟨gb104, 7, none⟩) (Kd.R_far (p := ⟨gb104, 6, none⟩) (Kd.R_far (p := ⟨gb104, 5, none⟩) (Kd.R_far (p := ⟨gb104, 4, none⟩) (Kd.R_far (p := ⟨gb104, 3, none⟩) (Kd.R_far (p := ⟨gb104, 2, none⟩) (Kd.R_far (p := ⟨gb104, 1, none⟩) (Kd.R_far (p := ⟨gb104, 0, none⟩) (Kd.R_types HO103.out BK104.out (by decide)) (fun _ hk => hk.2) (.int .i64 4)) (fun _ hk => hk.2) (.int .i64 2)) (fun _ hk => hk.2) (.int .i64 1)) (fun _ hk => hk.2) (.int .i64 3)) (fun _ hk => hk.2) (.int .i64 2)) (fun _ hk => hk.2) (.int .i64 1)) (fun _ hk => hk.2) (.int .i64 0)) (fun _ hk => hk.2) (.slice Ao38 y101.length co38)) (fun _ h_ => h_.1)))); (case side2 => exact (Kd.R_reads' HO103.out).2.1); rintro e w41 ⟨rfl, hb⟩; refine ⟨_, rfl, ?_⟩; have n0_ := Aside0.mk (Kd.R_below (by (with_reducible repeat (first | apply Kd.R_alloc | apply Kd.R_drewN | apply Kd.R_drew)); exact (Kd.R_mono (Kd.R_far (p := ⟨gb104, 7, none⟩) (Kd.R_far (p := ⟨gb104, 6, none⟩) (Kd.R_far (p := ⟨gb104, 5, none⟩) (Kd.R_far (p := ⟨gb104, 4, none⟩) (Kd.R_far (p := ⟨gb104, 3, none⟩) (Kd.R_far (p := ⟨gb104, 2, none⟩) (Kd.R_far (p := ⟨gb104, 1, none⟩) (Kd.R_far (p := ⟨gb104, 0, none⟩) (Kd.R_types HO103.out BK104.out (by decide)) (fun _ hk => hk.2) (.int .i64 4)) (fun _ hk => hk.2) (.int .i64 2)) (fun _ hk => hk.2) (.int .i64 1)) (fun _ hk => hk.2) (.int .i64 3)) (fun _ hk => hk.2) (.int .i64 2)) (fun _ hk => hk.2) (.int .i64 1)) (fun _ hk => hk.2) (.int .i64 0)) (fun _ hk => hk.2) (.slice Ao38 y101.length co38)) (fun _ h_ => h_.1))) hb); have n1_ := Aside0.mk (blk_below (g := gb104) (o := .cells #[.int .i64 4, .int .i64 2, .int .i64 1, .int .i64 3, .int .i64 2, .int .i64 1, .int .i64 0, .slice Ao38 y101.length co38] 61 (0, 0)) (by (with_reducible repeat (first | refine blk_drewN ?_ _ | refine blk_drew ?_ | refine blk_alloc ?_ _)); refine blk_put (cs := #[.int .i64 4, .int .i64 2, .int .i64 1, .int .i64 3, .int .i64 2, .int .i64 1, .int .i64 0, .slice none 0 0]) ?_ 7 _ rfl; (with_reducible repeat (first | refine blk_drewN ?_ _ | refine blk_drew ?_ | refine blk_alloc ?_ _)); refine blk_put (cs := #[.int .i64 4, .int .i64 2, .int .i64 1, .int .i64 3, .int .i64 2, .int .i64 1, .int .i64 0, .slice none 0 0]) ?_ 6 _ rfl; (with_reducible repeat (first | refine blk_drewN ?_ _ | refine blk_drew ?_ | refine blk_alloc ?_ _)); refine blk_put (cs := #[.int .i64 4, .int .i64 2, .int .i64 1, .int .i64 3, .int .i64 2, .int .i64 0, .int .i64 0, .slice none 0 0]) ?_ 5 _ rfl; (with_reducible repeat (first | refine blk_drewN ?_ _ | refine blk_drew ?_ | refine blk_alloc ?_ _)); refine blk_put (cs := #[.int .i64 4, .int .i64 2, .int .i64 1, .int .i64 3, .int .i64 0, .int .i64 0, .int .i64 0, .slice none 0 0]) ?_ 4 _ rfl; (with_reducible repeat (first | refine blk_drewN ?_ _ | refine blk_drew ?_ | refine blk_alloc ?_ _)); refine blk_put (cs := #[.int .i64 4, .int .i64 2, .int .i64 1, .int .i64 0, .int .i64 0, .int .i64 0, .int .i64 0, .slice none 0 0]) ?_ 3 _ rfl; (with_reducible repeat (first | refine blk_drewN ?_ _ | refine blk_drew ?_ | refine blk_alloc ?_ _)); refine blk_put (cs := #[.int .i64 4, .int .i64 2, .int .i64 0, .int .i64 0, .int .i64 0, .int .i64 0, .int .i64 0, .slice none 0 0]) ?_ 2 _ rfl; (with_reducible repeat (first | refine blk_drewN ?_ _ | refine blk_drew ?_ | refine blk_alloc ?_ _)); refine blk_put (cs := #[.int .i64 4, .int .i64 0, .int .i64 0, .int .i64 0, .int .i64 0, .int .i64 0, .int .i64 0, .slice none 0 0]) ?_ 1 _ rfl; (with_reducible repeat (first | refine blk_drewN ?_ _ | refine blk_drew ?_ | refine blk_alloc ?_ _)); refine blk_put (cs := #[.int .i64 0, .int .i64 0, .int .i64 0, .int .i64 0, .int .i64 0, .int .i64 0, .int .i64 0, .slice none 0 0]) ?_ 0 _ rfl; (with_reducible repeat (first | refine blk_drewN ?_ _ | refine blk_drew ?_ | refine blk_alloc ?_ _)); exact BK104.out) hb); have n2_ := Aside0.mk (below_step (by repeat (first | (with_reducible first | exact HB.out | apply below_alloc | apply pw_below_drewN | apply below_drew1 | refine below_set ?_ GE104.out) | exact HB.out)) hb); clear HO103; clear BK104; clear HB; have HO103 := n0_; have BK104 := n1_; have HB := n2_; clear n0_ n1_ n2_; (try clear hb); (try clear hb2); (try clear hk); (try clear hi); have hcz42_0 : w41.cell? ⟨gb104, 0, none⟩ = some (.int .i64 4) := (blk_cell BK104.out 0).trans rfl; have hcz42_1 : w41.cell? ⟨gb104, 1, none⟩ = some (.int .i64 2) := (blk_cell BK104.out 1).trans rfl; have hcz42_2 : w41.cell? ⟨gb104, 2, none⟩ = some (.int .i64 1) := (blk_cell BK104.out 2).trans rfl; have hcz42_3 : w41.cell? ⟨gb104, 3, none⟩ = some (.int .i64 3) := (blk_cell BK104.out 3).trans rfl; have hcz42_4 : w41.cell? ⟨gb104, 4, none⟩ = some (.int .i64 2) := (blk_cell BK104.out 4).trans rfl; have hcz42_5 : w41.cell? ⟨gb104, 5, none⟩ = some (.int .i64 1) := (blk_cell BK104.out 5).trans rfl; have hcz42_6 : w41.cell? ⟨gb104, 6, none⟩ = some (.int .i64 0) := (blk_cell BK104.out 6).trans rfl; have hcz42_7 : w41.cell? ⟨gb104, 7, none⟩ = some (.slice Ao38 y101.length co38) := (blk_cell BK104.out 7).trans rfl; have hfz42_0 := blk_frozen BK104.out 0; have hfz42_1 := blk_frozen BK104.out 1; have hfz42_2 := blk_frozen BK104.out 2; have hfz42_3 := blk_frozen BK104.out 3; have hfz42_4 := blk_frozen BK104.out 4; have hfz42_5 := blk_frozen BK104.out 5; have hfz42_6 := blk_frozen BK104.out 6; have hfz42_7 := blk_frozen BK104.out 7) | (go_at_call 38; (with_reducible refine (bound_Quiet.calls 4 2 1 3 2 1 0 _ _ y101 t106 _ ?side1 ?side2 A3.out).mono ?_); (case side1 => repeat (first | exact (Kd.R_reads' HO103.out).2.2 | (with_reducible refine Kd.C_alloc ?_ _) | (with_reducible refine Kd.C_drewN ?_ _) | (with_reducible refine Kd.C_drew ?_))); (case side2 => exact (Kd.R_reads' HO103.out).2.1); rintro e w43 ⟨rfl, hb⟩; have n0_ := Aside0.mk (Kd.R_below (by (with_reducible repeat (first | apply Kd.R_alloc | apply Kd.R_drewN | apply Kd.R_drew)); exact HO103.out) hb); have n1_ := Aside0.mk (blk_below (g := gb104) (o := .cells #[.int .i64 4, .int .i64 2, .int .i64 1, .int .i64 3, .int .i64 2, .int .i64 1, .int .i64 0, .slice Ao38 y101.length co38] 61 (0, 0)) (by (with_reducible repeat (first | refine blk_drewN ?_ _ | refine blk_drew ?_ | refine blk_alloc ?_ _)); exact BK104.out) hb); have n2_ := Aside0.mk (below_step (by repeat (first | (with_reducible first | exact HB.out | apply below_alloc | apply pw_below_drewN | apply below_drew1 | refine below_set ?_ GE104.out) | exact HB.out)) hb); clear HO103; clear BK104; clear HB; have HO103 := n0_; have BK104 := n1_; have HB := n2_; clear n0_ n1_ n2_; (try clear hb); (try clear hb2); (try clear hk); (try clear hi); have hcz44_0 : w43.cell? ⟨gb104, 0, none⟩ = some (.int .i64 4) := (blk_cell BK104.out 0).trans rfl; have hcz44_1 : w43.cell? ⟨gb104, 1, none⟩ = some (.int .i64 2) := (blk_cell BK104.out 1).trans rfl; have hcz44_2 : w43.cell? ⟨gb104, 2, none⟩ = some (.int .i64 1) := (blk_cell BK104.out 2).trans rfl; have hcz44_3 : w43.cell? ⟨gb104, 3, none⟩ = some (.int .i64 3) := (blk_cell BK104.out 3).trans rfl; have hcz44_4 : w43.cell? ⟨gb104, 4, none⟩ = some (.int .i64 2) := (blk_cell BK104.out 4).trans rfl; have hcz44_5 : w43.cell? ⟨gb104, 5, none⟩ = some (.int .i64 1) := (blk_cell BK104.out 5).trans rfl; have hcz44_6 : w43.cell? ⟨gb104, 6, none⟩ = some (.int .i64 0) := (blk_cell BK104.out 6).trans rfl; have hcz44_7 : w43.cell? ⟨gb104, 7, none⟩ = some (.slice Ao38 y101.length co38) := (blk_cell BK104.out 7).trans rfl; have hfz44_0 := blk_frozen BK104.out 0; have hfz44_1 := blk_frozen BK104.out 1; have hfz44_2 := blk_frozen BK104.out 2; have hfz44_3 := blk_frozen BK104.out 3; have hfz44_4 := blk_frozen BK104.out 4; have hfz44_5 := blk_frozen BK104.out 5; have hfz44_6 := blk_frozen BK104.out 6; have hfz44_7 := blk_frozen BK104.out 7) | (go_at_call 40; (with_reducible refine (bound_Leases.calls 4 2 1 3 2 1 0 _ _ y101 t107 _ ?side1 ?side2 A5.out).mono ?_); (case side1 => repeat (first | exact (Kd.R_reads' HO103.out).2.2 | (with_reducible refine Kd.C_alloc ?_ _) | (with_reducible refine Kd.C_drewN ?_ _) | (with_reducible refine Kd.C_drew ?_))); (case side2 => exact (Kd.R_reads' HO103.out).2.1); rintro e w45 ⟨rfl, hb⟩; have n0_ := Aside0.mk (Kd.R_below (by (with_reducible repeat (first | apply Kd.R_alloc | apply Kd.R_drewN | apply Kd.R_drew)); exact HO103.out) hb); have n1_ := Aside0.mk (blk_below (g := gb104) (o := .cells #[.int .i64 4, .int .i64 2, .int .i64 1, .int .i64 3, .int .i64 2, .int .i64 1, .int .i64 0, .slice Ao38 y101.length co38] 61 (0, 0)) (by (with_reducible repeat (first | refine blk_drewN ?_ _ | refine blk_drew ?_ | refine blk_alloc ?_ _)); exact BK104.out) hb); have n2_ := Aside0.mk (below_step (by repeat (first | (with_reducible first | exact HB.out | apply below_alloc | apply pw_below_drewN | apply below_drew1 | refine below_set ?_ GE104.out) | exact HB.out)) hb); clear HO103; clear BK104; clear HB; have HO103 := n0_; have BK104 := n1_; have HB := n2_; clear n0_ n1_ n2_; (try clear hb); (try clear hb2); (try clear hk); (try clear hi)))
        go_ret
        exact ⟨by first | rfl | ((repeat first | rw [Int.tdiv_eq_ediv_of_nonneg (by omega)] | rw [Int.tmod_eq_emod_of_nonneg (by omega)]); rfl) | (simp [errW_none, errW_some] <;> rfl) | (simp [*, errW_none, errW_some] <;> rfl), by repeat (first | (with_reducible first | exact HB.out | apply below_alloc | apply pw_below_drewN | apply below_drew1 | refine below_set ?_ GE104.out) | exact HB.out)⟩
    · rw [if_neg c4] at H
      have c4b0 : (t106 == 6) = false := beq_eq_false_iff_ne.mpr c4
      have c4b1 : (t106 != 6) = true := bne_iff_ne.mpr c4
      obtain rfl := Option.some.inj H
      go_enter Try.func35, Try.ntmps35
      go_wp2_with (first | ((with_reducible refine gate_dst (N := 3) rfl ?_); refine Kd.R_lit k110 _ 110 ?hg (N := 3) ?hd (xs := ([(⟨1, (⟨0, 0⟩ : S108), (⟨0, 0⟩ : S108)⟩ : S110)] : List (S110))) (inner := [.int .i64 1, .int .i64 0, .int .i64 0, .int .i64 0, .int .i64 0]) (ok := fun _ => True) (okp := fun _ => True) ?hr ?hp (fun _ hk => hk) trivial (Below.refl _ _) (Nat.le_refl _) (by simp) ?_; (case hd => rfl); (case hg => rfl); (case hr => first | (go_simp; done) | (go_simp; rfl)); (case hp => exact (Reps.c5 (show Kd.M k110 _ _ _ (⟨1, (⟨0, 0⟩ : S108), (⟨0, 0⟩ : S108)⟩ : S110) [.int .i64 1, .int .i64 0, .int .i64 0, .int .i64 0, .int .i64 0] from (k110_mkM _ _ _ (⟨1, (⟨0, 0⟩ : S108), (⟨0, 0⟩ : S108)⟩ : S110) )) (Reps.none _ _))); intro v102 w46 ho47 hb hg_ hnew_; clear hg_ hnew_; (first | rw [← Ny101.out] at ho47 | (simp only [Int.reduceToNat] at ho47; rw [← Ny101.out] at ho47)); have n0_ := Aside0.mk (Kd.R_lower ho47 (below_size (by repeat (first | (with_reducible first | exact HB.out | apply below_alloc | apply pw_below_drewN | apply below_drew1) | exact HB.out)))); have n1_ := Aside0.mk (below_step (by repeat (first | (with_reducible first | exact HB.out | apply below_alloc | apply pw_below_drewN | apply below_drew1) | exact HB.out)) hb); clear HB; have HO103 := n0_; have HB := n1_; clear n0_ n1_; clear hb ho47; obtain ⟨Ao48, co48, eo48⟩ := Kd.R_slice HO103.out; subst eo48) | ((with_reducible refine gate_dst (N := 1) rfl ?_); refine box_event ?hg (N := 1) ?hd (cs := #[.int .i64 0, .int .i64 0, .int .i64 0, .int .i64 0, .int .i64 0, .int .i64 0, .int .i64 0, .slice none 0 0]) (t := 61) ?hr ?_; (case hd => rfl); (case hg => rfl); (case hr => first | (go_simp; done) | (go_simp; rfl)); intro gb104 hg w49 hbox hb; have n0_ := Aside0.mk (Kd.R_below (by (with_reducible repeat (first | apply Kd.R_alloc | apply Kd.R_drewN | apply Kd.R_drew)); exact HO103.out) hb); have n1_ := Aside0.mk (below_step (by repeat (first | (with_reducible first | exact HB.out | apply below_alloc | apply pw_below_drewN | apply below_drew1) | exact HB.out)) hb); have n2_ := Aside0.mk (hbox); have n3_ := Aside0.mk ((by rw [hg]; exact (below_size (by repeat (first | (with_reducible first | exact HB.out | apply below_alloc | apply pw_below_drewN | apply below_drew1) | exact HB.out))) : w.heap.size ≤ gb104)); have n4_ := Aside0.mk ((by rw [hg]; exact (below_size (by repeat (first | (with_reducible first | exact HB.out | apply below_alloc | apply pw_below_drewN | apply below_drew1) | exact HB.out))) : w.heap.size ≤ gb104)); clear HO103; clear HB; have HO103 := n0_; have HB := n1_; have BK104 := n2_; have GW104 := n3_; have GE104 := n4_; clear n0_ n1_ n2_ n3_ n4_; clear hb hbox hg; have hcz50_0 : w49.cell? ⟨gb104, 0, none⟩ = some (.int .i64 0) := (blk_cell BK104.out 0).trans rfl; have hcz50_1 : w49.cell? ⟨gb104, 1, none⟩ = some (.int .i64 0) := (blk_cell BK104.out 1).trans rfl; have hcz50_2 : w49.cell? ⟨gb104, 2, none⟩ = some (.int .i64 0) := (blk_cell BK104.out 2).trans rfl; have hcz50_3 : w49.cell? ⟨gb104, 3, none⟩ = some (.int .i64 0) := (blk_cell BK104.out 3).trans rfl; have hcz50_4 : w49.cell? ⟨gb104, 4, none⟩ = some (.int .i64 0) := (blk_cell BK104.out 4).trans rfl; have hcz50_5 : w49.cell? ⟨gb104, 5, none⟩ = some (.int .i64 0) := (blk_cell BK104.out 5).trans rfl; have hcz50_6 : w49.cell? ⟨gb104, 6, none⟩ = some (.int .i64 0) := (blk_cell BK104.out 6).trans rfl; have hcz50_7 : w49.cell? ⟨gb104, 7, none⟩ = some (.slice none 0 0) := (blk_cell BK104.out 7).trans rfl; have hfz50_0 := blk_frozen BK104.out 0; have hfz50_1 := blk_frozen BK104.out 1; have hfz50_2 := blk_frozen BK104.out 2; have hfz50_3 := blk_frozen BK104.out 3; have hfz50_4 := blk_frozen BK104.out 4; have hfz50_5 := blk_frozen BK104.out 5; have hfz50_6 := blk_frozen BK104.out 6; have hfz50_7 := blk_frozen BK104.out 7) | ((with_reducible refine gate_callee (f := 36) rfl ?_); refine goesL_ (some 6) rfl rfl Try.func36 (by kernel_rfl) rfl #[.agg #[.int .i64 4, .int .i64 2, .int .i64 1, .int .i64 3, .int .i64 2, .int .i64 1, .int .i64 0, .slice Ao48 y101.length co48]] rfl (by (try simp only [List.map_toArray, List.map_cons, List.map_nil]); first | done | rfl | (simp only [List.length_drop, List.length_take]; rfl)) ?_; (with_reducible refine (bound_Grants.calls 4 2 1 3 2 1 0 _ _ y101 t105 _ ?side1 ?side2 A1.out).mono ?_); (case side1 => refine (Kd.R_reads' (e := 110) (base := w.heap.size) (ok := fun k_ => True) (n := y101.length) (c := co48) ?_).2.2; exact (by (with_reducible repeat (first | apply Kd.R_alloc | apply Kd.R_drewN | apply Kd.R_drew)); exact (Kd.R_mono (Kd.R_far (p := ⟨gb104, 7, none⟩) (Kd.R_far (p := ⟨gb104, 6, none⟩) (Kd.R_far (p := ⟨gb104, 5, none⟩) (Kd.R_far (p := ⟨gb104, 4, none⟩) (Kd.R_far (p := ⟨gb104, 3, none⟩) (Kd.R_far (p := ⟨gb104, 2, none⟩) (Kd.R_far (p := ⟨gb104, 1, none⟩) (Kd.R_far (p := ⟨gb104, 0, none⟩) (Kd.R_types HO103.out BK104.out (by decide)) (fun _ hk => hk.2) (.int .i64 4)) (fun _ hk => hk.2) (.int .i64 2)) (fun _ hk => hk.2) (.int .i64 1)) (fun _ hk => hk.2) (.int .i64 3)) (fun _ hk => hk.2) (.int .i64 2)) (fun _ hk => hk.2) (.int .i64 1)) (fun _ hk => hk.2) (.int .i64 0)) (fun _ hk => hk.2) (.slice Ao48 y101.length co48)) (fun _ h_ => h_.1)))); (case side2 => exact (Kd.R_reads' HO103.out).2.1); rintro e w51 ⟨rfl, hb⟩; refine ⟨_, rfl, ?_⟩; have n0_ := Aside0.mk (Kd.R_below (by (with_reducible repeat (first | apply Kd.R_alloc | apply Kd.R_drewN | apply Kd.R_drew)); exact (Kd.R_mono (Kd.R_far (p := ⟨gb104, 7, none⟩) (Kd.R_far (p := ⟨gb104, 6, none⟩) (Kd.R_far (p := ⟨gb104, 5, none⟩) (Kd.R_far (p := ⟨gb104, 4, none⟩) (Kd.R_far (p := ⟨gb104, 3, none⟩) (Kd.R_far (p := ⟨gb104, 2, none⟩) (Kd.R_far (p := ⟨gb104, 1, none⟩) (Kd.R_far (p := ⟨gb104, 0, none⟩) (Kd.R_types HO103.out BK104.out (by decide)) (fun _ hk => hk.2) (.int .i64 4)) (fun _ hk => hk.2) (.int .i64 2)) (fun _ hk => hk.2) (.int .i64 1)) (fun _ hk => hk.2) (.int .i64 3)) (fun _ hk => hk.2) (.int .i64 2)) (fun _ hk => hk.2) (.int .i64 1)) (fun _ hk => hk.2) (.int .i64 0)) (fun _ hk => hk.2) (.slice Ao48 y101.length co48)) (fun _ h_ => h_.1))) hb); have n1_ := Aside0.mk (blk_below (g := gb104) (o := .cells #[.int .i64 4, .int .i64 2, .int .i64 1, .int .i64 3, .int .i64 2, .int .i64 1, .int .i64 0, .slice Ao48 y101.length co48] 61 (0, 0)) (by (with_reducible repeat (first | refine blk_drewN ?_ _ | refine blk_drew ?_ | refine blk_alloc ?_ _)); refine blk_put (cs := #[.int .i64 4, .int .i64 2, .int .i64 1, .int .i64 3, .int .i64 2, .int .i64 1, .int .i64 0, .slice none 0 0]) ?_ 7 _ rfl; (with_reducible repeat (first | refine blk_drewN ?_ _ | refine blk_drew ?_ | refine blk_alloc ?_ _)); refine blk_put (cs := #[.int .i64 4, .int .i64 2, .int .i64 1, .int .i64 3, .int .i64 2, .int .i64 1, .int .i64 0, .slice none 0 0]) ?_ 6 _ rfl; (with_reducible repeat (first | refine blk_drewN ?_ _ | refine blk_drew ?_ | refine blk_alloc ?_ _)); refine blk_put (cs := #[.int .i64 4, .int .i64 2, .int .i64 1, .int .i64 3, .int .i64 2, .int .i64 0, .int .i64 0, .slice none 0 0]) ?_ 5 _ rfl; (with_reducible repeat (first | refine blk_drewN ?_ _ | refine blk_drew ?_ | refine blk_alloc ?_ _)); refine blk_put (cs := #[.int .i64 4, .int .i64 2, .int .i64 1, .int .i64 3, .int .i64 0, .int .i64 0, .int .i64 0, .slice none 0 0]) ?_ 4 _ rfl; (with_reducible repeat (first | refine blk_drewN ?_ _ | refine blk_drew ?_ | refine blk_alloc ?_ _)); refine blk_put (cs := #[.int .i64 4, .int .i64 2, .int .i64 1, .int .i64 0, .int .i64 0, .int .i64 0, .int .i64 0, .slice none 0 0]) ?_ 3 _ rfl; (with_reducible repeat (first | refine blk_drewN ?_ _ | refine blk_drew ?_ | refine blk_alloc ?_ _)); refine blk_put (cs := #[.int .i64 4, .int .i64 2, .int .i64 0, .int .i64 0, .int .i64 0, .int .i64 0, .int .i64 0, .slice none 0 0]) ?_ 2 _ rfl; (with_reducible repeat (first | refine blk_drewN ?_ _ | refine blk_drew ?_ | refine blk_alloc ?_ _)); refine blk_put (cs := #[.int .i64 4, .int .i64 0, .int .i64 0, .int .i64 0, .int .i64 0, .int .i64 0, .int .i64 0, .slice none 0 0]) ?_ 1 _ rfl; (with_reducible repeat (first | refine blk_drewN ?_ _ | refine blk_drew ?_ | refine blk_alloc ?_ _)); refine blk_put (cs := #[.int .i64 0, .int .i64 0, .int .i64 0, .int .i64 0, .int .i64 0, .int .i64 0, .int .i64 0, .slice none 0 0]) ?_ 0 _ rfl; (with_reducible repeat (first | refine blk_drewN ?_ _ | refine blk_drew ?_ | refine blk_alloc ?_ _)); exact BK104.out) hb); have n2_ := Aside0.mk (below_step (by repeat (first | (with_reducible first | exact HB.out | apply below_alloc | apply pw_below_drewN | apply below_drew1 | refine below_set ?_ GE104.out) | exact HB.out)) hb); clear HO103; clear BK104; clear HB; have HO103 := n0_; have BK104 := n1_; have HB := n2_; clear n0_ n1_ n2_; (try clear hb); (try clear hb2); (try clear hk); (try clear hi); have hcz52_0 : w51.cell? ⟨gb104, 0, none⟩ = some (.int .i64 4) := (blk_cell BK104.out 0).trans rfl; have hcz52_1 : w51.cell? ⟨gb104, 1, none⟩ = some (.int .i64 2) := (blk_cell BK104.out 1).trans rfl; have hcz52_2 : w51.cell? ⟨gb104, 2, none⟩ = some (.int .i64 1) := (blk_cell BK104.out 2).trans rfl; have hcz52_3 : w51.cell? ⟨gb104, 3, none⟩ = some (.int .i64 3) := (blk_cell BK104.out 3).trans rfl; have hcz52_4 : w51.cell? ⟨gb104, 4, none⟩ = some (.int .i64 2) := (blk_cell BK104.out 4).trans rfl; have hcz52_5 : w51.cell? ⟨gb104, 5, none⟩ = some (.int .i64 1) := (blk_cell BK104.out 5).trans rfl; have hcz52_6 : w51.cell? ⟨gb104, 6, none⟩ = some (.int .i64 0) := (blk_cell BK104.out 6).trans rfl; have hcz52_7 : w51.cell? ⟨gb104, 7, none⟩ = some (.slice Ao48 y101.length co48) := (blk_cell BK104.out 7).trans rfl; have hfz52_0 := blk_frozen BK104.out 0; have hfz52_1 := blk_frozen BK104.out 1; have hfz52_2 := blk_frozen BK104.out 2; have hfz52_3 := blk_frozen BK104.out 3; have hfz52_4 := blk_frozen BK104.out 4; have hfz52_5 := blk_frozen BK104.out 5; have hfz52_6 := blk_frozen BK104.out 6; have hfz52_7 := blk_frozen BK104.out 7) | (go_at_call 38; (with_reducible refine (bound_Quiet.calls 4 2 1 3 2 1 0 _ _ y101 t106 _ ?side1 ?side2 A3.out).mono ?_); (case side1 => repeat (first | exact (Kd.R_reads' HO103.out).2.2 | (with_reducible refine Kd.C_alloc ?_ _) | (with_reducible refine Kd.C_drewN ?_ _) | (with_reducible refine Kd.C_drew ?_))); (case side2 => exact (Kd.R_reads' HO103.out).2.1); rintro e w53 ⟨rfl, hb⟩; have n0_ := Aside0.mk (Kd.R_below (by (with_reducible repeat (first | apply Kd.R_alloc | apply Kd.R_drewN | apply Kd.R_drew)); exact HO103.out) hb); have n1_ := Aside0.mk (blk_below (g := gb104) (o := .cells #[.int .i64 4, .int .i64 2, .int .i64 1, .int .i64 3, .int .i64 2, .int .i64 1, .int .i64 0, .slice Ao48 y101.length co48] 61 (0, 0)) (by (with_reducible repeat (first | refine blk_drewN ?_ _ | refine blk_drew ?_ | refine blk_alloc ?_ _)); exact BK104.out) hb); have n2_ := Aside0.mk (below_step (by repeat (first | (with_reducible first | exact HB.out | apply below_alloc | apply pw_below_drewN | apply below_drew1 | refine below_set ?_ GE104.out) | exact HB.out)) hb); clear HO103; clear BK104; clear HB; have HO103 := n0_; have BK104 := n1_; have HB := n2_; clear n0_ n1_ n2_; (try clear hb); (try clear hb2); (try clear hk); (try clear hi)))
      go_ret
      exact ⟨by first | rfl | ((repeat first | rw [Int.tdiv_eq_ediv_of_nonneg (by omega)] | rw [Int.tmod_eq_emod_of_nonneg (by omega)]); rfl) | (simp [errW_none, errW_some] <;> rfl) | (simp [*, errW_none, errW_some] <;> rfl), by repeat (first | (with_reducible first | exact HB.out | apply below_alloc | apply pw_below_drewN | apply below_drew1 | refine below_set ?_ GE104.out) | exact HB.out)⟩
  · rw [if_neg c2] at H
    have c2b0 : (t105 == 2) = false := beq_eq_false_iff_ne.mpr c2
    have c2b1 : (t105 != 2) = true := bne_iff_ne.mpr c2
    obtain rfl := Option.some.inj H
    go_enter Try.func35, Try.ntmps35
    go_wp2_with (first | ((with_reducible refine gate_dst (N := 3) rfl ?_); refine Kd.R_lit k110 _ 110 ?hg (N := 3) ?hd (xs := ([(⟨1, (⟨0, 0⟩ : S108), (⟨0, 0⟩ : S108)⟩ : S110)] : List (S110))) (inner := [.int .i64 1, .int .i64 0, .int .i64 0, .int .i64 0, .int .i64 0]) (ok := fun _ => True) (okp := fun _ => True) ?hr ?hp (fun _ hk => hk) trivial (Below.refl _ _) (Nat.le_refl _) (by simp) ?_; (case hd => rfl); (case hg => rfl); (case hr => first | (go_simp; done) | (go_simp; rfl)); (case hp => exact (Reps.c5 (show Kd.M k110 _ _ _ (⟨1, (⟨0, 0⟩ : S108), (⟨0, 0⟩ : S108)⟩ : S110) [.int .i64 1, .int .i64 0, .int .i64 0, .int .i64 0, .int .i64 0] from (k110_mkM _ _ _ (⟨1, (⟨0, 0⟩ : S108), (⟨0, 0⟩ : S108)⟩ : S110) )) (Reps.none _ _))); intro v102 w54 ho55 hb hg_ hnew_; clear hg_ hnew_; (first | rw [← Ny101.out] at ho55 | (simp only [Int.reduceToNat] at ho55; rw [← Ny101.out] at ho55)); have n0_ := Aside0.mk (Kd.R_lower ho55 (below_size (by repeat (first | (with_reducible first | exact HB.out | apply below_alloc | apply pw_below_drewN | apply below_drew1) | exact HB.out)))); have n1_ := Aside0.mk (below_step (by repeat (first | (with_reducible first | exact HB.out | apply below_alloc | apply pw_below_drewN | apply below_drew1) | exact HB.out)) hb); clear HB; have HO103 := n0_; have HB := n1_; clear n0_ n1_; clear hb ho55; obtain ⟨Ao56, co56, eo56⟩ := Kd.R_slice HO103.out; subst eo56) | ((with_reducible refine gate_dst (N := 1) rfl ?_); refine box_event ?hg (N := 1) ?hd (cs := #[.int .i64 0, .int .i64 0, .int .i64 0, .int .i64 0, .int .i64 0, .int .i64 0, .int .i64 0, .slice none 0 0]) (t := 61) ?hr ?_; (case hd => rfl); (case hg => rfl); (case hr => first | (go_simp; done) | (go_simp; rfl)); intro gb104 hg w57 hbox hb; have n0_ := Aside0.mk (Kd.R_below (by (with_reducible repeat (first | apply Kd.R_alloc | apply Kd.R_drewN | apply Kd.R_drew)); exact HO103.out) hb); have n1_ := Aside0.mk (below_step (by repeat (first | (with_reducible first | exact HB.out | apply below_alloc | apply pw_below_drewN | apply below_drew1) | exact HB.out)) hb); have n2_ := Aside0.mk (hbox); have n3_ := Aside0.mk ((by rw [hg]; exact (below_size (by repeat (first | (with_reducible first | exact HB.out | apply below_alloc | apply pw_below_drewN | apply below_drew1) | exact HB.out))) : w.heap.size ≤ gb104)); have n4_ := Aside0.mk ((by rw [hg]; exact (below_size (by repeat (first | (with_reducible first | exact HB.out | apply below_alloc | apply pw_below_drewN | apply below_drew1) | exact HB.out))) : w.heap.size ≤ gb104)); clear HO103; clear HB; have HO103 := n0_; have HB := n1_; have BK104 := n2_; have GW104 := n3_; have GE104 := n4_; clear n0_ n1_ n2_ n3_ n4_; clear hb hbox hg; have hcz58_0 : w57.cell? ⟨gb104, 0, none⟩ = some (.int .i64 0) := (blk_cell BK104.out 0).trans rfl; have hcz58_1 : w57.cell? ⟨gb104, 1, none⟩ = some (.int .i64 0) := (blk_cell BK104.out 1).trans rfl; have hcz58_2 : w57.cell? ⟨gb104, 2, none⟩ = some (.int .i64 0) := (blk_cell BK104.out 2).trans rfl; have hcz58_3 : w57.cell? ⟨gb104, 3, none⟩ = some (.int .i64 0) := (blk_cell BK104.out 3).trans rfl; have hcz58_4 : w57.cell? ⟨gb104, 4, none⟩ = some (.int .i64 0) := (blk_cell BK104.out 4).trans rfl; have hcz58_5 : w57.cell? ⟨gb104, 5, none⟩ = some (.int .i64 0) := (blk_cell BK104.out 5).trans rfl; have hcz58_6 : w57.cell? ⟨gb104, 6, none⟩ = some (.int .i64 0) := (blk_cell BK104.out 6).trans rfl; have hcz58_7 : w57.cell? ⟨gb104, 7, none⟩ = some (.slice none 0 0) := (blk_cell BK104.out 7).trans rfl; have hfz58_0 := blk_frozen BK104.out 0; have hfz58_1 := blk_frozen BK104.out 1; have hfz58_2 := blk_frozen BK104.out 2; have hfz58_3 := blk_frozen BK104.out 3; have hfz58_4 := blk_frozen BK104.out 4; have hfz58_5 := blk_frozen BK104.out 5; have hfz58_6 := blk_frozen BK104.out 6; have hfz58_7 := blk_frozen BK104.out 7) | ((with_reducible refine gate_callee (f := 36) rfl ?_); refine goesL_ (some 6) rfl rfl Try.func36 (by kernel_rfl) rfl #[.agg #[.int .i64 4, .int .i64 2, .int .i64 1, .int .i64 3, .int .i64 2, .int .i64 1, .int .i64 0, .slice Ao56 y101.length co56]] rfl (by (try simp only [List.map_toArray, List.map_cons, List.map_nil]); first | done | rfl | (simp only [List.length_drop, List.length_take]; rfl)) ?_; (with_reducible refine (bound_Grants.calls 4 2 1 3 2 1 0 _ _ y101 t105 _ ?side1 ?side2 A1.out).mono ?_); (case side1 => refine (Kd.R_reads' (e := 110) (base := w.heap.size) (ok := fun k_ => True) (n := y101.length) (c := co56) ?_).2.2; exact (by (with_reducible repeat (first | apply Kd.R_alloc | apply Kd.R_drewN | apply Kd.R_drew)); exact (Kd.R_mono (Kd.R_far (p := ⟨gb104, 7, none⟩) (Kd.R_far (p := ⟨gb104, 6, none⟩) (Kd.R_far (p := ⟨gb104, 5, none⟩) (Kd.R_far (p := ⟨gb104, 4, none⟩) (Kd.R_far (p := ⟨gb104, 3, none⟩) (Kd.R_far (p := ⟨gb104, 2, none⟩) (Kd.R_far (p := ⟨gb104, 1, none⟩) (Kd.R_far (p := ⟨gb104, 0, none⟩) (Kd.R_types HO103.out BK104.out (by decide)) (fun _ hk => hk.2) (.int .i64 4)) (fun _ hk => hk.2) (.int .i64 2)) (fun _ hk => hk.2) (.int .i64 1)) (fun _ hk => hk.2) (.int .i64 3)) (fun _ hk => hk.2) (.int .i64 2)) (fun _ hk => hk.2) (.int .i64 1)) (fun _ hk => hk.2) (.int .i64 0)) (fun _ hk => hk.2) (.slice Ao56 y101.length co56)) (fun _ h_ => h_.1)))); (case side2 => exact (Kd.R_reads' HO103.out).2.1); rintro e w59 ⟨rfl, hb⟩; refine ⟨_, rfl, ?_⟩; have n0_ := Aside0.mk (Kd.R_below (by (with_reducible repeat (first | apply Kd.R_alloc | apply Kd.R_drewN | apply Kd.R_drew)); exact (Kd.R_mono (Kd.R_far (p := ⟨gb104, 7, none⟩) (Kd.R_far (p := ⟨gb104, 6, none⟩) (Kd.R_far (p := ⟨gb104, 5, none⟩) (Kd.R_far (p := ⟨gb104, 4, none⟩) (Kd.R_far (p := ⟨gb104, 3, none⟩) (Kd.R_far (p := ⟨gb104, 2, none⟩) (Kd.R_far (p := ⟨gb104, 1, none⟩) (Kd.R_far (p := ⟨gb104, 0, none⟩) (Kd.R_types HO103.out BK104.out (by decide)) (fun _ hk => hk.2) (.int .i64 4)) (fun _ hk => hk.2) (.int .i64 2)) (fun _ hk => hk.2) (.int .i64 1)) (fun _ hk => hk.2) (.int .i64 3)) (fun _ hk => hk.2) (.int .i64 2)) (fun _ hk => hk.2) (.int .i64 1)) (fun _ hk => hk.2) (.int .i64 0)) (fun _ hk => hk.2) (.slice Ao56 y101.length co56)) (fun _ h_ => h_.1))) hb); have n1_ := Aside0.mk (blk_below (g := gb104) (o := .cells #[.int .i64 4, .int .i64 2, .int .i64 1, .int .i64 3, .int .i64 2, .int .i64 1, .int .i64 0, .slice Ao56 y101.length co56] 61 (0, 0)) (by (with_reducible repeat (first | refine blk_drewN ?_ _ | refine blk_drew ?_ | refine blk_alloc ?_ _)); refine blk_put (cs := #[.int .i64 4, .int .i64 2, .int .i64 1, .int .i64 3, .int .i64 2, .int .i64 1, .int .i64 0, .slice none 0 0]) ?_ 7 _ rfl; (with_reducible repeat (first | refine blk_drewN ?_ _ | refine blk_drew ?_ | refine blk_alloc ?_ _)); refine blk_put (cs := #[.int .i64 4, .int .i64 2, .int .i64 1, .int .i64 3, .int .i64 2, .int .i64 1, .int .i64 0, .slice none 0 0]) ?_ 6 _ rfl; (with_reducible repeat (first | refine blk_drewN ?_ _ | refine blk_drew ?_ | refine blk_alloc ?_ _)); refine blk_put (cs := #[.int .i64 4, .int .i64 2, .int .i64 1, .int .i64 3, .int .i64 2, .int .i64 0, .int .i64 0, .slice none 0 0]) ?_ 5 _ rfl; (with_reducible repeat (first | refine blk_drewN ?_ _ | refine blk_drew ?_ | refine blk_alloc ?_ _)); refine blk_put (cs := #[.int .i64 4, .int .i64 2, .int .i64 1, .int .i64 3, .int .i64 0, .int .i64 0, .int .i64 0, .slice none 0 0]) ?_ 4 _ rfl; (with_reducible repeat (first | refine blk_drewN ?_ _ | refine blk_drew ?_ | refine blk_alloc ?_ _)); refine blk_put (cs := #[.int .i64 4, .int .i64 2, .int .i64 1, .int .i64 0, .int .i64 0, .int .i64 0, .int .i64 0, .slice none 0 0]) ?_ 3 _ rfl; (with_reducible repeat (first | refine blk_drewN ?_ _ | refine blk_drew ?_ | refine blk_alloc ?_ _)); refine blk_put (cs := #[.int .i64 4, .int .i64 2, .int .i64 0, .int .i64 0, .int .i64 0, .int .i64 0, .int .i64 0, .slice none 0 0]) ?_ 2 _ rfl; (with_reducible repeat (first | refine blk_drewN ?_ _ | refine blk_drew ?_ | refine blk_alloc ?_ _)); refine blk_put (cs := #[.int .i64 4, .int .i64 0, .int .i64 0, .int .i64 0, .int .i64 0, .int .i64 0, .int .i64 0, .slice none 0 0]) ?_ 1 _ rfl; (with_reducible repeat (first | refine blk_drewN ?_ _ | refine blk_drew ?_ | refine blk_alloc ?_ _)); refine blk_put (cs := #[.int .i64 0, .int .i64 0, .int .i64 0, .int .i64 0, .int .i64 0, .int .i64 0, .int .i64 0, .slice none 0 0]) ?_ 0 _ rfl; (with_reducible repeat (first | refine blk_drewN ?_ _ | refine blk_drew ?_ | refine blk_alloc ?_ _)); exact BK104.out) hb); have n2_ := Aside0.mk (below_step (by repeat (first | (with_reducible first | exact HB.out | apply below_alloc | apply pw_below_drewN | apply below_drew1 | refine below_set ?_ GE104.out) | exact HB.out)) hb); clear HO103; clear BK104; clear HB; have HO103 := n0_; have BK104 := n1_; have HB := n2_; clear n0_ n1_ n2_; (try clear hb); (try clear hb2); (try clear hk); (try clear hi)))
    go_ret
    exact ⟨by first | rfl | ((repeat first | rw [Int.tdiv_eq_ediv_of_nonneg (by omega)] | rw [Int.tmod_eq_emod_of_nonneg (by omega)]); rfl) | (simp [errW_none, errW_some] <;> rfl) | (simp [*, errW_none, errW_some] <;> rfl), by repeat (first | (with_reducible first | exact HB.out | apply below_alloc | apply pw_below_drewN | apply below_drew1 | refine below_set ?_ GE104.out) | exact HB.out)⟩
end Go.Proofs.Ytopblnecdabcgaa.P
end
section
/- Bounds: the values. -/
namespace Go.Proofs.Ytopblnecdabcgaa.P
open Go.Proofs.Ytopblnecdabcgaa.B Go.RowKit Go.Proofs.YtopblnecdabcgaaW.PrintWords Go.Proofs.YtopblnecdabcgaaW.PrintLast Go.Proofs.YtopblnecdabcgaaW.PrintMore
set_option linter.unusedVariables false
set_option linter.unusedSimpArgs false
theorem add3 (m a b c : Int) (hm : 0 ≤ m ∧ m < 9223372036854775808) (ha : 0 ≤ a ∧ a < 1000000000000) (hb : 0 ≤ b ∧ b < 1000000000000) (hc : 0 ≤ c ∧ c < 1000000000000) (h : a + b + c ≤ m) : sat_Add.f m [a, b, c] = some (a + b + c) := by
  have hl : ∀ x ∈ [a, b, c], i64ok x := fun x hx => by
    unfold i64ok
    simp only [List.mem_cons, List.not_mem_nil, or_false] at hx
    rcases hx with rfl | rfl | rfl <;> omega
  unfold sat_Add.f
  rw [if_pos ⟨by unfold i64ok; omega, hl, by simp⟩]
  have e1 : mx a 0 = a := by unfold mx; omega
  have e2 : mx b 0 = b := by unfold mx; omega
  have e4 : mx c 0 = c := by unfold mx; omega
  have e3 : mx m 0 = m := by unfold mx; omega
  rw [foldG, foldG, foldG, foldG, e1, e2, e3, e4, if_pos (by omega), if_pos (by omega), if_pos (by omega), Int.zero_add]
theorem rules0 {t c u le tr ra st : Int} {l : List S110} (h : rulesV t c u le tr ra st l = 0) : ((1 ≤ t ∧ t ≤ 64) ∧ (1 ≤ c ∧ c ≤ 16) ∧ (1 ≤ u ∧ u ≤ 16) ∧ (1 ≤ le ∧ le ≤ 1000) ∧ (1 ≤ tr ∧ tr ≤ 64) ∧ (0 ≤ ra ∧ ra ≤ 1048576) ∧ (0 ≤ st ∧ st ≤ 2147483647)) ∧ rightV l = true ∧ l.length ≤ 32 := by
  unfold rulesV at h
  cases h1 : numsB t c u le tr ra st
  · rw [h1, if_neg Bool.false_ne_true] at h; omega
  · rw [h1, if_pos rfl] at h
    cases h2 : rightV l
    · rw [h2, if_neg Bool.false_ne_true] at h; omega
    · refine ⟨of_decide_eq_true h1, rfl, ?_⟩
      unfold rightV at h2
      by_cases h3 : 32 < (l.length : Int)
      · rw [if_pos h3] at h2; cases h2
      · omega
def gV (t c u le tr ra st : Int) (l : List S110) : Int := if rulesV t c u le tr ra st l = 0 then c * (l.length : Int) else 0
def qV (t c u le tr ra st : Int) (l : List S110) : Int := if rulesV t c u le tr ra st l = 0 then c * (l.length : Int) + le + 1 else 0
def lV (t c u le tr ra st : Int) (l : List S110) : Int := if rulesV t c u le tr ra st l = 0 then t * c else 0
def dV (t c u le tr ra st : Int) (l : List S110) : Int := qV t c u le tr ra st l * (2 * lV t c u le tr ra st l + 1)
def rV (t c u le tr ra st : Int) (l : List S110) (p : Int) : Int := if rulesV t c u le tr ra st l = 0 then fullV p 0 ra else 0
theorem prod2 (a b m n : Int) (ha : 0 ≤ a ∧ a ≤ m) (hb : 0 ≤ b ∧ b ≤ n) : 0 ≤ a * b ∧ a * b ≤ m * n := ⟨Int.mul_nonneg ha.1 hb.1, Int.mul_le_mul ha.2 hb.2 hb.1 (by omega)⟩
section
variable (t c u le tr ra st : Int) (l : List S110)
theorem gV_in : 0 ≤ gV t c u le tr ra st l ∧ gV t c u le tr ra st l ≤ 512 := by
  unfold gV
  split
  · rename_i h
    have := rules0 h
    have := prod2 c l.length 16 32 (by omega) (by omega)
    omega
  · omega
theorem qV_in : 0 ≤ qV t c u le tr ra st l ∧ qV t c u le tr ra st l ≤ 1513 := by
  have h1 := gV_in t c u le tr ra st l
  unfold gV at h1
  unfold qV
  split
  · rename_i h
    have := rules0 h
    rw [if_pos h] at h1
    omega
  · omega
theorem lV_in : 0 ≤ lV t c u le tr ra st l ∧ lV t c u le tr ra st l ≤ 1024 := by
  unfold lV
  split
  · rename_i h
    have := rules0 h
    have := prod2 t c 64 16 (by omega) (by omega)
    omega
  · omega
theorem dV_in : 0 ≤ dV t c u le tr ra st l ∧ dV t c u le tr ra st l ≤ 3100137 := by
  have h1 := qV_in t c u le tr ra st l
  have h2 := lV_in t c u le tr ra st l
  have := prod2 (qV t c u le tr ra st l) (2 * lV t c u le tr ra st l + 1) 1513 2049 h1 (by omega)
  unfold dV
  omega
theorem grants_code : bound_Grants.f t c u le tr ra st l = some (gV t c u le tr ra st l) := by
  have h1 := gV_in t c u le tr ra st l
  unfold bound_Grants.f
  rw [rules_code, Option.bind_some]
  unfold gV at h1 ⊢
  split
  · rename_i h
    have := rules0 h
    rw [if_pos h] at h1
    rw [mul2 _ _ _ (by omega) (by omega) (by omega)]
    congr 1
    unfold mn
    rw [if_neg (by omega)]
  · rfl
theorem leases_code : bound_Leases.f t c u le tr ra st l = some (lV t c u le tr ra st l) := by
  have h1 := lV_in t c u le tr ra st l
  unfold bound_Leases.f
  rw [rules_code, Option.bind_some]
  unfold lV at h1 ⊢
  split
  · rename_i h
    have := rules0 h
    rw [if_pos h] at h1
    rw [mul2 _ _ _ (by omega) (by omega) (by omega)]
    congr 1
    unfold mn
    rw [if_neg (by omega)]
  · rfl
theorem quiet_code : bound_Quiet.f t c u le tr ra st l = some (qV t c u le tr ra st l) := by
  have h1 := gV_in t c u le tr ra st l
  unfold bound_Quiet.f
  rw [rules_code, Option.bind_some, grants_code]
  unfold gV at h1 ⊢
  unfold qV
  split
  · rename_i h
    have := rules0 h
    rw [if_pos h] at h1
    rw [Option.bind_some, add3 _ _ _ _ (by omega) (by omega) (by omega) (by omega) (by omega)]
  · rfl
theorem done_code : bound_Done.f t c u le tr ra st l = some (dV t c u le tr ra st l) := by
  have h1 := qV_in t c u le tr ra st l
  have h2 := lV_in t c u le tr ra st l
  have h3 := dV_in t c u le tr ra st l
  unfold bound_Done.f
  rw [quiet_code, leases_code]
  simp only [Option.bind_some]
  rw [add3 _ _ _ _ (by omega) (by omega) (by omega) (by omega) (by omega), Option.bind_some, mul2 _ _ _ (by omega) (by omega) (by omega), Option.bind_some]
  unfold dV at h3 ⊢
  rw [show lV t c u le tr ra st l + lV t c u le tr ra st l + 1 = 2 * lV t c u le tr ra st l + 1 by omega]
  congr 1
  unfold mn
  rw [if_neg (by omega)]
theorem ripe_code (p : Int) : bound_Ripe.f t c u le tr ra st l p = some (rV t c u le tr ra st l p) := by
  unfold bound_Ripe.f rV
  rw [rules_code, Option.bind_some, full_code]
  split <;> rfl
end
theorem alive37 : tallymanlaw37_alive.f = some true := by
  unfold tallymanlaw37_alive.f
  simp only [Option.bind_some]
  rw [grants_code, quiet_code, leases_code, done_code, ripe_code]
  decide
end Go.Proofs.Ytopblnecdabcgaa.P
end
section
-- printed by the session's own call of print.py. Not trusted: Lean checks it.
namespace Go.Proofs.Ytopblnecdabcgaa.P
open Go.RowKit Go.Proofs.YtopblnecdabcgaaW.PrintWords Go.Proofs.YtopblnecdabcgaaW.PrintLast Go.Proofs.YtopblnecdabcgaaW.PrintMore
attribute [local go_sem] max2_int min2_int max_two min_two max_three min_three max_four min_four
set_option linter.unusedVariables false
set_option linter.unusedSimpArgs false
/-! ### tallymanref37_Grants: function 37 -/
def tallymanref37_Grants.f (k : Nat) (a0_0 : Int) (a0_1 : Int) (a0_2 : Int) (a0_3 : Int) (a0_4 : Int) (a0_5 : Int) (a0_6 : Int) (l0_7 : List (S110)) : Option (Int) := (tallymanref22_Rules.f k a0_0 a0_1 a0_2 a0_3 a0_4 a0_5 a0_6 l0_7).bind fun t102 => (if t102 = 0 then (some (wrap64 (a0_1 * (l0_7.length : Int)))) else (some 0))
theorem tallymanref37_Grants.mono : ∀ a0 a1 a2 a3 a4 a5 a6 a7 k, LeO (tallymanref37_Grants.f k a0 a1 a2 a3 a4 a5 a6 a7) (tallymanref37_Grants.f (k + 1) a0 a1 a2 a3 a4 a5 a6 a7) := by
  intro a0 a1 a2 a3 a4 a5 a6 a7 k
  unfold tallymanref37_Grants.f
  repeat' first
      | (with_reducible exact tallymanref22_Rules.mono _ _ _ _ _ _ _ _ _)
      | (with_reducible exact LeO.refl _)
      | (with_reducible exact LeO.none _)
      | (with_reducible refine LeO.ite ?_ ?_)
      | (with_reducible refine LeO.bind ?_ (fun _ => ?_))
      | exact tallymanref22_Rules.mono _ _ _ _ _ _ _ _ _
      | exact LeO.none _
      | refine LeO.ite ?_ ?_
      | refine LeO.bind ?_ (fun _ => ?_)
end Go.Proofs.Ytopblnecdabcgaa.P
end
section
-- printed by the session's own call of print.py. Not trusted: Lean checks it.
namespace Go.Proofs.Ytopblnecdabcgaa.P
open Go.RowKit Go.Proofs.YtopblnecdabcgaaW.PrintWords Go.Proofs.YtopblnecdabcgaaW.PrintLast Go.Proofs.YtopblnecdabcgaaW.PrintMore
attribute [local go_sem] max2_int min2_int max_two min_two max_three min_three max_four min_four
set_option linter.unusedVariables false
set_option linter.unusedSimpArgs false
/-! ### tallymanref37_Quiet: function 39 -/
def tallymanref37_Quiet.f (k : Nat) (a0_0 : Int) (a0_1 : Int) (a0_2 : Int) (a0_3 : Int) (a0_4 : Int) (a0_5 : Int) (a0_6 : Int) (l0_7 : List (S110)) : Option (Int) := (tallymanref22_Rules.f k a0_0 a0_1 a0_2 a0_3 a0_4 a0_5 a0_6 l0_7).bind fun t102 => (if t102 = 0 then ((tallymanref37_Grants.f k a0_0 a0_1 a0_2 a0_3 a0_4 a0_5 a0_6 l0_7).bind fun t103 => (some (wrap64 ((wrap64 (t103 + a0_3)) + 1)))) else (some 0))
theorem tallymanref37_Quiet.mono : ∀ a0 a1 a2 a3 a4 a5 a6 a7 k, LeO (tallymanref37_Quiet.f k a0 a1 a2 a3 a4 a5 a6 a7) (tallymanref37_Quiet.f (k + 1) a0 a1 a2 a3 a4 a5 a6 a7) := by
  intro a0 a1 a2 a3 a4 a5 a6 a7 k
  unfold tallymanref37_Quiet.f
  repeat' first
      | (with_reducible exact tallymanref22_Rules.mono _ _ _ _ _ _ _ _ _)
      | (with_reducible exact tallymanref37_Grants.mono _ _ _ _ _ _ _ _ _)
      | (with_reducible exact LeO.refl _)
      | (with_reducible exact LeO.none _)
      | (with_reducible refine LeO.ite ?_ ?_)
      | (with_reducible refine LeO.bind ?_ (fun _ => ?_))
      | exact tallymanref22_Rules.mono _ _ _ _ _ _ _ _ _
      | exact tallymanref37_Grants.mono _ _ _ _ _ _ _ _ _
      | exact LeO.none _
      | refine LeO.ite ?_ ?_
      | refine LeO.bind ?_ (fun _ => ?_)
end Go.Proofs.Ytopblnecdabcgaa.P
end
section
-- printed by the session's own call of print.py. Not trusted: Lean checks it.
namespace Go.Proofs.Ytopblnecdabcgaa.P
open Go.RowKit Go.Proofs.YtopblnecdabcgaaW.PrintWords Go.Proofs.YtopblnecdabcgaaW.PrintLast Go.Proofs.YtopblnecdabcgaaW.PrintMore
attribute [local go_sem] max2_int min2_int max_two min_two max_three min_three max_four min_four
set_option linter.unusedVariables false
set_option linter.unusedSimpArgs false
/-! ### tallymanref37_Leases: function 41 -/
def tallymanref37_Leases.f (k : Nat) (a0_0 : Int) (a0_1 : Int) (a0_2 : Int) (a0_3 : Int) (a0_4 : Int) (a0_5 : Int) (a0_6 : Int) (l0_7 : List (S110)) : Option (Int) := (tallymanref22_Rules.f k a0_0 a0_1 a0_2 a0_3 a0_4 a0_5 a0_6 l0_7).bind fun t102 => (if t102 = 0 then (some (wrap64 (a0_0 * a0_1))) else (some 0))
theorem tallymanref37_Leases.mono : ∀ a0 a1 a2 a3 a4 a5 a6 a7 k, LeO (tallymanref37_Leases.f k a0 a1 a2 a3 a4 a5 a6 a7) (tallymanref37_Leases.f (k + 1) a0 a1 a2 a3 a4 a5 a6 a7) := by
  intro a0 a1 a2 a3 a4 a5 a6 a7 k
  unfold tallymanref37_Leases.f
  repeat' first
      | (with_reducible exact tallymanref22_Rules.mono _ _ _ _ _ _ _ _ _)
      | (with_reducible exact LeO.refl _)
      | (with_reducible exact LeO.none _)
      | (with_reducible refine LeO.ite ?_ ?_)
      | (with_reducible refine LeO.bind ?_ (fun _ => ?_))
      | exact tallymanref22_Rules.mono _ _ _ _ _ _ _ _ _
      | exact LeO.none _
      | refine LeO.ite ?_ ?_
      | refine LeO.bind ?_ (fun _ => ?_)
end Go.Proofs.Ytopblnecdabcgaa.P
end
section
-- printed by the session's own call of print.py. Not trusted: Lean checks it.
namespace Go.Proofs.Ytopblnecdabcgaa.P
open Go.RowKit Go.Proofs.YtopblnecdabcgaaW.PrintWords Go.Proofs.YtopblnecdabcgaaW.PrintLast Go.Proofs.YtopblnecdabcgaaW.PrintMore
attribute [local go_sem] max2_int min2_int max_two min_two max_three min_three max_four min_four
set_option linter.unusedVariables false
set_option linter.unusedSimpArgs false
/-! ### tallymanref37_Done: function 43 -/
def tallymanref37_Done.f (k : Nat) (a0_0 : Int) (a0_1 : Int) (a0_2 : Int) (a0_3 : Int) (a0_4 : Int) (a0_5 : Int) (a0_6 : Int) (l0_7 : List (S110)) : Option (Int) := (tallymanref37_Quiet.f k a0_0 a0_1 a0_2 a0_3 a0_4 a0_5 a0_6 l0_7).bind fun t102 => ((tallymanref37_Leases.f k a0_0 a0_1 a0_2 a0_3 a0_4 a0_5 a0_6 l0_7).bind fun t103 => (some (wrap64 (t102 * (wrap64 ((wrap64 (2 * t103)) + 1))))))
theorem tallymanref37_Done.mono : ∀ a0 a1 a2 a3 a4 a5 a6 a7 k, LeO (tallymanref37_Done.f k a0 a1 a2 a3 a4 a5 a6 a7) (tallymanref37_Done.f (k + 1) a0 a1 a2 a3 a4 a5 a6 a7) := by
  intro a0 a1 a2 a3 a4 a5 a6 a7 k
  unfold tallymanref37_Done.f
  repeat' first
      | (with_reducible exact tallymanref37_Leases.mono _ _ _ _ _ _ _ _ _)
      | (with_reducible exact tallymanref37_Quiet.mono _ _ _ _ _ _ _ _ _)
      | (with_reducible exact LeO.refl _)
      | (with_reducible exact LeO.none _)
      | (with_reducible refine LeO.ite ?_ ?_)
      | (with_reducible refine LeO.bind ?_ (fun _ => ?_))
      | exact tallymanref37_Leases.mono _ _ _ _ _ _ _ _ _
      | exact tallymanref37_Quiet.mono _ _ _ _ _ _ _ _ _
      | exact LeO.none _
      | refine LeO.ite ?_ ?_
      | refine LeO.bind ?_ (fun _ => ?_)
end Go.Proofs.Ytopblnecdabcgaa.P
end
section
-- printed by the session's own call of print.py. Not trusted: Lean checks it.
namespace Go.Proofs.Ytopblnecdabcgaa.P
open Go.RowKit Go.Proofs.YtopblnecdabcgaaW.PrintWords Go.Proofs.YtopblnecdabcgaaW.PrintLast Go.Proofs.YtopblnecdabcgaaW.PrintMore
attribute [local go_sem] max2_int min2_int max_two min_two max_three min_three max_four min_four
set_option linter.unusedVariables false
set_option linter.unusedSimpArgs false
/-! ### tallymanref37_Ripe: function 45 -/
def tallymanref37_Ripe.f (k : Nat) (a0_0 : Int) (a0_1 : Int) (a0_2 : Int) (a0_3 : Int) (a0_4 : Int) (a0_5 : Int) (a0_6 : Int) (l0_7 : List (S110)) (a1 : Int) : Option (Int) := (tallymanref22_Rules.f k a0_0 a0_1 a0_2 a0_3 a0_4 a0_5 a0_6 l0_7).bind fun t102 => (if t102 = 0 then ((tallymanref14_Full.f 0 a1 0 0 a0_5).bind fun t103 => (some t103)) else (some 0))
theorem tallymanref37_Ripe.mono : ∀ a0 a1 a2 a3 a4 a5 a6 a7 a8 k, LeO (tallymanref37_Ripe.f k a0 a1 a2 a3 a4 a5 a6 a7 a8) (tallymanref37_Ripe.f (k + 1) a0 a1 a2 a3 a4 a5 a6 a7 a8) := by
  intro a0 a1 a2 a3 a4 a5 a6 a7 a8 k
  unfold tallymanref37_Ripe.f
  repeat' first
      | (with_reducible exact tallymanref22_Rules.mono _ _ _ _ _ _ _ _ _)
      | (with_reducible exact LeO.refl _)
      | (with_reducible exact LeO.none _)
      | (with_reducible refine LeO.ite ?_ ?_)
      | (with_reducible refine LeO.bind ?_ (fun _ => ?_))
      | exact tallymanref22_Rules.mono _ _ _ _ _ _ _ _ _
      | exact LeO.none _
      | refine LeO.ite ?_ ?_
      | refine LeO.bind ?_ (fun _ => ?_)
end Go.Proofs.Ytopblnecdabcgaa.P
end
section
-- printed by the session's own call of print.py. Not trusted: Lean checks it.
namespace Go.Proofs.Ytopblnecdabcgaa.P
open Go.RowKit Go.Proofs.YtopblnecdabcgaaW.PrintWords Go.Proofs.YtopblnecdabcgaaW.PrintLast Go.Proofs.YtopblnecdabcgaaW.PrintMore
attribute [local go_sem] max2_int min2_int max_two min_two max_three min_three max_four min_four
set_option linter.unusedVariables false
set_option linter.unusedSimpArgs false
/-! ### tallymanlaw37_BoundTells: function 8 -/
def tallymanlaw37_BoundTells.f (k : Nat) (a0_0 : Int) (a0_1 : Int) (a0_2 : Int) (a0_3 : Int) (a0_4 : Int) (a0_5 : Int) (a0_6 : Int) (l0_7 : List (S110)) (a1 : Int) : Option (Bool) := if (l0_7.length : Int) > 40 then ((tallymanlaw37_alive.f).bind fun t102 => (some t102)) else ((bound_Grants.f a0_0 a0_1 a0_2 a0_3 a0_4 a0_5 a0_6 l0_7).bind fun t103 => ((tallymanref37_Grants.f k a0_0 a0_1 a0_2 a0_3 a0_4 a0_5 a0_6 l0_7).bind fun t104 => (if t103 = t104 then ((bound_Quiet.f a0_0 a0_1 a0_2 a0_3 a0_4 a0_5 a0_6 l0_7).bind fun t105 => ((tallymanref37_Quiet.f k a0_0 a0_1 a0_2 a0_3 a0_4 a0_5 a0_6 l0_7).bind fun t106 => (if t105 = t106 then ((bound_Leases.f a0_0 a0_1 a0_2 a0_3 a0_4 a0_5 a0_6 l0_7).bind fun t107 => ((tallymanref37_Leases.f k a0_0 a0_1 a0_2 a0_3 a0_4 a0_5 a0_6 l0_7).bind fun t108 => (if t107 = t108 then ((bound_Done.f a0_0 a0_1 a0_2 a0_3 a0_4 a0_5 a0_6 l0_7).bind fun t109 => ((tallymanref37_Done.f k a0_0 a0_1 a0_2 a0_3 a0_4 a0_5 a0_6 l0_7).bind fun t110 => (if t109 = t110 then ((bound_Ripe.f a0_0 a0_1 a0_2 a0_3 a0_4 a0_5 a0_6 l0_7 a1).bind fun t111 => ((tallymanref37_Ripe.f k a0_0 a0_1 a0_2 a0_3 a0_4 a0_5 a0_6 l0_7 a1).bind fun t112 => (if t111 = t112 then ((tallymanlaw37_alive.f).bind fun t113 => (some t113)) else (some false)))) else (some false)))) else (some false)))) else (some false)))) else (some false))))
theorem tallymanlaw37_BoundTells.mono : ∀ a0 a1 a2 a3 a4 a5 a6 a7 a8 k, LeO (tallymanlaw37_BoundTells.f k a0 a1 a2 a3 a4 a5 a6 a7 a8) (tallymanlaw37_BoundTells.f (k + 1) a0 a1 a2 a3 a4 a5 a6 a7 a8) := by
  intro a0 a1 a2 a3 a4 a5 a6 a7 a8 k
  unfold tallymanlaw37_BoundTells.f
  repeat' first
      | (with_reducible exact tallymanref37_Done.mono _ _ _ _ _ _ _ _ _)
      | (with_reducible exact tallymanref37_Grants.mono _ _ _ _ _ _ _ _ _)
      | (with_reducible exact tallymanref37_Leases.mono _ _ _ _ _ _ _ _ _)
      | (with_reducible exact tallymanref37_Quiet.mono _ _ _ _ _ _ _ _ _)
      | (with_reducible exact tallymanref37_Ripe.mono _ _ _ _ _ _ _ _ _ _)
      | (with_reducible exact LeO.refl _)
      | (with_reducible exact LeO.none _)
      | (with_reducible refine LeO.ite ?_ ?_)
      | (with_reducible refine LeO.bind ?_ (fun _ => ?_))
      | exact tallymanref37_Done.mono _ _ _ _ _ _ _ _ _
      | exact tallymanref37_Grants.mono _ _ _ _ _ _ _ _ _
      | exact tallymanref37_Leases.mono _ _ _ _ _ _ _ _ _
      | exact tallymanref37_Quiet.mono _ _ _ _ _ _ _ _ _
      | exact tallymanref37_Ripe.mono _ _ _ _ _ _ _ _ _ _
      | exact LeO.none _
      | refine LeO.ite ?_ ?_
      | refine LeO.bind ?_ (fun _ => ?_)
end Go.Proofs.Ytopblnecdabcgaa.P
end
section
/- BoundTells: bounds are the document's. -/
namespace Go.Proofs.Ytopblnecdabcgaa.P
open Go.Proofs.Ytopblnecdabcgaa.B Go.RowKit Go.Proofs.YtopblnecdabcgaaW.PrintWords Go.Proofs.YtopblnecdabcgaaW.PrintLast Go.Proofs.YtopblnecdabcgaaW.PrintMore
set_option linter.unusedVariables false
set_option linter.unusedSimpArgs false
section
variable (t c u le tr ra st : Int) (l : List S110)
end
end Go.Proofs.Ytopblnecdabcgaa.P
end
section
/- What came in, of any type that is made of numbers, texts, slices and structs: its value, and how it reads. -/
namespace Go.Proofs.Ytopblnecdabcgaa.TR
open Go.RowKit Go.ChangeShapes Go.WideShapes Go.Deep Go.Proofs.YtopblnecdabcgaaW.PrintWords Go.Proofs.YtopblnecdabcgaaW.PrintLast Go.Proofs.YtopblnecdabcgaaW.PrintMore
set_option linter.unusedVariables false
set_option linter.unusedSimpArgs false
/-- What the cells of type t hold, where they are well formed, is of the kind d. -/
def Tr {α : Type} (P : Program) (t : TypeId) (d : Kd α) (Wf : α → Prop) : Prop :=
  ∀ (H : Type) (enc : TypeId × Value → H) (w : World) (n : Nat) (cs : List Value) (x : DataW H × List MemPlace), DataW.trod enc P w 0 (fun _ => true) true n t cs = some x → ∃ a, d.K w a cs ∧ Wf a
theorem Tr_int {P : Program} {t : TypeId} {k : IntKind} (ht : P.underlying t = some (.int k)) : Tr P t (Kd.int k) (fun z => (Lit.int k z).wf = true) := by
  intro H enc w n cs x h
  obtain ⟨z, rfl, _, hw⟩ := DataW.trod_int ht h
  exact ⟨z, rfl, hw⟩
theorem Tr_iso {α β : Type} {P : Program} {t : TypeId} {d : Kd α} {Wf : α → Prop} (f : β → α) (g : α → β) (hg : ∀ a, f (g a) = a) (h : Tr P t d Wf) : Tr P t (Kd.iso d f) (fun b => Wf (f b)) := by
  intro H enc w n cs x hx
  obtain ⟨a, hK, hW⟩ := h H enc w n cs x hx
  exact ⟨g a, by show d.K w (f (g a)) cs; rw [hg]; exact hK, by show Wf (f (g a)); rw [hg]; exact hW⟩
theorem build {α : Type} (p : Nat → α → Prop) : ∀ n, (∀ i, i < n → ∃ a, p i a) → ∃ l : List α, l.length = n ∧ ∀ j a, l[j]? = some a → p j a := by
  intro n
  induction n with
  | zero => intro _; exact ⟨[], rfl, fun j a h => by simp at h⟩
  | succ n ih =>
    intro h
    obtain ⟨l, hl, hp⟩ := ih (fun i hi => h i (by omega))
    obtain ⟨a, ha⟩ := h n (by omega)
    refine ⟨l ++ [a], by simp [hl], fun j b hb => ?_⟩
    by_cases hj : j < l.length
    · rw [List.getElem?_append_left hj] at hb
      exact hp j b hb
    · rw [List.getElem?_append_right (by omega)] at hb
      have : j - l.length = 0 := by
        have := (List.getElem?_eq_some_iff.1 hb).1
        simp at this
        omega
      rw [this] at hb
      simp only [List.getElem?_cons_zero, Option.some.injEq] at hb
      subst hb
      rw [show j = n by omega]
      exact ha
theorem Tr_slice {α : Type} {P : Program} {t e : TypeId} {d : Kd α} {Wf : α → Prop} (ht : P.underlying t = some (.slice e)) (hc : P.cellsOf e = d.sz) (h : Tr P e d Wf) : Tr P t (Kd.slice e d) (fun l => ∀ a ∈ l, Wf a) := by
  intro H enc w n cs x hx
  rcases open_slice ht hx with ⟨rfl, _⟩ | ⟨a, len, cap, m, n', D, Pl, rfl, _, hle, hm, hmm, _, hel⟩
  · exact ⟨[], ⟨none, 0, rfl, Nat.le_refl _, Kd.C_nil d w⟩, fun a ha => by simp at ha⟩
  · have hmc : m = cap := by simpa using hmm
    obtain ⟨l, hl, hp⟩ := build (fun i (b : α) => (∃ cs', cs'.length = d.sz ∧ d.K w b cs' ∧ ∀ j u, cs'[j]? = some u → w.cell? (a.add (i * d.sz + j)) = some u) ∧ Wf b) len (fun i hi => by
      obtain ⟨cs', h1, h2⟩ := hel i (by omega)
      obtain ⟨_, h3, h4⟩ := World.cells?_some h1
      obtain ⟨b, hK, hW⟩ := h H enc w n' cs' _ h2
      refine ⟨b, ⟨cs', by rw [h3, hc], hK, fun j u hu => ?_⟩, hW⟩
      have hj := (List.getElem?_eq_some_iff.1 hu).1
      rw [← hc, ← Go.Deep.add_add, h4 j (by omega), hu])
    refine ⟨l, ⟨some a, cap, by rw [hl], by omega, ⟨rfl, ?_, fun _ => ⟨a, rfl, fun j b hb => (hp j b hb).1⟩⟩⟩, fun b hb => ?_⟩
    · unfold maxLen at hm; omega
    · obtain ⟨j, hj⟩ := List.getElem?_of_mem hb
      exact (hp j b hj).2
/-- The fields from one on, one behind the other. -/
theorem seg (cs : List Value) (o a b : Nat) : (cs.drop o).take (a + b) = (cs.drop o).take a ++ (cs.drop (o + a)).take b := by
  rw [List.take_add, List.drop_drop]
theorem pair_K {α β : Type} {d : Kd α} {e : Kd β} {w : World} {cs : List Value} {o : Nat} {a : α} {b : β} {s r : Nat} (h1 : d.K w a ((cs.drop o).take s)) (h2 : e.K w b ((cs.drop (o + s)).take r)) : (Kd.pair d e).K w (a, b) ((cs.drop o).take (s + r)) :=
  ⟨_, _, seg cs o s r, h1, h2⟩
/-- A struct's fields from one offset on, of the kinds of a pair of pairs. -/
def Fs {α : Type} (P : Program) (fs : List Field) (o : Nat) (d : Kd α) (Wf : α → Prop) (sz : Nat) : Prop :=
  ∀ (H : Type) (enc : TypeId × Value → H) (w : World) (n : Nat) (cs : List Value), (∀ f ∈ fs, ∃ y, DataW.trod enc P w 0 (fun _ => true) true n f.type ((cs.drop f.offset).take (P.cellsOf f.type)) = some y) → ∃ a, d.K w a ((cs.drop o).take sz) ∧ Wf a
theorem Fs_one {α : Type} {P : Program} {f : Field} {d : Kd α} {Wf : α → Prop} {o s : Nat} (ho : f.offset = o) (hs : P.cellsOf f.type = s) (h : Tr P f.type d Wf) : Fs P [f] o d Wf s := by
  intro H enc w n cs hf
  obtain ⟨y, hy⟩ := hf f (by simp)
  rw [ho, hs] at hy
  exact h H enc w n _ y hy
theorem Fs_cons {α β : Type} {P : Program} {f : Field} {fs : List Field} {d : Kd α} {e : Kd β} {Wf : α → Prop} {Wg : β → Prop} {o s r : Nat} (ho : f.offset = o) (hs : P.cellsOf f.type = s) (h : Tr P f.type d Wf) (hr : Fs P fs (o + s) e Wg r) : Fs P (f :: fs) o (Kd.pair d e) (fun x => Wf x.1 ∧ Wg x.2) (s + r) := by
  intro H enc w n cs hf
  obtain ⟨y, hy⟩ := hf f (by simp)
  rw [ho, hs] at hy
  obtain ⟨a, ha, hwa⟩ := h H enc w n _ y hy
  obtain ⟨b, hb, hwb⟩ := hr H enc w n cs (fun g hg => hf g (by simp [hg]))
  exact ⟨(a, b), pair_K ha hb, hwa, hwb⟩
theorem Tr_struct {α : Type} {P : Program} {t : TypeId} {fs : List Field} {d : Kd α} {Wf : α → Prop} {s : Nat} (ht : P.underlying t = some (.struct fs.toArray)) (hs : P.cellsOf t = s) (h : Fs P fs 0 d Wf s) : Tr P t d Wf := by
  intro H enc w n cs x hx
  obtain ⟨xs, n', _, _, hl, hlen, hf⟩ := DataW.trod_struct ht hx
  obtain ⟨a, hK, hW⟩ := h H enc w n' cs (fun f hfm => by
    obtain ⟨i, hi⟩ := List.getElem?_of_mem hfm
    have h1 := hf i f (by simpa using hi)
    have hil : i < fs.length := (List.getElem?_eq_some_iff.1 hi).1
    have h2 : i < xs.length := by rw [hlen]; simpa using hil
    exact ⟨xs[i], by rw [h1]; exact List.getElem?_eq_getElem h2⟩)
  rw [List.drop_zero, List.take_of_length_le (by omega)] at hK
  exact ⟨a, hK, hW⟩
end Go.Proofs.Ytopblnecdabcgaa.TR
end
section
/- The law BoundTells, for any rules. -/
namespace Go.Proofs.Ytopblnecdabcgaa.P
open Go.RowKit Go.Proofs.YtopblnecdabcgaaW.PrintWords Go.Proofs.YtopblnecdabcgaaW.PrintLast Go.Proofs.YtopblnecdabcgaaW.PrintMore
set_option linter.unusedVariables false
set_option linter.unusedSimpArgs false
set_option maxRecDepth 100000 in
theorem Tr108 : ∃ Wf, TR.Tr Try.prog 108 k108 Wf := ⟨_, TR.Tr_iso (fun x : S108 => (x.f0, x.f1)) (fun p => ⟨p.1, p.2⟩) (fun _ => rfl) (TR.Tr_struct (s := 2) Try.underlying108 (by kernel_rfl) (TR.Fs_cons (s := 1) rfl (by kernel_rfl) (TR.Tr_int Try.underlying3) (TR.Fs_one (s := 1) rfl (by kernel_rfl) (TR.Tr_int Try.underlying3))))⟩
set_option maxRecDepth 100000 in
theorem Tr110 : ∃ Wf, TR.Tr Try.prog 110 k110 Wf := by
  obtain ⟨W1, h1⟩ := Tr108
  exact ⟨_, TR.Tr_iso (fun x : S110 => (x.f0, x.f1, x.f2)) (fun p => ⟨p.1, p.2.1, p.2.2⟩) (fun _ => rfl) (TR.Tr_struct (s := 5) Try.underlying110 (by kernel_rfl) (TR.Fs_cons (s := 1) rfl (by kernel_rfl) (TR.Tr_int Try.underlying3) (TR.Fs_cons (s := 2) rfl (by kernel_rfl) h1 (TR.Fs_one (s := 2) rfl (by kernel_rfl) h1))))⟩
set_option maxRecDepth 100000 in
theorem Tr61 : ∃ Wf, TR.Tr Try.prog 61 k61 Wf := by
  obtain ⟨W1, h1⟩ := Tr110
  exact ⟨_, TR.Tr_iso (fun x : S61 => (x.f0, x.f1, x.f2, x.f3, x.f4, x.f5, x.f6, x.f7)) (fun p => ⟨p.1, p.2.1, p.2.2.1, p.2.2.2.1, p.2.2.2.2.1, p.2.2.2.2.2.1, p.2.2.2.2.2.2.1, p.2.2.2.2.2.2.2⟩) (fun _ => rfl)
    (TR.Tr_struct (s := 8) Try.underlying61 (by kernel_rfl) (TR.Fs_cons (s := 1) rfl (by kernel_rfl) (TR.Tr_int Try.underlying3) (TR.Fs_cons (s := 1) rfl (by kernel_rfl) (TR.Tr_int Try.underlying3) (TR.Fs_cons (s := 1) rfl (by kernel_rfl) (TR.Tr_int Try.underlying3) (TR.Fs_cons (s := 1) rfl (by kernel_rfl) (TR.Tr_int Try.underlying3) (TR.Fs_cons (s := 1) rfl (by kernel_rfl) (TR.Tr_int Try.underlying3) (TR.Fs_cons (s := 1) rfl (by kernel_rfl) (TR.Tr_int Try.underlying3) (TR.Fs_cons (s := 1) rfl (by kernel_rfl) (TR.Tr_int Try.underlying3) (TR.Fs_one (s := 1) rfl (by kernel_rfl) (TR.Tr_slice Try.underlying59 (by kernel_rfl) h1))))))))))⟩
end Go.Proofs.Ytopblnecdabcgaa.P
end
section
/- BoundGrows: its walk. -/
namespace Go.Proofs.Ytopblnecdabcgaa.P
open Go.Proofs.Ytopblnecdabcgaa.B Go.RowKit Go.Proofs.YtopblnecdabcgaaW.PrintWords Go.Proofs.YtopblnecdabcgaaW.PrintLast Go.Proofs.YtopblnecdabcgaaW.PrintMore Go.Proofs.Ytopblnecdabcgaa.H
set_option linter.unusedVariables false
set_option linter.unusedSimpArgs false
attribute [local go_sem] max2_int min2_int max_two min_two
/-- Both rules lie in their blocks, and no bound of the one is less. -/
structure Gr (w0 : World) (g2 g5 : Nat) (t1 c1 u1 e1 tr ra st : Int) (A1 : Option Addr) (d1 : Nat) (l1 : List S110) (t2 c2 e2 : Int) (A2 : Option Addr) (d2 : Nat) (l2 : List S110) (wx : World) : Prop where
  b2 : wx.heap[g2]? = some (.cells #[.int .i64 t1, .int .i64 c1, .int .i64 u1, .int .i64 e1, .int .i64 tr, .int .i64 ra, .int .i64 st, .slice A1 l1.length d1] 61 (0, 0))
  b5 : wx.heap[g5]? = some (.cells #[.int .i64 t2, .int .i64 c2, .int .i64 u1, .int .i64 e2, .int .i64 tr, .int .i64 ra, .int .i64 st, .slice A2 l2.length d2] 61 (0, 0))
  h1 : Kd.C k110 wx A1 l1.length l1
  k1 : l1.length ≤ d1
  h2 : Kd.C k110 wx A2 l2.length l2
  k2 : l2.length ≤ d2
  hB : Below w0.heap.size w0 wx
theorem Gr.keep {w0 : World} {g2 g5 : Nat} {t1 c1 u1 e1 tr ra st : Int} {A1 : Option Addr} {d1 : Nat} {l1 : List S110} {t2 c2 e2 : Int} {A2 : Option Addr} {d2 : Nat} {l2 : List S110} {wx wy : World} (h : Gr w0 g2 g5 t1 c1 u1 e1 tr ra st A1 d1 l1 t2 c2 e2 A2 d2 l2 wx) (hb : Below wx.heap.size wx wy) : Gr w0 g2 g5 t1 c1 u1 e1 tr ra st A1 d1 l1 t2 c2 e2 A2 d2 l2 wy :=
  ⟨blk_keep h.b2 hb, blk_keep h.b5 hb, Kd.C_below h.h1 hb, h.k1, Kd.C_below h.h2 hb, h.k2, below_step h.hB hb⟩
theorem grows_long (t c u le tr ra st : Int) (A : Option Addr) (cc : Nat) (l : List S110) (h : Int) (w : World) (hC : Kd.C k110 w A l.length l) (hc : l.length ≤ cc) (hl : 30 < l.length) :
    Calls Try.prog 9 #[.agg #[.int .i64 t, .int .i64 c, .int .i64 u, .int .i64 le, .int .i64 tr, .int .i64 ra, .int .i64 st, .slice A l.length cc], .int .u8 h] w fun e w' => e = .returned (.bool true) ∧ Below w.heap.size w w' := by
  have HA := fun W => Aside0.mk (tallymanlaw37_alive.calls true W alive37)
  have t1 : decide (30 < (l.length : Int)) = true := decide_eq_true (by omega)
  have t2 : decide (30 < l.length) = true := decide_eq_true hl
  go_enter Try.func9, Try.ntmps9
  go_wp2_with (first | (go_at_call 35; (with_reducible refine ((HA _).out).mono ?_); rintro e w1 ⟨rfl, hb⟩; have HB1 := Aside0.mk (below_step (below_alloc (Below.refl w.heap.size w) _) hb); clear hb))
  go_ret
  exact ⟨rfl, HB1.out⟩
theorem grows_bad (t c u le tr ra st : Int) (A : Option Addr) (cc : Nat) (l : List S110) (h : Int) (w : World) (hC : Kd.C k110 w A l.length l) (hc : l.length ≤ cc) (hl : l.length ≤ 30) (hr : rulesV t c u le tr ra st l ≠ 0) :
    Calls Try.prog 9 #[.agg #[.int .i64 t, .int .i64 c, .int .i64 u, .int .i64 le, .int .i64 tr, .int .i64 ra, .int .i64 st, .slice A l.length cc], .int .u8 h] w fun e w' => e = .returned (.bool true) ∧ Below w.heap.size w w' := by
  have HA := fun W => Aside0.mk (tallymanlaw37_alive.calls true W alive37)
  obtain ⟨k, hk⟩ := Ev.rounds (rules_ref t c u le tr ra st l)
  have hg := blk_new w (.cells #[.int .i64 t, .int .i64 c, .int .i64 u, .int .i64 le, .int .i64 tr, .int .i64 ra, .int .i64 st, .slice A l.length cc] 61)
  have HR := Aside0.mk (tallymanref22_Rules.calls k t c u le tr ra st A cc l _ (w.alloc (.cells #[.int .i64 t, .int .i64 c, .int .i64 u, .int .i64 le, .int .i64 tr, .int .i64 ra, .int .i64 st, .slice A l.length cc] 61)) (Kd.C_alloc hC _) hc hk)
  generalize rulesV t c u le tr ra st l = v at hr HR
  have t1 : decide (30 < (l.length : Int)) = false := decide_eq_false (by omega)
  have t2 : decide (30 < l.length) = false := decide_eq_false (by omega)
  have t3 : (v != 0) = true := by simp [hr]
  clear hk hC
  have c0 := blk_cell hg 0; have c1 := blk_cell hg 1; have c2 := blk_cell hg 2; have c3 := blk_cell hg 3; have c4 := blk_cell hg 4; have c5 := blk_cell hg 5; have c6 := blk_cell hg 6; have c7 := blk_cell hg 7
  clear hg
  go_enter Try.func9, Try.ntmps9
  go_wp2_with (first | (go_at_call 46; (with_reducible refine (HR.out).mono ?_); rintro e w1 ⟨rfl, hb⟩; have HB1 := Aside0.mk (below_step (below_alloc (Below.refl w.heap.size w) _) hb); clear hb) | (go_at_call 35; (with_reducible refine ((HA _).out).mono ?_); rintro e w1 ⟨rfl, hb⟩; have HB2 := Aside0.mk (below_step HB1.out hb); clear hb))
  go_ret
  exact ⟨rfl, HB2.out⟩
abbrev GS (w0 : World) (g2 g5 : Nat) (t1 c1 u1 e1 tr ra st : Int) (A1 : Option Addr) (d1 : Nat) (l1 : List S110) (t2 c2 e2 : Int) (A2 : Option Addr) (d2 : Nat) (l2 : List S110) (w' : World) : Prop := Aside0 (Gr w0 g2 g5 t1 c1 u1 e1 tr ra st A1 d1 l1 t2 c2 e2 A2 d2 l2 w') ∧ w'.cell? ⟨g2, 0, none⟩ = some (.int .i64 t1) ∧ w'.cell? ⟨g2, 1, none⟩ = some (.int .i64 c1) ∧ w'.cell? ⟨g2, 2, none⟩ = some (.int .i64 u1) ∧ w'.cell? ⟨g2, 3, none⟩ = some (.int .i64 e1) ∧ w'.cell? ⟨g2, 4, none⟩ = some (.int .i64 tr) ∧ w'.cell? ⟨g2, 5, none⟩ = some (.int .i64 ra) ∧ w'.cell? ⟨g2, 6, none⟩ = some (.int .i64 st) ∧ w'.cell? ⟨g2, 7, none⟩ = some (.slice A1 l1.length d1) ∧ w'.cell? ⟨g5, 0, none⟩ = some (.int .i64 t2) ∧ w'.cell? ⟨g5, 1, none⟩ = some (.int .i64 c2) ∧ w'.cell? ⟨g5, 2, none⟩ = some (.int .i64 u1) ∧ w'.cell? ⟨g5, 3, none⟩ = some (.int .i64 e2) ∧ w'.cell? ⟨g5, 4, none⟩ = some (.int .i64 tr) ∧ w'.cell? ⟨g5, 5, none⟩ = some (.int .i64 ra) ∧ w'.cell? ⟨g5, 6, none⟩ = some (.int .i64 st) ∧ w'.cell? ⟨g5, 7, none⟩ = some (.slice A2 l2.length d2)
theorem GS.mk {w0 : World} {g2 g5 : Nat} {t1 c1 u1 e1 tr ra st : Int} {A1 : Option Addr} {d1 : Nat} {l1 : List S110} {t2 c2 e2 : Int} {A2 : Option Addr} {d2 : Nat} {l2 : List S110} {w' : World} (h : Gr w0 g2 g5 t1 c1 u1 e1 tr ra st A1 d1 l1 t2 c2 e2 A2 d2 l2 w') : GS w0 g2 g5 t1 c1 u1 e1 tr ra st A1 d1 l1 t2 c2 e2 A2 d2 l2 w' := ⟨⟨h⟩, blk_cell h.b2 0, blk_cell h.b2 1, blk_cell h.b2 2, blk_cell h.b2 3, blk_cell h.b2 4, blk_cell h.b2 5, blk_cell h.b2 6, blk_cell h.b2 7, blk_cell h.b5 0, blk_cell h.b5 1, blk_cell h.b5 2, blk_cell h.b5 3, blk_cell h.b5 4, blk_cell h.b5 5, blk_cell h.b5 6, blk_cell h.b5 7⟩
theorem GS.keep {w0 : World} {g2 g5 : Nat} {t1 c1 u1 e1 tr ra st : Int} {A1 : Option Addr} {d1 : Nat} {l1 : List S110} {t2 c2 e2 : Int} {A2 : Option Addr} {d2 : Nat} {l2 : List S110} {wx wy : World} (h : GS w0 g2 g5 t1 c1 u1 e1 tr ra st A1 d1 l1 t2 c2 e2 A2 d2 l2 wx) (hb : Below wx.heap.size wx wy) : GS w0 g2 g5 t1 c1 u1 e1 tr ra st A1 d1 l1 t2 c2 e2 A2 d2 l2 wy := GS.mk (h.1.out.keep hb)
theorem GS.drew {w0 : World} {g2 g5 : Nat} {t1 c1 u1 e1 tr ra st : Int} {A1 : Option Addr} {d1 : Nat} {l1 : List S110} {t2 c2 e2 : Int} {A2 : Option Addr} {d2 : Nat} {l2 : List S110} {wx : World} (h : GS w0 g2 g5 t1 c1 u1 e1 tr ra st A1 d1 l1 t2 c2 e2 A2 d2 l2 wx) : GS w0 g2 g5 t1 c1 u1 e1 tr ra st A1 d1 l1 t2 c2 e2 A2 d2 l2 wx.drew := GS.keep h (below_drew (Below.refl _ _))
theorem GS.Grants1 {w0 : World} {g2 g5 : Nat} {t1 c1 u1 e1 tr ra st : Int} {A1 : Option Addr} {d1 : Nat} {l1 : List S110} {t2 c2 e2 : Int} {A2 : Option Addr} {d2 : Nat} {l2 : List S110} {W : World} (h : GS w0 g2 g5 t1 c1 u1 e1 tr ra st A1 d1 l1 t2 c2 e2 A2 d2 l2 W) : Calls Try.prog 36 #[.agg #[.int .i64 t1, .int .i64 c1, .int .i64 u1, .int .i64 e1, .int .i64 tr, .int .i64 ra, .int .i64 st, .slice A1 l1.length d1]] W fun e w' => e = .returned (.int .i64 (gV t1 c1 u1 e1 tr ra st l1)) ∧ Below W.heap.size W w' :=
  bound_Grants.calls t1 c1 u1 e1 tr ra st A1 d1 l1 _ W h.1.out.h1 h.1.out.k1 (grants_code ..)
theorem GS.Grants2 {w0 : World} {g2 g5 : Nat} {t1 c1 u1 e1 tr ra st : Int} {A1 : Option Addr} {d1 : Nat} {l1 : List S110} {t2 c2 e2 : Int} {A2 : Option Addr} {d2 : Nat} {l2 : List S110} {W : World} (h : GS w0 g2 g5 t1 c1 u1 e1 tr ra st A1 d1 l1 t2 c2 e2 A2 d2 l2 W) : Calls Try.prog 36 #[.agg #[.int .i64 t2, .int .i64 c2, .int .i64 u1, .int .i64 e2, .int .i64 tr, .int .i64 ra, .int .i64 st, .slice A2 l2.length d2]] W fun e w' => e = .returned (.int .i64 (gV t2 c2 u1 e2 tr ra st l2)) ∧ Below W.heap.size W w' :=
  bound_Grants.calls t2 c2 u1 e2 tr ra st A2 d2 l2 _ W h.1.out.h2 h.1.out.k2 (grants_code ..)
theorem GS.Quiet1 {w0 : World} {g2 g5 : Nat} {t1 c1 u1 e1 tr ra st : Int} {A1 : Option Addr} {d1 : Nat} {l1 : List S110} {t2 c2 e2 : Int} {A2 : Option Addr} {d2 : Nat} {l2 : List S110} {W : World} (h : GS w0 g2 g5 t1 c1 u1 e1 tr ra st A1 d1 l1 t2 c2 e2 A2 d2 l2 W) : Calls Try.prog 38 #[.agg #[.int .i64 t1, .int .i64 c1, .int .i64 u1, .int .i64 e1, .int .i64 tr, .int .i64 ra, .int .i64 st, .slice A1 l1.length d1]] W fun e w' => e = .returned (.int .i64 (qV t1 c1 u1 e1 tr ra st l1)) ∧ Below W.heap.size W w' :=
  bound_Quiet.calls t1 c1 u1 e1 tr ra st A1 d1 l1 _ W h.1.out.h1 h.1.out.k1 (quiet_code ..)
theorem GS.Quiet2 {w0 : World} {g2 g5 : Nat} {t1 c1 u1 e1 tr ra st : Int} {A1 : Option Addr} {d1 : Nat} {l1 : List S110} {t2 c2 e2 : Int} {A2 : Option Addr} {d2 : Nat} {l2 : List S110} {W : World} (h : GS w0 g2 g5 t1 c1 u1 e1 tr ra st A1 d1 l1 t2 c2 e2 A2 d2 l2 W) : Calls Try.prog 38 #[.agg #[.int .i64 t2, .int .i64 c2, .int .i64 u1, .int .i64 e2, .int .i64 tr, .int .i64 ra, .int .i64 st, .slice A2 l2.length d2]] W fun e w' => e = .returned (.int .i64 (qV t2 c2 u1 e2 tr ra st l2)) ∧ Below W.heap.size W w' :=
  bound_Quiet.calls t2 c2 u1 e2 tr ra st A2 d2 l2 _ W h.1.out.h2 h.1.out.k2 (quiet_code ..)
theorem GS.Leases1 {w0 : World} {g2 g5 : Nat} {t1 c1 u1 e1 tr ra st : Int} {A1 : Option Addr} {d1 : Nat} {l1 : List S110} {t2 c2 e2 : Int} {A2 : Option Addr} {d2 : Nat} {l2 : List S110} {W : World} (h : GS w0 g2 g5 t1 c1 u1 e1 tr ra st A1 d1 l1 t2 c2 e2 A2 d2 l2 W) : Calls Try.prog 40 #[.agg #[.int .i64 t1, .int .i64 c1, .int .i64 u1, .int .i64 e1, .int .i64 tr, .int .i64 ra, .int .i64 st, .slice A1 l1.length d1]] W fun e w' => e = .returned (.int .i64 (lV t1 c1 u1 e1 tr ra st l1)) ∧ Below W.heap.size W w' :=
  bound_Leases.calls t1 c1 u1 e1 tr ra st A1 d1 l1 _ W h.1.out.h1 h.1.out.k1 (leases_code ..)
theorem GS.Leases2 {w0 : World} {g2 g5 : Nat} {t1 c1 u1 e1 tr ra st : Int} {A1 : Option Addr} {d1 : Nat} {l1 : List S110} {t2 c2 e2 : Int} {A2 : Option Addr} {d2 : Nat} {l2 : List S110} {W : World} (h : GS w0 g2 g5 t1 c1 u1 e1 tr ra st A1 d1 l1 t2 c2 e2 A2 d2 l2 W) : Calls Try.prog 40 #[.agg #[.int .i64 t2, .int .i64 c2, .int .i64 u1, .int .i64 e2, .int .i64 tr, .int .i64 ra, .int .i64 st, .slice A2 l2.length d2]] W fun e w' => e = .returned (.int .i64 (lV t2 c2 u1 e2 tr ra st l2)) ∧ Below W.heap.size W w' :=
  bound_Leases.calls t2 c2 u1 e2 tr ra st A2 d2 l2 _ W h.1.out.h2 h.1.out.k2 (leases_code ..)
theorem GS.Done1 {w0 : World} {g2 g5 : Nat} {t1 c1 u1 e1 tr ra st : Int} {A1 : Option Addr} {d1 : Nat} {l1 : List S110} {t2 c2 e2 : Int} {A2 : Option Addr} {d2 : Nat} {l2 : List S110} {W : World} (h : GS w0 g2 g5 t1 c1 u1 e1 tr ra st A1 d1 l1 t2 c2 e2 A2 d2 l2 W) : Calls Try.prog 42 #[.agg #[.int .i64 t1, .int .i64 c1, .int .i64 u1, .int .i64 e1, .int .i64 tr, .int .i64 ra, .int .i64 st, .slice A1 l1.length d1]] W fun e w' => e = .returned (.int .i64 (dV t1 c1 u1 e1 tr ra st l1)) ∧ Below W.heap.size W w' :=
  bound_Done.calls t1 c1 u1 e1 tr ra st A1 d1 l1 _ W h.1.out.h1 h.1.out.k1 (done_code ..)
theorem GS.Done2 {w0 : World} {g2 g5 : Nat} {t1 c1 u1 e1 tr ra st : Int} {A1 : Option Addr} {d1 : Nat} {l1 : List S110} {t2 c2 e2 : Int} {A2 : Option Addr} {d2 : Nat} {l2 : List S110} {W : World} (h : GS w0 g2 g5 t1 c1 u1 e1 tr ra st A1 d1 l1 t2 c2 e2 A2 d2 l2 W) : Calls Try.prog 42 #[.agg #[.int .i64 t2, .int .i64 c2, .int .i64 u1, .int .i64 e2, .int .i64 tr, .int .i64 ra, .int .i64 st, .slice A2 l2.length d2]] W fun e w' => e = .returned (.int .i64 (dV t2 c2 u1 e2 tr ra st l2)) ∧ Below W.heap.size W w' :=
  bound_Done.calls t2 c2 u1 e2 tr ra st A2 d2 l2 _ W h.1.out.h2 h.1.out.k2 (done_code ..)
theorem mul_le {a b c d : Int} (ha : 0 ≤ a) (hb : 0 ≤ b) (h1 : a ≤ c) (h2 : b ≤ d) : a * b ≤ c * d := Int.mul_le_mul h1 h2 hb (by omega)
/-- What the bounds come to, of rules that may be, with more. -/
structure Gb (g1 q1 l1 d1 g2 q2 l2 d2 : Int) : Prop where
  a : g1 ≤ g2
  b : q1 ≤ q2
  c : l1 ≤ l2
  d : d1 ≤ d2
  e : g1 < q1
  f : 2 * q1 ≤ d1
  g : 0 < l1
  h : 0 ≤ q1 ∧ q1 ≤ 1513
theorem gb_of {t c u le tr ra st t2 c2 e2 : Int} {l1 l2 : List S110} (h1 : rulesV t c u le tr ra st l1 = 0) (h2 : rulesV t2 c2 u e2 tr ra st l2 = 0) (h : t ≤ t2 ∧ c ≤ c2 ∧ le ≤ e2 ∧ l1.length ≤ l2.length) :
    Gb (gV t c u le tr ra st l1) (qV t c u le tr ra st l1) (lV t c u le tr ra st l1) (dV t c u le tr ra st l1) (gV t2 c2 u e2 tr ra st l2) (qV t2 c2 u e2 tr ra st l2) (lV t2 c2 u e2 tr ra st l2) (dV t2 c2 u e2 tr ra st l2) := by
  have r1 := rules0 h1
  have r2 := rules0 h2
  have e := qV_in t c u le tr ra st l1
  have lp : 1 * 1 ≤ t * c := mul_le (by omega) (by omega) (by omega) (by omega)
  have x1 : c * (l1.length : Int) ≤ c2 * (l2.length : Int) := mul_le (by omega) (by omega) (by omega) (by omega)
  have x2 : t * c ≤ t2 * c2 := mul_le (by omega) (by omega) (by omega) (by omega)
  have y0 : 0 ≤ c * (l1.length : Int) := Int.mul_nonneg (by omega) (by omega)
  unfold dV
  unfold qV at e ⊢
  unfold gV lV
  rw [if_pos h1, if_pos h2] at *
  rw [if_pos h1, if_pos h2, if_pos h1, if_pos h2]
  generalize c * (l1.length : Int) = p1 at *
  generalize c2 * (l2.length : Int) = p2 at *
  generalize t * c = s1 at *
  generalize t2 * c2 = s2 at *
  have z1 : (p1 + le + 1) * (2 * s1 + 1) ≤ (p2 + e2 + 1) * (2 * s2 + 1) := mul_le (by omega) (by omega) (by omega) (by omega)
  have z2 : (p1 + le + 1) * 2 ≤ (p1 + le + 1) * (2 * s1 + 1) := mul_le (by omega) (by omega) (by omega) (by omega)
  exact ⟨by omega, by omega, by omega, z1, by omega, by omega, by omega, e⟩
theorem R_lit110 (w : World) (base : Nat) (hb : base ≤ w.heap.size) : Kd.R k110 110 (w.alloc (.cells #[] 110)) base (fun _ => True) (.slice (some ⟨w.heap.size, 0, none⟩) 0 0) [] :=
  ⟨fun _ _ => trivial, [], World.ownsRow_lit (base := base) (e := 110) (size := 5) w #[] 0 hb (by decide) rfl, Reps.none _ _⟩
theorem R_lit110' (w : World) (o : Obj) : Kd.R k110 110 ((w.alloc o).alloc (.cells #[] 110)) (w.alloc o).heap.size (fun _ => True) (.slice (some ⟨w.heap.size + 1, 0, none⟩) 0 0) [] := by
  have h := R_lit110 (w.alloc o) _ (Nat.le_refl _)
  rw [alloc_size] at h ⊢
  exact h
theorem rightR_take : ∀ (l : List S110) (pre : List S110) (last : Int) (n : Nat), rightR pre last l = true → rightR pre last (l.take n) = true := by
  intro l
  induction l with
  | nil => intro pre last n _; rw [List.take_nil, rightR]
  | cons a l ih =>
    intro pre last n h
    cases n with
    | zero => rw [List.take_zero, rightR]
    | succ n =>
      rw [List.take_succ_cons, rightR]
      rw [rightR] at h
      split at h
      · split at h
        · cases h
        · rename_i h1 h2
          rw [if_pos h1, if_neg h2]
          exact ih _ _ _ h
      · cases h
theorem rules_front {t c u le tr ra st : Int} {l : List S110} (h : rulesV t c u le tr ra st l = 0) (n : Nat) : rulesV t c u le tr ra st (l.take n) = 0 := by
  have hr := (rules0 h).2.1
  unfold rulesV at h ⊢
  have h2 : rightV (l.take n) = true := by
    unfold rightV at hr ⊢
    split at hr
    · cases hr
    · rw [if_neg (by rw [List.length_take]; omega)]
      exact rightR_take _ _ _ _ hr
  rw [h2]
  split at h
  · rename_i h3; rw [if_pos h3, if_pos rfl]
  · omega
theorem rules_more {t c u le tr ra st t2 c2 e2 : Int} {l : List S110} (h : rulesV t c u le tr ra st l = 0) (h1 : t ≤ t2 ∧ t2 ≤ 64) (h2 : c ≤ c2 ∧ c2 ≤ 16) (h3 : le ≤ e2 ∧ e2 ≤ 1000) : rulesV t2 c2 u e2 tr ra st l = 0 := by
  have hr := rules0 h
  unfold rulesV numsB
  rw [if_pos (decide_eq_true (by omega)), if_pos hr.2.1]
theorem C_some {w : World} {A : Option Addr} {n : Nat} {l : List S110} (h : Kd.C k110 w A n l) (hn : 0 < n) : ∃ ad, A = some ad := by
  obtain ⟨ad, e, _⟩ := h.2.2 hn
  exact ⟨ad, e⟩
set_option maxHeartbeats 4000000 in
set_option maxRecDepth 100000 in
theorem grows_right (t c u le tr ra st : Int) (A : Option Addr) (cc : Nat) (l : List S110) (h : Int) (hh : 0 ≤ h ∧ h < 256) (w : World) (hC : Kd.C k110 w A l.length l) (hc : l.length ≤ cc) (hl : l.length ≤ 30) (hr : rulesV t c u le tr ra st l = 0) :
    Calls Try.prog 9 #[.agg #[.int .i64 t, .int .i64 c, .int .i64 u, .int .i64 le, .int .i64 tr, .int .i64 ra, .int .i64 st, .slice A l.length cc], .int .u8 h] w fun e w' => e = .returned (.bool true) ∧ Below w.heap.size w w' := by
  have HA := fun W => Aside0.mk (tallymanlaw37_alive.calls true W alive37)
  obtain ⟨k, hk⟩ := Ev.rounds (rules_ref t c u le tr ra st l)
  have hg := blk_new w (.cells #[.int .i64 t, .int .i64 c, .int .i64 u, .int .i64 le, .int .i64 tr, .int .i64 ra, .int .i64 st, .slice A l.length cc] 61)
  have HR := Aside0.mk (tallymanref22_Rules.calls k t c u le tr ra st A cc l _ (w.alloc (.cells #[.int .i64 t, .int .i64 c, .int .i64 u, .int .i64 le, .int .i64 tr, .int .i64 ra, .int .i64 st, .slice A l.length cc] 61)) (Kd.C_alloc hC _) hc hk)
  rw [hr] at HR
  have t1 : decide (30 < (l.length : Int)) = false := decide_eq_false (by omega)
  have t2 : decide (30 < l.length) = false := decide_eq_false (by omega)
  clear hk
  have HC := Aside0.mk hC; clear hC
  have kc0 := blk_cell hg 0; have kc1 := blk_cell hg 1; have kc2 := blk_cell hg 2; have kc3 := blk_cell hg 3; have kc4 := blk_cell hg 4; have kc5 := blk_cell hg 5; have kc6 := blk_cell hg 6; have kc7 := blk_cell hg 7
  have HG := Aside0.mk hg; clear hg
  go_enter Try.func9, Try.ntmps9
  go_upto_block 0 with (first | (go_at_call 46; (with_reducible refine (HR.out).mono ?_); rintro e w1 ⟨rfl, hb⟩; have HB1 := Aside0.mk (below_step (below_alloc (Below.refl w.heap.size w) _) hb); have HG1 := Aside0.mk (blk_keep HG.out hb); clear hb kc0 kc1 kc2 kc3 kc4 kc5 kc6 kc7; have kc0 := blk_cell HG1.out 0; have kc1 := blk_cell HG1.out 1; have kc2 := blk_cell HG1.out 2; have kc3 := blk_cell HG1.out 3; have kc4 := blk_cell HG1.out 4; have kc5 := blk_cell HG1.out 5; have kc6 := blk_cell HG1.out 6; have kc7 := blk_cell HG1.out 7))
  clear kc0 kc1 kc2 kc3 kc4 kc5 kc6 kc7
  have kc0 := blk_cell HG1.out 0; have kc1 := blk_cell HG1.out 1; have kc2 := blk_cell HG1.out 2; have kc3 := blk_cell HG1.out 3; have kc4 := blk_cell HG1.out 4; have kc5 := blk_cell HG1.out 5; have kc6 := blk_cell HG1.out 6; have kc7 := blk_cell HG1.out 7
  have HR0 := Aside0.mk hr
  have hn := rules0 hr
  go_cut [] (fun wx => ∃ (t2 c2 e2 : Int) (A1 : Option Addr) (d1 : Nat) (l1 : List S110), Aside0 (Gr w w.heap.size w1.heap.size t c u le tr ra st A1 d1 l1 t2 c2 e2 A cc l wx) ∧ Aside0 (rulesV t c u le tr ra st l1 = 0) ∧ Aside0 (rulesV t2 c2 u e2 tr ra st l = 0) ∧ Aside0 (t ≤ t2 ∧ c ≤ c2 ∧ le ≤ e2 ∧ l1.length ≤ l.length))
  case first =>
    have hw1 : ∀ x : Int, 1 ≤ x → x ≤ 1000 → wrap64 (x + 1) = x + 1 := fun x h0 h1 => n64 (by omega) (by omega)
    have ht := hw1 t (by omega) (by omega)
    have hc1 := hw1 c (by omega) (by omega)
    have he := hw1 le (by omega) (by omega)
    have hC1 := Kd.C_alloc (Kd.C_below HC.out HB1.out) (.cells #[.int .i64 t, .int .i64 c, .int .i64 u, .int .i64 le, .int .i64 tr, .int .i64 ra, .int .i64 st, .slice A l.length cc] 61)
    rcases (show h % 4 = 0 ∨ h % 4 = 1 ∨ h % 4 = 2 ∨ h % 4 = 3 by omega) with h4 | h4 | h4 | h4
    · have m0 : (h % 4 == 0) = true := by rw [h4]; rfl
      clear h4
      go_wp2_with fail
      all_goals go_meet
      · exact ⟨64, c, le, A, cc, l, ⟨blk_keep HG1.out (below_alloc (Below.refl _ _) _), blk_new _ _, Kd.C_alloc (Kd.C_below HC.out HB1.out) _, hc, Kd.C_alloc (Kd.C_below HC.out HB1.out) _, hc, below_alloc HB1.out _⟩, ⟨HR0.out⟩, ⟨rules_more HR0.out (by omega) (by omega) (by omega)⟩, ⟨by omega⟩⟩
      · exact ⟨t + 1, c, le, A, cc, l, ⟨blk_keep HG1.out (below_alloc (Below.refl _ _) _), blk_new _ _, Kd.C_alloc (Kd.C_below HC.out HB1.out) _, hc, Kd.C_alloc (Kd.C_below HC.out HB1.out) _, hc, below_alloc HB1.out _⟩, ⟨HR0.out⟩, ⟨rules_more HR0.out (by omega) (by omega) (by omega)⟩, ⟨by omega⟩⟩
    · have m0 : (h % 4 == 0) = false := by rw [h4]; rfl
      have m1 : (h % 4 == 1) = true := by rw [h4]; rfl
      clear h4
      go_wp2_with fail
      all_goals go_meet
      · exact ⟨t, 16, le, A, cc, l, ⟨blk_keep HG1.out (below_alloc (Below.refl _ _) _), blk_new _ _, Kd.C_alloc (Kd.C_below HC.out HB1.out) _, hc, Kd.C_alloc (Kd.C_below HC.out HB1.out) _, hc, below_alloc HB1.out _⟩, ⟨HR0.out⟩, ⟨rules_more HR0.out (by omega) (by omega) (by omega)⟩, ⟨by omega⟩⟩
      · exact ⟨t, c + 1, le, A, cc, l, ⟨blk_keep HG1.out (below_alloc (Below.refl _ _) _), blk_new _ _, Kd.C_alloc (Kd.C_below HC.out HB1.out) _, hc, Kd.C_alloc (Kd.C_below HC.out HB1.out) _, hc, below_alloc HB1.out _⟩, ⟨HR0.out⟩, ⟨rules_more HR0.out (by omega) (by omega) (by omega)⟩, ⟨by omega⟩⟩
    · have m0 : (h % 4 == 0) = false := by rw [h4]; rfl
      have m1 : (h % 4 == 1) = false := by rw [h4]; rfl
      have m2 : (h % 4 == 2) = true := by rw [h4]; rfl
      clear h4
      go_wp2_with fail
      all_goals go_meet
      · exact ⟨t, c, 1000, A, cc, l, ⟨blk_keep HG1.out (below_alloc (Below.refl _ _) _), blk_new _ _, Kd.C_alloc (Kd.C_below HC.out HB1.out) _, hc, Kd.C_alloc (Kd.C_below HC.out HB1.out) _, hc, below_alloc HB1.out _⟩, ⟨HR0.out⟩, ⟨rules_more HR0.out (by omega) (by omega) (by omega)⟩, ⟨by omega⟩⟩
      · exact ⟨t, c, le + 1, A, cc, l, ⟨blk_keep HG1.out (below_alloc (Below.refl _ _) _), blk_new _ _, Kd.C_alloc (Kd.C_below HC.out HB1.out) _, hc, Kd.C_alloc (Kd.C_below HC.out HB1.out) _, hc, below_alloc HB1.out _⟩, ⟨HR0.out⟩, ⟨rules_more HR0.out (by omega) (by omega) (by omega)⟩, ⟨by omega⟩⟩
    · have m0 : (h % 4 == 0) = false := by rw [h4]; rfl
      have m1 : (h % 4 == 1) = false := by rw [h4]; rfl
      have m2 : (h % 4 == 2) = false := by rw [h4]; rfl
      have nw := blk_new w1 (.cells #[.int .i64 t, .int .i64 c, .int .i64 u, .int .i64 le, .int .i64 tr, .int .i64 ra, .int .i64 st, .slice A l.length cc] 61)
      rcases Nat.eq_zero_or_pos l.length with h0 | h0
      · have p1 : decide (0 < (l.length : Int)) = false := decide_eq_false (by omega)
        have p2 : decide (0 < l.length) = false := decide_eq_false (by omega)
        clear h0 h4
        go_wp2_with fail
        all_goals go_meet
        exact ⟨t, c, le, A, cc, l, ⟨blk_keep HG1.out (below_alloc (Below.refl _ _) _), blk_new _ _, Kd.C_alloc (Kd.C_below HC.out HB1.out) _, hc, Kd.C_alloc (Kd.C_below HC.out HB1.out) _, hc, below_alloc HB1.out _⟩, ⟨HR0.out⟩, ⟨HR0.out⟩, ⟨by omega⟩⟩
      · have p1 : decide (0 < (l.length : Int)) = true := decide_eq_true (by omega)
        have p2 : decide (0 < l.length) = true := decide_eq_true (by omega)
        obtain ⟨ad, rfl⟩ := C_some HC.out h0
        have hlen : (l.take (l.length - 1)).length = l.length - 1 := by rw [List.length_take]; omega
        have hT := Kd.C_take hC1 (show l.length - 1 ≤ l.length by omega)
        rw [hlen] at hT
        have hrf := rules_front HR0.out (l.length - 1)
        generalize l.take (l.length - 1) = l1 at hT hlen hrf
        have HLn := Aside0.mk hlen; have HRF := Aside0.mk hrf; clear hlen hrf
        have HT := Aside0.mk hT; clear hT hC1
        have HL := Aside0.mk (show (([] : List S110).length + (l.length - 1)) * 40 ≤ 140737488355328 by simp; omega)
        clear h4
        go_wp2_with (at_builtin; refine Kd.R_append_rows k110 (w0 := w1.alloc (.cells #[.int .i64 t, .int .i64 c, .int .i64 u, .int .i64 le, .int .i64 tr, .int .i64 ra, .int .i64 st, .slice (some ad) l.length cc] 61)) _ rfl (.tmp 23) (.tmp 30) 59 110 (.agg #[.int .i64 0, .int .i64 0, .int .i64 0, .int .i64 0, .int .i64 0]) 40 rfl Try.underlying59 info110 rfl (by decide) (by omega) _ [] l1 _ _ _ (fun _ => True) (fun _ => False) rfl rfl (R_lit110' w1 _) (Kd.C_alloc HT.out _) (fun _ _ h => h) (fun _ h => h.elim) (fun _ _ => trivial) (below_alloc (Below.refl _ _) _) (below_size (below_alloc (Below.refl _ _) _)) HL.out ?_; intro v2 w2 hR hB hg hat; rw [List.nil_append] at hR; have hne : some w.heap.size ≠ v2.ownBlock := (fun e => by have h1 := Kd.R_base hR _ e.symm; rw [alloc_size] at h1; have h2 := HB1.out.size; omega); have hR2 := Kd.R_far (p := ⟨w.heap.size, 7, none⟩) (Kd.R_far1 hR rfl hne) (fun k h => h.2) v2; clear hR hne; obtain ⟨A1, d1, e1, hk1, hC1⟩ := Kd.R_reads hR2; subst e1; clear hR2; have HK1 := Aside0.mk hk1; have HC1 := Aside0.mk hC1; clear hk1 hC1; have HB2 := Aside0.mk hB; clear hB hg hat; have HG2 := Aside0.mk (blk_keep (blk_keep HG1.out (below_alloc (Below.refl _ _) _)) HB2.out); have HG5 := Aside0.mk (blk_keep nw HB2.out); have fz := blk_frozen HG2.out 7; have kz := blk_cell HG2.out 7)
        all_goals go_meet
        have hn2 := HLn.out
        have hB2 : Below w.heap.size w w2 := below_step (below_alloc HB1.out _) HB2.out
        exact ⟨t, c, le, A1, d1, l1, ⟨⟨blk_set HG2.out 7 _, far1 HG5.out (by have := HB1.out.size; have := lt_blk HG1.out; omega) _ _, HC1.out, HK1.out, Kd.C_below HC.out (below_set hB2 (Nat.le_refl _)), hc, below_set hB2 (Nat.le_refl _)⟩⟩, ⟨HRF.out⟩, ⟨HR0.out⟩, ⟨by omega⟩⟩
  case rest =>
    obtain ⟨t2, c2, e2, A1, d1, l1, hG, h1, h2, h3⟩ := hcut
    have HS := GS.mk hG.out
    have hb := gb_of h1.out h2.out h3.out
    clear hG h1 h2 h3
    have HA : ∀ W, Calls Try.prog 35 #[] W fun e w' => e = .returned (.bool true) ∧ Below W.heap.size W w' := fun W => (HA W).out
    have X := fun (W : World) (h : GS w w.heap.size w1.heap.size t c u le tr ra st A1 d1 l1 t2 c2 e2 A cc l W) => Aside0.mk (And.intro h.Grants1 (And.intro h.Grants2 (And.intro h.Quiet1 (And.intro h.Quiet2 (And.intro h.Leases1 (And.intro h.Leases2 (And.intro h.Done1 h.Done2)))))))
    generalize gV t c u le tr ra st l1 = g1 at *
    generalize qV t c u le tr ra st l1 = q1 at *
    generalize lV t c u le tr ra st l1 = m1 at *
    generalize dV t c u le tr ra st l1 = d1' at *
    generalize gV t2 c2 u e2 tr ra st l = g2 at *
    generalize qV t2 c2 u e2 tr ra st l = q2 at *
    generalize lV t2 c2 u e2 tr ra st l = m2 at *
    generalize dV t2 c2 u e2 tr ra st l = d2' at *
    obtain ⟨b1, b2, b3, b4, b5, b6, b7, b8⟩ := hb
    have f1 : decide (g2 < g1) = false := decide_eq_false (by omega)
    have f2 : decide (q2 < q1) = false := decide_eq_false (by omega)
    have f3 : decide (m2 < m1) = false := decide_eq_false (by omega)
    have f4 : decide (d2' < d1') = false := decide_eq_false (by omega)
    have f5 : decide (g1 < q1) = true := decide_eq_true (by omega)
    have f6 : wrap64 (2 * q1) = 2 * q1 := n64 (by omega) (by omega)
    have f6' : IntKind.i64.wrap (2 * q1) = 2 * q1 := by rw [IntKind.wrap_i64]; omega
    have f7 : decide (2 * q1 ≤ d1') = true := decide_eq_true (by omega)
    have f8 : decide (0 < m1) = true := decide_eq_true (by omega)
    clear b1 b2 b3 b4 b5 b6 b7 b8 HR HC HG HG1 HB1 kc0 kc1 kc2 kc3 kc4 kc5 kc6 kc7 hr hn HR0 hl hc hh
    go_upto_region 13 with fail
    go_region_held3 (GS w w.heap.size w1.heap.size t c u le tr ra st A1 d1 l1 t2 c2 e2 A cc l)
      (first | exact GS.keep (by assumption) hb | exact GS.drew HS | assumption)
      (first | (go_at_call 36; (with_reducible first | (refine ((X _ (by assumption)).out.1).mono ?_) | (refine ((X _ (by assumption)).out.2.1).mono ?_)); rintro e w' ⟨rfl, hb⟩) | (go_at_call 38; (with_reducible first | (refine ((X _ (by assumption)).out.2.2.1).mono ?_) | (refine ((X _ (by assumption)).out.2.2.2.1).mono ?_)); rintro e w' ⟨rfl, hb⟩) | (go_at_call 40; (with_reducible first | (refine ((X _ (by assumption)).out.2.2.2.2.1).mono ?_) | (refine ((X _ (by assumption)).out.2.2.2.2.2.1).mono ?_)); rintro e w' ⟨rfl, hb⟩) | (go_at_call 42; (with_reducible first | (refine ((X _ (by assumption)).out.2.2.2.2.2.2.1).mono ?_) | (refine ((X _ (by assumption)).out.2.2.2.2.2.2.2).mono ?_)); rintro e w' ⟨rfl, hb⟩))
    clear HS
    rename_i HS
    go_upto_region 15 with fail
    go_region_held3 (GS w w.heap.size w1.heap.size t c u le tr ra st A1 d1 l1 t2 c2 e2 A cc l)
      (first | exact GS.keep (by assumption) hb | exact GS.drew HS | assumption)
      (first | (go_at_call 35; (with_reducible refine (HA _).mono ?_); rintro e w' ⟨rfl, hb⟩) | (go_at_call 36; (with_reducible first | (refine ((X _ (by assumption)).out.1).mono ?_) | (refine ((X _ (by assumption)).out.2.1).mono ?_)); rintro e w' ⟨rfl, hb⟩) | (go_at_call 38; (with_reducible first | (refine ((X _ (by assumption)).out.2.2.1).mono ?_) | (refine ((X _ (by assumption)).out.2.2.2.1).mono ?_)); rintro e w' ⟨rfl, hb⟩) | (go_at_call 40; (with_reducible first | (refine ((X _ (by assumption)).out.2.2.2.2.1).mono ?_) | (refine ((X _ (by assumption)).out.2.2.2.2.2.1).mono ?_)); rintro e w' ⟨rfl, hb⟩) | (go_at_call 42; (with_reducible first | (refine ((X _ (by assumption)).out.2.2.2.2.2.2.1).mono ?_) | (refine ((X _ (by assumption)).out.2.2.2.2.2.2.2).mono ?_)); rintro e w' ⟨rfl, hb⟩))
    go_wp2
    go_ret
    exact ⟨rfl, (show GS _ _ _ _ _ _ _ _ _ _ _ _ _ _ _ _ _ _ _ _ by assumption).1.out.hB⟩
end Go.Proofs.Ytopblnecdabcgaa.P
end
section
/- The law BoundGrows, for any rules. -/
namespace Go.Proofs.Ytopblnecdabcgaa.P
open Go.RowKit Go.Proofs.YtopblnecdabcgaaW.PrintWords Go.Proofs.YtopblnecdabcgaaW.PrintLast Go.Proofs.YtopblnecdabcgaaW.PrintMore
set_option linter.unusedVariables false
set_option linter.unusedSimpArgs false
def tallymanlaw37_BoundGrows.Pure : Prop := True
theorem tallymanlaw37_BoundGrows.walk (P : tallymanlaw37_BoundGrows.Pure) (cs : Array Value) (a1 : Int) (w : World) {H : Type} {enc : TypeId × Value → H} {d : DataW H} {p : List MemPlace} (h0 : DataW.Trod enc Try.prog w 0 (fun _ => true) true 61 (.agg cs) d p) (w1 : (Lit.int .u8 a1).wf = true) :
    Calls Try.prog 9 #[.agg cs, .int .u8 a1] w fun e w' => e = .returned (.bool true) ∧ Below w.heap.size w w' := by
  obtain ⟨fuel, hf⟩ := h0
  obtain ⟨Wf, hT⟩ := Tr61
  obtain ⟨x, hK, _⟩ := hT _ _ _ _ _ _ hf
  obtain ⟨A7, c7, e, hc, hC⟩ := k61_open hK
  simp [Value.cells] at e
  obtain ⟨cs⟩ := cs
  simp at e
  subst e
  have hh : 0 ≤ a1 ∧ a1 < 256 := by
    have h1 : (decide ((0 : Int) ≤ a1) && decide (a1 ≤ 255)) = true := w1
    rw [Bool.and_eq_true, decide_eq_true_iff, decide_eq_true_iff] at h1
    omega
  rcases Nat.lt_or_ge 30 x.f7.length with hl | hl
  · exact grows_long _ _ _ _ _ _ _ _ _ _ _ _ hC hc hl
  · by_cases hr : rulesV x.f0 x.f1 x.f2 x.f3 x.f4 x.f5 x.f6 x.f7 = 0
    · exact grows_right _ _ _ _ _ _ _ _ _ _ _ hh _ hC hc hl hr
    · exact grows_bad _ _ _ _ _ _ _ _ _ _ _ _ hC hc hl hr
end Go.Proofs.Ytopblnecdabcgaa.P
end
section
namespace Go.Proofs.Ytopblnecdabcgaa.Pure
open Go.RowKit Go.Proofs.Ytopblnecdabcgaa.P Go.Proofs.YtopblnecdabcgaaW.PrintWords Go.Proofs.YtopblnecdabcgaaW.PrintLast
/-- The walk needs nothing else. -/
theorem BoundGrows : tallymanlaw37_BoundGrows.Pure := trivial
end Go.Proofs.Ytopblnecdabcgaa.Pure
end
