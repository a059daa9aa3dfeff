/- Several texts of this proof in one: what the law's functions come to, and the lemmas (some as the kit's print.sh printed them, what is not used struck). -/
import Derived.Test.YtpoghhcpoimepaaM2
import Derived.Test.YtpoghhcpoimepaaM6
import Derived.Test.YtpoghhcpoimepaaM3
section
-- printed by the session's own call of print.py. Not trusted: Lean checks it.
namespace Go.Proofs.Ytpoghhcpoimepaa.P
open Go.RowKit Go.Proofs.YtpoghhcpoimepaaW.PrintWords Go.Proofs.YtpoghhcpoimepaaW.PrintLast Go.Proofs.YtpoghhcpoimepaaW.PrintMore
attribute [local go_sem] max2_int min2_int max_two min_two max_three min_three max_four min_four
set_option linter.unusedVariables false
set_option linter.unusedSimpArgs false
/-! ### tallymanref05_step: function 78 -/
def tallymanref05_step.f (a0_0 : Int) (a0_1 : Int) (a1 : Int) (a2 : Int) : Option (Int × Int) := (tallymanref03_Turn.f 1 0 a1).bind fun bt103 => (some (wrap64 (a0_0 + (wrap64 (a2 * bt103.1))), wrap64 (a0_1 + (wrap64 (a2 * bt103.2)))))
set_option maxHeartbeats 8000000 in
set_option maxRecDepth 100000 in
theorem tallymanref05_step.calls (a0_0 : Int) (a0_1 : Int) (a1 : Int) (a2 : Int) (r1 : Int) (r2 : Int) (w : World) (h : tallymanref05_step.f a0_0 a0_1 a1 a2 = some (r1, r2)) :
    Calls Try.prog 78 #[.agg #[.int .i64 a0_0, .int .i64 a0_1], .int .i64 a1, .int .i64 a2] w fun e w' => e = .returned (.agg #[.int .i64 r1, .int .i64 r2]) ∧ Below w.heap.size w w' := by
  have hu24 := Try.underlying24
  have HB := Aside0.mk (Below.refl w.heap.size w)
  have H : ((tallymanref03_Turn.f 1 0 a1).bind fun bt103 => (some (wrap64 (a0_0 + (wrap64 (a2 * bt103.1))), wrap64 (a0_1 + (wrap64 (a2 * bt103.2)))))) = some (r1, r2) := h
  clear h
  replace H := Option.bind_eq_some_iff.mp H
  obtain ⟨⟨t103, t104⟩, A40, H⟩ := H
  replace H : (some (wrap64 (a0_0 + (wrap64 (a2 * t103))), wrap64 (a0_1 + (wrap64 (a2 * t104))))) = some (r1, r2) := H
  have A4 := Aside0.mk A40
  clear A40
  simp only [Option.some.injEq, Prod.mk.injEq] at H
  obtain ⟨rfl, rfl⟩ := H
  go_enter Try.func78, Try.ntmps78
  go_wp2_with (first | ((with_reducible refine gate_dst (N := 3) rfl ?_); refine box_event ?hg (N := 3) ?hd (cs := #[.int .i64 a0_0, .int .i64 a0_1]) (t := 24) ?hr ?_; (case hd => rfl); (case hg => rfl); (case hr => first | (go_simp; done) | (go_simp; rfl)); intro gb101 hg w5 hbox hb; have n0_ := Aside0.mk (below_step (by repeat (first | (with_reducible first | exact HB.out | apply below_alloc | apply pw_below_drewN | apply below_drew1) | exact HB.out)) hb); have n1_ := Aside0.mk (hbox); have n2_ := Aside0.mk ((by rw [hg]; exact (below_size (by repeat (first | (with_reducible first | exact HB.out | apply below_alloc | apply pw_below_drewN | apply below_drew1) | exact HB.out))) : w.heap.size ≤ gb101)); have n3_ := Aside0.mk ((by rw [hg]; exact (below_size (by repeat (first | (with_reducible first | exact HB.out | apply below_alloc | apply pw_below_drewN | apply below_drew1) | exact HB.out))) : w.heap.size ≤ gb101)); clear HB; have HB := n0_; have BK101 := n1_; have GW101 := n2_; have GE101 := n3_; clear n0_ n1_ n2_ n3_; clear hb hbox hg) | ((with_reducible refine gate_dst (N := 6) rfl ?_); refine box_event ?hg (N := 6) ?hd (cs := #[.int .i64 0, .int .i64 0]) (t := 24) ?hr ?_; (case hd => rfl); (case hg => rfl); (case hr => first | (go_simp; done) | (go_simp; rfl)); intro gb102 hg w6 hbox hb; have n0_ := Aside0.mk (blk_below (g := gb101) (o := .cells #[.int .i64 a0_0, .int .i64 a0_1] 24 (0, 0)) (by (with_reducible repeat (first | refine blk_drewN ?_ _ | refine blk_drew ?_ | refine blk_alloc ?_ _)); exact BK101.out) hb); have n1_ := Aside0.mk (below_step (by repeat (first | (with_reducible first | exact HB.out | apply below_alloc | apply pw_below_drewN | apply below_drew1 | refine below_set ?_ GE101.out) | exact HB.out)) hb); have n2_ := Aside0.mk (hbox); have n3_ := Aside0.mk ((by rw [hg]; exact (below_size (by repeat (first | (with_reducible first | exact HB.out | apply below_alloc | apply pw_below_drewN | apply below_drew1 | refine below_set ?_ GE101.out) | exact HB.out))) : w.heap.size ≤ gb102)); have n4_ := Aside0.mk ((by rw [hg]; exact (below_size (by repeat (first | (with_reducible first | exact HB.out | apply below_alloc | apply pw_below_drewN | apply below_drew1 | refine below_set ?_ GE101.out) | exact HB.out))) : w.heap.size ≤ gb102)); have n5_ := Aside0.mk ((by rw [hg]; exact Nat.ne_of_lt (blk_lt (g := gb101) (o := .cells #[.int .i64 a0_0, .int .i64 a0_1] 24 (0, 0)) (by (with_reducible repeat (first | refine blk_drewN ?_ _ | refine blk_drew ?_ | refine blk_alloc ?_ _)); exact BK101.out)) : gb101 ≠ gb102)); have n6_ := Aside0.mk ((by rw [hg]; exact Nat.ne_of_gt (blk_lt (g := gb101) (o := .cells #[.int .i64 a0_0, .int .i64 a0_1] 24 (0, 0)) (by (with_reducible repeat (first | refine blk_drewN ?_ _ | refine blk_drew ?_ | refine blk_alloc ?_ _)); exact BK101.out)) : gb102 ≠ gb101)); clear BK101; clear HB; have BK101 := n0_; have HB := n1_; have BK102 := n2_; have GW102 := n3_; have GE102 := n4_; have NB101_102 := n5_; have NB102_101 := n6_; clear n0_ n1_ n2_ n3_ n4_ n5_ n6_; clear hb hbox hg) | ((with_reducible refine gate_callee (f := 88) rfl ?_); refine goesL_ (some 10) rfl rfl Try.func88 (by kernel_rfl) rfl #[.agg #[.int .i64 1, .int .i64 0], .int .i64 a1] rfl (by (try simp only [List.map_toArray, List.map_cons, List.map_nil]); first | done | rfl | (simp only [List.length_drop, List.length_take]; rfl)) ?_; (with_reducible refine (tallymanref03_Turn.calls 1 0 a1 t103 t104 _ A4.out).mono ?_); rintro e w7 ⟨rfl, hb⟩; refine ⟨_, rfl, ?_⟩; have n0_ := Aside0.mk (blk_below (g := gb101) (o := .cells #[.int .i64 a0_0, .int .i64 a0_1] 24 (0, 0)) (by (with_reducible repeat (first | refine blk_drewN ?_ _ | refine blk_drew ?_ | refine blk_alloc ?_ _)); exact BK101.out) hb); have n1_ := Aside0.mk (blk_below (g := gb102) (o := .cells #[.int .i64 0, .int .i64 0] 24 (0, 0)) (by (with_reducible repeat (first | refine blk_drewN ?_ _ | refine blk_drew ?_ | refine blk_alloc ?_ _)); exact BK102.out) hb); have n2_ := Aside0.mk (below_step (by repeat (first | (with_reducible first | exact HB.out | apply below_alloc | apply pw_below_drewN | apply below_drew1 | refine below_set ?_ GE101.out | refine below_set ?_ GE102.out) | exact HB.out)) hb); clear BK101; clear BK102; clear HB; have BK101 := n0_; have BK102 := n1_; have HB := n2_; clear n0_ n1_ n2_; (try clear hb); (try clear hb2); (try clear hk); (try clear hi)) | ((with_reducible refine gate_dst (N := 7) rfl ?_); refine box_event ?hg (N := 7) ?hd (cs := #[.int .i64 0, .int .i64 0]) (t := 24) ?hr ?_; (case hd => rfl); (case hg => rfl); (case hr => first | (go_simp; done) | (go_simp; rfl)); intro gb105 hg w8 hbox hb; have n0_ := Aside0.mk (blk_below (g := gb101) (o := .cells #[.int .i64 a0_0, .int .i64 a0_1] 24 (0, 0)) (by (with_reducible repeat (first | refine blk_drewN ?_ _ | refine blk_drew ?_ | refine blk_alloc ?_ _)); exact BK101.out) hb); have n1_ := Aside0.mk (blk_below (g := gb102) (o := .cells #[.int .i64 0, .int .i64 0] 24 (0, 0)) (by (with_reducible repeat (first | refine blk_drewN ?_ _ | refine blk_drew ?_ | refine blk_alloc ?_ _)); exact BK102.out) hb); have n2_ := Aside0.mk (below_step (by repeat (first | (with_reducible first | exact HB.out | apply below_alloc | apply pw_below_drewN | apply below_drew1 | refine below_set ?_ GE101.out | refine below_set ?_ GE102.out) | exact HB.out)) hb); have n3_ := Aside0.mk (hbox); have n4_ := Aside0.mk ((by rw [hg]; exact (below_size (by repeat (first | (with_reducible first | exact HB.out | apply below_alloc | apply pw_below_drewN | apply below_drew1 | refine below_set ?_ GE101.out | refine below_set ?_ GE102.out) | exact HB.out))) : w.heap.size ≤ gb105)); have n5_ := Aside0.mk ((by rw [hg]; exact (below_size (by repeat (first | (with_reducible first | exact HB.out | apply below_alloc | apply pw_below_drewN | apply below_drew1 | refine below_set ?_ GE101.out | refine below_set ?_ GE102.out) | exact HB.out))) : w.heap.size ≤ gb105)); have n6_ := Aside0.mk ((by rw [hg]; exact Nat.ne_of_lt (blk_lt (g := gb101) (o := .cells #[.int .i64 a0_0, .int .i64 a0_1] 24 (0, 0)) (by (with_reducible repeat (first | refine blk_drewN ?_ _ | refine blk_drew ?_ | refine blk_alloc ?_ _)); exact BK101.out)) : gb101 ≠ gb105)); have n7_ := Aside0.mk ((by rw [hg]; exact Nat.ne_of_gt (blk_lt (g := gb101) (o := .cells #[.int .i64 a0_0, .int .i64 a0_1] 24 (0, 0)) (by (with_reducible repeat (first | refine blk_drewN ?_ _ | refine blk_drew ?_ | refine blk_alloc ?_ _)); exact BK101.out)) : gb105 ≠ gb101)); have n8_ := Aside0.mk ((by rw [hg]; exact Nat.ne_of_lt (blk_lt (g := gb102) (o := .cells #[.int .i64 0, .int .i64 0] 24 (0, 0)) (by (with_reducible repeat (first | refine blk_drewN ?_ _ | refine blk_drew ?_ | refine blk_alloc ?_ _)); exact BK102.out)) : gb102 ≠ gb105)); have n9_ := Aside0.mk ((by rw [hg]; exact Nat.ne_of_gt (blk_lt (g := gb102) (o := .cells #[.int .i64 0, .int .i64 0] 24 (0, 0)) (by (with_reducible repeat (first | refine blk_drewN ?_ _ | refine blk_drew ?_ | refine blk_alloc ?_ _)); exact BK102.out)) : gb105 ≠ gb102)); clear BK101; clear BK102; clear HB; have BK101 := n0_; have BK102 := n1_; have HB := n2_; have BK105 := n3_; have GW105 := n4_; have GE105 := n5_; have NB101_105 := n6_; have NB105_101 := n7_; have NB102_105 := n8_; have NB105_102 := n9_; clear n0_ n1_ n2_ n3_ n4_ n5_ n6_ n7_ n8_ n9_; clear hb hbox hg; have hnb9 := NB105_101.out; have hnc9 := NB101_105.out; have hnb10 := NB105_102.out; have hnc10 := NB102_105.out; have hcz11_0 : w8.cell? ⟨gb105, 0, none⟩ = some (.int .i64 0) := (blk_cell BK105.out 0).trans rfl; have hcz11_1 : w8.cell? ⟨gb105, 1, none⟩ = some (.int .i64 0) := (blk_cell BK105.out 1).trans rfl; have hfz11_0 := blk_frozen BK105.out 0; have hfz11_1 := blk_frozen BK105.out 1; have hnb12 := NB101_102.out; have hnc12 := NB102_101.out; have hcz13_0 : w8.cell? ⟨gb101, 0, none⟩ = some (.int .i64 a0_0) := (blk_cell BK101.out 0).trans rfl; have hcz13_1 : w8.cell? ⟨gb101, 1, none⟩ = some (.int .i64 a0_1) := (blk_cell BK101.out 1).trans rfl; have hfz13_0 := blk_frozen BK101.out 0; have hfz13_1 := blk_frozen BK101.out 1; have hcz14_0 : w8.cell? ⟨gb102, 0, none⟩ = some (.int .i64 0) := (blk_cell BK102.out 0).trans rfl; have hcz14_1 : w8.cell? ⟨gb102, 1, none⟩ = some (.int .i64 0) := (blk_cell BK102.out 1).trans rfl; have hfz14_0 := blk_frozen BK102.out 0; have hfz14_1 := blk_frozen BK102.out 1))
  refine bodyPost_ret (results_cell_row rfl _ _ gb102 24 #[.int .i64 (wrap64 (a0_0 + (wrap64 (a2 * t103)))), .int .i64 (wrap64 (a0_1 + (wrap64 (a2 * t104))))] (0, 0) _ rfl (by (with_reducible repeat (first | refine blk_drewN ?_ _ | refine blk_drew ?_ | refine blk_alloc ?_ _)); refine blk_put (cs := #[.int .i64 (wrap64 (a0_0 + (wrap64 (a2 * t103)))), .int .i64 0]) ?_ 1 _ rfl; (with_reducible repeat (first | refine blk_drewN ?_ _ | refine blk_drew ?_ | refine blk_alloc ?_ _)); refine blk_put (cs := #[.int .i64 0, .int .i64 0]) ?_ 0 _ rfl; (with_reducible repeat (first | refine blk_drewN ?_ _ | refine blk_drew ?_ | refine blk_alloc ?_ _)); refine blk_far ?_ NB102_105.out _; (with_reducible repeat (first | refine blk_drewN ?_ _ | refine blk_drew ?_ | refine blk_alloc ?_ _)); refine blk_far ?_ NB102_105.out _; (with_reducible repeat (first | refine blk_drewN ?_ _ | refine blk_drew ?_ | refine blk_alloc ?_ _)); exact BK102.out) Try.underlying24 rfl (by kernel_rfl)) rfl ?_
  exact ⟨by first | rfl | ((repeat first | rw [Int.tdiv_eq_ediv_of_nonneg (by omega)] | rw [Int.tmod_eq_emod_of_nonneg (by omega)]); rfl) | (simp [errW_none, errW_some] <;> rfl) | (simp [*, errW_none, errW_some] <;> rfl), by repeat (first | (with_reducible first | exact HB.out | apply below_alloc | apply pw_below_drewN | apply below_drew1 | refine below_set ?_ GE101.out | refine below_set ?_ GE102.out | refine below_set ?_ GE105.out) | exact HB.out)⟩
end Go.Proofs.Ytpoghhcpoimepaa.P
end
section
-- printed by the session's own call of print.py. Not trusted: Lean checks it.
namespace Go.Proofs.Ytpoghhcpoimepaa.P
open Go.RowKit Go.Proofs.YtpoghhcpoimepaaW.PrintWords Go.Proofs.YtpoghhcpoimepaaW.PrintLast Go.Proofs.YtpoghhcpoimepaaW.PrintMore
attribute [local go_sem] max2_int min2_int max_two min_two max_three min_three max_four min_four
set_option linter.unusedVariables false
set_option linter.unusedSimpArgs false
/-! ### tallymanref05_Trace: function 42 -/
mutual
def tallymanref05_Trace.l0 : Nat → List (S56) → Int → Int → Option ((List (S24)) × Int)
  | 0, _, _, _ => none
  | k + 1, x0, x4, x5 => if x5 < (x0.length : Int) then (if 0 ≤ x5 then (if ((rd_T56 x0 x5).f0) = 1 then (tallymanref05_Trace.j1 k x0 x4 x5 true) else (tallymanref05_Trace.j1 k x0 x4 x5 (((rd_T56 x0 x5).f0) == 2))) else (none)) else (tallymanref05_Trace.l1 k x0 (([(⟨0, 0⟩ : S24)] : List (S24))) 0 0 0 0)
def tallymanref05_Trace.j1 : Nat → List (S56) → Int → Int → Bool → Option ((List (S24)) × Int)
  | 0, _, _, _, _ => none
  | k + 1, x0, x4, x5, x31 => if x31 = true then (if 0 ≤ x5 then (if x5 < (x0.length : Int) then ((tallymanref05_count.f ((rd_T56 x0 x5).f0) ((rd_T56 x0 x5).f1)).bind fun t104 => (if (wrap64 (x4 + t104)) > 10000 then (some (([] : List (S24)), 15)) else (tallymanref05_Trace.l0 k x0 (wrap64 (x4 + t104)) (wrap64 (x5 + 1))))) else (none)) else (none)) else (if x4 > 10000 then (some (([] : List (S24)), 15)) else (tallymanref05_Trace.l0 k x0 x4 (wrap64 (x5 + 1))))
def tallymanref05_Trace.l1 : Nat → List (S56) → List (S24) → Int → Int → Int → Int → Option ((List (S24)) × Int)
  | 0, _, _, _, _, _, _ => none
  | k + 1, x0, x6, x8, x9, x109000, x109001 => if x9 < (x0.length : Int) then (if 0 ≤ x9 then ((tallymanref05_count.f ((rd_T56 x0 x9).f0) ((rd_T56 x0 x9).f1)).bind fun t110 => (if ((rd_T56 x0 x9).f0) = 3 then (tallymanref05_Trace.l1 k x0 x6 (Int.tmod (wrap64 (x8 + t110)) 4) (wrap64 (x9 + 1)) x109000 x109001) else (if ((rd_T56 x0 x9).f0) = 4 then (tallymanref05_Trace.l1 k x0 x6 (Int.tmod (wrap64 (x8 + (wrap64 (3 * t110)))) 4) (wrap64 (x9 + 1)) x109000 x109001) else (if ((rd_T56 x0 x9).f0) = 1 then (tallymanref05_Trace.j3 k x0 x6 x8 x9 t110 (((rd_T56 x0 x9).f0) == 1) x109000 x109001) else (tallymanref05_Trace.j3 k x0 x6 x8 x9 t110 (((rd_T56 x0 x9).f0) == 2) x109000 x109001))))) else (none)) else (some (x6, 0))
def tallymanref05_Trace.j3 : Nat → List (S56) → List (S24) → Int → Int → Int → Bool → Int → Int → Option ((List (S24)) × Int)
  | 0, _, _, _, _, _, _, _, _ => none
  | k + 1, x0, x6, x8, x9, x10, x73, x109000, x109001 => if x73 = true then (tallymanref05_Trace.l2 k x0 x6 x8 x9 x10 0 x109000 x109001) else (tallymanref05_Trace.l1 k x0 x6 x8 (wrap64 (x9 + 1)) x109000 x109001)
def tallymanref05_Trace.l2 : Nat → List (S56) → List (S24) → Int → Int → Int → Int → Int → Int → Option ((List (S24)) × Int)
  | 0, _, _, _, _, _, _, _, _ => none
  | k + 1, x0, x6, x8, x9, x10, x11, x109000, x109001 => if x11 < x10 then (if 0 ≤ x9 then (if x9 < (x0.length : Int) then ((tallymanref05_step.f x109000 x109001 x8 (wrap64 (3 - (wrap64 (2 * ((rd_T56 x0 x9).f0)))))).bind fun bt113 => (if x6.length < 8796093022208 then (tallymanref05_Trace.l2 k x0 (x6 ++ [(⟨bt113.1, bt113.2⟩ : S24)]) x8 x9 x10 (wrap64 (x11 + 1)) bt113.1 bt113.2) else (none))) else (none)) else (none)) else (tallymanref05_Trace.l1 k x0 x6 x8 (wrap64 (x9 + 1)) x109000 x109001)
end
def tallymanref05_Trace.f (k : Nat) (l0 : List (S56)) : Option ((List (S24)) × Int) := tallymanref05_Trace.l0 k l0 0 0
theorem tallymanref05_Trace.mono_l : ∀ k, (∀ y0 y1 y2, LeO (tallymanref05_Trace.l0 k y0 y1 y2) (tallymanref05_Trace.l0 (k + 1) y0 y1 y2)) ∧ (∀ y0 y1 y2 y3, LeO (tallymanref05_Trace.j1 k y0 y1 y2 y3) (tallymanref05_Trace.j1 (k + 1) y0 y1 y2 y3)) ∧ (∀ y0 y1 y2 y3 y4 y5, LeO (tallymanref05_Trace.l1 k y0 y1 y2 y3 y4 y5) (tallymanref05_Trace.l1 (k + 1) y0 y1 y2 y3 y4 y5)) ∧ (∀ y0 y1 y2 y3 y4 y5 y6 y7, LeO (tallymanref05_Trace.j3 k y0 y1 y2 y3 y4 y5 y6 y7) (tallymanref05_Trace.j3 (k + 1) y0 y1 y2 y3 y4 y5 y6 y7)) ∧ (∀ y0 y1 y2 y3 y4 y5 y6 y7, LeO (tallymanref05_Trace.l2 k y0 y1 y2 y3 y4 y5 y6 y7) (tallymanref05_Trace.l2 (k + 1) y0 y1 y2 y3 y4 y5 y6 y7))
  | 0 => ⟨fun _ _ _ r h => by simp [tallymanref05_Trace.l0] at h, fun _ _ _ _ r h => by simp [tallymanref05_Trace.j1] at h, fun _ _ _ _ _ _ r h => by simp [tallymanref05_Trace.l1] at h, fun _ _ _ _ _ _ _ _ r h => by simp [tallymanref05_Trace.j3] at h, fun _ _ _ _ _ _ _ _ r h => by simp [tallymanref05_Trace.l2] at h⟩
  | k + 1 => by
    obtain ⟨ih0, ih1, ih2, ih3, ih4⟩ := tallymanref05_Trace.mono_l k
    refine ⟨?_, ?_, ?_, ?_, ?_⟩
    · intro y0 y1 y2
      unfold tallymanref05_Trace.l0
      repeat' first
      | (with_reducible exact ih0 _ _ _)
      | (with_reducible exact ih1 _ _ _ _)
      | (with_reducible exact ih2 _ _ _ _ _ _)
      | (with_reducible exact ih3 _ _ _ _ _ _ _ _)
      | (with_reducible exact ih4 _ _ _ _ _ _ _ _)
      | (with_reducible exact LeO.refl _)
      | (with_reducible exact LeO.none _)
      | (with_reducible refine LeO.ite ?_ ?_)
      | (with_reducible refine LeO.bind ?_ (fun _ => ?_))
      | exact ih0 _ _ _
      | exact ih1 _ _ _ _
      | exact ih2 _ _ _ _ _ _
      | exact ih3 _ _ _ _ _ _ _ _
      | exact ih4 _ _ _ _ _ _ _ _
      | exact LeO.none _
      | refine LeO.ite ?_ ?_
      | refine LeO.bind ?_ (fun _ => ?_)
    · intro y0 y1 y2 y3
      unfold tallymanref05_Trace.j1
      repeat' first
      | (with_reducible exact ih0 _ _ _)
      | (with_reducible exact ih1 _ _ _ _)
      | (with_reducible exact ih2 _ _ _ _ _ _)
      | (with_reducible exact ih3 _ _ _ _ _ _ _ _)
      | (with_reducible exact ih4 _ _ _ _ _ _ _ _)
      | (with_reducible exact LeO.refl _)
      | (with_reducible exact LeO.none _)
      | (with_reducible refine LeO.ite ?_ ?_)
      | (with_reducible refine LeO.bind ?_ (fun _ => ?_))
      | exact ih0 _ _ _
      | exact ih1 _ _ _ _
      | exact ih2 _ _ _ _ _ _
      | exact ih3 _ _ _ _ _ _ _ _
      | exact ih4 _ _ _ _ _ _ _ _
      | exact LeO.none _
      | refine LeO.ite ?_ ?_
      | refine LeO.bind ?_ (fun _ => ?_)
    · intro y0 y1 y2 y3 y4 y5
      unfold tallymanref05_Trace.l1
      repeat' first
      | (with_reducible exact ih0 _ _ _)
      | (with_reducible exact ih1 _ _ _ _)
      | (with_reducible exact ih2 _ _ _ _ _ _)
      | (with_reducible exact ih3 _ _ _ _ _ _ _ _)
      | (with_reducible exact ih4 _ _ _ _ _ _ _ _)
      | (with_reducible exact LeO.refl _)
      | (with_reducible exact LeO.none _)
      | (with_reducible refine LeO.ite ?_ ?_)
      | (with_reducible refine LeO.bind ?_ (fun _ => ?_))
      | exact ih0 _ _ _
      | exact ih1 _ _ _ _
      | exact ih2 _ _ _ _ _ _
      | exact ih3 _ _ _ _ _ _ _ _
      | exact ih4 _ _ _ _ _ _ _ _
      | exact LeO.none _
      | refine LeO.ite ?_ ?_
      | refine LeO.bind ?_ (fun _ => ?_)
    · intro y0 y1 y2 y3 y4 y5 y6 y7
      unfold tallymanref05_Trace.j3
      repeat' first
      | (with_reducible exact ih0 _ _ _)
      | (with_reducible exact ih1 _ _ _ _)
      | (with_reducible exact ih2 _ _ _ _ _ _)
      | (with_reducible exact ih3 _ _ _ _ _ _ _ _)
      | (with_reducible exact ih4 _ _ _ _ _ _ _ _)
      | (with_reducible exact LeO.refl _)
      | (with_reducible exact LeO.none _)
      | (with_reducible refine LeO.ite ?_ ?_)
      | (with_reducible refine LeO.bind ?_ (fun _ => ?_))
      | exact ih0 _ _ _
      | exact ih1 _ _ _ _
      | exact ih2 _ _ _ _ _ _
      | exact ih3 _ _ _ _ _ _ _ _
      | exact ih4 _ _ _ _ _ _ _ _
      | exact LeO.none _
      | refine LeO.ite ?_ ?_
      | refine LeO.bind ?_ (fun _ => ?_)
    · intro y0 y1 y2 y3 y4 y5 y6 y7
      unfold tallymanref05_Trace.l2
      repeat' first
      | (with_reducible exact ih0 _ _ _)
      | (with_reducible exact ih1 _ _ _ _)
      | (with_reducible exact ih2 _ _ _ _ _ _)
      | (with_reducible exact ih3 _ _ _ _ _ _ _ _)
      | (with_reducible exact ih4 _ _ _ _ _ _ _ _)
      | (with_reducible exact LeO.refl _)
      | (with_reducible exact LeO.none _)
      | (with_reducible refine LeO.ite ?_ ?_)
      | (with_reducible refine LeO.bind ?_ (fun _ => ?_))
      | exact ih0 _ _ _
      | exact ih1 _ _ _ _
      | exact ih2 _ _ _ _ _ _
      | exact ih3 _ _ _ _ _ _ _ _
      | exact ih4 _ _ _ _ _ _ _ _
      | exact LeO.none _
      | refine LeO.ite ?_ ?_
      | refine LeO.bind ?_ (fun _ => ?_)
theorem tallymanref05_Trace.mono : ∀ a0 k, LeO (tallymanref05_Trace.f k a0) (tallymanref05_Trace.f (k + 1) a0) := by
  intro a0 k
  obtain ⟨ih0, ih1, ih2, ih3, ih4⟩ := tallymanref05_Trace.mono_l k
  unfold tallymanref05_Trace.f
  repeat' first
      | (with_reducible exact ih0 _ _ _)
      | (with_reducible exact ih1 _ _ _ _)
      | (with_reducible exact ih2 _ _ _ _ _ _)
      | (with_reducible exact ih3 _ _ _ _ _ _ _ _)
      | (with_reducible exact ih4 _ _ _ _ _ _ _ _)
      | (with_reducible exact LeO.refl _)
      | (with_reducible exact LeO.none _)
      | (with_reducible refine LeO.ite ?_ ?_)
      | (with_reducible refine LeO.bind ?_ (fun _ => ?_))
      | exact ih0 _ _ _
      | exact ih1 _ _ _ _
      | exact ih2 _ _ _ _ _ _
      | exact ih3 _ _ _ _ _ _ _ _
      | exact ih4 _ _ _ _ _ _ _ _
      | exact LeO.none _
      | refine LeO.ite ?_ ?_
      | refine LeO.bind ?_ (fun _ => ?_)
def tallymanref05_Trace.T25 : Bool × List (List Nat × List Nat) := (true, [([], []), ([], []), ([], []), ([], []), ([2, 3], [2, 3]), ([4], [4]), ([5], [5]), ([6], [6]), ([7], [7]), ([0, 1, 8], [0, 1, 8]), ([9, 9, 0, 1, 2, 3, 4, 5, 6, 7, 8, 9], [9])])
def tallymanref05_Trace.B25 : List Nat := [0, 0, 0, 0, 12, 28, 60, 124, 252, 511, 1023]
theorem tallymanref05_Trace.tab25 : rtab .any (opsOf Try.f42 25) = tallymanref05_Trace.T25 := by kernel_rfl
theorem tallymanref05_Trace.bits25 : waitsOk tallymanref05_Trace.T25.2 tallymanref05_Trace.B25 = true := by kernel_rfl
set_option maxHeartbeats 8000000 in
set_option maxRecDepth 100000 in
theorem tallymanref05_Trace.calls (k : Nat) (A0 : Option Addr) (c0 : Nat) (l0 : List (S56)) (r1 : List (S24)) (r2 : Int) (w : World) (hr0 : Kd.C k56 w A0 l0.length l0) (hc0 : l0.length ≤ c0) (h : tallymanref05_Trace.f k l0 = some (r1, r2)) :
    Calls Try.prog 42 #[.slice A0 l0.length c0] w fun e w' => ∃ v0_ : Value, e = .returned (.tuple #[v0_, .int .i64 r2]) ∧ Kd.R k24 24 w' w.heap.size (fun _ => True) v0_ r1 ∧ Below w.heap.size w w' := by
  have hu56 := Try.underlying56
  have hu24 := Try.underlying24
  have HR0 := Aside0.mk hr0
  have HC0 := Aside0.mk hc0
  clear hr0 hc0
  have HB := Aside0.mk (Below.refl w.heap.size w)
  have H : (tallymanref05_Trace.l0 k l0 0 0) = some (r1, r2) := h
  clear h
  have H' := Aside0.mk H
  clear H
  go_enter Try.func42, Try.ntmps42
  go_wp2
  go_loopg [4, 5] k (fun kq v4 v5 w' => ∃ (x4_1 : Int) (x5_1 : Int), v4 = .int .i64 x4_1 ∧ v5 = .int .i64 x5_1 ∧ Aside0 (tallymanref05_Trace.l0 kq l0 x4_1 x5_1 = some (r1, r2)) ∧ Aside0 (kq ≤ k) ∧ Aside0 (Below w.heap.size w w'))
  case atStart => exact ⟨(0), (0), (by first | rfl | (simp; done) | (simp [*]; done)), (by first | rfl | (simp; done) | (simp [*]; done)), H', ⟨Nat.le_refl _⟩, ⟨by repeat (first | (with_reducible first | exact HB.out | apply below_alloc | apply pw_below_drewN | apply below_drew1) | exact HB.out)⟩⟩
  case round =>
    clear H'
    obtain ⟨x4_1, x5_1, rfl, rfl, HA, HK1, HB⟩ := hrel
    cases gk with
    | zero => exact absurd HA.out (by simp [tallymanref05_Trace.l0])
    | succ k1 =>
      have H := HA.out
      clear HA
      simp only [tallymanref05_Trace.l0] at H
      by_cases c2 : x5_1 < (l0.length : Int)
      · rw [if_pos c2] at H
        have c2b0 : decide (x5_1 < (l0.length : Int)) = true := decide_eq_true c2
        clear c2
        have HC3 := Aside0.mk H
        clear H
        go_upto_region 5 with (fail)
        go_cut [31] (fun v31 wc => ∃ (kq : Nat) (x31_2 : Bool), v31 = .bool x31_2 ∧ Aside0 (tallymanref05_Trace.j1 kq l0 x4_1 x5_1 x31_2 = some (r1, r2)) ∧ Aside0 (kq ≤ k1) ∧ Aside0 (Below w.heap.size w wc))
        case first =>
          have H := HC3.out
          clear HC3
          by_cases c4 : 0 ≤ x5_1
          · rw [if_pos c4] at H
            have c4b0 : decide (0 ≤ x5_1) = true := decide_eq_true c4
            clear c4
            (first | rw [c4b0] | (simp only [i64_w, i32_w]; rw [c4b0]) | skip)
            by_cases c5 : ((rd_T56 l0 x5_1).f0) = 1
            · rw [if_pos c5] at H
              have c5b0 : (((rd_T56 l0 x5_1).f0) == 1) = true := beq_iff_eq.mpr c5
              have c5b1 : (((rd_T56 l0 x5_1).f0) != 1) = false := bne_eq_false_iff_eq.mpr c5
              clear c5
              have H' := Aside0.mk H
              clear H
              have p101 : 0 ≤ (x5_1 : Int) := of_decide_eq_true (by first | (with_reducible assumption) | assumption)
              have q101 : x5_1 < (l0.length : Int) := of_decide_eq_true (by first | (with_reducible assumption) | assumption)
              obtain ⟨ad101, e101, hx101_0, hx101_1⟩ := at_T56 HR0.out x5_1 p101 q101
              cases e101
              replace hx101_0 := (HB.out.cell (World.block_lt_of_cell? w _ hx101_0)).trans hx101_0
              replace hx101_1 := (HB.out.cell (World.block_lt_of_cell? w _ hx101_1)).trans hx101_1
              replace p101 := eq_true p101
              replace q101 := eq_true q101
              go_wp2
              go_meet
              case rel => exact ⟨_, (true), (by first | rfl | (simp; done) | (simp [*]; done)), H', ⟨by have := HK1.out; first | omega | exact Nat.le_refl _⟩, ⟨by repeat (first | (with_reducible first | exact HB.out | apply below_alloc | apply pw_below_drewN | apply below_drew1) | exact HB.out)⟩⟩
            · rw [if_neg c5] at H
              have c5b0 : (((rd_T56 l0 x5_1).f0) == 1) = false := beq_eq_false_iff_ne.mpr c5
              have c5b1 : (((rd_T56 l0 x5_1).f0) != 1) = true := bne_iff_ne.mpr c5
              have H' := Aside0.mk H
              clear H
              have p101 : 0 ≤ (x5_1 : Int) := of_decide_eq_true (by first | (with_reducible assumption) | assumption)
              have q101 : x5_1 < (l0.length : Int) := of_decide_eq_true (by first | (with_reducible assumption) | assumption)
              obtain ⟨ad101, e101, hx101_0, hx101_1⟩ := at_T56 HR0.out x5_1 p101 q101
              cases e101
              replace hx101_0 := (HB.out.cell (World.block_lt_of_cell? w _ hx101_0)).trans hx101_0
              replace hx101_1 := (HB.out.cell (World.block_lt_of_cell? w _ hx101_1)).trans hx101_1
              replace p101 := eq_true p101
              replace q101 := eq_true q101
              have p102 : 0 ≤ (x5_1 : Int) := of_decide_eq_true (by first | (with_reducible assumption) | assumption)
              have q102 : x5_1 < (l0.length : Int) := of_decide_eq_true (by first | (with_reducible assumption) | assumption)
              obtain ⟨ad102, e102, hx102_0, hx102_1⟩ := at_T56 HR0.out x5_1 p102 q102
              obtain rfl : ad101 = ad102 := (by injection e102)
              replace hx102_0 := (HB.out.cell (World.block_lt_of_cell? w _ hx102_0)).trans hx102_0
              replace hx102_1 := (HB.out.cell (World.block_lt_of_cell? w _ hx102_1)).trans hx102_1
              replace p102 := eq_true p102
              replace q102 := eq_true q102
              go_wp2
              go_meet
              case rel => exact ⟨_, ((((rd_T56 l0 x5_1).f0) == 2)), (by first | rfl | (simp; done) | (simp [*]; done)), H', ⟨by have := HK1.out; first | omega | exact Nat.le_refl _⟩, ⟨by repeat (first | (with_reducible first | exact HB.out | apply below_alloc | apply pw_below_drewN | apply below_drew1) | exact HB.out)⟩⟩
          · rw [if_neg c4] at H
            exact absurd H (by simp)
        case rest =>
          clear HC3
          try clear p1
          try clear q1
          try clear hx1
          try clear c2
          try clear c2b0
          try clear p2
          try clear c4
          try clear c4b0
          try clear c5
          try clear c5b0
          try clear c5b1
          try clear hx101_0
          try clear hx101_1
          try clear hx102_0
          try clear hx102_1
          try clear p101
          try clear p102
          try clear q101
          try clear q102
          obtain ⟨kq, x31_2, rfl, HA, HJ2, HB⟩ := hcut
          cases kq with
          | zero => exact absurd HA.out (by simp [tallymanref05_Trace.j1])
          | succ kj2 =>
            have H := HA.out
            clear HA
            simp only [tallymanref05_Trace.j1] at H
            by_cases c6 : x31_2 = true
            · subst c6
              have H1 : (if 0 ≤ x5_1 then (if x5_1 < (l0.length : Int) then ((tallymanref05_count.f ((rd_T56 l0 x5_1).f0) ((rd_T56 l0 x5_1).f1)).bind fun t104 => (if (wrap64 (x4_1 + t104)) > 10000 then (some (([] : List (S24)), 15)) else (tallymanref05_Trace.l0 kj2 l0 (wrap64 (x4_1 + t104)) (wrap64 (x5_1 + 1))))) else (none)) else (none)) = some (r1, r2) := by rw [if_pos rfl] at H; exact H
              clear H
              have H := H1
              clear H1
              by_cases c7 : 0 ≤ x5_1
              · rw [if_pos c7] at H
                have c7b0 : decide (0 ≤ x5_1) = true := decide_eq_true c7
                clear c7
                by_cases c8 : x5_1 < (l0.length : Int)
                · rw [if_pos c8] at H
                  have c8b0 : decide (x5_1 < (l0.length : Int)) = true := decide_eq_true c8
                  clear c8
                  replace H := Option.bind_eq_some_iff.mp H
                  obtain ⟨t104, A90, H⟩ := H
                  replace H : (if (wrap64 (x4_1 + t104)) > 10000 then (some (([] : List (S24)), 15)) else (tallymanref05_Trace.l0 kj2 l0 (wrap64 (x4_1 + t104)) (wrap64 (x5_1 + 1)))) = some (r1, r2) := H
                  have A9 := Aside0.mk A90
                  clear A90
                  by_cases c10 : (wrap64 (x4_1 + t104)) > 10000
                  · rw [if_pos c10] at H
                    have c10b0 : decide (10000 < (wrap64 (x4_1 + t104))) = true := decide_eq_true c10
                    clear c10
                    simp only [Option.some.injEq, Prod.mk.injEq] at H
                    obtain ⟨rfl, rfl⟩ := H
                    have p103 : 0 ≤ (x5_1 : Int) := of_decide_eq_true (by first | (with_reducible assumption) | assumption)
                    have q103 : x5_1 < (l0.length : Int) := of_decide_eq_true (by first | (with_reducible assumption) | assumption)
                    obtain ⟨ad103, e103, hx103_0, hx103_1⟩ := at_T56 HR0.out x5_1 p103 q103
                    cases e103
                    replace hx103_0 := (HB.out.cell (World.block_lt_of_cell? w _ hx103_0)).trans hx103_0
                    replace hx103_1 := (HB.out.cell (World.block_lt_of_cell? w _ hx103_1)).trans hx103_1
                    replace p103 := eq_true p103
                    replace q103 := eq_true q103
                    go_wp2_with (first | ((with_reducible refine gate_callee (f := 65) rfl ?_); refine goesL_ (some 37) rfl rfl Try.func65 (by kernel_rfl) rfl #[.agg #[.int .i64 ((rd_T56 l0 x5_1).f0), .int .i64 ((rd_T56 l0 x5_1).f1)]] rfl (by (try simp only [List.map_toArray, List.map_cons, List.map_nil]); first | done | rfl | (simp only [List.length_drop, List.length_take]; rfl)) ?_; (with_reducible refine (tallymanref05_count.calls ((rd_T56 l0 x5_1).f0) ((rd_T56 l0 x5_1).f1) t104 _ A9.out).mono ?_); rintro e w11 ⟨rfl, hb⟩; refine ⟨_, rfl, ?_⟩; have n0_ := Aside0.mk (below_step (by repeat (first | (with_reducible first | exact HB.out | apply below_alloc | apply pw_below_drewN | apply below_drew1) | exact HB.out)) hb); clear HB; have HB := n0_; clear n0_; (try clear hb); (try clear hb2); (try clear hk); (try clear hi)))
                    go_ret2
                    exact ⟨_, by first | rfl | (simp [errW_none, errW_some] <;> rfl) | (simp [*, errW_none, errW_some] <;> rfl), by first | exact Kd.R_nil _ _ _ _ _ | exact Kd.N_nil _ _ _ _ _ | exact Kd.V_nil _ _ _ _ _ | exact Kd.Q_nil _ _ _ _ _ | exact Kd.S_nil _ _ _ _ _, by repeat (first | (with_reducible first | exact HB.out | apply below_alloc | apply pw_below_drewN | apply below_drew1) | exact HB.out)⟩
                  · rw [if_neg c10] at H
                    have c10b0 : decide (10000 < (wrap64 (x4_1 + t104))) = false := decide_eq_false c10
                    clear c10
                    have H' := Aside0.mk H
                    clear H
                    have p103 : 0 ≤ (x5_1 : Int) := of_decide_eq_true (by first | (with_reducible assumption) | assumption)
                    have q103 : x5_1 < (l0.length : Int) := of_decide_eq_true (by first | (with_reducible assumption) | assumption)
                    obtain ⟨ad103, e103, hx103_0, hx103_1⟩ := at_T56 HR0.out x5_1 p103 q103
                    cases e103
                    replace hx103_0 := (HB.out.cell (World.block_lt_of_cell? w _ hx103_0)).trans hx103_0
                    replace hx103_1 := (HB.out.cell (World.block_lt_of_cell? w _ hx103_1)).trans hx103_1
                    replace p103 := eq_true p103
                    replace q103 := eq_true q103
                    go_wp2_with (first | ((with_reducible refine gate_callee (f := 65) rfl ?_); refine goesL_ (some 37) rfl rfl Try.func65 (by kernel_rfl) rfl #[.agg #[.int .i64 ((rd_T56 l0 x5_1).f0), .int .i64 ((rd_T56 l0 x5_1).f1)]] rfl (by (try simp only [List.map_toArray, List.map_cons, List.map_nil]); first | done | rfl | (simp only [List.length_drop, List.length_take]; rfl)) ?_; (with_reducible refine (tallymanref05_count.calls ((rd_T56 l0 x5_1).f0) ((rd_T56 l0 x5_1).f1) t104 _ A9.out).mono ?_); rintro e w12 ⟨rfl, hb⟩; refine ⟨_, rfl, ?_⟩; have n0_ := Aside0.mk (below_step (by repeat (first | (with_reducible first | exact HB.out | apply below_alloc | apply pw_below_drewN | apply below_drew1) | exact HB.out)) hb); clear HB; have HB := n0_; clear n0_; (try clear hb); (try clear hb2); (try clear hk); (try clear hi)))
                    go_roundg kj2
                    case measure => have := HK1.out; have := HJ2.out; omega
                    case rel => exact ⟨(wrap64 (x4_1 + t104)), (wrap64 (x5_1 + 1)), (by first | rfl | (simp; done) | (simp [*]; done)), (by first | rfl | (simp; done) | (simp [*]; done)), H', ⟨by have := HK1.out; have := HJ2.out; omega⟩, ⟨by repeat (first | (with_reducible first | exact HB.out | apply below_alloc | apply pw_below_drewN | apply below_drew1) | exact HB.out)⟩⟩
                · rw [if_neg c8] at H
                  exact absurd H (by simp)
              · rw [if_neg c7] at H
                exact absurd H (by simp)
            · replace c6 := Bool.eq_false_iff.mpr c6
              subst c6
              have H1 : (if x4_1 > 10000 then (some (([] : List (S24)), 15)) else (tallymanref05_Trace.l0 kj2 l0 x4_1 (wrap64 (x5_1 + 1)))) = some (r1, r2) := by rw [if_neg (show ¬ (false = true) by decide)] at H; exact H
              clear H
              have H := H1
              clear H1
              by_cases c13 : x4_1 > 10000
              · rw [if_pos c13] at H
                have c13b0 : decide (10000 < x4_1) = true := decide_eq_true c13
                clear c13
                simp only [Option.some.injEq, Prod.mk.injEq] at H
                obtain ⟨rfl, rfl⟩ := H
                go_wp2
                go_ret2
                exact ⟨_, by first | rfl | (simp [errW_none, errW_some] <;> rfl) | (simp [*, errW_none, errW_some] <;> rfl), by first | exact Kd.R_nil _ _ _ _ _ | exact Kd.N_nil _ _ _ _ _ | exact Kd.V_nil _ _ _ _ _ | exact Kd.Q_nil _ _ _ _ _ | exact Kd.S_nil _ _ _ _ _, by repeat (first | (with_reducible first | exact HB.out | apply below_alloc | apply pw_below_drewN | apply below_drew1) | exact HB.out)⟩
              · rw [if_neg c13] at H
                have c13b0 : decide (10000 < x4_1) = false := decide_eq_false c13
                clear c13
                have H' := Aside0.mk H
                clear H
                go_wp2
                go_roundg kj2
                case measure => have := HK1.out; have := HJ2.out; omega
                case rel => exact ⟨(x4_1), (wrap64 (x5_1 + 1)), (by first | rfl | (simp; done) | (simp [*]; done)), (by first | rfl | (simp; done) | (simp [*]; done)), H', ⟨by have := HK1.out; have := HJ2.out; omega⟩, ⟨by repeat (first | (with_reducible first | exact HB.out | apply below_alloc | apply pw_below_drewN | apply below_drew1) | exact HB.out)⟩⟩
      · rw [if_neg c2] at H
        have c2b0 : decide (x5_1 < (l0.length : Int)) = false := decide_eq_false c2
        clear c2
        obtain ⟨y105, hy105⟩ : ∃ y_ : List (S24), y_ = (([(⟨0, 0⟩ : S24)] : List (S24))) := ⟨_, rfl⟩
        replace H : (tallymanref05_Trace.l1 k1 l0 y105 0 0 0 0) = some (r1, r2) := by first | (rw [hy105]; with_reducible exact H) | (have H2_ := (Option.bind_some _ _).symm.trans H; rw [hy105]; with_reducible exact H2_) | (have H2_ := (Option.bind_some _ _).symm.trans H; with_reducible exact H2_) | with_reducible exact H | (rw [hy105]; exact H) | exact H
        have Ny105 := Aside0.mk hy105
        clear hy105
        have H' := Aside0.mk H
        clear H
        go_wp2_with (first | ((with_reducible refine gate_dst (N := 42) rfl ?_); refine Kd.R_lit k24 _ 24 ?hg (N := 42) ?hd (xs := ([(⟨0, 0⟩ : S24)] : List (S24))) (inner := [.int .i64 0, .int .i64 0]) (ok := fun _ => True) (okp := fun _ => True) ?hr ?hp (fun _ hk => hk) trivial (Below.refl _ _) (Nat.le_refl _) (by simp) ?_; (case hd => rfl); (case hg => rfl); (case hr => first | (go_simp; done) | (go_simp; rfl)); (case hp => exact (Reps.c2 (show Kd.M k24 _ _ _ (⟨0, 0⟩ : S24) [.int .i64 0, .int .i64 0] from (k24_mkM _ _ _ (⟨0, 0⟩ : S24) )) (Reps.none _ _))); intro v106 w14 ho15 hb hg_ hnew_; clear hg_ hnew_; (first | rw [← Ny105.out] at ho15 | (simp only [Int.reduceToNat] at ho15; rw [← Ny105.out] at ho15)); have n0_ := Aside0.mk (Kd.R_lower ho15 (below_size (by repeat (first | (with_reducible first | exact HB.out | apply below_alloc | apply pw_below_drewN | apply below_drew1) | exact HB.out)))); have n1_ := Aside0.mk (below_step (by repeat (first | (with_reducible first | exact HB.out | apply below_alloc | apply pw_below_drewN | apply below_drew1) | exact HB.out)) hb); clear HB; have HO107 := n0_; have HB := n1_; clear n0_ n1_; clear hb ho15) | ((with_reducible refine gate_dst (N := 7) rfl ?_); refine box_event ?hg (N := 7) ?hd (cs := #[.int .i64 0, .int .i64 0]) (t := 24) ?hr ?_; (case hd => rfl); (case hg => rfl); (case hr => first | (go_simp; done) | (go_simp; rfl)); intro gb108 hg w16 hbox hb; have n0_ := Aside0.mk (Kd.R_below (Kd.R_elderB (by (with_reducible repeat (first | apply Kd.R_alloc | apply Kd.R_drewN | apply Kd.R_drew)); exact HO107.out) gb108 (Nat.le_of_eq hg.symm)) hb); have n1_ := Aside0.mk (below_step (by repeat (first | (with_reducible first | exact HB.out | apply below_alloc | apply pw_below_drewN | apply below_drew1) | exact HB.out)) hb); have n2_ := Aside0.mk (hbox); have n3_ := Aside0.mk ((by rw [hg]; exact (below_size (by repeat (first | (with_reducible first | exact HB.out | apply below_alloc | apply pw_below_drewN | apply below_drew1) | exact HB.out))) : w.heap.size ≤ gb108)); have n4_ := Aside0.mk ((by rw [hg]; exact (below_size (by repeat (first | (with_reducible first | exact HB.out | apply below_alloc | apply pw_below_drewN | apply below_drew1) | exact HB.out))) : w.heap.size ≤ gb108)); clear HO107; clear HB; have HO107 := n0_; have HB := n1_; have BK108 := n2_; have GW108 := n3_; have GE108 := n4_; clear n0_ n1_ n2_ n3_ n4_; clear hb hbox hg; have hcz17_0 : w16.cell? ⟨gb108, 0, none⟩ = some (.int .i64 0) := (blk_cell BK108.out 0).trans rfl; have hcz17_1 : w16.cell? ⟨gb108, 1, none⟩ = some (.int .i64 0) := (blk_cell BK108.out 1).trans rfl; have hfz17_0 := blk_frozen BK108.out 0; have hfz17_1 := blk_frozen BK108.out 1))
        go_loopg [6, 8, 9] k1 (fun kq v6 v8 v9 w' => ∃ (x6_2 : List (S24)) (x8_2 : Int) (x9_2 : Int) (x109000_2 : Int) (x109001_2 : Int), v8 = .int .i64 x8_2 ∧ v9 = .int .i64 x9_2 ∧ Aside0 (tallymanref05_Trace.l1 kq l0 x6_2 x8_2 x9_2 x109000_2 x109001_2 = some (r1, r2)) ∧ Aside0 (kq ≤ k1) ∧ Aside0 (Kd.R k24 24 w' w.heap.size (fun k_ => k_ ≠ gb108) v6 x6_2) ∧ Aside0 (w'.heap[gb108]? = some (.cells #[.int .i64 x109000_2, .int .i64 x109001_2] 24 (0, 0))) ∧ Aside0 (Below w.heap.size w w'))
        case atStart => exact ⟨(y105), (0), (0), (0), (0), (by first | rfl | (simp; done) | (simp [*]; done)), (by first | rfl | (simp; done) | (simp [*]; done)), H', ⟨Nat.le_refl _⟩, ⟨by (with_reducible repeat (first | apply Kd.R_alloc | apply Kd.R_drewN | apply Kd.R_drew)); exact Kd.R_mono (Kd.R_far (p := ⟨gb108, 1, none⟩) (Kd.R_far (p := ⟨gb108, 0, none⟩) (Kd.R_mono HO107.out (fun k_ hk => (⟨hk, hk.2⟩ : _ ∧ k_ ≠ gb108))) (fun _ hk => hk.2) (.int .i64 0)) (fun _ hk => hk.2) (.int .i64 0)) (fun _ hk => hk.1.2)⟩, ⟨by (with_reducible repeat (first | refine blk_drewN ?_ _ | refine blk_drew ?_ | refine blk_alloc ?_ _)); refine blk_put (cs := #[.int .i64 0, .int .i64 0]) ?_ 1 _ rfl; (with_reducible repeat (first | refine blk_drewN ?_ _ | refine blk_drew ?_ | refine blk_alloc ?_ _)); refine blk_put (cs := #[.int .i64 0, .int .i64 0]) ?_ 0 _ rfl; (with_reducible repeat (first | refine blk_drewN ?_ _ | refine blk_drew ?_ | refine blk_alloc ?_ _)); exact BK108.out⟩, ⟨by repeat (first | (with_reducible first | exact HB.out | apply below_alloc | apply pw_below_drewN | apply below_drew1 | refine below_set ?_ GE108.out) | exact HB.out)⟩⟩
        case round =>
          clear H'
          try clear c1
          try clear p1
          try clear q1
          try clear hx1
          try clear c2
          try clear c2b0
          try clear p2
          try clear c4
          try clear c4b0
          try clear c5
          try clear c5b0
          try clear c5b1
          try clear c6
          try clear p6
          try clear c7
          try clear c7b0
          try clear c8
          try clear c8b0
          try clear c10
          try clear c10b0
          try clear p10
          try clear q10
          try clear hx10
          try clear c13
          try clear c13b0
          try clear hcz17_0
          try clear hcz17_1
          try clear hfz17_0
          try clear hfz17_1
          try clear hx101_0
          try clear hx101_1
          try clear hx102_0
          try clear hx102_1
          try clear hx103_0
          try clear hx103_1
          try clear p1
          try clear p101
          try clear p102
          try clear p103
          try clear p2
          try clear q1
          try clear q101
          try clear q102
          try clear q103
          obtain ⟨x6_2, x8_2, x9_2, x109000_2, x109001_2, rfl, rfl, HA, HK2, HO_6, BK108, HB⟩ := hrel
          cases gk with
          | zero => exact absurd HA.out (by simp [tallymanref05_Trace.l1])
          | succ k2 =>
            have H := HA.out
            clear HA
            simp only [tallymanref05_Trace.l1] at H
            by_cases c18 : x9_2 < (l0.length : Int)
            · rw [if_pos c18] at H
              have c18b0 : decide (x9_2 < (l0.length : Int)) = true := decide_eq_true c18
              clear c18
              by_cases c19 : 0 ≤ x9_2
              · rw [if_pos c19] at H
                have c19b0 : decide (0 ≤ x9_2) = true := decide_eq_true c19
                clear c19
                replace H := Option.bind_eq_some_iff.mp H
                obtain ⟨t110, A200, H⟩ := H
                replace H : (if ((rd_T56 l0 x9_2).f0) = 3 then (tallymanref05_Trace.l1 k2 l0 x6_2 (Int.tmod (wrap64 (x8_2 + t110)) 4) (wrap64 (x9_2 + 1)) x109000_2 x109001_2) else (if ((rd_T56 l0 x9_2).f0) = 4 then (tallymanref05_Trace.l1 k2 l0 x6_2 (Int.tmod (wrap64 (x8_2 + (wrap64 (3 * t110)))) 4) (wrap64 (x9_2 + 1)) x109000_2 x109001_2) else (if ((rd_T56 l0 x9_2).f0) = 1 then (tallymanref05_Trace.j3 k2 l0 x6_2 x8_2 x9_2 t110 (((rd_T56 l0 x9_2).f0) == 1) x109000_2 x109001_2) else (tallymanref05_Trace.j3 k2 l0 x6_2 x8_2 x9_2 t110 (((rd_T56 l0 x9_2).f0) == 2) x109000_2 x109001_2)))) = some (r1, r2) := H
                have A20 := Aside0.mk A200
                clear A200
                by_cases c21 : ((rd_T56 l0 x9_2).f0) = 3
                · rw [if_pos c21] at H
                  have c21b0 : (((rd_T56 l0 x9_2).f0) == 3) = true := beq_iff_eq.mpr c21
                  have c21b1 : (((rd_T56 l0 x9_2).f0) != 3) = false := bne_eq_false_iff_eq.mpr c21
                  clear c21
                  have H' := Aside0.mk H
                  clear H
                  have p109 : 0 ≤ (x9_2 : Int) := of_decide_eq_true (by first | (with_reducible assumption) | assumption)
                  have q109 : x9_2 < (l0.length : Int) := of_decide_eq_true (by first | (with_reducible assumption) | assumption)
                  obtain ⟨ad109, e109, hx109_0, hx109_1⟩ := at_T56 HR0.out x9_2 p109 q109
                  cases e109
                  replace hx109_0 := (HB.out.cell (World.block_lt_of_cell? w _ hx109_0)).trans hx109_0
                  replace hx109_1 := (HB.out.cell (World.block_lt_of_cell? w _ hx109_1)).trans hx109_1
                  replace p109 := eq_true p109
                  replace q109 := eq_true q109
                  go_wp2_with (first | ((with_reducible refine gate_callee (f := 65) rfl ?_); refine goesL_ (some 54) rfl rfl Try.func65 (by kernel_rfl) rfl #[.agg #[.int .i64 ((rd_T56 l0 x9_2).f0), .int .i64 ((rd_T56 l0 x9_2).f1)]] rfl (by (try simp only [List.map_toArray, List.map_cons, List.map_nil]); first | done | rfl | (simp only [List.length_drop, List.length_take]; rfl)) ?_; (with_reducible refine (tallymanref05_count.calls ((rd_T56 l0 x9_2).f0) ((rd_T56 l0 x9_2).f1) t110 _ A20.out).mono ?_); rintro e w22 ⟨rfl, hb⟩; refine ⟨_, rfl, ?_⟩; have n0_ := Aside0.mk (Kd.R_below (by (with_reducible repeat (first | apply Kd.R_alloc | apply Kd.R_drewN | apply Kd.R_drew)); exact HO_6.out) hb); have n1_ := Aside0.mk (blk_below (g := gb108) (o := .cells #[.int .i64 x109000_2, .int .i64 x109001_2] 24 (0, 0)) (by (with_reducible repeat (first | refine blk_drewN ?_ _ | refine blk_drew ?_ | refine blk_alloc ?_ _)); exact BK108.out) hb); have n2_ := Aside0.mk (below_step (by repeat (first | (with_reducible first | exact HB.out | apply below_alloc | apply pw_below_drewN | apply below_drew1 | refine below_set ?_ GE108.out) | exact HB.out)) hb); clear HO_6; clear BK108; clear HB; have HO_6 := n0_; have BK108 := n1_; have HB := n2_; clear n0_ n1_ n2_; (try clear hb); (try clear hb2); (try clear hk); (try clear hi); have p111 : 0 ≤ (x9_2 : Int) := of_decide_eq_true (by first | (with_reducible assumption) | assumption); have q111 : x9_2 < (l0.length : Int) := of_decide_eq_true (by first | (with_reducible assumption) | assumption); obtain ⟨ad111, e111, hx111_0, hx111_1⟩ := at_T56 HR0.out x9_2 p111 q111; obtain rfl : ad109 = ad111 := (by injection e111); replace hx111_0 := (HB.out.cell (World.block_lt_of_cell? w _ hx111_0)).trans hx111_0; replace hx111_1 := (HB.out.cell (World.block_lt_of_cell? w _ hx111_1)).trans hx111_1; replace p111 := eq_true p111; replace q111 := eq_true q111))
                  go_roundg k2
                  case measure => have := HK1.out; have := HK2.out; omega
                  case rel => exact ⟨(x6_2), (Int.tmod (wrap64 (x8_2 + t110)) 4), (wrap64 (x9_2 + 1)), (x109000_2), (x109001_2), (by first | rfl | (simp; done) | (simp [*]; done)), (by first | rfl | (simp; done) | (simp [*]; done)), H', ⟨by have := HK1.out; have := HK2.out; omega⟩, ⟨by (with_reducible repeat (first | apply Kd.R_alloc | apply Kd.R_drewN | apply Kd.R_drew)); exact HO_6.out⟩, ⟨by (with_reducible repeat (first | refine blk_drewN ?_ _ | refine blk_drew ?_ | refine blk_alloc ?_ _)); exact BK108.out⟩, ⟨by repeat (first | (with_reducible first | exact HB.out | apply below_alloc | apply pw_below_drewN | apply below_drew1 | refine below_set ?_ GE108.out) | exact HB.out)⟩⟩
                · rw [if_neg c21] at H
                  have c21b0 : (((rd_T56 l0 x9_2).f0) == 3) = false := beq_eq_false_iff_ne.mpr c21
                  have c21b1 : (((rd_T56 l0 x9_2).f0) != 3) = true := bne_iff_ne.mpr c21
                  by_cases c23 : ((rd_T56 l0 x9_2).f0) = 4
                  · rw [if_pos c23] at H
                    have c23b0 : (((rd_T56 l0 x9_2).f0) == 4) = true := beq_iff_eq.mpr c23
                    have c23b1 : (((rd_T56 l0 x9_2).f0) != 4) = false := bne_eq_false_iff_eq.mpr c23
                    clear c23
                    have H' := Aside0.mk H
                    clear H
                    have p109 : 0 ≤ (x9_2 : Int) := of_decide_eq_true (by first | (with_reducible assumption) | assumption)
                    have q109 : x9_2 < (l0.length : Int) := of_decide_eq_true (by first | (with_reducible assumption) | assumption)
                    obtain ⟨ad109, e109, hx109_0, hx109_1⟩ := at_T56 HR0.out x9_2 p109 q109
                    cases e109
                    replace hx109_0 := (HB.out.cell (World.block_lt_of_cell? w _ hx109_0)).trans hx109_0
                    replace hx109_1 := (HB.out.cell (World.block_lt_of_cell? w _ hx109_1)).trans hx109_1
                    replace p109 := eq_true p109
                    replace q109 := eq_true q109
                    go_wp2_with (first | ((with_reducible refine gate_callee (f := 65) rfl ?_); refine goesL_ (some 54) rfl rfl Try.func65 (by kernel_rfl) rfl #[.agg #[.int .i64 ((rd_T56 l0 x9_2).f0), .int .i64 ((rd_T56 l0 x9_2).f1)]] rfl (by (try simp only [List.map_toArray, List.map_cons, List.map_nil]); first | done | rfl | (simp only [List.length_drop, List.length_take]; rfl)) ?_; (with_reducible refine (tallymanref05_count.calls ((rd_T56 l0 x9_2).f0) ((rd_T56 l0 x9_2).f1) t110 _ A20.out).mono ?_); rintro e w24 ⟨rfl, hb⟩; refine ⟨_, rfl, ?_⟩; have n0_ := Aside0.mk (Kd.R_below (by (with_reducible repeat (first | apply Kd.R_alloc | apply Kd.R_drewN | apply Kd.R_drew)); exact HO_6.out) hb); have n1_ := Aside0.mk (blk_below (g := gb108) (o := .cells #[.int .i64 x109000_2, .int .i64 x109001_2] 24 (0, 0)) (by (with_reducible repeat (first | refine blk_drewN ?_ _ | refine blk_drew ?_ | refine blk_alloc ?_ _)); exact BK108.out) hb); have n2_ := Aside0.mk (below_step (by repeat (first | (with_reducible first | exact HB.out | apply below_alloc | apply pw_below_drewN | apply below_drew1 | refine below_set ?_ GE108.out) | exact HB.out)) hb); clear HO_6; clear BK108; clear HB; have HO_6 := n0_; have BK108 := n1_; have HB := n2_; clear n0_ n1_ n2_; (try clear hb); (try clear hb2); (try clear hk); (try clear hi); have p111 : 0 ≤ (x9_2 : Int) := of_decide_eq_true (by first | (with_reducible assumption) | assumption); have q111 : x9_2 < (l0.length : Int) := of_decide_eq_true (by first | (with_reducible assumption) | assumption); obtain ⟨ad111, e111, hx111_0, hx111_1⟩ := at_T56 HR0.out x9_2 p111 q111; obtain rfl : ad109 = ad111 := (by injection e111); replace hx111_0 := (HB.out.cell (World.block_lt_of_cell? w _ hx111_0)).trans hx111_0; replace hx111_1 := (HB.out.cell (World.block_lt_of_cell? w _ hx111_1)).trans hx111_1; replace p111 := eq_true p111; replace q111 := eq_true q111))
                    go_roundg k2
                    case measure => have := HK1.out; have := HK2.out; omega
                    case rel => exact ⟨(x6_2), (Int.tmod (wrap64 (x8_2 + (wrap64 (3 * t110)))) 4), (wrap64 (x9_2 + 1)), (x109000_2), (x109001_2), (by first | rfl | (simp; done) | (simp [*]; done)), (by first | rfl | (simp; done) | (simp [*]; done)), H', ⟨by have := HK1.out; have := HK2.out; omega⟩, ⟨by (with_reducible repeat (first | apply Kd.R_alloc | apply Kd.R_drewN | apply Kd.R_drew)); exact HO_6.out⟩, ⟨by (with_reducible repeat (first | refine blk_drewN ?_ _ | refine blk_drew ?_ | refine blk_alloc ?_ _)); exact BK108.out⟩, ⟨by repeat (first | (with_reducible first | exact HB.out | apply below_alloc | apply pw_below_drewN | apply below_drew1 | refine below_set ?_ GE108.out) | exact HB.out)⟩⟩
                  · rw [if_neg c23] at H
                    have c23b0 : (((rd_T56 l0 x9_2).f0) == 4) = false := beq_eq_false_iff_ne.mpr c23
                    have c23b1 : (((rd_T56 l0 x9_2).f0) != 4) = true := bne_iff_ne.mpr c23
                    have HC25 := Aside0.mk H
                    clear H
                    have p109 : 0 ≤ (x9_2 : Int) := of_decide_eq_true (by first | (with_reducible assumption) | assumption)
                    have q109 : x9_2 < (l0.length : Int) := of_decide_eq_true (by first | (with_reducible assumption) | assumption)
                    obtain ⟨ad109, e109, hx109_0, hx109_1⟩ := at_T56 HR0.out x9_2 p109 q109
                    cases e109
                    replace hx109_0 := (HB.out.cell (World.block_lt_of_cell? w _ hx109_0)).trans hx109_0
                    replace hx109_1 := (HB.out.cell (World.block_lt_of_cell? w _ hx109_1)).trans hx109_1
                    replace p109 := eq_true p109
                    replace q109 := eq_true q109
                    go_upto_if 73 with (first | ((with_reducible refine gate_callee (f := 65) rfl ?_); refine goesL_ (some 54) rfl rfl Try.func65 (by kernel_rfl) rfl #[.agg #[.int .i64 ((rd_T56 l0 x9_2).f0), .int .i64 ((rd_T56 l0 x9_2).f1)]] rfl (by (try simp only [List.map_toArray, List.map_cons, List.map_nil]); first | done | rfl | (simp only [List.length_drop, List.length_take]; rfl)) ?_; (with_reducible refine (tallymanref05_count.calls ((rd_T56 l0 x9_2).f0) ((rd_T56 l0 x9_2).f1) t110 _ A20.out).mono ?_); rintro e w26 ⟨rfl, hb⟩; refine ⟨_, rfl, ?_⟩; have n0_ := Aside0.mk (Kd.R_below (by (with_reducible repeat (first | apply Kd.R_alloc | apply Kd.R_drewN | apply Kd.R_drew)); exact HO_6.out) hb); have n1_ := Aside0.mk (blk_below (g := gb108) (o := .cells #[.int .i64 x109000_2, .int .i64 x109001_2] 24 (0, 0)) (by (with_reducible repeat (first | refine blk_drewN ?_ _ | refine blk_drew ?_ | refine blk_alloc ?_ _)); exact BK108.out) hb); have n2_ := Aside0.mk (below_step (by repeat (first | (with_reducible first | exact HB.out | apply below_alloc | apply pw_below_drewN | apply below_drew1 | refine below_set ?_ GE108.out) | exact HB.out)) hb); clear HO_6; clear BK108; clear HB; have HO_6 := n0_; have BK108 := n1_; have HB := n2_; clear n0_ n1_ n2_; (try clear hb); (try clear hb2); (try clear hk); (try clear hi); have p111 : 0 ≤ (x9_2 : Int) := of_decide_eq_true (by first | (with_reducible assumption) | assumption); have q111 : x9_2 < (l0.length : Int) := of_decide_eq_true (by first | (with_reducible assumption) | assumption); obtain ⟨ad111, e111, hx111_0, hx111_1⟩ := at_T56 HR0.out x9_2 p111 q111; obtain rfl : ad109 = ad111 := (by injection e111); replace hx111_0 := (HB.out.cell (World.block_lt_of_cell? w _ hx111_0)).trans hx111_0; replace hx111_1 := (HB.out.cell (World.block_lt_of_cell? w _ hx111_1)).trans hx111_1; replace p111 := eq_true p111; replace q111 := eq_true q111))
                    (try simp only [Act.put, List.setIfInBounds_toArray, List.set_cons_zero, List.set_cons_succ])
                    go_cut [73] (fun v73 wc => ∃ (kq : Nat) (x73_24 : Bool), v73 = .bool x73_24 ∧ Aside0 (tallymanref05_Trace.j3 kq l0 x6_2 x8_2 x9_2 t110 x73_24 x109000_2 x109001_2 = some (r1, r2)) ∧ Aside0 (kq ≤ k2) ∧ Aside0 (Kd.R k24 24 wc w.heap.size (fun k_ => k_ ≠ gb108) u6 x6_2) ∧ Aside0 (wc.heap[gb108]? = some (.cells #[.int .i64 x109000_2, .int .i64 x109001_2] 24 (0, 0))) ∧ Aside0 (Below w.heap.size w wc))
                    case first =>
                      have H := HC25.out
                      clear HC25
                      by_cases c27 : ((rd_T56 l0 x9_2).f0) = 1
                      · rw [if_pos c27] at H
                        have c27b0 : (((rd_T56 l0 x9_2).f0) == 1) = true := beq_iff_eq.mpr c27
                        have c27b1 : (((rd_T56 l0 x9_2).f0) != 1) = false := bne_eq_false_iff_eq.mpr c27
                        clear c27
                        (first | rw [c27b0] | (simp only [i64_w, i32_w]; rw [c27b0]) | skip)
                        have H' := Aside0.mk H
                        clear H
                        go_wp2
                        go_meet
                        case rel => exact ⟨_, ((((rd_T56 l0 x9_2).f0) == 1)), (by first | rfl | (simp; done) | (simp [*]; done)), H', ⟨by have := HK1.out; have := HK2.out; first | omega | exact Nat.le_refl _⟩, ⟨by (with_reducible repeat (first | apply Kd.R_alloc | apply Kd.R_drewN | apply Kd.R_drew)); exact HO_6.out⟩, ⟨by (with_reducible repeat (first | refine blk_drewN ?_ _ | refine blk_drew ?_ | refine blk_alloc ?_ _)); exact BK108.out⟩, ⟨by repeat (first | (with_reducible first | exact HB.out | apply below_alloc | apply pw_below_drewN | apply below_drew1 | refine below_set ?_ GE108.out) | exact HB.out)⟩⟩
                      · rw [if_neg c27] at H
                        have c27b0 : (((rd_T56 l0 x9_2).f0) == 1) = false := beq_eq_false_iff_ne.mpr c27
                        have c27b1 : (((rd_T56 l0 x9_2).f0) != 1) = true := bne_iff_ne.mpr c27
                        (first | rw [c27b0] | (simp only [i64_w, i32_w]; rw [c27b0]) | skip)
                        have H' := Aside0.mk H
                        clear H
                        go_wp2
                        go_meet
                        case rel => exact ⟨_, ((((rd_T56 l0 x9_2).f0) == 2)), (by first | rfl | (simp; done) | (simp [*]; done)), H', ⟨by have := HK1.out; have := HK2.out; first | omega | exact Nat.le_refl _⟩, ⟨by (with_reducible repeat (first | apply Kd.R_alloc | apply Kd.R_drewN | apply Kd.R_drew)); exact HO_6.out⟩, ⟨by (with_reducible repeat (first | refine blk_drewN ?_ _ | refine blk_drew ?_ | refine blk_alloc ?_ _)); exact BK108.out⟩, ⟨by repeat (first | (with_reducible first | exact HB.out | apply below_alloc | apply pw_below_drewN | apply below_drew1 | refine below_set ?_ GE108.out) | exact HB.out)⟩⟩
                    case rest =>
                      clear HC25
                      try clear c1
                      try clear p1
                      try clear q1
                      try clear hx1
                      try clear c2
                      try clear c2b0
                      try clear p2
                      try clear c4
                      try clear c4b0
                      try clear c5
                      try clear c5b0
                      try clear c5b1
                      try clear c6
                      try clear p6
                      try clear c7
                      try clear c7b0
                      try clear c8
                      try clear c8b0
                      try clear c10
                      try clear c10b0
                      try clear p10
                      try clear q10
                      try clear hx10
                      try clear p11
                      try clear q11
                      try clear hx11
                      try clear c13
                      try clear c13b0
                      try clear c18
                      try clear c18b0
                      try clear c19
                      try clear c19b0
                      try clear c21
                      try clear c21b0
                      try clear c21b1
                      try clear c23
                      try clear c23b0
                      try clear c23b1
                      try clear c27
                      try clear c27b0
                      try clear c27b1
                      try clear hcz17_0
                      try clear hcz17_1
                      try clear hfz17_0
                      try clear hfz17_1
                      try clear hx101_0
                      try clear hx101_1
                      try clear hx102_0
                      try clear hx102_1
                      try clear hx103_0
                      try clear hx103_1
                      try clear hx109_0
                      try clear hx109_1
                      try clear hx111_0
                      try clear hx111_1
                      try clear p1
                      try clear p10
                      try clear p101
                      try clear p102
                      try clear p103
                      try clear p109
                      try clear p111
                      try clear p2
                      try clear p6
                      try clear q1
                      try clear q10
                      try clear q101
                      try clear q102
                      try clear q103
                      try clear q109
                      try clear q111
                      obtain ⟨kq, x73_24, rfl, HA, HJ24, HO_6, BK108, HB⟩ := hcut
                      cases kq with
                      | zero => exact absurd HA.out (by simp [tallymanref05_Trace.j3])
                      | succ kj24 =>
                        have H := HA.out
                        clear HA
                        simp only [tallymanref05_Trace.j3] at H
                        by_cases c28 : x73_24 = true
                        · subst c28
                          have H1 : (tallymanref05_Trace.l2 kj24 l0 x6_2 x8_2 x9_2 t110 0 x109000_2 x109001_2) = some (r1, r2) := by rw [if_pos rfl] at H; exact H
                          clear H
                          have H := H1
                          clear H1
                          have H' := Aside0.mk H
                          clear H
                          go_wp2
                          go_loopg [6, 11] kj24 (fun kq v6 v11 w' => ∃ (x6_4 : List (S24)) (x11_4 : Int) (x109000_4 : Int) (x109001_4 : Int), v11 = .int .i64 x11_4 ∧ Aside0 (tallymanref05_Trace.l2 kq l0 x6_4 x8_2 x9_2 t110 x11_4 x109000_4 x109001_4 = some (r1, r2)) ∧ Aside0 (kq ≤ kj24) ∧ Aside0 (Kd.R k24 24 w' w.heap.size (fun k_ => k_ ≠ gb108) v6 x6_4) ∧ Aside0 (w'.heap[gb108]? = some (.cells #[.int .i64 x109000_4, .int .i64 x109001_4] 24 (0, 0))) ∧ Aside0 (Below w.heap.size w w'))
                          case atStart => exact ⟨(x6_2), (0), (x109000_2), (x109001_2), (by first | rfl | (simp; done) | (simp [*]; done)), H', ⟨Nat.le_refl _⟩, ⟨by (with_reducible repeat (first | apply Kd.R_alloc | apply Kd.R_drewN | apply Kd.R_drew)); exact HO_6.out⟩, ⟨by (with_reducible repeat (first | refine blk_drewN ?_ _ | refine blk_drew ?_ | refine blk_alloc ?_ _)); exact BK108.out⟩, ⟨by repeat (first | (with_reducible first | exact HB.out | apply below_alloc | apply pw_below_drewN | apply below_drew1 | refine below_set ?_ GE108.out) | exact HB.out)⟩⟩
                          case round =>
                            clear H'
                            try clear c1
                            try clear p1
                            try clear q1
                            try clear hx1
                            try clear c2
                            try clear c2b0
                            try clear p2
                            try clear c4
                            try clear c4b0
                            try clear c5
                            try clear c5b0
                            try clear c5b1
                            try clear c6
                            try clear p6
                            try clear c7
                            try clear c7b0
                            try clear c8
                            try clear c8b0
                            try clear c10
                            try clear c10b0
                            try clear p10
                            try clear q10
                            try clear hx10
                            try clear p11
                            try clear q11
                            try clear hx11
                            try clear c13
                            try clear c13b0
                            try clear c18
                            try clear c18b0
                            try clear c19
                            try clear c19b0
                            try clear c21
                            try clear c21b0
                            try clear c21b1
                            try clear c23
                            try clear c23b0
                            try clear c23b1
                            try clear c27
                            try clear c27b0
                            try clear c27b1
                            try clear c28
                            try clear hcz17_0
                            try clear hcz17_1
                            try clear hfz17_0
                            try clear hfz17_1
                            try clear hx101_0
                            try clear hx101_1
                            try clear hx102_0
                            try clear hx102_1
                            try clear hx103_0
                            try clear hx103_1
                            try clear hx109_0
                            try clear hx109_1
                            try clear hx111_0
                            try clear hx111_1
                            try clear p1
                            try clear p10
                            try clear p101
                            try clear p102
                            try clear p103
                            try clear p109
                            try clear p11
                            try clear p111
                            try clear p2
                            try clear p6
                            try clear q1
                            try clear q10
                            try clear q101
                            try clear q102
                            try clear q103
                            try clear q109
                            try clear q11
                            try clear q111
                            obtain ⟨x6_4, x11_4, x109000_4, x109001_4, rfl, HA, HK4, HO_6, BK108, HB⟩ := hrel
                            cases gk with
                            | zero => exact absurd HA.out (by simp [tallymanref05_Trace.l2])
                            | succ k4 =>
                              have H := HA.out
                              clear HA
                              simp only [tallymanref05_Trace.l2] at H
                              by_cases c29 : x11_4 < t110
                              · rw [if_pos c29] at H
                                have c29b0 : decide (x11_4 < t110) = true := decide_eq_true c29
                                clear c29
                                by_cases c30 : 0 ≤ x9_2
                                · rw [if_pos c30] at H
                                  have c30b0 : decide (0 ≤ x9_2) = true := decide_eq_true c30
                                  clear c30
                                  by_cases c31 : x9_2 < (l0.length : Int)
                                  · rw [if_pos c31] at H
                                    have c31b0 : decide (x9_2 < (l0.length : Int)) = true := decide_eq_true c31
                                    clear c31
                                    replace H := Option.bind_eq_some_iff.mp H
                                    obtain ⟨⟨t113, t114⟩, A320, H⟩ := H
                                    replace H : (if x6_4.length < 8796093022208 then (tallymanref05_Trace.l2 k4 l0 (x6_4 ++ [(⟨t113, t114⟩ : S24)]) x8_2 x9_2 t110 (wrap64 (x11_4 + 1)) t113 t114) else (none)) = some (r1, r2) := H
                                    have A32 := Aside0.mk A320
                                    clear A320
                                    by_cases c33 : x6_4.length < 8796093022208
                                    · rw [if_pos c33] at H
                                      have LMc33 := Aside0.mk c33
                                      clear c33
                                      obtain ⟨y115, hy115⟩ : ∃ y_ : List (S24), y_ = (x6_4 ++ [(⟨t113, t114⟩ : S24)]) := ⟨_, rfl⟩
                                      replace H : (tallymanref05_Trace.l2 k4 l0 y115 x8_2 x9_2 t110 (wrap64 (x11_4 + 1)) t113 t114) = some (r1, r2) := by first | (rw [hy115]; with_reducible exact H) | (have H2_ := (Option.bind_some _ _).symm.trans H; rw [hy115]; with_reducible exact H2_) | (have H2_ := (Option.bind_some _ _).symm.trans H; with_reducible exact H2_) | with_reducible exact H | (rw [hy115]; exact H) | exact H
                                      have Ny115 := Aside0.mk hy115
                                      clear hy115
                                      have H' := Aside0.mk H
                                      clear H
                                      try go_wp2
                                      have n0_ := Aside0.mk (Kd.R_drew HO_6.out)
                                      have n1_ := Aside0.mk (blk_drew BK108.out)
                                      have n2_ := Aside0.mk (below_drew1 HB.out)
                                      clear HO_6
                                      clear BK108
                                      clear HB
                                      have HO_6 := n0_
                                      have BK108 := n1_
                                      have HB := n2_
                                      clear n0_ n1_ n2_
                                      have p112 : 0 ≤ (x9_2 : Int) := of_decide_eq_true (by first | (with_reducible assumption) | assumption)
                                      have q112 : x9_2 < (l0.length : Int) := of_decide_eq_true (by first | (with_reducible assumption) | assumption)
                                      obtain ⟨ad112, e112, hx112_0, hx112_1⟩ := at_T56 HR0.out x9_2 p112 q112
                                      have hw112_1 := hx112_1
                                      have hw112_0 := hx112_0
                                      obtain rfl : ad109 = ad112 := (by injection e112)
                                      replace hx112_0 := (HB.out.cell (World.block_lt_of_cell? w _ hx112_0)).trans hx112_0
                                      replace hx112_1 := (HB.out.cell (World.block_lt_of_cell? w _ hx112_1)).trans hx112_1
                                      replace p112 := eq_true p112
                                      replace q112 := eq_true q112
                                      refine start_ (n := 11) (S := fun w' => w'.cell? ⟨gb108, 0, none⟩ = some (.int .i64 x109000_4) ∧ w'.cell? ⟨gb108, 1, none⟩ = some (.int .i64 x109001_4) ∧ w'.cell? (ad109.add ((x9_2).toNat * 2)) = some (.int .i64 ((rd_T56 l0 x9_2).f0)) ∧ w'.cell? ⟨(ad109.add ((x9_2).toNat * 2)).block, (ad109.add ((x9_2).toNat * 2)).off + 1, none⟩ = some (.int .i64 ((rd_T56 l0 x9_2).f1))) (ds := [10]) #[false, false, false, false, false, false, false, false, false, false, false] (by kernel_rfl) rfl rfl ⟨(blk_cell BK108.out 0).trans rfl, (blk_cell BK108.out 1).trans rfl, ((HB.out.cell (World.block_lt_of_cell? w _ hw112_0)).trans hw112_0), ((HB.out.cell (World.block_lt_of_cell? w _ hw112_1)).trans hw112_1)⟩ (fun hHeld => ?_); refine with_tabW tallymanref05_Trace.tab25 tallymanref05_Trace.bits25 (fun HT_ HW_ => ?_)
                                      generalize wr.drew = w34 at HO_6 BK108 HB hx112_0 hx112_1 hHeld ⊢
                                      refine pure_ (i := 1) (N := some 82) (v := ?_) (a' := ?_) #[false, true, false, false, false, false, false, false, false, false, false] rfl rfl (any_of HT_.out (by kernel_rfl)) (fun _ _ _ h => h) (Or.inl ⟨by rfl, ?_⟩) ?_ ?_
                                      rotate_left
                                      · intro w'
                                        go_simp
                                        with_reducible rfl
                                      rotate_left
                                      · simp only [Act.put, List.setIfInBounds_toArray, List.set_cons_zero, List.set_cons_succ, i64_w, i32_w]
                                        rfl
                                      refine pure_ (i := 2) (N := some 83) (v := ?_) (a' := ?_) #[false, true, true, false, false, false, false, false, false, false, false] rfl rfl (any_of HT_.out (by kernel_rfl)) (fun _ _ _ h => h) (Or.inl ⟨by rfl, ?_⟩) ?_ ?_
                                      rotate_left
                                      · intro w'
                                        go_simp
                                        with_reducible rfl
                                      rotate_left
                                      · simp only [Act.put, List.setIfInBounds_toArray, List.set_cons_zero, List.set_cons_succ, i64_w, i32_w]
                                        rfl
                                      refine pure_ (i := 3) (N := some 84) (v := ?_) (a' := ?_) #[false, true, true, true, false, false, false, false, false, false, false] rfl rfl (any_of HT_.out (by kernel_rfl)) (fun _ _ _ h => h) (Or.inl ⟨by rfl, ?_⟩) ?_ ?_
                                      rotate_left
                                      · intro w'
                                        go_simp
                                        with_reducible rfl
                                      rotate_left
                                      · simp only [Act.put, List.setIfInBounds_toArray, List.set_cons_zero, List.set_cons_succ, i64_w, i32_w]
                                        rfl
                                      refine pure_ (i := 4) (N := some 85) (v := ?_) (a' := ?_) #[false, true, true, true, true, false, false, false, false, false, false] rfl rfl (any_of HT_.out (by kernel_rfl)) (fun _ _ _ h => h) (Or.inl ⟨by rfl, ?_⟩) ?_ ?_
                                      rotate_left
                                      · intro w'
                                        go_simp
                                        with_reducible rfl
                                      rotate_left
                                      · simp only [Act.put, List.setIfInBounds_toArray, List.set_cons_zero, List.set_cons_succ, i64_w, i32_w]
                                        rfl
                                      refine pure_ (i := 5) (N := some 86) (v := ?_) (a' := ?_) #[false, true, true, true, true, true, false, false, false, false, false] rfl rfl (any_of HT_.out (by kernel_rfl)) (fun _ _ _ h => h) (Or.inl ⟨by rfl, ?_⟩) ?_ ?_
                                      rotate_left
                                      · intro w'
                                        go_simp
                                        with_reducible rfl
                                      rotate_left
                                      · simp only [Act.put, List.setIfInBounds_toArray, List.set_cons_zero, List.set_cons_succ, i64_w, i32_w]
                                        rfl
                                      refine take_ (i := 0) (N := some 81) (v := ?_) (a' := ?_) #[true, true, true, true, true, true, false, false, false, false, false] rfl rfl (take_ofW HT_.out HW_.out (by kernel_rfl)) (fun _ _ _ h => h) (Or.inl ⟨by rfl, ?_⟩) hHeld ?_ ?_
                                      rotate_left
                                      · rintro w' ⟨s0, s1, s2, s3⟩
                                        go_simp
                                        with_reducible rfl
                                      rotate_left
                                      · simp only [Act.put, List.setIfInBounds_toArray, List.set_cons_zero, List.set_cons_succ, i64_w, i32_w]
                                        rfl
                                      refine take_ (i := 6) (N := some 87) (v := ?_) (a' := ?_) #[true, true, true, true, true, true, true, false, false, false, false] rfl rfl (take_ofW HT_.out HW_.out (by kernel_rfl)) (fun _ _ _ h => h) (Or.inl ⟨by rfl, ?_⟩) hHeld ?_ ?_
                                      rotate_left
                                      · rintro w' ⟨s0, s1, s2, s3⟩
                                        go_simp
                                        with_reducible rfl
                                      rotate_left
                                      · simp only [Act.put, List.setIfInBounds_toArray, List.set_cons_zero, List.set_cons_succ, i64_w, i32_w]
                                        rfl
                                      refine pure_ (i := 7) (N := some 88) (v := ?_) (a' := ?_) #[true, true, true, true, true, true, true, true, false, false, false] rfl rfl (any_of HT_.out (by kernel_rfl)) (fun _ _ _ h => h) (Or.inl ⟨by rfl, ?_⟩) ?_ ?_
                                      rotate_left
                                      · intro w'
                                        go_simp
                                        with_reducible rfl
                                      rotate_left
                                      · simp only [Act.put, List.setIfInBounds_toArray, List.set_cons_zero, List.set_cons_succ, i64_w, i32_w]
                                        rfl
                                      refine pure_ (i := 8) (N := some 89) (v := ?_) (a' := ?_) #[true, true, true, true, true, true, true, true, true, false, false] rfl rfl (any_of HT_.out (by kernel_rfl)) (fun _ _ _ h => h) (Or.inl ⟨by rfl, ?_⟩) ?_ ?_
                                      rotate_left
                                      · intro w'
                                        go_simp
                                        with_reducible rfl
                                      rotate_left
                                      · simp only [Act.put, List.setIfInBounds_toArray, List.set_cons_zero, List.set_cons_succ, i64_w, i32_w]
                                        rfl
                                      refine one_ (i := 9) (N := some 90) #[true, true, true, true, true, true, true, true, true, true, false] rfl rfl (one_of HT_.out (by kernel_rfl)) (by decide) (fun K hK => ?_)
                                      refine goes_ Try.func78 (by kernel_rfl) rfl #[.agg #[.int .i64 x109000_4, .int .i64 x109001_4], .int .i64 x8_2, .int .i64 (wrap64 (3 - (wrap64 (2 * ((rd_T56 l0 x9_2).f0)))))] (by rfl) rfl rfl (by (try simp only [List.map_toArray, List.map_cons, List.map_nil]); first | done | rfl | (simp only [List.length_drop, List.length_take]; rfl)) ?_
                                      with_reducible refine (tallymanref05_step.calls x109000_4 x109001_4 x8_2 (wrap64 (3 - (wrap64 (2 * ((rd_T56 l0 x9_2).f0))))) t113 t114 _ A32.out).mono ?_
                                      rintro e w35 ⟨rfl, hb⟩
                                      refine ⟨_, rfl, ?_⟩
                                      have n0_ := Aside0.mk (Kd.R_below (by (with_reducible repeat (first | apply Kd.R_alloc | apply Kd.R_drewN | apply Kd.R_drew)); exact HO_6.out) hb)
                                      have n1_ := Aside0.mk (blk_below (g := gb108) (o := .cells #[.int .i64 x109000_4, .int .i64 x109001_4] 24 (0, 0)) (by (with_reducible repeat (first | refine blk_drewN ?_ _ | refine blk_drew ?_ | refine blk_alloc ?_ _)); exact BK108.out) hb)
                                      have n2_ := Aside0.mk (below_step (by repeat (first | (with_reducible first | exact HB.out | apply below_alloc | apply pw_below_drewN | apply below_drew1 | refine below_set ?_ GE108.out) | exact HB.out)) hb)
                                      clear HO_6
                                      clear BK108
                                      clear HB
                                      have HO_6 := n0_
                                      have BK108 := n1_
                                      have HB := n2_
                                      clear n0_ n1_ n2_
                                      (try clear hb)
                                      (try clear hb2)
                                      (try clear hk)
                                      (try clear hi)
                                      refine hK.out _ _ ⟨(blk_cell BK108.out 0).trans rfl, (blk_cell BK108.out 1).trans rfl, ((HB.out.cell (World.block_lt_of_cell? w _ hw112_0)).trans hw112_0), ((HB.out.cell (World.block_lt_of_cell? w _ hw112_1)).trans hw112_1)⟩ (fun hHeld => ?_)
                                      clear hK K
                                      refine norm_ (a' := ?_) ?_ ?_
                                      rotate_left
                                      · show Act.put _ (some 90) _ = _
                                        simp only [Act.put, List.setIfInBounds_toArray, List.set_cons_zero, List.set_cons_succ, i64_w, i32_w]
                                        rfl
                                      refine last_ (i := 10) (N := none) #[true, true, true, true, true, true, true, true, true, true, true] rfl rfl (one_of HT_.out (by kernel_rfl)) (by decide) (fun K hK => ?_)
                                      have hs36 : w35.cell? ⟨gb108, 0, none⟩ = some (.int .i64 x109000_4) := (blk_cell BK108.out 0).trans rfl
                                      have hfs36 := blk_frozen BK108.out 0
                                      have hs37 : w35.cell? ⟨gb108, 1, none⟩ = some (.int .i64 x109001_4) := (blk_cell BK108.out 1).trans rfl
                                      have hfs37 := blk_frozen BK108.out 1
                                      refine skip_ (w1 := ?_) (by rfl) rfl ?_ ?_
                                      rotate_left
                                      · go_simp
                                        rfl
                                      refine hK.out _ _ ?_
                                      clear hK K
                                      refine done_ (done_of HT_.out (by kernel_rfl)) ?_
                                      have hcz38_0 : w35.cell? ⟨gb108, 0, none⟩ = some (.int .i64 x109000_4) := (blk_cell BK108.out 0).trans rfl
                                      have hcz38_1 : w35.cell? ⟨gb108, 1, none⟩ = some (.int .i64 x109001_4) := (blk_cell BK108.out 1).trans rfl
                                      have hfz38_0 := blk_frozen BK108.out 0
                                      have hfz38_1 := blk_frozen BK108.out 1
                                      try go_wp2_with (first | ((with_reducible refine gate_builtin (b := .append) (xs := #[.tmp 91, .tmp 93]) rfl ?_); at_builtin; refine Kd.R_append k24 (w0 := w) w.heap.size rfl (.tmp 91) (.tmp 93) 22 24 (.agg #[(.int .i64 0), (.int .i64 0)]) 16 rfl Try.underlying22 info24 rfl (by decide) (by omega) u6 x6_4 (⟨t113, t114⟩ : S24) [.int .i64 t113, .int .i64 t114] (fun k_ => k_ ≠ gb108) (fun _ => False) rfl (by first | (go_simp; done) | (go_simp; rfl)) ?aP (fun _ hk => hk.elim) ?aF ?aO ?aB ?aS ?aL ?_; (case aP => exact k24_mkM _ _ _ (⟨t113, t114⟩ : S24)); (case aB => exact (by repeat (first | (with_reducible first | exact HB.out | apply below_alloc | apply pw_below_drewN | apply below_drew1 | refine below_set ?_ GE108.out) | exact HB.out))); (case aF => exact (fun k_ hk => Kd.freshB (g := gb108) (o := .cells #[.int .i64 t113, .int .i64 t114] 24 (0, 0)) (by (with_reducible repeat (first | refine blk_drewN ?_ _ | refine blk_drew ?_ | refine blk_alloc ?_ _)); refine blk_put (cs := #[.int .i64 t113, .int .i64 x109001_4]) ?_ 1 _ rfl; (with_reducible repeat (first | refine blk_drewN ?_ _ | refine blk_drew ?_ | refine blk_alloc ?_ _)); refine blk_put (cs := #[.int .i64 x109000_4, .int .i64 x109001_4]) ?_ 0 _ rfl; (with_reducible repeat (first | refine blk_drewN ?_ _ | refine blk_drew ?_ | refine blk_alloc ?_ _)); exact BK108.out) k_ hk)); (case aO => exact (by (with_reducible repeat (first | apply Kd.R_alloc | apply Kd.R_drewN | apply Kd.R_drew)); exact Kd.R_mono (Kd.R_far (p := ⟨gb108, 1, none⟩) (Kd.R_far (p := ⟨gb108, 0, none⟩) (Kd.R_mono HO_6.out (fun k_ hk => (⟨hk, hk⟩ : _ ∧ k_ ≠ gb108))) (fun _ hk => hk.2) (.int .i64 t113)) (fun _ hk => hk.2) (.int .i64 t114)) (fun _ hk => hk.1))); (case aS => exact (below_size (by repeat (first | (with_reducible first | exact HB.out | apply below_alloc | apply pw_below_drewN | apply below_drew1 | refine below_set ?_ GE108.out) | exact HB.out)))); (case aL => have := LMc33.out; omega); intro v116 w39 ho hb hg hat; rw [← Ny115.out] at ho; have n0_ := Aside0.mk (blk_grown (g := gb108) (o := .cells #[.int .i64 t113, .int .i64 t114] 24 (0, 0)) (by (with_reducible repeat (first | refine blk_drewN ?_ _ | refine blk_drew ?_ | refine blk_alloc ?_ _)); refine blk_put (cs := #[.int .i64 t113, .int .i64 x109001_4]) ?_ 1 _ rfl; (with_reducible repeat (first | refine blk_drewN ?_ _ | refine blk_drew ?_ | refine blk_alloc ?_ _)); refine blk_put (cs := #[.int .i64 x109000_4, .int .i64 x109001_4]) ?_ 0 _ rfl; (with_reducible repeat (first | refine blk_drewN ?_ _ | refine blk_drew ?_ | refine blk_alloc ?_ _)); exact BK108.out) hg (Kd.R_away HO_6.out (fun _ hk => hk))); have n1_ := Aside0.mk (hb); have n2_ := Aside0.mk (ho); clear BK108; clear HB; clear HO_6; have BK108 := n0_; have HB := n1_; have HO117 := n2_; clear n0_ n1_ n2_; clear ho hb hg hat))
                                      go_roundg k4
                                      case measure => have := HK1.out; have := HK2.out; have := HJ24.out; have := HK4.out; omega
                                      case rel => exact ⟨(y115), (wrap64 (x11_4 + 1)), (t113), (t114), (by first | rfl | (simp; done) | (simp [*]; done)), H', ⟨by have := HK1.out; have := HK2.out; have := HJ24.out; have := HK4.out; omega⟩, ⟨by (with_reducible repeat (first | apply Kd.R_alloc | apply Kd.R_drewN | apply Kd.R_drew)); exact HO117.out⟩, ⟨by (with_reducible repeat (first | refine blk_drewN ?_ _ | refine blk_drew ?_ | refine blk_alloc ?_ _)); exact BK108.out⟩, ⟨by repeat (first | (with_reducible first | exact HB.out | apply below_alloc | apply pw_below_drewN | apply below_drew1 | refine below_set ?_ GE108.out) | exact HB.out)⟩⟩
                                    · rw [if_neg c33] at H
                                      exact absurd H (by simp)
                                  · rw [if_neg c31] at H
                                    exact absurd H (by simp)
                                · rw [if_neg c30] at H
                                  exact absurd H (by simp)
                              · rw [if_neg c29] at H
                                have c29b0 : decide (x11_4 < t110) = false := decide_eq_false c29
                                clear c29
                                have H' := Aside0.mk H
                                clear H
                                go_wp2
                                go_roundg k4
                                case measure => have := HK1.out; have := HK2.out; have := HJ24.out; have := HK4.out; omega
                                case rel => exact ⟨(x6_4), (x8_2), (wrap64 (x9_2 + 1)), (x109000_4), (x109001_4), (by first | rfl | (simp; done) | (simp [*]; done)), (by first | rfl | (simp; done) | (simp [*]; done)), H', ⟨by have := HK1.out; have := HK2.out; have := HJ24.out; have := HK4.out; omega⟩, ⟨by (with_reducible repeat (first | apply Kd.R_alloc | apply Kd.R_drewN | apply Kd.R_drew)); exact HO_6.out⟩, ⟨by (with_reducible repeat (first | refine blk_drewN ?_ _ | refine blk_drew ?_ | refine blk_alloc ?_ _)); exact BK108.out⟩, ⟨by repeat (first | (with_reducible first | exact HB.out | apply below_alloc | apply pw_below_drewN | apply below_drew1 | refine below_set ?_ GE108.out) | exact HB.out)⟩⟩
                        · replace c28 := Bool.eq_false_iff.mpr c28
                          subst c28
                          have H1 : (tallymanref05_Trace.l1 kj24 l0 x6_2 x8_2 (wrap64 (x9_2 + 1)) x109000_2 x109001_2) = some (r1, r2) := by rw [if_neg (show ¬ (false = true) by decide)] at H; exact H
                          clear H
                          have H := H1
                          clear H1
                          have H' := Aside0.mk H
                          clear H
                          go_wp2
                          go_roundg kj24
                          case measure => have := HK1.out; have := HK2.out; have := HJ24.out; omega
                          case rel => exact ⟨(x6_2), (x8_2), (wrap64 (x9_2 + 1)), (x109000_2), (x109001_2), (by first | rfl | (simp; done) | (simp [*]; done)), (by first | rfl | (simp; done) | (simp [*]; done)), H', ⟨by have := HK1.out; have := HK2.out; have := HJ24.out; omega⟩, ⟨by (with_reducible repeat (first | apply Kd.R_alloc | apply Kd.R_drewN | apply Kd.R_drew)); exact HO_6.out⟩, ⟨by (with_reducible repeat (first | refine blk_drewN ?_ _ | refine blk_drew ?_ | refine blk_alloc ?_ _)); exact BK108.out⟩, ⟨by repeat (first | (with_reducible first | exact HB.out | apply below_alloc | apply pw_below_drewN | apply below_drew1 | refine below_set ?_ GE108.out) | exact HB.out)⟩⟩
              · rw [if_neg c19] at H
                exact absurd H (by simp)
            · rw [if_neg c18] at H
              have c18b0 : decide (x9_2 < (l0.length : Int)) = false := decide_eq_false c18
              clear c18
              simp only [Option.some.injEq, Prod.mk.injEq] at H
              obtain ⟨rfl, rfl⟩ := H
              go_wp2
              go_ret2
              exact ⟨_, by first | rfl | (simp [errW_none, errW_some] <;> rfl) | (simp [*, errW_none, errW_some] <;> rfl), by (with_reducible repeat (first | apply Kd.R_alloc | apply Kd.R_drewN | apply Kd.R_drew)); exact Kd.R_mono HO_6.out (fun _ hk => trivial), by repeat (first | (with_reducible first | exact HB.out | apply below_alloc | apply pw_below_drewN | apply below_drew1 | refine below_set ?_ GE108.out) | exact HB.out)⟩
end Go.Proofs.Ytpoghhcpoimepaa.P
end
section
-- printed by the session's own call of print.py. Not trusted: Lean checks it.
namespace Go.Proofs.Ytpoghhcpoimepaa.P
open Go.RowKit Go.Proofs.YtpoghhcpoimepaaW.PrintWords Go.Proofs.YtpoghhcpoimepaaW.PrintLast Go.Proofs.YtpoghhcpoimepaaW.PrintMore
attribute [local go_sem] max2_int min2_int max_two min_two max_three min_three max_four min_four
set_option linter.unusedVariables false
set_option linter.unusedSimpArgs false
/-! ### tallymanref05_End: function 43 -/
def tallymanref05_End.l0 : Nat → List (S56) → Int → Int → Int → Int → Option (Int × Int × Int)
  | 0, _, _, _, _, _ => none
  | k + 1, x0, x4, x5, x103000, x103001 => if x5 < (x0.length : Int) then (if 0 ≤ x5 then ((tallymanref05_count.f ((rd_T56 x0 x5).f0) ((rd_T56 x0 x5).f1)).bind fun t104 => (if ((rd_T56 x0 x5).f0) = 1 then ((tallymanref05_step.f x103000 x103001 x4 t104).bind fun bt106 => (tallymanref05_End.l0 k x0 x4 (wrap64 (x5 + 1)) bt106.1 bt106.2)) else (if ((rd_T56 x0 x5).f0) = 2 then ((tallymanref05_step.f x103000 x103001 x4 (wrap64 (-t104))).bind fun bt108 => (tallymanref05_End.l0 k x0 x4 (wrap64 (x5 + 1)) bt108.1 bt108.2)) else (if ((rd_T56 x0 x5).f0) = 3 then (tallymanref05_End.l0 k x0 (Int.tmod (wrap64 (x4 + t104)) 4) (wrap64 (x5 + 1)) x103000 x103001) else (if ((rd_T56 x0 x5).f0) = 4 then (tallymanref05_End.l0 k x0 (Int.tmod (wrap64 (x4 + (wrap64 (3 * t104)))) 4) (wrap64 (x5 + 1)) x103000 x103001) else (tallymanref05_End.l0 k x0 x4 (wrap64 (x5 + 1)) x103000 x103001)))))) else (none)) else (some (x4, x103000, x103001))
def tallymanref05_End.f (k : Nat) (l0 : List (S56)) : Option (Int × Int × Int) := tallymanref05_End.l0 k l0 0 0 0 0
theorem tallymanref05_End.mono_l : ∀ k, (∀ y0 y1 y2 y3 y4, LeO (tallymanref05_End.l0 k y0 y1 y2 y3 y4) (tallymanref05_End.l0 (k + 1) y0 y1 y2 y3 y4))
  | 0 => fun _ _ _ _ _ r h => by simp [tallymanref05_End.l0] at h
  | k + 1 => by
    have ih0 := tallymanref05_End.mono_l k
    · intro y0 y1 y2 y3 y4
      unfold tallymanref05_End.l0
      repeat' first
      | (with_reducible exact ih0 _ _ _ _ _)
      | (with_reducible exact LeO.refl _)
      | (with_reducible exact LeO.none _)
      | (with_reducible refine LeO.ite ?_ ?_)
      | (with_reducible refine LeO.bind ?_ (fun _ => ?_))
      | exact ih0 _ _ _ _ _
      | exact LeO.none _
      | refine LeO.ite ?_ ?_
      | refine LeO.bind ?_ (fun _ => ?_)
theorem tallymanref05_End.mono : ∀ a0 k, LeO (tallymanref05_End.f k a0) (tallymanref05_End.f (k + 1) a0) := by
  intro a0 k
  have ih0 := tallymanref05_End.mono_l k
  unfold tallymanref05_End.f
  repeat' first
      | (with_reducible exact ih0 _ _ _ _ _)
      | (with_reducible exact LeO.refl _)
      | (with_reducible exact LeO.none _)
      | (with_reducible refine LeO.ite ?_ ?_)
      | (with_reducible refine LeO.bind ?_ (fun _ => ?_))
      | exact ih0 _ _ _ _ _
      | exact LeO.none _
      | refine LeO.ite ?_ ?_
      | refine LeO.bind ?_ (fun _ => ?_)
set_option maxHeartbeats 8000000 in
set_option maxRecDepth 100000 in
theorem tallymanref05_End.calls (k : Nat) (A0 : Option Addr) (c0 : Nat) (l0 : List (S56)) (r1 : Int) (r2 : Int) (r3 : Int) (w : World) (hr0 : Kd.C k56 w A0 l0.length l0) (hc0 : l0.length ≤ c0) (h : tallymanref05_End.f k l0 = some (r1, r2, r3)) :
    Calls Try.prog 43 #[.slice A0 l0.length c0] w fun e w' => e = .returned (.agg #[.int .i64 r1, .int .i64 r2, .int .i64 r3]) ∧ Below w.heap.size w w' := by
  have hu34 := Try.underlying34
  have hu24 := Try.underlying24
  have hu56 := Try.underlying56
  have HR0 := Aside0.mk hr0
  have HC0 := Aside0.mk hc0
  clear hr0 hc0
  have HB := Aside0.mk (Below.refl w.heap.size w)
  have H : (tallymanref05_End.l0 k l0 0 0 0 0) = some (r1, r2, r3) := h
  clear h
  have H' := Aside0.mk H
  clear H
  go_enter Try.func43, Try.ntmps43
  go_wp2_with (first | ((with_reducible refine gate_dst (N := 2) rfl ?_); refine box_event ?hg (N := 2) ?hd (cs := #[.int .i64 0, .int .i64 0, .int .i64 0]) (t := 34) ?hr ?_; (case hd => rfl); (case hg => rfl); (case hr => first | (go_simp; done) | (go_simp; rfl)); intro gb101 hg w2 hbox hb; have n0_ := Aside0.mk (below_step (by repeat (first | (with_reducible first | exact HB.out | apply below_alloc | apply pw_below_drewN | apply below_drew1) | exact HB.out)) hb); have n1_ := Aside0.mk (hbox); have n2_ := Aside0.mk ((by rw [hg]; exact (below_size (by repeat (first | (with_reducible first | exact HB.out | apply below_alloc | apply pw_below_drewN | apply below_drew1) | exact HB.out))) : w.heap.size ≤ gb101)); have n3_ := Aside0.mk ((by rw [hg]; exact (below_size (by repeat (first | (with_reducible first | exact HB.out | apply below_alloc | apply pw_below_drewN | apply below_drew1) | exact HB.out))) : w.heap.size ≤ gb101)); clear HB; have HB := n0_; have BK101 := n1_; have GW101 := n2_; have GE101 := n3_; clear n0_ n1_ n2_ n3_; clear hb hbox hg) | ((with_reducible refine gate_dst (N := 3) rfl ?_); refine box_event ?hg (N := 3) ?hd (cs := #[.int .i64 0, .int .i64 0]) (t := 24) ?hr ?_; (case hd => rfl); (case hg => rfl); (case hr => first | (go_simp; done) | (go_simp; rfl)); intro gb102 hg w3 hbox hb; have n0_ := Aside0.mk (blk_below (g := gb101) (o := .cells #[.int .i64 0, .int .i64 0, .int .i64 0] 34 (0, 0)) (by (with_reducible repeat (first | refine blk_drewN ?_ _ | refine blk_drew ?_ | refine blk_alloc ?_ _)); exact BK101.out) hb); have n1_ := Aside0.mk (below_step (by repeat (first | (with_reducible first | exact HB.out | apply below_alloc | apply pw_below_drewN | apply below_drew1 | refine below_set ?_ GE101.out) | exact HB.out)) hb); have n2_ := Aside0.mk (hbox); have n3_ := Aside0.mk ((by rw [hg]; exact (below_size (by repeat (first | (with_reducible first | exact HB.out | apply below_alloc | apply pw_below_drewN | apply below_drew1 | refine below_set ?_ GE101.out) | exact HB.out))) : w.heap.size ≤ gb102)); have n4_ := Aside0.mk ((by rw [hg]; exact (below_size (by repeat (first | (with_reducible first | exact HB.out | apply below_alloc | apply pw_below_drewN | apply below_drew1 | refine below_set ?_ GE101.out) | exact HB.out))) : w.heap.size ≤ gb102)); have n5_ := Aside0.mk ((by rw [hg]; exact Nat.ne_of_lt (blk_lt (g := gb101) (o := .cells #[.int .i64 0, .int .i64 0, .int .i64 0] 34 (0, 0)) (by (with_reducible repeat (first | refine blk_drewN ?_ _ | refine blk_drew ?_ | refine blk_alloc ?_ _)); exact BK101.out)) : gb101 ≠ gb102)); have n6_ := Aside0.mk ((by rw [hg]; exact Nat.ne_of_gt (blk_lt (g := gb101) (o := .cells #[.int .i64 0, .int .i64 0, .int .i64 0] 34 (0, 0)) (by (with_reducible repeat (first | refine blk_drewN ?_ _ | refine blk_drew ?_ | refine blk_alloc ?_ _)); exact BK101.out)) : gb102 ≠ gb101)); clear BK101; clear HB; have BK101 := n0_; have HB := n1_; have BK102 := n2_; have GW102 := n3_; have GE102 := n4_; have NB101_102 := n5_; have NB102_101 := n6_; clear n0_ n1_ n2_ n3_ n4_ n5_ n6_; clear hb hbox hg; have hnb4 := NB102_101.out; have hnc4 := NB101_102.out; have hcz5_0 : w3.cell? ⟨gb102, 0, none⟩ = some (.int .i64 0) := (blk_cell BK102.out 0).trans rfl; have hcz5_1 : w3.cell? ⟨gb102, 1, none⟩ = some (.int .i64 0) := (blk_cell BK102.out 1).trans rfl; have hfz5_0 := blk_frozen BK102.out 0; have hfz5_1 := blk_frozen BK102.out 1))
  go_loopg [4, 5] k (fun kq v4 v5 w' => ∃ (x4_1 : Int) (x5_1 : Int) (x103000_1 : Int) (x103001_1 : Int), v4 = .int .i64 x4_1 ∧ v5 = .int .i64 x5_1 ∧ Aside0 (tallymanref05_End.l0 kq l0 x4_1 x5_1 x103000_1 x103001_1 = some (r1, r2, r3)) ∧ Aside0 (kq ≤ k) ∧ Aside0 (w'.heap[gb101]? = some (.cells #[.int .i64 0, .int .i64 0, .int .i64 0] 34 (0, 0))) ∧ Aside0 (w'.heap[gb102]? = some (.cells #[.int .i64 x103000_1, .int .i64 x103001_1] 24 (0, 0))) ∧ Aside0 (Below w.heap.size w w'))
  case atStart => exact ⟨(0), (0), (0), (0), (by first | rfl | (simp; done) | (simp [*]; done)), (by first | rfl | (simp; done) | (simp [*]; done)), H', ⟨Nat.le_refl _⟩, ⟨by (with_reducible repeat (first | refine blk_drewN ?_ _ | refine blk_drew ?_ | refine blk_alloc ?_ _)); refine blk_far ?_ NB101_102.out _; (with_reducible repeat (first | refine blk_drewN ?_ _ | refine blk_drew ?_ | refine blk_alloc ?_ _)); refine blk_far ?_ NB101_102.out _; (with_reducible repeat (first | refine blk_drewN ?_ _ | refine blk_drew ?_ | refine blk_alloc ?_ _)); exact BK101.out⟩, ⟨by (with_reducible repeat (first | refine blk_drewN ?_ _ | refine blk_drew ?_ | refine blk_alloc ?_ _)); refine blk_put (cs := #[.int .i64 0, .int .i64 0]) ?_ 1 _ rfl; (with_reducible repeat (first | refine blk_drewN ?_ _ | refine blk_drew ?_ | refine blk_alloc ?_ _)); refine blk_put (cs := #[.int .i64 0, .int .i64 0]) ?_ 0 _ rfl; (with_reducible repeat (first | refine blk_drewN ?_ _ | refine blk_drew ?_ | refine blk_alloc ?_ _)); exact BK102.out⟩, ⟨by repeat (first | (with_reducible first | exact HB.out | apply below_alloc | apply pw_below_drewN | apply below_drew1 | refine below_set ?_ GE101.out | refine below_set ?_ GE102.out) | exact HB.out)⟩⟩
  case round =>
    clear H'
    try clear p2
    try clear c4
    try clear hcz5_0
    try clear hcz5_1
    try clear hfz5_0
    try clear hfz5_1
    obtain ⟨x4_1, x5_1, x103000_1, x103001_1, rfl, rfl, HA, HK1, BK101, BK102, HB⟩ := hrel
    cases gk with
    | zero => exact absurd HA.out (by simp [tallymanref05_End.l0])
    | succ k1 =>
      have H := HA.out
      clear HA
      simp only [tallymanref05_End.l0] at H
      by_cases c6 : x5_1 < (l0.length : Int)
      · rw [if_pos c6] at H
        have c6b0 : decide (x5_1 < (l0.length : Int)) = true := decide_eq_true c6
        clear c6
        by_cases c7 : 0 ≤ x5_1
        · rw [if_pos c7] at H
          have c7b0 : decide (0 ≤ x5_1) = true := decide_eq_true c7
          clear c7
          replace H := Option.bind_eq_some_iff.mp H
          obtain ⟨t104, A80, H⟩ := H
          replace H : (if ((rd_T56 l0 x5_1).f0) = 1 then ((tallymanref05_step.f x103000_1 x103001_1 x4_1 t104).bind fun bt106 => (tallymanref05_End.l0 k1 l0 x4_1 (wrap64 (x5_1 + 1)) bt106.1 bt106.2)) else (if ((rd_T56 l0 x5_1).f0) = 2 then ((tallymanref05_step.f x103000_1 x103001_1 x4_1 (wrap64 (-t104))).bind fun bt108 => (tallymanref05_End.l0 k1 l0 x4_1 (wrap64 (x5_1 + 1)) bt108.1 bt108.2)) else (if ((rd_T56 l0 x5_1).f0) = 3 then (tallymanref05_End.l0 k1 l0 (Int.tmod (wrap64 (x4_1 + t104)) 4) (wrap64 (x5_1 + 1)) x103000_1 x103001_1) else (if ((rd_T56 l0 x5_1).f0) = 4 then (tallymanref05_End.l0 k1 l0 (Int.tmod (wrap64 (x4_1 + (wrap64 (3 * t104)))) 4) (wrap64 (x5_1 + 1)) x103000_1 x103001_1) else (tallymanref05_End.l0 k1 l0 x4_1 (wrap64 (x5_1 + 1)) x103000_1 x103001_1))))) = some (r1, r2, r3) := H
          have A8 := Aside0.mk A80
          clear A80
          by_cases c9 : ((rd_T56 l0 x5_1).f0) = 1
          · rw [if_pos c9] at H
            have c9b0 : (((rd_T56 l0 x5_1).f0) == 1) = true := beq_iff_eq.mpr c9
            have c9b1 : (((rd_T56 l0 x5_1).f0) != 1) = false := bne_eq_false_iff_eq.mpr c9
            clear c9
            replace H := Option.bind_eq_some_iff.mp H
            obtain ⟨⟨t106, t107⟩, A100, H⟩ := H
            replace H : (tallymanref05_End.l0 k1 l0 x4_1 (wrap64 (x5_1 + 1)) t106 t107) = some (r1, r2, r3) := H
            have A10 := Aside0.mk A100
            clear A100
            have H' := Aside0.mk H
            clear H
            have p103 : 0 ≤ (x5_1 : Int) := of_decide_eq_true (by first | (with_reducible assumption) | assumption)
            have q103 : x5_1 < (l0.length : Int) := of_decide_eq_true (by first | (with_reducible assumption) | assumption)
            obtain ⟨ad103, e103, hx103_0, hx103_1⟩ := at_T56 HR0.out x5_1 p103 q103
            cases e103
            replace hx103_0 := (HB.out.cell (World.block_lt_of_cell? w _ hx103_0)).trans hx103_0
            replace hx103_1 := (HB.out.cell (World.block_lt_of_cell? w _ hx103_1)).trans hx103_1
            replace p103 := eq_true p103
            replace q103 := eq_true q103
            go_wp2_with (first | ((with_reducible refine gate_callee (f := 65) rfl ?_); refine goesL_ (some 18) rfl rfl Try.func65 (by kernel_rfl) rfl #[.agg #[.int .i64 ((rd_T56 l0 x5_1).f0), .int .i64 ((rd_T56 l0 x5_1).f1)]] rfl (by (try simp only [List.map_toArray, List.map_cons, List.map_nil]); first | done | rfl | (simp only [List.length_drop, List.length_take]; rfl)) ?_; (with_reducible refine (tallymanref05_count.calls ((rd_T56 l0 x5_1).f0) ((rd_T56 l0 x5_1).f1) t104 _ A8.out).mono ?_); rintro e w11 ⟨rfl, hb⟩; refine ⟨_, rfl, ?_⟩; have n0_ := Aside0.mk (blk_below (g := gb101) (o := .cells #[.int .i64 0, .int .i64 0, .int .i64 0] 34 (0, 0)) (by (with_reducible repeat (first | refine blk_drewN ?_ _ | refine blk_drew ?_ | refine blk_alloc ?_ _)); exact BK101.out) hb); have n1_ := Aside0.mk (blk_below (g := gb102) (o := .cells #[.int .i64 x103000_1, .int .i64 x103001_1] 24 (0, 0)) (by (with_reducible repeat (first | refine blk_drewN ?_ _ | refine blk_drew ?_ | refine blk_alloc ?_ _)); exact BK102.out) hb); have n2_ := Aside0.mk (below_step (by repeat (first | (with_reducible first | exact HB.out | apply below_alloc | apply pw_below_drewN | apply below_drew1 | refine below_set ?_ GE101.out | refine below_set ?_ GE102.out) | exact HB.out)) hb); clear BK101; clear BK102; clear HB; have BK101 := n0_; have BK102 := n1_; have HB := n2_; clear n0_ n1_ n2_; (try clear hb); (try clear hb2); (try clear hk); (try clear hi); have p105 : 0 ≤ (x5_1 : Int) := of_decide_eq_true (by first | (with_reducible assumption) | assumption); have q105 : x5_1 < (l0.length : Int) := of_decide_eq_true (by first | (with_reducible assumption) | assumption); obtain ⟨ad105, e105, hx105_0, hx105_1⟩ := at_T56 HR0.out x5_1 p105 q105; obtain rfl : ad103 = ad105 := (by injection e105); replace hx105_0 := (HB.out.cell (World.block_lt_of_cell? w _ hx105_0)).trans hx105_0; replace hx105_1 := (HB.out.cell (World.block_lt_of_cell? w _ hx105_1)).trans hx105_1; replace p105 := eq_true p105; replace q105 := eq_true q105; have hnb12 := NB102_101.out; have hnc12 := NB101_102.out; have hcz13_0 : w11.cell? ⟨gb102, 0, none⟩ = some (.int .i64 x103000_1) := (blk_cell BK102.out 0).trans rfl; have hcz13_1 : w11.cell? ⟨gb102, 1, none⟩ = some (.int .i64 x103001_1) := (blk_cell BK102.out 1).trans rfl; have hfz13_0 := blk_frozen BK102.out 0; have hfz13_1 := blk_frozen BK102.out 1) | ((with_reducible refine gate_callee (f := 78) rfl ?_); refine goesL_ (some 29) rfl rfl Try.func78 (by kernel_rfl) rfl #[.agg #[.int .i64 x103000_1, .int .i64 x103001_1], .int .i64 x4_1, .int .i64 t104] rfl (by (try simp only [List.map_toArray, List.map_cons, List.map_nil]); first | done | rfl | (simp only [List.length_drop, List.length_take]; rfl)) ?_; (with_reducible refine (tallymanref05_step.calls x103000_1 x103001_1 x4_1 t104 t106 t107 _ A10.out).mono ?_); rintro e w14 ⟨rfl, hb⟩; refine ⟨_, rfl, ?_⟩; have n0_ := Aside0.mk (blk_below (g := gb101) (o := .cells #[.int .i64 0, .int .i64 0, .int .i64 0] 34 (0, 0)) (by (with_reducible repeat (first | refine blk_drewN ?_ _ | refine blk_drew ?_ | refine blk_alloc ?_ _)); exact BK101.out) hb); have n1_ := Aside0.mk (blk_below (g := gb102) (o := .cells #[.int .i64 x103000_1, .int .i64 x103001_1] 24 (0, 0)) (by (with_reducible repeat (first | refine blk_drewN ?_ _ | refine blk_drew ?_ | refine blk_alloc ?_ _)); exact BK102.out) hb); have n2_ := Aside0.mk (below_step (by repeat (first | (with_reducible first | exact HB.out | apply below_alloc | apply pw_below_drewN | apply below_drew1 | refine below_set ?_ GE101.out | refine below_set ?_ GE102.out) | exact HB.out)) hb); clear BK101; clear BK102; clear HB; have BK101 := n0_; have BK102 := n1_; have HB := n2_; clear n0_ n1_ n2_; (try clear hb); (try clear hb2); (try clear hk); (try clear hi); have hcz15_0 : w14.cell? ⟨gb102, 0, none⟩ = some (.int .i64 x103000_1) := (blk_cell BK102.out 0).trans rfl; have hcz15_1 : w14.cell? ⟨gb102, 1, none⟩ = some (.int .i64 x103001_1) := (blk_cell BK102.out 1).trans rfl; have hfz15_0 := blk_frozen BK102.out 0; have hfz15_1 := blk_frozen BK102.out 1))
            go_roundg k1
            case measure => have := HK1.out; omega
            case rel => exact ⟨(x4_1), (wrap64 (x5_1 + 1)), (t106), (t107), (by first | rfl | (simp; done) | (simp [*]; done)), (by first | rfl | (simp; done) | (simp [*]; done)), H', ⟨by have := HK1.out; omega⟩, ⟨by (with_reducible repeat (first | refine blk_drewN ?_ _ | refine blk_drew ?_ | refine blk_alloc ?_ _)); refine blk_far ?_ NB101_102.out _; (with_reducible repeat (first | refine blk_drewN ?_ _ | refine blk_drew ?_ | refine blk_alloc ?_ _)); refine blk_far ?_ NB101_102.out _; (with_reducible repeat (first | refine blk_drewN ?_ _ | refine blk_drew ?_ | refine blk_alloc ?_ _)); exact BK101.out⟩, ⟨by (with_reducible repeat (first | refine blk_drewN ?_ _ | refine blk_drew ?_ | refine blk_alloc ?_ _)); refine blk_put (cs := #[.int .i64 t106, .int .i64 x103001_1]) ?_ 1 _ rfl; (with_reducible repeat (first | refine blk_drewN ?_ _ | refine blk_drew ?_ | refine blk_alloc ?_ _)); refine blk_put (cs := #[.int .i64 x103000_1, .int .i64 x103001_1]) ?_ 0 _ rfl; (with_reducible repeat (first | refine blk_drewN ?_ _ | refine blk_drew ?_ | refine blk_alloc ?_ _)); exact BK102.out⟩, ⟨by repeat (first | (with_reducible first | exact HB.out | apply below_alloc | apply pw_below_drewN | apply below_drew1 | refine below_set ?_ GE101.out | refine below_set ?_ GE102.out) | exact HB.out)⟩⟩
          · rw [if_neg c9] at H
            have c9b0 : (((rd_T56 l0 x5_1).f0) == 1) = false := beq_eq_false_iff_ne.mpr c9
            have c9b1 : (((rd_T56 l0 x5_1).f0) != 1) = true := bne_iff_ne.mpr c9
            by_cases c16 : ((rd_T56 l0 x5_1).f0) = 2
            · rw [if_pos c16] at H
              have c16b0 : (((rd_T56 l0 x5_1).f0) == 2) = true := beq_iff_eq.mpr c16
              have c16b1 : (((rd_T56 l0 x5_1).f0) != 2) = false := bne_eq_false_iff_eq.mpr c16
              clear c16
              replace H := Option.bind_eq_some_iff.mp H
              obtain ⟨⟨t108, t109⟩, A170, H⟩ := H
              replace H : (tallymanref05_End.l0 k1 l0 x4_1 (wrap64 (x5_1 + 1)) t108 t109) = some (r1, r2, r3) := H
              have A17 := Aside0.mk A170
              clear A170
              have H' := Aside0.mk H
              clear H
              have p103 : 0 ≤ (x5_1 : Int) := of_decide_eq_true (by first | (with_reducible assumption) | assumption)
              have q103 : x5_1 < (l0.length : Int) := of_decide_eq_true (by first | (with_reducible assumption) | assumption)
              obtain ⟨ad103, e103, hx103_0, hx103_1⟩ := at_T56 HR0.out x5_1 p103 q103
              cases e103
              replace hx103_0 := (HB.out.cell (World.block_lt_of_cell? w _ hx103_0)).trans hx103_0
              replace hx103_1 := (HB.out.cell (World.block_lt_of_cell? w _ hx103_1)).trans hx103_1
              replace p103 := eq_true p103
              replace q103 := eq_true q103
              go_wp2_with (first | ((with_reducible refine gate_callee (f := 65) rfl ?_); refine goesL_ (some 18) rfl rfl Try.func65 (by kernel_rfl) rfl #[.agg #[.int .i64 ((rd_T56 l0 x5_1).f0), .int .i64 ((rd_T56 l0 x5_1).f1)]] rfl (by (try simp only [List.map_toArray, List.map_cons, List.map_nil]); first | done | rfl | (simp only [List.length_drop, List.length_take]; rfl)) ?_; (with_reducible refine (tallymanref05_count.calls ((rd_T56 l0 x5_1).f0) ((rd_T56 l0 x5_1).f1) t104 _ A8.out).mono ?_); rintro e w18 ⟨rfl, hb⟩; refine ⟨_, rfl, ?_⟩; have n0_ := Aside0.mk (blk_below (g := gb101) (o := .cells #[.int .i64 0, .int .i64 0, .int .i64 0] 34 (0, 0)) (by (with_reducible repeat (first | refine blk_drewN ?_ _ | refine blk_drew ?_ | refine blk_alloc ?_ _)); exact BK101.out) hb); have n1_ := Aside0.mk (blk_below (g := gb102) (o := .cells #[.int .i64 x103000_1, .int .i64 x103001_1] 24 (0, 0)) (by (with_reducible repeat (first | refine blk_drewN ?_ _ | refine blk_drew ?_ | refine blk_alloc ?_ _)); exact BK102.out) hb); have n2_ := Aside0.mk (below_step (by repeat (first | (with_reducible first | exact HB.out | apply below_alloc | apply pw_below_drewN | apply below_drew1 | refine below_set ?_ GE101.out | refine below_set ?_ GE102.out) | exact HB.out)) hb); clear BK101; clear BK102; clear HB; have BK101 := n0_; have BK102 := n1_; have HB := n2_; clear n0_ n1_ n2_; (try clear hb); (try clear hb2); (try clear hk); (try clear hi); have p105 : 0 ≤ (x5_1 : Int) := of_decide_eq_true (by first | (with_reducible assumption) | assumption); have q105 : x5_1 < (l0.length : Int) := of_decide_eq_true (by first | (with_reducible assumption) | assumption); obtain ⟨ad105, e105, hx105_0, hx105_1⟩ := at_T56 HR0.out x5_1 p105 q105; obtain rfl : ad103 = ad105 := (by injection e105); replace hx105_0 := (HB.out.cell (World.block_lt_of_cell? w _ hx105_0)).trans hx105_0; replace hx105_1 := (HB.out.cell (World.block_lt_of_cell? w _ hx105_1)).trans hx105_1; replace p105 := eq_true p105; replace q105 := eq_true q105; have hnb19 := NB102_101.out; have hnc19 := NB101_102.out; have hcz20_0 : w18.cell? ⟨gb102, 0, none⟩ = some (.int .i64 x103000_1) := (blk_cell BK102.out 0).trans rfl; have hcz20_1 : w18.cell? ⟨gb102, 1, none⟩ = some (.int .i64 x103001_1) := (blk_cell BK102.out 1).trans rfl; have hfz20_0 := blk_frozen BK102.out 0; have hfz20_1 := blk_frozen BK102.out 1) | ((with_reducible refine gate_callee (f := 78) rfl ?_); refine goesL_ (some 36) rfl rfl Try.func78 (by kernel_rfl) rfl #[.agg #[.int .i64 x103000_1, .int .i64 x103001_1], .int .i64 x4_1, .int .i64 (wrap64 (-t104))] rfl (by (try simp only [List.map_toArray, List.map_cons, List.map_nil]); first | done | rfl | (simp only [List.length_drop, List.length_take]; rfl)) ?_; (with_reducible refine (tallymanref05_step.calls x103000_1 x103001_1 x4_1 (wrap64 (-t104)) t108 t109 _ A17.out).mono ?_); rintro e w21 ⟨rfl, hb⟩; refine ⟨_, rfl, ?_⟩; have n0_ := Aside0.mk (blk_below (g := gb101) (o := .cells #[.int .i64 0, .int .i64 0, .int .i64 0] 34 (0, 0)) (by (with_reducible repeat (first | refine blk_drewN ?_ _ | refine blk_drew ?_ | refine blk_alloc ?_ _)); exact BK101.out) hb); have n1_ := Aside0.mk (blk_below (g := gb102) (o := .cells #[.int .i64 x103000_1, .int .i64 x103001_1] 24 (0, 0)) (by (with_reducible repeat (first | refine blk_drewN ?_ _ | refine blk_drew ?_ | refine blk_alloc ?_ _)); exact BK102.out) hb); have n2_ := Aside0.mk (below_step (by repeat (first | (with_reducible first | exact HB.out | apply below_alloc | apply pw_below_drewN | apply below_drew1 | refine below_set ?_ GE101.out | refine below_set ?_ GE102.out) | exact HB.out)) hb); clear BK101; clear BK102; clear HB; have BK101 := n0_; have BK102 := n1_; have HB := n2_; clear n0_ n1_ n2_; (try clear hb); (try clear hb2); (try clear hk); (try clear hi); have hcz22_0 : w21.cell? ⟨gb102, 0, none⟩ = some (.int .i64 x103000_1) := (blk_cell BK102.out 0).trans rfl; have hcz22_1 : w21.cell? ⟨gb102, 1, none⟩ = some (.int .i64 x103001_1) := (blk_cell BK102.out 1).trans rfl; have hfz22_0 := blk_frozen BK102.out 0; have hfz22_1 := blk_frozen BK102.out 1))
              go_roundg k1
              case measure => have := HK1.out; omega
              case rel => exact ⟨(x4_1), (wrap64 (x5_1 + 1)), (t108), (t109), (by first | rfl | (simp; done) | (simp [*]; done)), (by first | rfl | (simp; done) | (simp [*]; done)), H', ⟨by have := HK1.out; omega⟩, ⟨by (with_reducible repeat (first | refine blk_drewN ?_ _ | refine blk_drew ?_ | refine blk_alloc ?_ _)); refine blk_far ?_ NB101_102.out _; (with_reducible repeat (first | refine blk_drewN ?_ _ | refine blk_drew ?_ | refine blk_alloc ?_ _)); refine blk_far ?_ NB101_102.out _; (with_reducible repeat (first | refine blk_drewN ?_ _ | refine blk_drew ?_ | refine blk_alloc ?_ _)); exact BK101.out⟩, ⟨by (with_reducible repeat (first | refine blk_drewN ?_ _ | refine blk_drew ?_ | refine blk_alloc ?_ _)); refine blk_put (cs := #[.int .i64 t108, .int .i64 x103001_1]) ?_ 1 _ rfl; (with_reducible repeat (first | refine blk_drewN ?_ _ | refine blk_drew ?_ | refine blk_alloc ?_ _)); refine blk_put (cs := #[.int .i64 x103000_1, .int .i64 x103001_1]) ?_ 0 _ rfl; (with_reducible repeat (first | refine blk_drewN ?_ _ | refine blk_drew ?_ | refine blk_alloc ?_ _)); exact BK102.out⟩, ⟨by repeat (first | (with_reducible first | exact HB.out | apply below_alloc | apply pw_below_drewN | apply below_drew1 | refine below_set ?_ GE101.out | refine below_set ?_ GE102.out) | exact HB.out)⟩⟩
            · rw [if_neg c16] at H
              have c16b0 : (((rd_T56 l0 x5_1).f0) == 2) = false := beq_eq_false_iff_ne.mpr c16
              have c16b1 : (((rd_T56 l0 x5_1).f0) != 2) = true := bne_iff_ne.mpr c16
              by_cases c23 : ((rd_T56 l0 x5_1).f0) = 3
              · rw [if_pos c23] at H
                have c23b0 : (((rd_T56 l0 x5_1).f0) == 3) = true := beq_iff_eq.mpr c23
                have c23b1 : (((rd_T56 l0 x5_1).f0) != 3) = false := bne_eq_false_iff_eq.mpr c23
                clear c23
                have H' := Aside0.mk H
                clear H
                have p103 : 0 ≤ (x5_1 : Int) := of_decide_eq_true (by first | (with_reducible assumption) | assumption)
                have q103 : x5_1 < (l0.length : Int) := of_decide_eq_true (by first | (with_reducible assumption) | assumption)
                obtain ⟨ad103, e103, hx103_0, hx103_1⟩ := at_T56 HR0.out x5_1 p103 q103
                cases e103
                replace hx103_0 := (HB.out.cell (World.block_lt_of_cell? w _ hx103_0)).trans hx103_0
                replace hx103_1 := (HB.out.cell (World.block_lt_of_cell? w _ hx103_1)).trans hx103_1
                replace p103 := eq_true p103
                replace q103 := eq_true q103
                go_wp2_with (first | ((with_reducible refine gate_callee (f := 65) rfl ?_); refine goesL_ (some 18) rfl rfl Try.func65 (by kernel_rfl) rfl #[.agg #[.int .i64 ((rd_T56 l0 x5_1).f0), .int .i64 ((rd_T56 l0 x5_1).f1)]] rfl (by (try simp only [List.map_toArray, List.map_cons, List.map_nil]); first | done | rfl | (simp only [List.length_drop, List.length_take]; rfl)) ?_; (with_reducible refine (tallymanref05_count.calls ((rd_T56 l0 x5_1).f0) ((rd_T56 l0 x5_1).f1) t104 _ A8.out).mono ?_); rintro e w24 ⟨rfl, hb⟩; refine ⟨_, rfl, ?_⟩; have n0_ := Aside0.mk (blk_below (g := gb101) (o := .cells #[.int .i64 0, .int .i64 0, .int .i64 0] 34 (0, 0)) (by (with_reducible repeat (first | refine blk_drewN ?_ _ | refine blk_drew ?_ | refine blk_alloc ?_ _)); exact BK101.out) hb); have n1_ := Aside0.mk (blk_below (g := gb102) (o := .cells #[.int .i64 x103000_1, .int .i64 x103001_1] 24 (0, 0)) (by (with_reducible repeat (first | refine blk_drewN ?_ _ | refine blk_drew ?_ | refine blk_alloc ?_ _)); exact BK102.out) hb); have n2_ := Aside0.mk (below_step (by repeat (first | (with_reducible first | exact HB.out | apply below_alloc | apply pw_below_drewN | apply below_drew1 | refine below_set ?_ GE101.out | refine below_set ?_ GE102.out) | exact HB.out)) hb); clear BK101; clear BK102; clear HB; have BK101 := n0_; have BK102 := n1_; have HB := n2_; clear n0_ n1_ n2_; (try clear hb); (try clear hb2); (try clear hk); (try clear hi); have p105 : 0 ≤ (x5_1 : Int) := of_decide_eq_true (by first | (with_reducible assumption) | assumption); have q105 : x5_1 < (l0.length : Int) := of_decide_eq_true (by first | (with_reducible assumption) | assumption); obtain ⟨ad105, e105, hx105_0, hx105_1⟩ := at_T56 HR0.out x5_1 p105 q105; obtain rfl : ad103 = ad105 := (by injection e105); replace hx105_0 := (HB.out.cell (World.block_lt_of_cell? w _ hx105_0)).trans hx105_0; replace hx105_1 := (HB.out.cell (World.block_lt_of_cell? w _ hx105_1)).trans hx105_1; replace p105 := eq_true p105; replace q105 := eq_true q105))
                go_roundg k1
                case measure => have := HK1.out; omega
                case rel => exact ⟨(Int.tmod (wrap64 (x4_1 + t104)) 4), (wrap64 (x5_1 + 1)), (x103000_1), (x103001_1), (by first | rfl | (simp; done) | (simp [*]; done)), (by first | rfl | (simp; done) | (simp [*]; done)), H', ⟨by have := HK1.out; omega⟩, ⟨by (with_reducible repeat (first | refine blk_drewN ?_ _ | refine blk_drew ?_ | refine blk_alloc ?_ _)); exact BK101.out⟩, ⟨by (with_reducible repeat (first | refine blk_drewN ?_ _ | refine blk_drew ?_ | refine blk_alloc ?_ _)); exact BK102.out⟩, ⟨by repeat (first | (with_reducible first | exact HB.out | apply below_alloc | apply pw_below_drewN | apply below_drew1 | refine below_set ?_ GE101.out | refine below_set ?_ GE102.out) | exact HB.out)⟩⟩
              · rw [if_neg c23] at H
                have c23b0 : (((rd_T56 l0 x5_1).f0) == 3) = false := beq_eq_false_iff_ne.mpr c23
                have c23b1 : (((rd_T56 l0 x5_1).f0) != 3) = true := bne_iff_ne.mpr c23
                by_cases c25 : ((rd_T56 l0 x5_1).f0) = 4
                · rw [if_pos c25] at H
                  have c25b0 : (((rd_T56 l0 x5_1).f0) == 4) = true := beq_iff_eq.mpr c25
                  have c25b1 : (((rd_T56 l0 x5_1).f0) != 4) = false := bne_eq_false_iff_eq.mpr c25
                  clear c25
                  have H' := Aside0.mk H
                  clear H
                  have p103 : 0 ≤ (x5_1 : Int) := of_decide_eq_true (by first | (with_reducible assumption) | assumption)
                  have q103 : x5_1 < (l0.length : Int) := of_decide_eq_true (by first | (with_reducible assumption) | assumption)
                  obtain ⟨ad103, e103, hx103_0, hx103_1⟩ := at_T56 HR0.out x5_1 p103 q103
                  cases e103
                  replace hx103_0 := (HB.out.cell (World.block_lt_of_cell? w _ hx103_0)).trans hx103_0
                  replace hx103_1 := (HB.out.cell (World.block_lt_of_cell? w _ hx103_1)).trans hx103_1
                  replace p103 := eq_true p103
                  replace q103 := eq_true q103
                  go_wp2_with (first | ((with_reducible refine gate_callee (f := 65) rfl ?_); refine goesL_ (some 18) rfl rfl Try.func65 (by kernel_rfl) rfl #[.agg #[.int .i64 ((rd_T56 l0 x5_1).f0), .int .i64 ((rd_T56 l0 x5_1).f1)]] rfl (by (try simp only [List.map_toArray, List.map_cons, List.map_nil]); first | done | rfl | (simp only [List.length_drop, List.length_take]; rfl)) ?_; (with_reducible refine (tallymanref05_count.calls ((rd_T56 l0 x5_1).f0) ((rd_T56 l0 x5_1).f1) t104 _ A8.out).mono ?_); rintro e w26 ⟨rfl, hb⟩; refine ⟨_, rfl, ?_⟩; have n0_ := Aside0.mk (blk_below (g := gb101) (o := .cells #[.int .i64 0, .int .i64 0, .int .i64 0] 34 (0, 0)) (by (with_reducible repeat (first | refine blk_drewN ?_ _ | refine blk_drew ?_ | refine blk_alloc ?_ _)); exact BK101.out) hb); have n1_ := Aside0.mk (blk_below (g := gb102) (o := .cells #[.int .i64 x103000_1, .int .i64 x103001_1] 24 (0, 0)) (by (with_reducible repeat (first | refine blk_drewN ?_ _ | refine blk_drew ?_ | refine blk_alloc ?_ _)); exact BK102.out) hb); have n2_ := Aside0.mk (below_step (by repeat (first | (with_reducible first | exact HB.out | apply below_alloc | apply pw_below_drewN | apply below_drew1 | refine below_set ?_ GE101.out | refine below_set ?_ GE102.out) | exact HB.out)) hb); clear BK101; clear BK102; clear HB; have BK101 := n0_; have BK102 := n1_; have HB := n2_; clear n0_ n1_ n2_; (try clear hb); (try clear hb2); (try clear hk); (try clear hi); have p105 : 0 ≤ (x5_1 : Int) := of_decide_eq_true (by first | (with_reducible assumption) | assumption); have q105 : x5_1 < (l0.length : Int) := of_decide_eq_true (by first | (with_reducible assumption) | assumption); obtain ⟨ad105, e105, hx105_0, hx105_1⟩ := at_T56 HR0.out x5_1 p105 q105; obtain rfl : ad103 = ad105 := (by injection e105); replace hx105_0 := (HB.out.cell (World.block_lt_of_cell? w _ hx105_0)).trans hx105_0; replace hx105_1 := (HB.out.cell (World.block_lt_of_cell? w _ hx105_1)).trans hx105_1; replace p105 := eq_true p105; replace q105 := eq_true q105))
                  go_roundg k1
                  case measure => have := HK1.out; omega
                  case rel => exact ⟨(Int.tmod (wrap64 (x4_1 + (wrap64 (3 * t104)))) 4), (wrap64 (x5_1 + 1)), (x103000_1), (x103001_1), (by first | rfl | (simp; done) | (simp [*]; done)), (by first | rfl | (simp; done) | (simp [*]; done)), H', ⟨by have := HK1.out; omega⟩, ⟨by (with_reducible repeat (first | refine blk_drewN ?_ _ | refine blk_drew ?_ | refine blk_alloc ?_ _)); exact BK101.out⟩, ⟨by (with_reducible repeat (first | refine blk_drewN ?_ _ | refine blk_drew ?_ | refine blk_alloc ?_ _)); exact BK102.out⟩, ⟨by repeat (first | (with_reducible first | exact HB.out | apply below_alloc | apply pw_below_drewN | apply below_drew1 | refine below_set ?_ GE101.out | refine below_set ?_ GE102.out) | exact HB.out)⟩⟩
                · rw [if_neg c25] at H
                  have c25b0 : (((rd_T56 l0 x5_1).f0) == 4) = false := beq_eq_false_iff_ne.mpr c25
                  have c25b1 : (((rd_T56 l0 x5_1).f0) != 4) = true := bne_iff_ne.mpr c25
                  have H' := Aside0.mk H
                  clear H
                  have p103 : 0 ≤ (x5_1 : Int) := of_decide_eq_true (by first | (with_reducible assumption) | assumption)
                  have q103 : x5_1 < (l0.length : Int) := of_decide_eq_true (by first | (with_reducible assumption) | assumption)
                  obtain ⟨ad103, e103, hx103_0, hx103_1⟩ := at_T56 HR0.out x5_1 p103 q103
                  cases e103
                  replace hx103_0 := (HB.out.cell (World.block_lt_of_cell? w _ hx103_0)).trans hx103_0
                  replace hx103_1 := (HB.out.cell (World.block_lt_of_cell? w _ hx103_1)).trans hx103_1
                  replace p103 := eq_true p103
                  replace q103 := eq_true q103
                  go_wp2_with (first | ((with_reducible refine gate_callee (f := 65) rfl ?_); refine goesL_ (some 18) rfl rfl Try.func65 (by kernel_rfl) rfl #[.agg #[.int .i64 ((rd_T56 l0 x5_1).f0), .int .i64 ((rd_T56 l0 x5_1).f1)]] rfl (by (try simp only [List.map_toArray, List.map_cons, List.map_nil]); first | done | rfl | (simp only [List.length_drop, List.length_take]; rfl)) ?_; (with_reducible refine (tallymanref05_count.calls ((rd_T56 l0 x5_1).f0) ((rd_T56 l0 x5_1).f1) t104 _ A8.out).mono ?_); rintro e w27 ⟨rfl, hb⟩; refine ⟨_, rfl, ?_⟩; have n0_ := Aside0.mk (blk_below (g := gb101) (o := .cells #[.int .i64 0, .int .i64 0, .int .i64 0] 34 (0, 0)) (by (with_reducible repeat (first | refine blk_drewN ?_ _ | refine blk_drew ?_ | refine blk_alloc ?_ _)); exact BK101.out) hb); have n1_ := Aside0.mk (blk_below (g := gb102) (o := .cells #[.int .i64 x103000_1, .int .i64 x103001_1] 24 (0, 0)) (by (with_reducible repeat (first | refine blk_drewN ?_ _ | refine blk_drew ?_ | refine blk_alloc ?_ _)); exact BK102.out) hb); have n2_ := Aside0.mk (below_step (by repeat (first | (with_reducible first | exact HB.out | apply below_alloc | apply pw_below_drewN | apply below_drew1 | refine below_set ?_ GE101.out | refine below_set ?_ GE102.out) | exact HB.out)) hb); clear BK101; clear BK102; clear HB; have BK101 := n0_; have BK102 := n1_; have HB := n2_; clear n0_ n1_ n2_; (try clear hb); (try clear hb2); (try clear hk); (try clear hi); have p105 : 0 ≤ (x5_1 : Int) := of_decide_eq_true (by first | (with_reducible assumption) | assumption); have q105 : x5_1 < (l0.length : Int) := of_decide_eq_true (by first | (with_reducible assumption) | assumption); obtain ⟨ad105, e105, hx105_0, hx105_1⟩ := at_T56 HR0.out x5_1 p105 q105; obtain rfl : ad103 = ad105 := (by injection e105); replace hx105_0 := (HB.out.cell (World.block_lt_of_cell? w _ hx105_0)).trans hx105_0; replace hx105_1 := (HB.out.cell (World.block_lt_of_cell? w _ hx105_1)).trans hx105_1; replace p105 := eq_true p105; replace q105 := eq_true q105))
                  go_roundg k1
                  case measure => have := HK1.out; omega
                  case rel => exact ⟨(x4_1), (wrap64 (x5_1 + 1)), (x103000_1), (x103001_1), (by first | rfl | (simp; done) | (simp [*]; done)), (by first | rfl | (simp; done) | (simp [*]; done)), H', ⟨by have := HK1.out; omega⟩, ⟨by (with_reducible repeat (first | refine blk_drewN ?_ _ | refine blk_drew ?_ | refine blk_alloc ?_ _)); exact BK101.out⟩, ⟨by (with_reducible repeat (first | refine blk_drewN ?_ _ | refine blk_drew ?_ | refine blk_alloc ?_ _)); exact BK102.out⟩, ⟨by repeat (first | (with_reducible first | exact HB.out | apply below_alloc | apply pw_below_drewN | apply below_drew1 | refine below_set ?_ GE101.out | refine below_set ?_ GE102.out) | exact HB.out)⟩⟩
        · rw [if_neg c7] at H
          exact absurd H (by simp)
      · rw [if_neg c6] at H
        have c6b0 : decide (x5_1 < (l0.length : Int)) = false := decide_eq_false c6
        clear c6
        simp only [Option.some.injEq, Prod.mk.injEq] at H
        obtain ⟨rfl, rfl, rfl⟩ := H
        have hnb28 := NB102_101.out
        have hnc28 := NB101_102.out
        have hcz29_0 : wr.cell? ⟨gb102, 0, none⟩ = some (.int .i64 x103000_1) := (blk_cell BK102.out 0).trans rfl
        have hcz29_1 : wr.cell? ⟨gb102, 1, none⟩ = some (.int .i64 x103001_1) := (blk_cell BK102.out 1).trans rfl
        have hfz29_0 := blk_frozen BK102.out 0
        have hfz29_1 := blk_frozen BK102.out 1
        have hcz30_0 : wr.cell? ⟨gb101, 0, none⟩ = some (.int .i64 0) := (blk_cell BK101.out 0).trans rfl
        have hcz30_1 : wr.cell? ⟨gb101, 1, none⟩ = some (.int .i64 0) := (blk_cell BK101.out 1).trans rfl
        have hcz30_2 : wr.cell? ⟨gb101, 2, none⟩ = some (.int .i64 0) := (blk_cell BK101.out 2).trans rfl
        have hfz30_0 := blk_frozen BK101.out 0
        have hfz30_1 := blk_frozen BK101.out 1
        have hfz30_2 := blk_frozen BK101.out 2
        go_wp2
        refine bodyPost_ret (results_cell_row rfl _ _ gb101 34 #[.int .i64 x4_1, .int .i64 x103000_1, .int .i64 x103001_1] (0, 0) _ rfl (by (with_reducible repeat (first | refine blk_drewN ?_ _ | refine blk_drew ?_ | refine blk_alloc ?_ _)); refine blk_put (cs := #[.int .i64 x4_1, .int .i64 x103000_1, .int .i64 0]) ?_ 2 _ rfl; (with_reducible repeat (first | refine blk_drewN ?_ _ | refine blk_drew ?_ | refine blk_alloc ?_ _)); refine blk_put (cs := #[.int .i64 x4_1, .int .i64 0, .int .i64 0]) ?_ 1 _ rfl; (with_reducible repeat (first | refine blk_drewN ?_ _ | refine blk_drew ?_ | refine blk_alloc ?_ _)); refine blk_put (cs := #[.int .i64 0, .int .i64 0, .int .i64 0]) ?_ 0 _ rfl; (with_reducible repeat (first | refine blk_drewN ?_ _ | refine blk_drew ?_ | refine blk_alloc ?_ _)); exact BK101.out) Try.underlying34 rfl (by kernel_rfl)) rfl ?_
        exact ⟨by first | rfl | ((repeat first | rw [Int.tdiv_eq_ediv_of_nonneg (by omega)] | rw [Int.tmod_eq_emod_of_nonneg (by omega)]); rfl) | (simp [errW_none, errW_some] <;> rfl) | (simp [*, errW_none, errW_some] <;> rfl), by repeat (first | (with_reducible first | exact HB.out | apply below_alloc | apply pw_below_drewN | apply below_drew1 | refine below_set ?_ GE101.out | refine below_set ?_ GE102.out) | exact HB.out)⟩
end Go.Proofs.Ytpoghhcpoimepaa.P
end
section
/- Where a walk ends, and its trace: the document's are the program's. -/
namespace Go.Proofs.Ytpoghhcpoimepaa.P
open Go.Proofs.Ytpoghhcpoimepaa.B Go.RowKit Go.Proofs.YtpoghhcpoimepaaW.PrintWords Go.Proofs.YtpoghhcpoimepaaW.PrintLast Go.Proofs.YtpoghhcpoimepaaW.PrintMore
set_option linter.unusedVariables false
set_option linter.unusedSimpArgs false
theorem step5 (q : Nat) (hq : q < 4) (x y n : Int) (hx : x.natAbs ≤ 1000000000000) (hy : y.natAbs ≤ 1000000000000) (hn : n.natAbs ≤ 1048576) : tallymanref05_step.f x y (q : Int) n = some (x + n * (ip q).1, y + n * (ip q).2) := by
  unfold tallymanref05_step.f
  rw [turn4, Option.bind_some, fx_near (by decide), fx_near (by decide), qt_qt q hq]
  have hq : q = 0 ∨ q = 1 ∨ q = 2 ∨ q = 3 := by omega
  rcases hq with h | h | h | h <;> subst h <;> simp [cm, ip, wrap64] <;> omega
theorem stepW_1 (s : Nat × Int × Int) (n : Int) : stepW s 1 n = (s.1, s.2.1 + ofV 1 n * (ip s.1).1, s.2.2 + ofV 1 n * (ip s.1).2) := rfl
theorem stepW_2 (s : Nat × Int × Int) (n : Int) : stepW s 2 n = (s.1, s.2.1 + (-(ofV 2 n : Int)) * (ip s.1).1, s.2.2 + (-(ofV 2 n : Int)) * (ip s.1).2) := by
  unfold stepW
  rw [if_neg (by decide), if_neg (by decide), if_pos rfl, Int.neg_mul, Int.neg_mul, ← Int.sub_eq_add_neg, ← Int.sub_eq_add_neg]
theorem stepW_3 (s : Nat × Int × Int) (n : Int) : stepW s 3 n = ((s.1 + ofV 3 n) % 4, s.2.1, s.2.2) := rfl
theorem stepW_4 (s : Nat × Int × Int) (n : Int) : stepW s 4 n = ((s.1 + 3 * ofV 4 n) % 4, s.2.1, s.2.2) := rfl
theorem ofV_no (k n : Int) (h : k ≠ 1 ∧ k ≠ 2 ∧ k ≠ 3 ∧ k ≠ 4) : ofV k n = 0 := by
  cases h3 : ofV k n with
  | zero => rfl
  | succ m => have := ofV_kind (k := k) (n := n) (by omega); omega
theorem stepW_no (s : Nat × Int × Int) (k n : Int) (h : k ≠ 1 ∧ k ≠ 2 ∧ k ≠ 3 ∧ k ≠ 4) : stepW s k n = s := by
  unfold stepW
  rw [if_neg h.2.2.1, if_neg h.2.2.2, if_neg h.2.1, ofV_no k n h]
  simp
theorem end5_loop (l : List S56) (hl : l.length ≤ 1000) : ∀ (d i : Nat) (s : Nat × Int × Int), i + d = l.length → s = foldW (l.take i) → Ev (fun k => tallymanref05_End.l0 k l (s.1 : Int) (i : Int) s.2.1 s.2.2) (((foldW l).1 : Int), (foldW l).2.1, (foldW l).2.2) := by
  intro d
  induction d with
  | zero =>
    intro i s hi hs
    rw [show i = l.length by omega, List.take_length] at hs
    subst hs
    exact Ev.step (fun k => by rw [tallymanref05_End.l0, if_neg (by omega)]) (Ev.now _)
  | succ d ih =>
    intro i s hi hs
    have hlt : i < l.length := by omega
    have hok := foldW_ok (l.take i)
    have hln : (l.take i).length ≤ 1000 := by rw [List.length_take]; omega
    rw [← hs] at hok
    obtain ⟨hq, hn1, hn2⟩ := hok
    have hT : foldW (l.take (i + 1)) = stepW s l[i].f0 l[i].f1 := by rw [take_more l i hlt, foldW_snoc, hs]
    have w1 : wrap64 ((i : Int) + 1) = ((i + 1 : Nat) : Int) := by rw [w64_id (by omega) (by omega)]; rfl
    refine Ev.step (fun k => by rw [tallymanref05_End.l0, if_pos (by omega), if_pos (by omega), rd56 l i hlt, count_v, Option.bind_some, w1]) ?_
    have IH := ih (i + 1) _ (by omega) hT.symm
    obtain ⟨k, hk⟩ : ∃ k, l[i].f0 = k := ⟨_, rfl⟩
    obtain ⟨n, hn⟩ : ∃ n, l[i].f1 = n := ⟨_, rfl⟩
    rw [hk, hn] at IH ⊢
    have hm := ofV_le k n
    by_cases c1 : k = 1
    · subst c1
      rw [stepW_1] at IH
      exact Ev.congr (fun k => by rw [if_pos rfl, step5 s.1 hq _ _ _ (by omega) (by omega) (by omega), Option.bind_some]) IH
    by_cases c2 : k = 2
    · subst c2
      rw [stepW_2] at IH
      exact Ev.congr (fun k => by rw [if_neg (by decide), if_pos rfl, n64 (by omega) (by omega), step5 s.1 hq _ _ _ (by omega) (by omega) (by omega), Option.bind_some]) IH
    by_cases c3 : k = 3
    · subst c3
      rw [stepW_3] at IH
      have e : Int.tmod (wrap64 ((s.1 : Int) + (ofV 3 n : Int))) 4 = ((((s.1 + ofV 3 n) % 4 : Nat)) : Int) := by rw [w64_id (by omega) (by omega), Int.tmod_eq_emod_of_nonneg (by omega)]; omega
      exact Ev.congr (fun k => by rw [if_neg (by decide), if_neg (by decide), if_pos rfl, e]) IH
    by_cases c4 : k = 4
    · subst c4
      rw [stepW_4] at IH
      have e : Int.tmod (wrap64 ((s.1 : Int) + wrap64 (3 * (ofV 4 n : Int)))) 4 = ((((s.1 + 3 * ofV 4 n) % 4 : Nat)) : Int) := by rw [w64_id (x := 3 * (ofV 4 n : Int)) (by omega) (by omega), w64_id (by omega) (by omega), Int.tmod_eq_emod_of_nonneg (by omega)]; omega
      exact Ev.congr (fun k => by rw [if_neg (by decide), if_neg (by decide), if_neg (by decide), if_pos rfl, e]) IH
    rw [stepW_no s k n ⟨c1, c2, c3, c4⟩] at IH
    exact Ev.congr (fun k => by rw [if_neg c1, if_neg c2, if_neg c3, if_neg c4]) IH
theorem end5 (l : List S56) (hl : l.length ≤ 1000) : Ev (fun k => tallymanref05_End.f k l) (((foldW l).1 : Int), (foldW l).2.1, (foldW l).2.2) :=
  end5_loop l hl l.length 0 (0, 0, 0) (by omega) rfl
theorem jc_le (j : Nat) (c : Int) (hj : j ≤ 10000) (hc : c.natAbs ≤ 1) : ((j : Int) * c).natAbs ≤ 10000 := by
  have h : c = 0 ∨ c = 1 ∨ c = -1 := by omega
  rcases h with h | h | h <;> subst h <;> omega
theorem ec_le (e c : Int) (he : e = 1 ∨ e = -1) (hc : c.natAbs ≤ 1) : (e * c).natAbs ≤ 1 := by
  rcases he with h | h
  · rw [h, Int.one_mul]; exact hc
  · rw [h, Int.neg_mul, Int.one_mul, Int.natAbs_neg]; exact hc
theorem sum_le (x t : Int) (hx : x.natAbs ≤ 500000000000) (ht : t.natAbs ≤ 10000) : (x + t).natAbs ≤ 1000000000000 := by omega
theorem e_le (e : Int) (he : e = 1 ∨ e = -1) : e.natAbs ≤ 1048576 := by omega
theorem e_is (e k : Int) (he : e = 3 - 2 * k) (he1 : e = 1 ∨ e = -1) : wrap64 (3 - wrap64 (2 * k)) = e := by rw [w64_id (x := 2 * k) (by omega) (by omega), w64_id (by omega) (by omega)]; omega
theorem w_one (i : Nat) (h : i ≤ 100000) : wrap64 ((i : Int) + 1) = ((i + 1 : Nat) : Int) := by rw [w64_id (by omega) (by omega)]; rfl
theorem q_one (j : Nat) (c : Int) : (j : Int) * c + c = ((j + 1 : Nat) : Int) * c := by rw [Int.natCast_add, Int.add_mul]; simp
theorem pts_small (xs : List S24) (x y a b : Int) (j : Nat) (hx : xs.length ≤ 100000) (hj : j ≤ 10000) : (xs ++ ptsFrom x y a b j).length < 8796093022208 := by
  have h : (xs ++ ptsFrom x y a b j).length = xs.length + j := by rw [List.length_append, ptsFrom_len]
  exact Nat.lt_of_le_of_lt (Nat.le_of_eq h) (Nat.lt_of_le_of_lt (Nat.add_le_add hx hj) (by decide))
theorem tr_l2 (l : List S56) (xs : List S24) (i q m : Nat) (hl : l.length ≤ 1000) (hi : i < l.length) (hq : q < 4) (hm : m ≤ 10000) (hxl : xs.length ≤ 100000) (k x y e : Int) (hk : l[i].f0 = k) (he : e = 3 - 2 * k) (he1 : e = 1 ∨ e = -1) (hx : x.natAbs ≤ 500000000000) (hy : y.natAbs ≤ 500000000000) (r : List S24 × Int)
    (hr : Ev (fun k => tallymanref05_Trace.l1 k l (xs ++ ptsFrom x y (e * (ip q).1) (e * (ip q).2) m) (q : Int) ((i + 1 : Nat) : Int) (x + m * (e * (ip q).1)) (y + m * (e * (ip q).2))) r) :
    ∀ (d j : Nat), j + d = m → Ev (fun k => tallymanref05_Trace.l2 k l (xs ++ ptsFrom x y (e * (ip q).1) (e * (ip q).2) j) (q : Int) (i : Int) (m : Int) (j : Int) (x + j * (e * (ip q).1)) (y + j * (e * (ip q).2))) r := by
  have w1 := w_one i (by clear hx hy he1 he hk; omega)
  have e3 := e_is e k he he1
  have e4 := e_le e he1
  have a1 := ec_le e _ he1 (ip_small q).1.1
  have a2 := ec_le e _ he1 (ip_small q).1.2
  have S := Aside0.mk (fun (j : Nat) (hj : j ≤ 10000) => (show (x + j * (e * (ip q).1)).natAbs ≤ 1000000000000 ∧ (y + j * (e * (ip q).2)).natAbs ≤ 1000000000000 from ⟨sum_le _ _ hx (jc_le j _ hj a1), sum_le _ _ hy (jc_le j _ hj a2)⟩))
  clear hx hy he1 he a1 a2
  intro d
  induction d with
  | zero =>
    intro j hj
    rw [show j = m by omega]
    exact Ev.step (fun k => by rw [tallymanref05_Trace.l2, if_neg (by omega), w1]) hr
  | succ d ih =>
    intro j hj
    have hj1 : j ≤ 10000 := by clear hr w1 e3 e4 S hk; omega
    have hjm : j < m := by clear hr w1 e3 e4 S hk; omega
    have hjd : j + 1 + d = m := by clear hr w1 e3 e4 S hk; omega
    have w2 := w_one j (Nat.le_trans hj1 (by decide))
    have hpl := pts_small xs x y (e * (ip q).1) (e * (ip q).2) j hxl hj1
    have IH := ih (j + 1) hjd
    have S1 := S.out j hj1
    rw [ptsFrom, ← List.append_assoc, ← q_one, ← q_one, ← Int.add_assoc, ← Int.add_assoc] at IH
    have h5 := step5 q hq _ _ e S1.1 S1.2 e4
    have g1 : (j : Int) < (m : Int) := Int.ofNat_lt.2 hjm
    have g2 : (0 : Int) ≤ (i : Int) := Int.natCast_nonneg i
    have g3 : (i : Int) < (l.length : Int) := Int.ofNat_lt.2 hi
    refine Ev.step (fun k => ?_) IH
    rw [tallymanref05_Trace.l2, if_pos g1, if_pos g2, if_pos g3, rd56 l i hi, hk, e3, h5, Option.bind_some, if_pos hpl, w2]
theorem turn_l (q m : Nat) (hq : q < 4) (hm : m ≤ 1048576) : Int.tmod (wrap64 ((q : Int) + (m : Int))) 4 = (((q + m) % 4 : Nat) : Int) := by
  rw [w64_id (by omega) (by omega), Int.tmod_eq_emod_of_nonneg (by omega)]; omega
theorem turn_r (q m : Nat) (hq : q < 4) (hm : m ≤ 1048576) : Int.tmod (wrap64 ((q : Int) + wrap64 (3 * (m : Int)))) 4 = (((q + 3 * m) % 4 : Nat) : Int) := by
  rw [w64_id (x := 3 * (m : Int)) (by omega) (by omega), w64_id (by omega) (by omega), Int.tmod_eq_emod_of_nonneg (by omega)]; omega
theorem near_take (a L : Nat) (h : a ≤ L * 1048576) (hL : L ≤ 1000) : a ≤ 500000000000 := Nat.le_trans h (Nat.le_trans (Nat.mul_le_mul_right _ hL) (by decide))
theorem add_w (t m : Nat) (ht : t ≤ 10000) (hm : m ≤ 1048576) : wrap64 ((t : Int) + (m : Int)) = ((t + m : Nat) : Int) := by rw [w64_id (by omega) (by omega)]; rfl
theorem neg_one_mul' (c : Int) : -1 * c = -c := by omega
theorem tr_l1 (l : List S56) (hl : l.length ≤ 1000) (hsum : sumG l ≤ 10000) : ∀ (d i : Nat) (s : Nat × Int × Int), i + d = l.length → s = foldW (l.take i) → Ev (fun k => tallymanref05_Trace.l1 k l (⟨0, 0⟩ :: ptsW (l.take i) (0, 0, 0)) (s.1 : Int) (i : Int) s.2.1 s.2.2) (⟨0, 0⟩ :: ptsW l (0, 0, 0), 0) := by
  intro d
  induction d with
  | zero =>
    intro i s hi hs
    obtain rfl : i = l.length := hi
    rw [List.take_length]
    exact Ev.step (fun k => by rw [tallymanref05_Trace.l1, if_neg (Int.lt_irrefl _)]) (Ev.now _)
  | succ d ih =>
    intro i s hi hs
    have hlt : i < l.length := by clear ih hsum; omega
    have hid : i + 1 + d = l.length := by clear ih hsum; omega
    have hi1 : i ≤ 100000 := Nat.le_trans (Nat.le_of_lt hlt) (Nat.le_trans hl (by decide))
    have hok := foldW_ok (l.take i)
    have hln : (l.take i).length ≤ 1000 := by rw [List.length_take]; exact Nat.le_trans (Nat.min_le_right _ _) hl
    rw [← hs] at hok
    obtain ⟨hq, hn1, hn2⟩ := hok
    replace hn1 := near_take _ _ hn1 hln
    replace hn2 := near_take _ _ hn2 hln
    have hT : foldW (l.take (i + 1)) = stepW s l[i].f0 l[i].f1 := by rw [take_more l i hlt, foldW_snoc, hs]
    have hP : ptsW (l.take (i + 1)) (0, 0, 0) = ptsW (l.take i) (0, 0, 0) ++ stepPts s l[i].f0 l[i].f1 := by rw [take_more l i hlt, ptsW_snoc, hs]; rfl
    have hL : (ptsW (l.take i) (0, 0, 0)).length + goesV l[i].f0 l[i].f1 ≤ 10000 := by rw [ptsW_len, ← sumG_snoc, ← take_more l i hlt]; exact Nat.le_trans (sumG_take l _) hsum
    have w1 := w_one i hi1
    have IH := ih (i + 1) _ hid hT.symm
    rw [hP] at IH
    have g2 : (0 : Int) ≤ (i : Int) := Int.natCast_nonneg i
    have g3 : (i : Int) < (l.length : Int) := Int.ofNat_lt.2 hlt
    obtain ⟨k, hk⟩ : ∃ k, l[i].f0 = k := ⟨_, rfl⟩
    obtain ⟨n, hn⟩ : ∃ n, l[i].f1 = n := ⟨_, rfl⟩
    refine Ev.step (fun k => by rw [tallymanref05_Trace.l1, if_pos g3, if_pos g2, rd56 l i hlt, count_v, Option.bind_some, w1]) ?_
    rw [hk, hn] at IH hL ⊢
    have hm := ofV_le k n
    by_cases c3 : k = 3
    · subst c3
      rw [stepW_3, stepPts, if_pos (.inl rfl), List.append_nil] at IH
      exact Ev.congr (fun k => by rw [if_pos rfl, turn_l s.1 _ hq hm]) IH
    by_cases c4 : k = 4
    · subst c4
      rw [stepW_4, stepPts, if_pos (.inr rfl), List.append_nil] at IH
      exact Ev.congr (fun k => by rw [if_neg (by decide), if_pos rfl, turn_r s.1 _ hq hm]) IH
    have hxs : (⟨0, 0⟩ :: ptsW (l.take i) (0, 0, 0) : List S24).length ≤ 100000 := Nat.le_trans (Nat.succ_le_succ (Nat.le_trans (Nat.le_add_right _ _) hL)) (by decide)
    by_cases c1 : k = 1
    · subst c1
      rw [goesV, if_pos (.inl rfl)] at hL
      rw [stepW_1, stepPts, if_neg (by decide), if_neg (by decide)] at IH
      refine Ev.congr (fun k => by rw [if_neg (by decide), if_neg (by decide), if_pos rfl]) (Ev.step (fun k => by rw [tallymanref05_Trace.j3, if_pos (by decide)]) ?_)
      have h := tr_l2 l (⟨0, 0⟩ :: ptsW (l.take i) (0, 0, 0)) i s.1 (ofV 1 n) hl hlt hq (Nat.le_trans (Nat.le_add_left _ _) hL) hxs 1 s.2.1 s.2.2 1 hk rfl (.inl rfl) hn1 hn2 _ (by rw [Int.one_mul, Int.one_mul]; exact IH) (ofV 1 n) 0 (Nat.zero_add _)
      simpa [ptsFrom] using h
    by_cases c2 : k = 2
    · subst c2
      rw [goesV, if_pos (.inr rfl)] at hL
      rw [stepW_2, stepPts, if_neg (by decide), if_pos rfl] at IH
      refine Ev.congr (fun k => by rw [if_neg (by decide), if_neg (by decide), if_neg (by decide)]) (Ev.step (fun k => by rw [tallymanref05_Trace.j3, if_pos (by decide)]) ?_)
      have e2 : ∀ c : Int, (ofV 2 n : Int) * -c = -(ofV 2 n : Int) * c := fun c => by rw [Int.mul_neg, Int.neg_mul]
      have h := tr_l2 l (⟨0, 0⟩ :: ptsW (l.take i) (0, 0, 0)) i s.1 (ofV 2 n) hl hlt hq (Nat.le_trans (Nat.le_add_left _ _) hL) hxs 2 s.2.1 s.2.2 (-1) hk rfl (.inr rfl) hn1 hn2 _ (by rw [neg_one_mul', neg_one_mul', e2, e2]; exact IH) (ofV 2 n) 0 (Nat.zero_add _)
      simpa [ptsFrom] using h
    rw [stepW_no s k n ⟨c1, c2, c3, c4⟩, stepPts, if_neg (fun h => h.elim c3 c4), if_neg c2, ofV_no k n ⟨c1, c2, c3, c4⟩, ptsFrom, List.append_nil] at IH
    exact Ev.congr (fun k => by rw [if_neg c3, if_neg c4, if_neg c1]) (Ev.step (fun k => by rw [tallymanref05_Trace.j3, if_neg (by simpa using c2), w1]) IH)
theorem tr_l0 (l : List S56) (hl : l.length ≤ 1000) : ∀ (d i t : Nat), i + d = l.length → sumG (l.take i) = t → t ≤ 10000 → Ev (fun k => tallymanref05_Trace.l0 k l (t : Int) (i : Int)) (traceV l) := by
  intro d
  induction d with
  | zero =>
    intro i t hi hs ht
    obtain rfl : i = l.length := hi
    rw [List.take_length] at hs
    have hle : sumG l ≤ 10000 := Nat.le_trans (Nat.le_of_eq hs) ht
    rw [traceV, if_pos hle]
    refine Ev.step (fun k => by rw [tallymanref05_Trace.l0, if_neg (Int.lt_irrefl _)]) ?_
    exact tr_l1 l hl hle l.length 0 (0, 0, 0) (Nat.zero_add _) rfl
  | succ d ih =>
    intro i t hi hs ht
    have hlt : i < l.length := by clear ih hs; omega
    have hid : i + 1 + d = l.length := by clear ih hs; omega
    have hi1 : i ≤ 100000 := Nat.le_trans (Nat.le_of_lt hlt) (Nat.le_trans hl (by decide))
    have hS : sumG (l.take (i + 1)) = t + goesV l[i].f0 l[i].f1 := by rw [take_more l i hlt, sumG_snoc, hs]
    have hT := sumG_take l (i + 1)
    have w1 := w_one i hi1
    have IH := fun h => ih (i + 1) _ hid hS h
    have r1 := rd56 l i hlt
    have g2 : (0 : Int) ≤ (i : Int) := Int.natCast_nonneg i
    have g3 : (i : Int) < (l.length : Int) := Int.ofNat_lt.2 hlt
    obtain ⟨k, hk⟩ : ∃ k, l[i].f0 = k := ⟨_, rfl⟩
    obtain ⟨n, hn⟩ : ∃ n, l[i].f1 = n := ⟨_, rfl⟩
    have hm := ofV_le k n
    rw [hk, hn] at IH hS
    have goes : (k = 1 ∨ k = 2) → Ev (fun k => tallymanref05_Trace.j1 k l (t : Int) (i : Int) true) (traceV l) := by
      intro h
      rw [goesV, if_pos h] at IH hS
      have w2 := add_w t _ ht hm
      by_cases hov : t + ofV k n ≤ 10000
      · have hov2 : ¬ (((t + ofV k n : Nat) : Int) > 10000) := fun h => absurd (Int.ofNat_lt.1 (show ((10000 : Nat) : Int) < _ from h)) (Nat.not_lt.2 hov)
        exact Ev.step (fun k => by rw [tallymanref05_Trace.j1, if_pos rfl, if_pos g2, if_pos g3, r1, hk, hn, count_v, Option.bind_some, w2, w1, if_neg hov2]) (IH hov)
      · have hov2 : ((t + ofV k n : Nat) : Int) > 10000 := show ((10000 : Nat) : Int) < _ from Int.ofNat_lt.2 (Nat.not_le.1 hov)
        have hno : ¬ sumG l ≤ 10000 := fun h => hov (Nat.le_trans (Nat.le_of_eq hS.symm) (Nat.le_trans hT h))
        rw [traceV, if_neg hno]
        exact Ev.step (fun k => by rw [tallymanref05_Trace.j1, if_pos rfl, if_pos g2, if_pos g3, r1, hk, hn, count_v, Option.bind_some, w2, if_pos hov2]) (Ev.now _)
    refine Ev.step (fun k => by rw [tallymanref05_Trace.l0, if_pos g3, if_pos g2, r1, hk]) ?_
    by_cases c1 : k = 1
    · exact Ev.congr (fun k => if_pos c1) (goes (.inl c1))
    refine Ev.congr (fun k => if_neg c1) ?_
    by_cases c2 : k = 2
    · rw [show (k == 2) = true by simpa using c2]; exact goes (.inr c2)
    rw [show (k == 2) = false by simpa using c2]
    rw [goesV, if_neg (fun h => h.elim c1 c2), Nat.add_zero] at IH
    have ht2 : ¬ ((t : Int) > 10000) := fun h => absurd (Int.ofNat_lt.1 (show ((10000 : Nat) : Int) < _ from h)) (Nat.not_lt.2 ht)
    exact Ev.step (fun k => by rw [tallymanref05_Trace.j1, if_neg Bool.false_ne_true, if_neg ht2, w1]) (IH ht)
theorem trace5 (l : List S56) (hl : l.length ≤ 1000) : Ev (fun k => tallymanref05_Trace.f k l) (traceV l) :=
  tr_l0 l hl l.length 0 0 (by omega) rfl (by omega)
theorem pts_loop (l : List S24) (hl : l.length ≤ 100000) : ∀ (d i : Nat), i + d = l.length → Ev (fun k => tallymanref05_Points.l0 k l l (i : Int)) true := by
  intro d
  induction d with
  | zero =>
    intro i hi
    refine Ev.step (fun k => ?_) (Ev.now _)
    rw [tallymanref05_Points.l0, if_neg (by omega)]
  | succ d ih =>
    intro i hi
    refine Ev.step (fun k => ?_) (ih (i + 1) (by omega))
    rw [tallymanref05_Points.l0, if_pos (by omega), if_pos (by omega), if_pos (by omega), if_neg (by simp), n64 (by omega) (by omega)]
    rfl
theorem pts_same (l : List S24) (hl : l.length ≤ 100000) : Ev (fun k => tallymanref05_Points.f k l l) true := by
  unfold tallymanref05_Points.f
  exact Ev.congr (fun k => if_pos rfl) (pts_loop l hl l.length 0 (by omega))
theorem traceV_len (l : List S56) : (traceV l).1.length ≤ 10001 := by
  unfold traceV
  split
  · rw [List.length_cons, ptsW_len]; omega
  · decide
end Go.Proofs.Ytpoghhcpoimepaa.P
end
