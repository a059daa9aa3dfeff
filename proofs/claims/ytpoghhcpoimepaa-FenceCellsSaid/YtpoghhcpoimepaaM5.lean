/- Several texts of this proof in one: what the law's functions come to, and the lemmas (some as the kit's print.sh printed them, what is not used struck). -/
import Derived.Test.YtpoghhcpoimepaaM2
import Derived.Test.YtpoghhcpoimepaaM3
import Derived.Test.YtpoghhcpoimepaaM4
import Derived.Deep.Slices
import Derived.ChangeArms
section
-- printed by the session's own call of print.py. Not trusted: Lean checks it.
namespace Go.Proofs.Ytpoghhcpoimepaa.P
open Go.RowKit Go.Proofs.YtpoghhcpoimepaaW.PrintWords Go.Proofs.YtpoghhcpoimepaaW.PrintLast Go.Proofs.YtpoghhcpoimepaaW.PrintMore
attribute [local go_sem] max2_int min2_int max_two min_two max_three min_three max_four min_four
set_option linter.unusedVariables false
set_option linter.unusedSimpArgs false
/-! ### tallymanlaw06_FenceCells: function 4 -/
mutual
def tallymanlaw06_FenceCells.j0 : Nat → List (S24) → Bool → Int → Int → Int → Int → Option (Bool)
  | 0, _, _, _, _, _, _ => none
  | k + 1, x0, x52, x106000, x106001, x107000, x107001 => if x52 = true then ((tallymanlaw06_alive.f).bind fun t111 => (some t111)) else (tallymanlaw06_FenceCells.l0 k x0 0 (wrap64 (x106000 - 1)) x106000 x106001 x107000 x107001)
def tallymanlaw06_FenceCells.l0 : Nat → List (S24) → Int → Int → Int → Int → Int → Int → Option (Bool)
  | 0, _, _, _, _, _, _, _ => none
  | k + 1, x0, x5, x6, x106000, x106001, x107000, x107001 => if x6 ≤ x107000 then (tallymanlaw06_FenceCells.l1 k x0 x5 x6 (wrap64 (x106001 - 1)) x106000 x106001 x107000 x107001) else ((fence_Area.f x0).bind fun t112 => (if x5 = t112 then ((tallymanlaw06_alive.f).bind fun t113 => (some t113)) else (some false)))
def tallymanlaw06_FenceCells.l1 : Nat → List (S24) → Int → Int → Int → Int → Int → Int → Int → Option (Bool)
  | 0, _, _, _, _, _, _, _, _ => none
  | k + 1, x0, x5, x6, x7, x106000, x106001, x107000, x107001 => if x7 ≤ x107001 then ((fence_Cell.f x0 x6 x7).bind fun t114 => (if t114 = 0 then (tallymanlaw06_FenceCells.l1 k x0 (wrap64 (x5 + t114)) x6 (wrap64 (x7 + 1)) x106000 x106001 x107000 x107001) else (if x6 < x106000 then (some false) else (if x7 < x106001 then (some false) else (if x6 = x107000 then (some false) else (if x7 = x107001 then (some false) else (tallymanlaw06_FenceCells.l1 k x0 (wrap64 (x5 + t114)) x6 (wrap64 (x7 + 1)) x106000 x106001 x107000 x107001))))))) else (tallymanlaw06_FenceCells.l0 k x0 x5 (wrap64 (x6 + 1)) x106000 x106001 x107000 x107001)
end
def tallymanlaw06_FenceCells.f (k : Nat) (l0 : List (S24)) : Option (Bool) := (fence_Box.f l0).bind fun bt101 => (if (l0.length : Int) > 40 then (tallymanlaw06_FenceCells.j0 k l0 true bt101.1 bt101.2.1 bt101.2.2.1 bt101.2.2.2) else ((tallymanref03_Small.f bt101.1 bt101.2.1 500).bind fun t107 => (if t107 = true then ((tallymanref03_Small.f bt101.2.2.1 bt101.2.2.2 500).bind fun t108 => (if t108 = true then (if (wrap64 (bt101.2.2.1 - bt101.1)) > 14 then (tallymanlaw06_FenceCells.j0 k l0 true bt101.1 bt101.2.1 bt101.2.2.1 bt101.2.2.2) else (if (wrap64 (bt101.2.2.2 - bt101.2.1)) > 14 then (tallymanlaw06_FenceCells.j0 k l0 true bt101.1 bt101.2.1 bt101.2.2.1 bt101.2.2.2) else ((fence_Right.f l0).bind fun t109 => (if t109 = true then ((tallymanref06_Right.f k l0).bind fun t110 => (tallymanlaw06_FenceCells.j0 k l0 (!t110) bt101.1 bt101.2.1 bt101.2.2.1 bt101.2.2.2)) else (tallymanlaw06_FenceCells.j0 k l0 true bt101.1 bt101.2.1 bt101.2.2.1 bt101.2.2.2))))) else (tallymanlaw06_FenceCells.j0 k l0 true bt101.1 bt101.2.1 bt101.2.2.1 bt101.2.2.2))) else (tallymanlaw06_FenceCells.j0 k l0 true bt101.1 bt101.2.1 bt101.2.2.1 bt101.2.2.2))))
theorem tallymanlaw06_FenceCells.mono_l : ∀ k, (∀ y0 y1 y2 y3 y4 y5, LeO (tallymanlaw06_FenceCells.j0 k y0 y1 y2 y3 y4 y5) (tallymanlaw06_FenceCells.j0 (k + 1) y0 y1 y2 y3 y4 y5)) ∧ (∀ y0 y1 y2 y3 y4 y5 y6, LeO (tallymanlaw06_FenceCells.l0 k y0 y1 y2 y3 y4 y5 y6) (tallymanlaw06_FenceCells.l0 (k + 1) y0 y1 y2 y3 y4 y5 y6)) ∧ (∀ y0 y1 y2 y3 y4 y5 y6 y7, LeO (tallymanlaw06_FenceCells.l1 k y0 y1 y2 y3 y4 y5 y6 y7) (tallymanlaw06_FenceCells.l1 (k + 1) y0 y1 y2 y3 y4 y5 y6 y7))
  | 0 => ⟨fun _ _ _ _ _ _ r h => by simp [tallymanlaw06_FenceCells.j0] at h, fun _ _ _ _ _ _ _ r h => by simp [tallymanlaw06_FenceCells.l0] at h, fun _ _ _ _ _ _ _ _ r h => by simp [tallymanlaw06_FenceCells.l1] at h⟩
  | k + 1 => by
    obtain ⟨ih0, ih1, ih2⟩ := tallymanlaw06_FenceCells.mono_l k
    refine ⟨?_, ?_, ?_⟩
    · intro y0 y1 y2 y3 y4 y5
      unfold tallymanlaw06_FenceCells.j0
      repeat' first
      | (with_reducible exact ih0 _ _ _ _ _ _)
      | (with_reducible exact ih1 _ _ _ _ _ _ _)
      | (with_reducible exact ih2 _ _ _ _ _ _ _ _)
      | (with_reducible exact tallymanref06_Right.mono _ _)
      | (with_reducible exact LeO.refl _)
      | (with_reducible exact LeO.none _)
      | (with_reducible refine LeO.ite ?_ ?_)
      | (with_reducible refine LeO.bind ?_ (fun _ => ?_))
      | exact ih0 _ _ _ _ _ _
      | exact ih1 _ _ _ _ _ _ _
      | exact ih2 _ _ _ _ _ _ _ _
      | exact tallymanref06_Right.mono _ _
      | exact LeO.none _
      | refine LeO.ite ?_ ?_
      | refine LeO.bind ?_ (fun _ => ?_)
    · intro y0 y1 y2 y3 y4 y5 y6
      unfold tallymanlaw06_FenceCells.l0
      repeat' first
      | (with_reducible exact ih0 _ _ _ _ _ _)
      | (with_reducible exact ih1 _ _ _ _ _ _ _)
      | (with_reducible exact ih2 _ _ _ _ _ _ _ _)
      | (with_reducible exact tallymanref06_Right.mono _ _)
      | (with_reducible exact LeO.refl _)
      | (with_reducible exact LeO.none _)
      | (with_reducible refine LeO.ite ?_ ?_)
      | (with_reducible refine LeO.bind ?_ (fun _ => ?_))
      | exact ih0 _ _ _ _ _ _
      | exact ih1 _ _ _ _ _ _ _
      | exact ih2 _ _ _ _ _ _ _ _
      | exact tallymanref06_Right.mono _ _
      | exact LeO.none _
      | refine LeO.ite ?_ ?_
      | refine LeO.bind ?_ (fun _ => ?_)
    · intro y0 y1 y2 y3 y4 y5 y6 y7
      unfold tallymanlaw06_FenceCells.l1
      repeat' first
      | (with_reducible exact ih0 _ _ _ _ _ _)
      | (with_reducible exact ih1 _ _ _ _ _ _ _)
      | (with_reducible exact ih2 _ _ _ _ _ _ _ _)
      | (with_reducible exact tallymanref06_Right.mono _ _)
      | (with_reducible exact LeO.refl _)
      | (with_reducible exact LeO.none _)
      | (with_reducible refine LeO.ite ?_ ?_)
      | (with_reducible refine LeO.bind ?_ (fun _ => ?_))
      | exact ih0 _ _ _ _ _ _
      | exact ih1 _ _ _ _ _ _ _
      | exact ih2 _ _ _ _ _ _ _ _
      | exact tallymanref06_Right.mono _ _
      | exact LeO.none _
      | refine LeO.ite ?_ ?_
      | refine LeO.bind ?_ (fun _ => ?_)
theorem tallymanlaw06_FenceCells.mono : ∀ a0 k, LeO (tallymanlaw06_FenceCells.f k a0) (tallymanlaw06_FenceCells.f (k + 1) a0) := by
  intro a0 k
  obtain ⟨ih0, ih1, ih2⟩ := tallymanlaw06_FenceCells.mono_l k
  unfold tallymanlaw06_FenceCells.f
  repeat' first
      | (with_reducible exact ih0 _ _ _ _ _ _)
      | (with_reducible exact ih1 _ _ _ _ _ _ _)
      | (with_reducible exact ih2 _ _ _ _ _ _ _ _)
      | (with_reducible exact tallymanref06_Right.mono _ _)
      | (with_reducible exact LeO.refl _)
      | (with_reducible exact LeO.none _)
      | (with_reducible refine LeO.ite ?_ ?_)
      | (with_reducible refine LeO.bind ?_ (fun _ => ?_))
      | exact ih0 _ _ _ _ _ _
      | exact ih1 _ _ _ _ _ _ _
      | exact ih2 _ _ _ _ _ _ _ _
      | exact tallymanref06_Right.mono _ _
      | exact LeO.none _
      | refine LeO.ite ?_ ?_
      | refine LeO.bind ?_ (fun _ => ?_)
set_option maxHeartbeats 8000000 in
set_option maxRecDepth 100000 in
theorem tallymanlaw06_FenceCells.calls (k : Nat) (A0 : Option Addr) (c0 : Nat) (l0 : List (S24)) (r : Bool) (w : World) (hr0 : Kd.C k24 w A0 l0.length l0) (hc0 : l0.length ≤ c0) (h : tallymanlaw06_FenceCells.f k l0 = some r) :
    Calls Try.prog 4 #[.slice A0 l0.length c0] w fun e w' => e = .returned (.bool r) ∧ Below w.heap.size w w' := by
  have hu24 := Try.underlying24
  have HR0 := Aside0.mk hr0
  have HC0 := Aside0.mk hc0
  clear hr0 hc0
  have HB := Aside0.mk (Below.refl w.heap.size w)
  have H : ((fence_Box.f l0).bind fun bt101 => (if (l0.length : Int) > 40 then (tallymanlaw06_FenceCells.j0 k l0 true bt101.1 bt101.2.1 bt101.2.2.1 bt101.2.2.2) else ((tallymanref03_Small.f bt101.1 bt101.2.1 500).bind fun t107 => (if t107 = true then ((tallymanref03_Small.f bt101.2.2.1 bt101.2.2.2 500).bind fun t108 => (if t108 = true then (if (wrap64 (bt101.2.2.1 - bt101.1)) > 14 then (tallymanlaw06_FenceCells.j0 k l0 true bt101.1 bt101.2.1 bt101.2.2.1 bt101.2.2.2) else (if (wrap64 (bt101.2.2.2 - bt101.2.1)) > 14 then (tallymanlaw06_FenceCells.j0 k l0 true bt101.1 bt101.2.1 bt101.2.2.1 bt101.2.2.2) else ((fence_Right.f l0).bind fun t109 => (if t109 = true then ((tallymanref06_Right.f k l0).bind fun t110 => (tallymanlaw06_FenceCells.j0 k l0 (!t110) bt101.1 bt101.2.1 bt101.2.2.1 bt101.2.2.2)) else (tallymanlaw06_FenceCells.j0 k l0 true bt101.1 bt101.2.1 bt101.2.2.1 bt101.2.2.2))))) else (tallymanlaw06_FenceCells.j0 k l0 true bt101.1 bt101.2.1 bt101.2.2.1 bt101.2.2.2))) else (tallymanlaw06_FenceCells.j0 k l0 true bt101.1 bt101.2.1 bt101.2.2.1 bt101.2.2.2))))) = some r := h
  clear h
  replace H := Option.bind_eq_some_iff.mp H
  obtain ⟨⟨t101, t102, t103, t104⟩, A20, H⟩ := H
  replace H : (if (l0.length : Int) > 40 then (tallymanlaw06_FenceCells.j0 k l0 true t101 t102 t103 t104) else ((tallymanref03_Small.f t101 t102 500).bind fun t107 => (if t107 = true then ((tallymanref03_Small.f t103 t104 500).bind fun t108 => (if t108 = true then (if (wrap64 (t103 - t101)) > 14 then (tallymanlaw06_FenceCells.j0 k l0 true t101 t102 t103 t104) else (if (wrap64 (t104 - t102)) > 14 then (tallymanlaw06_FenceCells.j0 k l0 true t101 t102 t103 t104) else ((fence_Right.f l0).bind fun t109 => (if t109 = true then ((tallymanref06_Right.f k l0).bind fun t110 => (tallymanlaw06_FenceCells.j0 k l0 (!t110) t101 t102 t103 t104)) else (tallymanlaw06_FenceCells.j0 k l0 true t101 t102 t103 t104))))) else (tallymanlaw06_FenceCells.j0 k l0 true t101 t102 t103 t104))) else (tallymanlaw06_FenceCells.j0 k l0 true t101 t102 t103 t104)))) = some r := H
  have A2 := Aside0.mk A20
  clear A20
  have HC3 := Aside0.mk H
  clear H
  go_enter Try.func4, Try.ntmps4
  go_upto_region 2 with (first | ((with_reducible refine gate_callee (f := 17) rfl ?_); refine goesL_ (some 11) rfl rfl Try.func17 (by kernel_rfl) rfl #[.slice A0 l0.length c0] rfl (by (try simp only [List.map_toArray, List.map_cons, List.map_nil]); first | done | rfl | (simp only [List.length_drop, List.length_take]; rfl)) ?_; (with_reducible refine (fence_Box.calls _ _ l0 t101 t102 t103 t104 _ ?side1 ?side2 A2.out).mono ?_); (case side1 => repeat (first | exact HR0.out | (with_reducible refine Kd.C_alloc ?_ _) | (with_reducible refine Kd.C_drewN ?_ _) | (with_reducible refine Kd.C_drew ?_))); (case side2 => exact HC0.out); rintro e w4 ⟨rfl, hb⟩; refine ⟨_, rfl, ?_⟩; have n0_ := Aside0.mk (below_step (by repeat (first | (with_reducible first | exact HB.out | apply below_alloc | apply pw_below_drewN | apply below_drew1) | exact HB.out)) hb); clear HB; have HB := n0_; clear n0_; (try clear hb); (try clear hb2); (try clear hk); (try clear hi)) | ((with_reducible refine gate_dst (N := 3) rfl ?_); refine box_event ?hg (N := 3) ?hd (cs := #[.int .i64 0, .int .i64 0]) (t := 24) ?hr ?_; (case hd => rfl); (case hg => rfl); (case hr => first | (go_simp; done) | (go_simp; rfl)); intro gb105 hg w5 hbox hb; have n0_ := Aside0.mk (below_step (by repeat (first | (with_reducible first | exact HB.out | apply below_alloc | apply pw_below_drewN | apply below_drew1) | exact HB.out)) hb); have n1_ := Aside0.mk (hbox); have n2_ := Aside0.mk ((by rw [hg]; exact (below_size (by repeat (first | (with_reducible first | exact HB.out | apply below_alloc | apply pw_below_drewN | apply below_drew1) | exact HB.out))) : w.heap.size ≤ gb105)); have n3_ := Aside0.mk ((by rw [hg]; exact (below_size (by repeat (first | (with_reducible first | exact HB.out | apply below_alloc | apply pw_below_drewN | apply below_drew1) | exact HB.out))) : w.heap.size ≤ gb105)); clear HB; have HB := n0_; have BK105 := n1_; have GW105 := n2_; have GE105 := n3_; clear n0_ n1_ n2_ n3_; clear hb hbox hg) | ((with_reducible refine gate_dst (N := 4) rfl ?_); refine box_event ?hg (N := 4) ?hd (cs := #[.int .i64 0, .int .i64 0]) (t := 24) ?hr ?_; (case hd => rfl); (case hg => rfl); (case hr => first | (go_simp; done) | (go_simp; rfl)); intro gb106 hg w6 hbox hb; have n0_ := Aside0.mk (blk_below (g := gb105) (o := .cells #[.int .i64 0, .int .i64 0] 24 (0, 0)) (by (with_reducible repeat (first | refine blk_drewN ?_ _ | refine blk_drew ?_ | refine blk_alloc ?_ _)); exact BK105.out) hb); have n1_ := Aside0.mk (below_step (by repeat (first | (with_reducible first | exact HB.out | apply below_alloc | apply pw_below_drewN | apply below_drew1 | refine below_set ?_ GE105.out) | exact HB.out)) hb); have n2_ := Aside0.mk (hbox); have n3_ := Aside0.mk ((by rw [hg]; exact (below_size (by repeat (first | (with_reducible first | exact HB.out | apply below_alloc | apply pw_below_drewN | apply below_drew1 | refine below_set ?_ GE105.out) | exact HB.out))) : w.heap.size ≤ gb106)); have n4_ := Aside0.mk ((by rw [hg]; exact (below_size (by repeat (first | (with_reducible first | exact HB.out | apply below_alloc | apply pw_below_drewN | apply below_drew1 | refine below_set ?_ GE105.out) | exact HB.out))) : w.heap.size ≤ gb106)); have n5_ := Aside0.mk ((by rw [hg]; exact Nat.ne_of_lt (blk_lt (g := gb105) (o := .cells #[.int .i64 0, .int .i64 0] 24 (0, 0)) (by (with_reducible repeat (first | refine blk_drewN ?_ _ | refine blk_drew ?_ | refine blk_alloc ?_ _)); exact BK105.out)) : gb105 ≠ gb106)); have n6_ := Aside0.mk ((by rw [hg]; exact Nat.ne_of_gt (blk_lt (g := gb105) (o := .cells #[.int .i64 0, .int .i64 0] 24 (0, 0)) (by (with_reducible repeat (first | refine blk_drewN ?_ _ | refine blk_drew ?_ | refine blk_alloc ?_ _)); exact BK105.out)) : gb106 ≠ gb105)); clear BK105; clear HB; have BK105 := n0_; have HB := n1_; have BK106 := n2_; have GW106 := n3_; have GE106 := n4_; have NB105_106 := n5_; have NB106_105 := n6_; clear n0_ n1_ n2_ n3_ n4_ n5_ n6_; clear hb hbox hg; have hnb7 := NB105_106.out; have hnc7 := NB106_105.out; have hcz8_0 : w6.cell? ⟨gb105, 0, none⟩ = some (.int .i64 0) := (blk_cell BK105.out 0).trans rfl; have hcz8_1 : w6.cell? ⟨gb105, 1, none⟩ = some (.int .i64 0) := (blk_cell BK105.out 1).trans rfl; have hfz8_0 := blk_frozen BK105.out 0; have hfz8_1 := blk_frozen BK105.out 1; have hcz9_0 : w6.cell? ⟨gb106, 0, none⟩ = some (.int .i64 0) := (blk_cell BK106.out 0).trans rfl; have hcz9_1 : w6.cell? ⟨gb106, 1, none⟩ = some (.int .i64 0) := (blk_cell BK106.out 1).trans rfl; have hfz9_0 := blk_frozen BK106.out 0; have hfz9_1 := blk_frozen BK106.out 1))
  (try simp only [Act.put, List.setIfInBounds_toArray, List.set_cons_zero, List.set_cons_succ])
  go_cut [52] (fun v52 wc => ∃ (kq : Nat) (x52_2 : Bool), v52 = .bool x52_2 ∧ Aside0 (tallymanlaw06_FenceCells.j0 kq l0 x52_2 t101 t102 t103 t104 = some r) ∧ Aside0 (kq ≤ k) ∧ Aside0 (wc.heap[gb105]? = some (.cells #[.int .i64 t101, .int .i64 t102] 24 (0, 0))) ∧ Aside0 (wc.heap[gb106]? = some (.cells #[.int .i64 t103, .int .i64 t104] 24 (0, 0))) ∧ Aside0 (Below w.heap.size w wc))
  case first =>
    have H := HC3.out
    clear HC3
    by_cases c10 : (l0.length : Int) > 40
    · rw [if_pos c10] at H
      have c10b0 : decide (40 < (l0.length : Int)) = true := decide_eq_true c10
      have c10b1 : decide (40 < l0.length) = true := decide_eq_true (by omega)
      clear c10
      (first | rw [c10b0] | (simp only [i64_w, i32_w]; rw [c10b0]) | skip)
      have H' := Aside0.mk H
      clear H
      go_wp2
      go_meet
      case rel => exact ⟨_, (true), (by first | rfl | (simp; done) | (simp [*]; done)), H', ⟨by first | omega | exact Nat.le_refl _⟩, ⟨by (with_reducible repeat (first | refine blk_drewN ?_ _ | refine blk_drew ?_ | refine blk_alloc ?_ _)); refine blk_far ?_ NB105_106.out _; (with_reducible repeat (first | refine blk_drewN ?_ _ | refine blk_drew ?_ | refine blk_alloc ?_ _)); refine blk_far ?_ NB105_106.out _; (with_reducible repeat (first | refine blk_drewN ?_ _ | refine blk_drew ?_ | refine blk_alloc ?_ _)); refine blk_put (cs := #[.int .i64 t101, .int .i64 0]) ?_ 1 _ rfl; (with_reducible repeat (first | refine blk_drewN ?_ _ | refine blk_drew ?_ | refine blk_alloc ?_ _)); refine blk_put (cs := #[.int .i64 0, .int .i64 0]) ?_ 0 _ rfl; (with_reducible repeat (first | refine blk_drewN ?_ _ | refine blk_drew ?_ | refine blk_alloc ?_ _)); exact BK105.out⟩, ⟨by (with_reducible repeat (first | refine blk_drewN ?_ _ | refine blk_drew ?_ | refine blk_alloc ?_ _)); refine blk_put (cs := #[.int .i64 t103, .int .i64 0]) ?_ 1 _ rfl; (with_reducible repeat (first | refine blk_drewN ?_ _ | refine blk_drew ?_ | refine blk_alloc ?_ _)); refine blk_put (cs := #[.int .i64 0, .int .i64 0]) ?_ 0 _ rfl; (with_reducible repeat (first | refine blk_drewN ?_ _ | refine blk_drew ?_ | refine blk_alloc ?_ _)); refine blk_far ?_ NB106_105.out _; (with_reducible repeat (first | refine blk_drewN ?_ _ | refine blk_drew ?_ | refine blk_alloc ?_ _)); refine blk_far ?_ NB106_105.out _; (with_reducible repeat (first | refine blk_drewN ?_ _ | refine blk_drew ?_ | refine blk_alloc ?_ _)); exact BK106.out⟩, ⟨by repeat (first | (with_reducible first | exact HB.out | apply below_alloc | apply pw_below_drewN | apply below_drew1 | refine below_set ?_ GE105.out | refine below_set ?_ GE106.out) | exact HB.out)⟩⟩
    · rw [if_neg c10] at H
      have c10b0 : decide (40 < (l0.length : Int)) = false := decide_eq_false c10
      have c10b1 : decide (40 < l0.length) = false := decide_eq_false (by omega)
      clear c10
      (first | rw [c10b0] | (simp only [i64_w, i32_w]; rw [c10b0]) | skip)
      replace H := Option.bind_eq_some_iff.mp H
      obtain ⟨t107, A110, H⟩ := H
      replace H : (if t107 = true then ((tallymanref03_Small.f t103 t104 500).bind fun t108 => (if t108 = true then (if (wrap64 (t103 - t101)) > 14 then (tallymanlaw06_FenceCells.j0 k l0 true t101 t102 t103 t104) else (if (wrap64 (t104 - t102)) > 14 then (tallymanlaw06_FenceCells.j0 k l0 true t101 t102 t103 t104) else ((fence_Right.f l0).bind fun t109 => (if t109 = true then ((tallymanref06_Right.f k l0).bind fun t110 => (tallymanlaw06_FenceCells.j0 k l0 (!t110) t101 t102 t103 t104)) else (tallymanlaw06_FenceCells.j0 k l0 true t101 t102 t103 t104))))) else (tallymanlaw06_FenceCells.j0 k l0 true t101 t102 t103 t104))) else (tallymanlaw06_FenceCells.j0 k l0 true t101 t102 t103 t104)) = some r := H
      have A11 := Aside0.mk A110
      clear A110
      by_cases c12 : t107 = true
      · subst c12
        have H1 : ((tallymanref03_Small.f t103 t104 500).bind fun t108 => (if t108 = true then (if (wrap64 (t103 - t101)) > 14 then (tallymanlaw06_FenceCells.j0 k l0 true t101 t102 t103 t104) else (if (wrap64 (t104 - t102)) > 14 then (tallymanlaw06_FenceCells.j0 k l0 true t101 t102 t103 t104) else ((fence_Right.f l0).bind fun t109 => (if t109 = true then ((tallymanref06_Right.f k l0).bind fun t110 => (tallymanlaw06_FenceCells.j0 k l0 (!t110) t101 t102 t103 t104)) else (tallymanlaw06_FenceCells.j0 k l0 true t101 t102 t103 t104))))) else (tallymanlaw06_FenceCells.j0 k l0 true t101 t102 t103 t104))) = some r := by rw [if_pos rfl] at H; exact H
        clear H
        have H := H1
        clear H1
        replace H := Option.bind_eq_some_iff.mp H
        obtain ⟨t108, A130, H⟩ := H
        replace H : (if t108 = true then (if (wrap64 (t103 - t101)) > 14 then (tallymanlaw06_FenceCells.j0 k l0 true t101 t102 t103 t104) else (if (wrap64 (t104 - t102)) > 14 then (tallymanlaw06_FenceCells.j0 k l0 true t101 t102 t103 t104) else ((fence_Right.f l0).bind fun t109 => (if t109 = true then ((tallymanref06_Right.f k l0).bind fun t110 => (tallymanlaw06_FenceCells.j0 k l0 (!t110) t101 t102 t103 t104)) else (tallymanlaw06_FenceCells.j0 k l0 true t101 t102 t103 t104))))) else (tallymanlaw06_FenceCells.j0 k l0 true t101 t102 t103 t104)) = some r := H
        have A13 := Aside0.mk A130
        clear A130
        by_cases c14 : t108 = true
        · subst c14
          have H1 : (if (wrap64 (t103 - t101)) > 14 then (tallymanlaw06_FenceCells.j0 k l0 true t101 t102 t103 t104) else (if (wrap64 (t104 - t102)) > 14 then (tallymanlaw06_FenceCells.j0 k l0 true t101 t102 t103 t104) else ((fence_Right.f l0).bind fun t109 => (if t109 = true then ((tallymanref06_Right.f k l0).bind fun t110 => (tallymanlaw06_FenceCells.j0 k l0 (!t110) t101 t102 t103 t104)) else (tallymanlaw06_FenceCells.j0 k l0 true t101 t102 t103 t104))))) = some r := by rw [if_pos rfl] at H; exact H
          clear H
          have H := H1
          clear H1
          by_cases c15 : (wrap64 (t103 - t101)) > 14
          · rw [if_pos c15] at H
            have c15b0 : decide (14 < (wrap64 (t103 - t101))) = true := decide_eq_true c15
            clear c15
            have H' := Aside0.mk H
            clear H
            have hnb16 := NB105_106.out
            have hnc16 := NB106_105.out
            have hcz17_0 : w6.cell? ⟨gb105, 0, none⟩ = some (.int .i64 0) := (blk_cell BK105.out 0).trans rfl
            have hcz17_1 : w6.cell? ⟨gb105, 1, none⟩ = some (.int .i64 0) := (blk_cell BK105.out 1).trans rfl
            have hfz17_0 := blk_frozen BK105.out 0
            have hfz17_1 := blk_frozen BK105.out 1
            go_wp2_with (first | (go_at_call 18; (with_reducible refine (tallymanref03_Small.calls t101 t102 500 true _ A11.out).mono ?_); rintro e w18 ⟨rfl, hb⟩; have n0_ := Aside0.mk (blk_below (g := gb105) (o := .cells #[.int .i64 t101, .int .i64 t102] 24 (0, 0)) (by (with_reducible repeat (first | refine blk_drewN ?_ _ | refine blk_drew ?_ | refine blk_alloc ?_ _)); refine blk_far ?_ NB105_106.out _; (with_reducible repeat (first | refine blk_drewN ?_ _ | refine blk_drew ?_ | refine blk_alloc ?_ _)); refine blk_far ?_ NB105_106.out _; (with_reducible repeat (first | refine blk_drewN ?_ _ | refine blk_drew ?_ | refine blk_alloc ?_ _)); refine blk_put (cs := #[.int .i64 t101, .int .i64 0]) ?_ 1 _ rfl; (with_reducible repeat (first | refine blk_drewN ?_ _ | refine blk_drew ?_ | refine blk_alloc ?_ _)); refine blk_put (cs := #[.int .i64 0, .int .i64 0]) ?_ 0 _ rfl; (with_reducible repeat (first | refine blk_drewN ?_ _ | refine blk_drew ?_ | refine blk_alloc ?_ _)); exact BK105.out) hb); have n1_ := Aside0.mk (blk_below (g := gb106) (o := .cells #[.int .i64 t103, .int .i64 t104] 24 (0, 0)) (by (with_reducible repeat (first | refine blk_drewN ?_ _ | refine blk_drew ?_ | refine blk_alloc ?_ _)); refine blk_put (cs := #[.int .i64 t103, .int .i64 0]) ?_ 1 _ rfl; (with_reducible repeat (first | refine blk_drewN ?_ _ | refine blk_drew ?_ | refine blk_alloc ?_ _)); refine blk_put (cs := #[.int .i64 0, .int .i64 0]) ?_ 0 _ rfl; (with_reducible repeat (first | refine blk_drewN ?_ _ | refine blk_drew ?_ | refine blk_alloc ?_ _)); refine blk_far ?_ NB106_105.out _; (with_reducible repeat (first | refine blk_drewN ?_ _ | refine blk_drew ?_ | refine blk_alloc ?_ _)); refine blk_far ?_ NB106_105.out _; (with_reducible repeat (first | refine blk_drewN ?_ _ | refine blk_drew ?_ | refine blk_alloc ?_ _)); exact BK106.out) hb); have n2_ := Aside0.mk (below_step (by repeat (first | (with_reducible first | exact HB.out | apply below_alloc | apply pw_below_drewN | apply below_drew1 | refine below_set ?_ GE105.out | refine below_set ?_ GE106.out) | exact HB.out)) hb); clear BK105; clear BK106; clear HB; have BK105 := n0_; have BK106 := n1_; have HB := n2_; clear n0_ n1_ n2_; (try clear hb); (try clear hb2); (try clear hk); (try clear hi); have hcz19_0 : w18.cell? ⟨gb106, 0, none⟩ = some (.int .i64 t103) := (blk_cell BK106.out 0).trans rfl; have hcz19_1 : w18.cell? ⟨gb106, 1, none⟩ = some (.int .i64 t104) := (blk_cell BK106.out 1).trans rfl; have hfz19_0 := blk_frozen BK106.out 0; have hfz19_1 := blk_frozen BK106.out 1) | (go_at_call 18; (with_reducible refine (tallymanref03_Small.calls t103 t104 500 true _ A13.out).mono ?_); rintro e w20 ⟨rfl, hb⟩; have n0_ := Aside0.mk (blk_below (g := gb105) (o := .cells #[.int .i64 t101, .int .i64 t102] 24 (0, 0)) (by (with_reducible repeat (first | refine blk_drewN ?_ _ | refine blk_drew ?_ | refine blk_alloc ?_ _)); exact BK105.out) hb); have n1_ := Aside0.mk (blk_below (g := gb106) (o := .cells #[.int .i64 t103, .int .i64 t104] 24 (0, 0)) (by (with_reducible repeat (first | refine blk_drewN ?_ _ | refine blk_drew ?_ | refine blk_alloc ?_ _)); exact BK106.out) hb); have n2_ := Aside0.mk (below_step (by repeat (first | (with_reducible first | exact HB.out | apply below_alloc | apply pw_below_drewN | apply below_drew1 | refine below_set ?_ GE105.out | refine below_set ?_ GE106.out) | exact HB.out)) hb); clear BK105; clear BK106; clear HB; have BK105 := n0_; have BK106 := n1_; have HB := n2_; clear n0_ n1_ n2_; (try clear hb); (try clear hb2); (try clear hk); (try clear hi); have hcz21_0 : w20.cell? ⟨gb106, 0, none⟩ = some (.int .i64 t103) := (blk_cell BK106.out 0).trans rfl; have hcz21_1 : w20.cell? ⟨gb106, 1, none⟩ = some (.int .i64 t104) := (blk_cell BK106.out 1).trans rfl; have hfz21_0 := blk_frozen BK106.out 0; have hfz21_1 := blk_frozen BK106.out 1; have hcz22_0 : w20.cell? ⟨gb105, 0, none⟩ = some (.int .i64 t101) := (blk_cell BK105.out 0).trans rfl; have hcz22_1 : w20.cell? ⟨gb105, 1, none⟩ = some (.int .i64 t102) := (blk_cell BK105.out 1).trans rfl; have hfz22_0 := blk_frozen BK105.out 0; have hfz22_1 := blk_frozen BK105.out 1))
            go_meet
            case rel => exact ⟨_, (true), (by first | rfl | (simp; done) | (simp [*]; done)), H', ⟨by first | omega | exact Nat.le_refl _⟩, ⟨by (with_reducible repeat (first | refine blk_drewN ?_ _ | refine blk_drew ?_ | refine blk_alloc ?_ _)); exact BK105.out⟩, ⟨by (with_reducible repeat (first | refine blk_drewN ?_ _ | refine blk_drew ?_ | refine blk_alloc ?_ _)); exact BK106.out⟩, ⟨by repeat (first | (with_reducible first | exact HB.out | apply below_alloc | apply pw_below_drewN | apply below_drew1 | refine below_set ?_ GE105.out | refine below_set ?_ GE106.out) | exact HB.out)⟩⟩
          · rw [if_neg c15] at H
            have c15b0 : decide (14 < (wrap64 (t103 - t101))) = false := decide_eq_false c15
            clear c15
            by_cases c23 : (wrap64 (t104 - t102)) > 14
            · rw [if_pos c23] at H
              have c23b0 : decide (14 < (wrap64 (t104 - t102))) = true := decide_eq_true c23
              clear c23
              have H' := Aside0.mk H
              clear H
              have hnb24 := NB105_106.out
              have hnc24 := NB106_105.out
              have hcz25_0 : w6.cell? ⟨gb105, 0, none⟩ = some (.int .i64 0) := (blk_cell BK105.out 0).trans rfl
              have hcz25_1 : w6.cell? ⟨gb105, 1, none⟩ = some (.int .i64 0) := (blk_cell BK105.out 1).trans rfl
              have hfz25_0 := blk_frozen BK105.out 0
              have hfz25_1 := blk_frozen BK105.out 1
              go_wp2_with (first | (go_at_call 18; (with_reducible refine (tallymanref03_Small.calls t101 t102 500 true _ A11.out).mono ?_); rintro e w26 ⟨rfl, hb⟩; have n0_ := Aside0.mk (blk_below (g := gb105) (o := .cells #[.int .i64 t101, .int .i64 t102] 24 (0, 0)) (by (with_reducible repeat (first | refine blk_drewN ?_ _ | refine blk_drew ?_ | refine blk_alloc ?_ _)); refine blk_far ?_ NB105_106.out _; (with_reducible repeat (first | refine blk_drewN ?_ _ | refine blk_drew ?_ | refine blk_alloc ?_ _)); refine blk_far ?_ NB105_106.out _; (with_reducible repeat (first | refine blk_drewN ?_ _ | refine blk_drew ?_ | refine blk_alloc ?_ _)); refine blk_put (cs := #[.int .i64 t101, .int .i64 0]) ?_ 1 _ rfl; (with_reducible repeat (first | refine blk_drewN ?_ _ | refine blk_drew ?_ | refine blk_alloc ?_ _)); refine blk_put (cs := #[.int .i64 0, .int .i64 0]) ?_ 0 _ rfl; (with_reducible repeat (first | refine blk_drewN ?_ _ | refine blk_drew ?_ | refine blk_alloc ?_ _)); exact BK105.out) hb); have n1_ := Aside0.mk (blk_below (g := gb106) (o := .cells #[.int .i64 t103, .int .i64 t104] 24 (0, 0)) (by (with_reducible repeat (first | refine blk_drewN ?_ _ | refine blk_drew ?_ | refine blk_alloc ?_ _)); refine blk_put (cs := #[.int .i64 t103, .int .i64 0]) ?_ 1 _ rfl; (with_reducible repeat (first | refine blk_drewN ?_ _ | refine blk_drew ?_ | refine blk_alloc ?_ _)); refine blk_put (cs := #[.int .i64 0, .int .i64 0]) ?_ 0 _ rfl; (with_reducible repeat (first | refine blk_drewN ?_ _ | refine blk_drew ?_ | refine blk_alloc ?_ _)); refine blk_far ?_ NB106_105.out _; (with_reducible repeat (first | refine blk_drewN ?_ _ | refine blk_drew ?_ | refine blk_alloc ?_ _)); refine blk_far ?_ NB106_105.out _; (with_reducible repeat (first | refine blk_drewN ?_ _ | refine blk_drew ?_ | refine blk_alloc ?_ _)); exact BK106.out) hb); have n2_ := Aside0.mk (below_step (by repeat (first | (with_reducible first | exact HB.out | apply below_alloc | apply pw_below_drewN | apply below_drew1 | refine below_set ?_ GE105.out | refine below_set ?_ GE106.out) | exact HB.out)) hb); clear BK105; clear BK106; clear HB; have BK105 := n0_; have BK106 := n1_; have HB := n2_; clear n0_ n1_ n2_; (try clear hb); (try clear hb2); (try clear hk); (try clear hi); have hcz27_0 : w26.cell? ⟨gb106, 0, none⟩ = some (.int .i64 t103) := (blk_cell BK106.out 0).trans rfl; have hcz27_1 : w26.cell? ⟨gb106, 1, none⟩ = some (.int .i64 t104) := (blk_cell BK106.out 1).trans rfl; have hfz27_0 := blk_frozen BK106.out 0; have hfz27_1 := blk_frozen BK106.out 1) | (go_at_call 18; (with_reducible refine (tallymanref03_Small.calls t103 t104 500 true _ A13.out).mono ?_); rintro e w28 ⟨rfl, hb⟩; have n0_ := Aside0.mk (blk_below (g := gb105) (o := .cells #[.int .i64 t101, .int .i64 t102] 24 (0, 0)) (by (with_reducible repeat (first | refine blk_drewN ?_ _ | refine blk_drew ?_ | refine blk_alloc ?_ _)); exact BK105.out) hb); have n1_ := Aside0.mk (blk_below (g := gb106) (o := .cells #[.int .i64 t103, .int .i64 t104] 24 (0, 0)) (by (with_reducible repeat (first | refine blk_drewN ?_ _ | refine blk_drew ?_ | refine blk_alloc ?_ _)); exact BK106.out) hb); have n2_ := Aside0.mk (below_step (by repeat (first | (with_reducible first | exact HB.out | apply below_alloc | apply pw_below_drewN | apply below_drew1 | refine below_set ?_ GE105.out | refine below_set ?_ GE106.out) | exact HB.out)) hb); clear BK105; clear BK106; clear HB; have BK105 := n0_; have BK106 := n1_; have HB := n2_; clear n0_ n1_ n2_; (try clear hb); (try clear hb2); (try clear hk); (try clear hi); have hcz29_0 : w28.cell? ⟨gb106, 0, none⟩ = some (.int .i64 t103) := (blk_cell BK106.out 0).trans rfl; have hcz29_1 : w28.cell? ⟨gb106, 1, none⟩ = some (.int .i64 t104) := (blk_cell BK106.out 1).trans rfl; have hfz29_0 := blk_frozen BK106.out 0; have hfz29_1 := blk_frozen BK106.out 1; have hcz30_0 : w28.cell? ⟨gb105, 0, none⟩ = some (.int .i64 t101) := (blk_cell BK105.out 0).trans rfl; have hcz30_1 : w28.cell? ⟨gb105, 1, none⟩ = some (.int .i64 t102) := (blk_cell BK105.out 1).trans rfl; have hfz30_0 := blk_frozen BK105.out 0; have hfz30_1 := blk_frozen BK105.out 1))
              go_meet
              case rel => exact ⟨_, (true), (by first | rfl | (simp; done) | (simp [*]; done)), H', ⟨by first | omega | exact Nat.le_refl _⟩, ⟨by (with_reducible repeat (first | refine blk_drewN ?_ _ | refine blk_drew ?_ | refine blk_alloc ?_ _)); exact BK105.out⟩, ⟨by (with_reducible repeat (first | refine blk_drewN ?_ _ | refine blk_drew ?_ | refine blk_alloc ?_ _)); exact BK106.out⟩, ⟨by repeat (first | (with_reducible first | exact HB.out | apply below_alloc | apply pw_below_drewN | apply below_drew1 | refine below_set ?_ GE105.out | refine below_set ?_ GE106.out) | exact HB.out)⟩⟩
            · rw [if_neg c23] at H
              have c23b0 : decide (14 < (wrap64 (t104 - t102))) = false := decide_eq_false c23
              clear c23
              replace H := Option.bind_eq_some_iff.mp H
              obtain ⟨t109, A310, H⟩ := H
              replace H : (if t109 = true then ((tallymanref06_Right.f k l0).bind fun t110 => (tallymanlaw06_FenceCells.j0 k l0 (!t110) t101 t102 t103 t104)) else (tallymanlaw06_FenceCells.j0 k l0 true t101 t102 t103 t104)) = some r := H
              have A31 := Aside0.mk A310
              clear A310
              by_cases c32 : t109 = true
              · subst c32
                have H1 : ((tallymanref06_Right.f k l0).bind fun t110 => (tallymanlaw06_FenceCells.j0 k l0 (!t110) t101 t102 t103 t104)) = some r := by rw [if_pos rfl] at H; exact H
                clear H
                have H := H1
                clear H1
                replace H := Option.bind_eq_some_iff.mp H
                obtain ⟨t110, A330, H⟩ := H
                replace H : (tallymanlaw06_FenceCells.j0 k l0 (!t110) t101 t102 t103 t104) = some r := H
                have A33 := Aside0.mk A330
                clear A330
                have H' := Aside0.mk H
                clear H
                have hnb34 := NB105_106.out
                have hnc34 := NB106_105.out
                have hcz35_0 : w6.cell? ⟨gb105, 0, none⟩ = some (.int .i64 0) := (blk_cell BK105.out 0).trans rfl
                have hcz35_1 : w6.cell? ⟨gb105, 1, none⟩ = some (.int .i64 0) := (blk_cell BK105.out 1).trans rfl
                have hfz35_0 := blk_frozen BK105.out 0
                have hfz35_1 := blk_frozen BK105.out 1
                go_wp2_with (first | (go_at_call 18; (with_reducible refine (tallymanref03_Small.calls t101 t102 500 true _ A11.out).mono ?_); rintro e w36 ⟨rfl, hb⟩; have n0_ := Aside0.mk (blk_below (g := gb105) (o := .cells #[.int .i64 t101, .int .i64 t102] 24 (0, 0)) (by (with_reducible repeat (first | refine blk_drewN ?_ _ | refine blk_drew ?_ | refine blk_alloc ?_ _)); refine blk_far ?_ NB105_106.out _; (with_reducible repeat (first | refine blk_drewN ?_ _ | refine blk_drew ?_ | refine blk_alloc ?_ _)); refine blk_far ?_ NB105_106.out _; (with_reducible repeat (first | refine blk_drewN ?_ _ | refine blk_drew ?_ | refine blk_alloc ?_ _)); refine blk_put (cs := #[.int .i64 t101, .int .i64 0]) ?_ 1 _ rfl; (with_reducible repeat (first | refine blk_drewN ?_ _ | refine blk_drew ?_ | refine blk_alloc ?_ _)); refine blk_put (cs := #[.int .i64 0, .int .i64 0]) ?_ 0 _ rfl; (with_reducible repeat (first | refine blk_drewN ?_ _ | refine blk_drew ?_ | refine blk_alloc ?_ _)); exact BK105.out) hb); have n1_ := Aside0.mk (blk_below (g := gb106) (o := .cells #[.int .i64 t103, .int .i64 t104] 24 (0, 0)) (by (with_reducible repeat (first | refine blk_drewN ?_ _ | refine blk_drew ?_ | refine blk_alloc ?_ _)); refine blk_put (cs := #[.int .i64 t103, .int .i64 0]) ?_ 1 _ rfl; (with_reducible repeat (first | refine blk_drewN ?_ _ | refine blk_drew ?_ | refine blk_alloc ?_ _)); refine blk_put (cs := #[.int .i64 0, .int .i64 0]) ?_ 0 _ rfl; (with_reducible repeat (first | refine blk_drewN ?_ _ | refine blk_drew ?_ | refine blk_alloc ?_ _)); refine blk_far ?_ NB106_105.out _; (with_reducible repeat (first | refine blk_drewN ?_ _ | refine blk_drew ?_ | refine blk_alloc ?_ _)); refine blk_far ?_ NB106_105.out _; (with_reducible repeat (first | refine blk_drewN ?_ _ | refine blk_drew ?_ | refine blk_alloc ?_ _)); exact BK106.out) hb); have n2_ := Aside0.mk (below_step (by repeat (first | (with_reducible first | exact HB.out | apply below_alloc | apply pw_below_drewN | apply below_drew1 | refine below_set ?_ GE105.out | refine below_set ?_ GE106.out) | exact HB.out)) hb); clear BK105; clear BK106; clear HB; have BK105 := n0_; have BK106 := n1_; have HB := n2_; clear n0_ n1_ n2_; (try clear hb); (try clear hb2); (try clear hk); (try clear hi); have hcz37_0 : w36.cell? ⟨gb106, 0, none⟩ = some (.int .i64 t103) := (blk_cell BK106.out 0).trans rfl; have hcz37_1 : w36.cell? ⟨gb106, 1, none⟩ = some (.int .i64 t104) := (blk_cell BK106.out 1).trans rfl; have hfz37_0 := blk_frozen BK106.out 0; have hfz37_1 := blk_frozen BK106.out 1) | (go_at_call 18; (with_reducible refine (tallymanref03_Small.calls t103 t104 500 true _ A13.out).mono ?_); rintro e w38 ⟨rfl, hb⟩; have n0_ := Aside0.mk (blk_below (g := gb105) (o := .cells #[.int .i64 t101, .int .i64 t102] 24 (0, 0)) (by (with_reducible repeat (first | refine blk_drewN ?_ _ | refine blk_drew ?_ | refine blk_alloc ?_ _)); exact BK105.out) hb); have n1_ := Aside0.mk (blk_below (g := gb106) (o := .cells #[.int .i64 t103, .int .i64 t104] 24 (0, 0)) (by (with_reducible repeat (first | refine blk_drewN ?_ _ | refine blk_drew ?_ | refine blk_alloc ?_ _)); exact BK106.out) hb); have n2_ := Aside0.mk (below_step (by repeat (first | (with_reducible first | exact HB.out | apply below_alloc | apply pw_below_drewN | apply below_drew1 | refine below_set ?_ GE105.out | refine below_set ?_ GE106.out) | exact HB.out)) hb); clear BK105; clear BK106; clear HB; have BK105 := n0_; have BK106 := n1_; have HB := n2_; clear n0_ n1_ n2_; (try clear hb); (try clear hb2); (try clear hk); (try clear hi); have hcz39_0 : w38.cell? ⟨gb106, 0, none⟩ = some (.int .i64 t103) := (blk_cell BK106.out 0).trans rfl; have hcz39_1 : w38.cell? ⟨gb106, 1, none⟩ = some (.int .i64 t104) := (blk_cell BK106.out 1).trans rfl; have hfz39_0 := blk_frozen BK106.out 0; have hfz39_1 := blk_frozen BK106.out 1; have hcz40_0 : w38.cell? ⟨gb105, 0, none⟩ = some (.int .i64 t101) := (blk_cell BK105.out 0).trans rfl; have hcz40_1 : w38.cell? ⟨gb105, 1, none⟩ = some (.int .i64 t102) := (blk_cell BK105.out 1).trans rfl; have hfz40_0 := blk_frozen BK105.out 0; have hfz40_1 := blk_frozen BK105.out 1) | (go_at_call 19; (with_reducible refine (fence_Right.calls _ _ l0 true _ ?side1 ?side2 A31.out).mono ?_); (case side1 => repeat (first | exact (Kd.C_below HR0.out HB.out) | (with_reducible refine Kd.C_alloc ?_ _) | (with_reducible refine Kd.C_drewN ?_ _) | (with_reducible refine Kd.C_drew ?_))); (case side2 => exact HC0.out); rintro e w41 ⟨rfl, hb⟩; have n0_ := Aside0.mk (blk_below (g := gb105) (o := .cells #[.int .i64 t101, .int .i64 t102] 24 (0, 0)) (by (with_reducible repeat (first | refine blk_drewN ?_ _ | refine blk_drew ?_ | refine blk_alloc ?_ _)); exact BK105.out) hb); have n1_ := Aside0.mk (blk_below (g := gb106) (o := .cells #[.int .i64 t103, .int .i64 t104] 24 (0, 0)) (by (with_reducible repeat (first | refine blk_drewN ?_ _ | refine blk_drew ?_ | refine blk_alloc ?_ _)); exact BK106.out) hb); have n2_ := Aside0.mk (below_step (by repeat (first | (with_reducible first | exact HB.out | apply below_alloc | apply pw_below_drewN | apply below_drew1 | refine below_set ?_ GE105.out | refine below_set ?_ GE106.out) | exact HB.out)) hb); clear BK105; clear BK106; clear HB; have BK105 := n0_; have BK106 := n1_; have HB := n2_; clear n0_ n1_ n2_; (try clear hb); (try clear hb2); (try clear hk); (try clear hi)) | (go_at_call 20; (with_reducible refine (tallymanref06_Right.calls k _ _ l0 t110 _ ?side1 ?side2 A33.out).mono ?_); (case side1 => repeat (first | exact (Kd.C_below HR0.out HB.out) | (with_reducible refine Kd.C_alloc ?_ _) | (with_reducible refine Kd.C_drewN ?_ _) | (with_reducible refine Kd.C_drew ?_))); (case side2 => exact HC0.out); rintro e w42 ⟨rfl, hb⟩; have n0_ := Aside0.mk (blk_below (g := gb105) (o := .cells #[.int .i64 t101, .int .i64 t102] 24 (0, 0)) (by (with_reducible repeat (first | refine blk_drewN ?_ _ | refine blk_drew ?_ | refine blk_alloc ?_ _)); exact BK105.out) hb); have n1_ := Aside0.mk (blk_below (g := gb106) (o := .cells #[.int .i64 t103, .int .i64 t104] 24 (0, 0)) (by (with_reducible repeat (first | refine blk_drewN ?_ _ | refine blk_drew ?_ | refine blk_alloc ?_ _)); exact BK106.out) hb); have n2_ := Aside0.mk (below_step (by repeat (first | (with_reducible first | exact HB.out | apply below_alloc | apply pw_below_drewN | apply below_drew1 | refine below_set ?_ GE105.out | refine below_set ?_ GE106.out) | exact HB.out)) hb); clear BK105; clear BK106; clear HB; have BK105 := n0_; have BK106 := n1_; have HB := n2_; clear n0_ n1_ n2_; (try clear hb); (try clear hb2); (try clear hk); (try clear hi)))
                go_meet
                case rel => exact ⟨_, (!t110), (by first | rfl | (simp; done) | (simp [*]; done)), H', ⟨by first | omega | exact Nat.le_refl _⟩, ⟨by (with_reducible repeat (first | refine blk_drewN ?_ _ | refine blk_drew ?_ | refine blk_alloc ?_ _)); exact BK105.out⟩, ⟨by (with_reducible repeat (first | refine blk_drewN ?_ _ | refine blk_drew ?_ | refine blk_alloc ?_ _)); exact BK106.out⟩, ⟨by repeat (first | (with_reducible first | exact HB.out | apply below_alloc | apply pw_below_drewN | apply below_drew1 | refine below_set ?_ GE105.out | refine below_set ?_ GE106.out) | exact HB.out)⟩⟩
              · replace c32 := Bool.eq_false_iff.mpr c32
                subst c32
                have H1 : (tallymanlaw06_FenceCells.j0 k l0 true t101 t102 t103 t104) = some r := by rw [if_neg (show ¬ (false = true) by decide)] at H; exact H
                clear H
                have H := H1
                clear H1
                have H' := Aside0.mk H
                clear H
                have hnb43 := NB105_106.out
                have hnc43 := NB106_105.out
                have hcz44_0 : w6.cell? ⟨gb105, 0, none⟩ = some (.int .i64 0) := (blk_cell BK105.out 0).trans rfl
                have hcz44_1 : w6.cell? ⟨gb105, 1, none⟩ = some (.int .i64 0) := (blk_cell BK105.out 1).trans rfl
                have hfz44_0 := blk_frozen BK105.out 0
                have hfz44_1 := blk_frozen BK105.out 1
                go_wp2_with (first | (go_at_call 18; (with_reducible refine (tallymanref03_Small.calls t101 t102 500 true _ A11.out).mono ?_); rintro e w45 ⟨rfl, hb⟩; have n0_ := Aside0.mk (blk_below (g := gb105) (o := .cells #[.int .i64 t101, .int .i64 t102] 24 (0, 0)) (by (with_reducible repeat (first | refine blk_drewN ?_ _ | refine blk_drew ?_ | refine blk_alloc ?_ _)); refine blk_far ?_ NB105_106.out _; (with_reducible repeat (first | refine blk_drewN ?_ _ | refine blk_drew ?_ | refine blk_alloc ?_ _)); refine blk_far ?_ NB105_106.out _; (with_reducible repeat (first | refine blk_drewN ?_ _ | refine blk_drew ?_ | refine blk_alloc ?_ _)); refine blk_put (cs := #[.int .i64 t101, .int .i64 0]) ?_ 1 _ rfl; (with_reducible repeat (first | refine blk_drewN ?_ _ | refine blk_drew ?_ | refine blk_alloc ?_ _)); refine blk_put (cs := #[.int .i64 0, .int .i64 0]) ?_ 0 _ rfl; (with_reducible repeat (first | refine blk_drewN ?_ _ | refine blk_drew ?_ | refine blk_alloc ?_ _)); exact BK105.out) hb); have n1_ := Aside0.mk (blk_below (g := gb106) (o := .cells #[.int .i64 t103, .int .i64 t104] 24 (0, 0)) (by (with_reducible repeat (first | refine blk_drewN ?_ _ | refine blk_drew ?_ | refine blk_alloc ?_ _)); refine blk_put (cs := #[.int .i64 t103, .int .i64 0]) ?_ 1 _ rfl; (with_reducible repeat (first | refine blk_drewN ?_ _ | refine blk_drew ?_ | refine blk_alloc ?_ _)); refine blk_put (cs := #[.int .i64 0, .int .i64 0]) ?_ 0 _ rfl; (with_reducible repeat (first | refine blk_drewN ?_ _ | refine blk_drew ?_ | refine blk_alloc ?_ _)); refine blk_far ?_ NB106_105.out _; (with_reducible repeat (first | refine blk_drewN ?_ _ | refine blk_drew ?_ | refine blk_alloc ?_ _)); refine blk_far ?_ NB106_105.out _; (with_reducible repeat (first | refine blk_drewN ?_ _ | refine blk_drew ?_ | refine blk_alloc ?_ _)); exact BK106.out) hb); have n2_ := Aside0.mk (below_step (by repeat (first | (with_reducible first | exact HB.out | apply below_alloc | apply pw_below_drewN | apply below_drew1 | refine below_set ?_ GE105.out | refine below_set ?_ GE106.out) | exact HB.out)) hb); clear BK105; clear BK106; clear HB; have BK105 := n0_; have BK106 := n1_; have HB := n2_; clear n0_ n1_ n2_; (try clear hb); (try clear hb2); (try clear hk); (try clear hi); have hcz46_0 : w45.cell? ⟨gb106, 0, none⟩ = some (.int .i64 t103) := (blk_cell BK106.out 0).trans rfl; have hcz46_1 : w45.cell? ⟨gb106, 1, none⟩ = some (.int .i64 t104) := (blk_cell BK106.out 1).trans rfl; have hfz46_0 := blk_frozen BK106.out 0; have hfz46_1 := blk_frozen BK106.out 1) | (go_at_call 18; (with_reducible refine (tallymanref03_Small.calls t103 t104 500 true _ A13.out).mono ?_); rintro e w47 ⟨rfl, hb⟩; have n0_ := Aside0.mk (blk_below (g := gb105) (o := .cells #[.int .i64 t101, .int .i64 t102] 24 (0, 0)) (by (with_reducible repeat (first | refine blk_drewN ?_ _ | refine blk_drew ?_ | refine blk_alloc ?_ _)); exact BK105.out) hb); have n1_ := Aside0.mk (blk_below (g := gb106) (o := .cells #[.int .i64 t103, .int .i64 t104] 24 (0, 0)) (by (with_reducible repeat (first | refine blk_drewN ?_ _ | refine blk_drew ?_ | refine blk_alloc ?_ _)); exact BK106.out) hb); have n2_ := Aside0.mk (below_step (by repeat (first | (with_reducible first | exact HB.out | apply below_alloc | apply pw_below_drewN | apply below_drew1 | refine below_set ?_ GE105.out | refine below_set ?_ GE106.out) | exact HB.out)) hb); clear BK105; clear BK106; clear HB; have BK105 := n0_; have BK106 := n1_; have HB := n2_; clear n0_ n1_ n2_; (try clear hb); (try clear hb2); (try clear hk); (try clear hi); have hcz48_0 : w47.cell? ⟨gb106, 0, none⟩ = some (.int .i64 t103) := (blk_cell BK106.out 0).trans rfl; have hcz48_1 : w47.cell? ⟨gb106, 1, none⟩ = some (.int .i64 t104) := (blk_cell BK106.out 1).trans rfl; have hfz48_0 := blk_frozen BK106.out 0; have hfz48_1 := blk_frozen BK106.out 1; have hcz49_0 : w47.cell? ⟨gb105, 0, none⟩ = some (.int .i64 t101) := (blk_cell BK105.out 0).trans rfl; have hcz49_1 : w47.cell? ⟨gb105, 1, none⟩ = some (.int .i64 t102) := (blk_cell BK105.out 1).trans rfl; have hfz49_0 := blk_frozen BK105.out 0; have hfz49_1 := blk_frozen BK105.out 1) | (go_at_call 19; (with_reducible refine (fence_Right.calls _ _ l0 false _ ?side1 ?side2 A31.out).mono ?_); (case side1 => repeat (first | exact (Kd.C_below HR0.out HB.out) | (with_reducible refine Kd.C_alloc ?_ _) | (with_reducible refine Kd.C_drewN ?_ _) | (with_reducible refine Kd.C_drew ?_))); (case side2 => exact HC0.out); rintro e w50 ⟨rfl, hb⟩; have n0_ := Aside0.mk (blk_below (g := gb105) (o := .cells #[.int .i64 t101, .int .i64 t102] 24 (0, 0)) (by (with_reducible repeat (first | refine blk_drewN ?_ _ | refine blk_drew ?_ | refine blk_alloc ?_ _)); exact BK105.out) hb); have n1_ := Aside0.mk (blk_below (g := gb106) (o := .cells #[.int .i64 t103, .int .i64 t104] 24 (0, 0)) (by (with_reducible repeat (first | refine blk_drewN ?_ _ | refine blk_drew ?_ | refine blk_alloc ?_ _)); exact BK106.out) hb); have n2_ := Aside0.mk (below_step (by repeat (first | (with_reducible first | exact HB.out | apply below_alloc | apply pw_below_drewN | apply below_drew1 | refine below_set ?_ GE105.out | refine below_set ?_ GE106.out) | exact HB.out)) hb); clear BK105; clear BK106; clear HB; have BK105 := n0_; have BK106 := n1_; have HB := n2_; clear n0_ n1_ n2_; (try clear hb); (try clear hb2); (try clear hk); (try clear hi)))
                go_meet
                case rel => exact ⟨_, (true), (by first | rfl | (simp; done) | (simp [*]; done)), H', ⟨by first | omega | exact Nat.le_refl _⟩, ⟨by (with_reducible repeat (first | refine blk_drewN ?_ _ | refine blk_drew ?_ | refine blk_alloc ?_ _)); exact BK105.out⟩, ⟨by (with_reducible repeat (first | refine blk_drewN ?_ _ | refine blk_drew ?_ | refine blk_alloc ?_ _)); exact BK106.out⟩, ⟨by repeat (first | (with_reducible first | exact HB.out | apply below_alloc | apply pw_below_drewN | apply below_drew1 | refine below_set ?_ GE105.out | refine below_set ?_ GE106.out) | exact HB.out)⟩⟩
        · replace c14 := Bool.eq_false_iff.mpr c14
          subst c14
          have H1 : (tallymanlaw06_FenceCells.j0 k l0 true t101 t102 t103 t104) = some r := by rw [if_neg (show ¬ (false = true) by decide)] at H; exact H
          clear H
          have H := H1
          clear H1
          have H' := Aside0.mk H
          clear H
          have hnb51 := NB105_106.out
          have hnc51 := NB106_105.out
          have hcz52_0 : w6.cell? ⟨gb105, 0, none⟩ = some (.int .i64 0) := (blk_cell BK105.out 0).trans rfl
          have hcz52_1 : w6.cell? ⟨gb105, 1, none⟩ = some (.int .i64 0) := (blk_cell BK105.out 1).trans rfl
          have hfz52_0 := blk_frozen BK105.out 0
          have hfz52_1 := blk_frozen BK105.out 1
          go_wp2_with (first | (go_at_call 18; (with_reducible refine (tallymanref03_Small.calls t101 t102 500 true _ A11.out).mono ?_); rintro e w53 ⟨rfl, hb⟩; have n0_ := Aside0.mk (blk_below (g := gb105) (o := .cells #[.int .i64 t101, .int .i64 t102] 24 (0, 0)) (by (with_reducible repeat (first | refine blk_drewN ?_ _ | refine blk_drew ?_ | refine blk_alloc ?_ _)); refine blk_far ?_ NB105_106.out _; (with_reducible repeat (first | refine blk_drewN ?_ _ | refine blk_drew ?_ | refine blk_alloc ?_ _)); refine blk_far ?_ NB105_106.out _; (with_reducible repeat (first | refine blk_drewN ?_ _ | refine blk_drew ?_ | refine blk_alloc ?_ _)); refine blk_put (cs := #[.int .i64 t101, .int .i64 0]) ?_ 1 _ rfl; (with_reducible repeat (first | refine blk_drewN ?_ _ | refine blk_drew ?_ | refine blk_alloc ?_ _)); refine blk_put (cs := #[.int .i64 0, .int .i64 0]) ?_ 0 _ rfl; (with_reducible repeat (first | refine blk_drewN ?_ _ | refine blk_drew ?_ | refine blk_alloc ?_ _)); exact BK105.out) hb); have n1_ := Aside0.mk (blk_below (g := gb106) (o := .cells #[.int .i64 t103, .int .i64 t104] 24 (0, 0)) (by (with_reducible repeat (first | refine blk_drewN ?_ _ | refine blk_drew ?_ | refine blk_alloc ?_ _)); refine blk_put (cs := #[.int .i64 t103, .int .i64 0]) ?_ 1 _ rfl; (with_reducible repeat (first | refine blk_drewN ?_ _ | refine blk_drew ?_ | refine blk_alloc ?_ _)); refine blk_put (cs := #[.int .i64 0, .int .i64 0]) ?_ 0 _ rfl; (with_reducible repeat (first | refine blk_drewN ?_ _ | refine blk_drew ?_ | refine blk_alloc ?_ _)); refine blk_far ?_ NB106_105.out _; (with_reducible repeat (first | refine blk_drewN ?_ _ | refine blk_drew ?_ | refine blk_alloc ?_ _)); refine blk_far ?_ NB106_105.out _; (with_reducible repeat (first | refine blk_drewN ?_ _ | refine blk_drew ?_ | refine blk_alloc ?_ _)); exact BK106.out) hb); have n2_ := Aside0.mk (below_step (by repeat (first | (with_reducible first | exact HB.out | apply below_alloc | apply pw_below_drewN | apply below_drew1 | refine below_set ?_ GE105.out | refine below_set ?_ GE106.out) | exact HB.out)) hb); clear BK105; clear BK106; clear HB; have BK105 := n0_; have BK106 := n1_; have HB := n2_; clear n0_ n1_ n2_; (try clear hb); (try clear hb2); (try clear hk); (try clear hi); have hcz54_0 : w53.cell? ⟨gb106, 0, none⟩ = some (.int .i64 t103) := (blk_cell BK106.out 0).trans rfl; have hcz54_1 : w53.cell? ⟨gb106, 1, none⟩ = some (.int .i64 t104) := (blk_cell BK106.out 1).trans rfl; have hfz54_0 := blk_frozen BK106.out 0; have hfz54_1 := blk_frozen BK106.out 1) | (go_at_call 18; (with_reducible refine (tallymanref03_Small.calls t103 t104 500 false _ A13.out).mono ?_); rintro e w55 ⟨rfl, hb⟩; have n0_ := Aside0.mk (blk_below (g := gb105) (o := .cells #[.int .i64 t101, .int .i64 t102] 24 (0, 0)) (by (with_reducible repeat (first | refine blk_drewN ?_ _ | refine blk_drew ?_ | refine blk_alloc ?_ _)); exact BK105.out) hb); have n1_ := Aside0.mk (blk_below (g := gb106) (o := .cells #[.int .i64 t103, .int .i64 t104] 24 (0, 0)) (by (with_reducible repeat (first | refine blk_drewN ?_ _ | refine blk_drew ?_ | refine blk_alloc ?_ _)); exact BK106.out) hb); have n2_ := Aside0.mk (below_step (by repeat (first | (with_reducible first | exact HB.out | apply below_alloc | apply pw_below_drewN | apply below_drew1 | refine below_set ?_ GE105.out | refine below_set ?_ GE106.out) | exact HB.out)) hb); clear BK105; clear BK106; clear HB; have BK105 := n0_; have BK106 := n1_; have HB := n2_; clear n0_ n1_ n2_; (try clear hb); (try clear hb2); (try clear hk); (try clear hi)))
          go_meet
          case rel => exact ⟨_, (true), (by first | rfl | (simp; done) | (simp [*]; done)), H', ⟨by first | omega | exact Nat.le_refl _⟩, ⟨by (with_reducible repeat (first | refine blk_drewN ?_ _ | refine blk_drew ?_ | refine blk_alloc ?_ _)); exact BK105.out⟩, ⟨by (with_reducible repeat (first | refine blk_drewN ?_ _ | refine blk_drew ?_ | refine blk_alloc ?_ _)); exact BK106.out⟩, ⟨by repeat (first | (with_reducible first | exact HB.out | apply below_alloc | apply pw_below_drewN | apply below_drew1 | refine below_set ?_ GE105.out | refine below_set ?_ GE106.out) | exact HB.out)⟩⟩
      · replace c12 := Bool.eq_false_iff.mpr c12
        subst c12
        have H1 : (tallymanlaw06_FenceCells.j0 k l0 true t101 t102 t103 t104) = some r := by rw [if_neg (show ¬ (false = true) by decide)] at H; exact H
        clear H
        have H := H1
        clear H1
        have H' := Aside0.mk H
        clear H
        have hnb56 := NB105_106.out
        have hnc56 := NB106_105.out
        have hcz57_0 : w6.cell? ⟨gb105, 0, none⟩ = some (.int .i64 0) := (blk_cell BK105.out 0).trans rfl
        have hcz57_1 : w6.cell? ⟨gb105, 1, none⟩ = some (.int .i64 0) := (blk_cell BK105.out 1).trans rfl
        have hfz57_0 := blk_frozen BK105.out 0
        have hfz57_1 := blk_frozen BK105.out 1
        go_wp2_with (first | (go_at_call 18; (with_reducible refine (tallymanref03_Small.calls t101 t102 500 false _ A11.out).mono ?_); rintro e w58 ⟨rfl, hb⟩; have n0_ := Aside0.mk (blk_below (g := gb105) (o := .cells #[.int .i64 t101, .int .i64 t102] 24 (0, 0)) (by (with_reducible repeat (first | refine blk_drewN ?_ _ | refine blk_drew ?_ | refine blk_alloc ?_ _)); refine blk_far ?_ NB105_106.out _; (with_reducible repeat (first | refine blk_drewN ?_ _ | refine blk_drew ?_ | refine blk_alloc ?_ _)); refine blk_far ?_ NB105_106.out _; (with_reducible repeat (first | refine blk_drewN ?_ _ | refine blk_drew ?_ | refine blk_alloc ?_ _)); refine blk_put (cs := #[.int .i64 t101, .int .i64 0]) ?_ 1 _ rfl; (with_reducible repeat (first | refine blk_drewN ?_ _ | refine blk_drew ?_ | refine blk_alloc ?_ _)); refine blk_put (cs := #[.int .i64 0, .int .i64 0]) ?_ 0 _ rfl; (with_reducible repeat (first | refine blk_drewN ?_ _ | refine blk_drew ?_ | refine blk_alloc ?_ _)); exact BK105.out) hb); have n1_ := Aside0.mk (blk_below (g := gb106) (o := .cells #[.int .i64 t103, .int .i64 t104] 24 (0, 0)) (by (with_reducible repeat (first | refine blk_drewN ?_ _ | refine blk_drew ?_ | refine blk_alloc ?_ _)); refine blk_put (cs := #[.int .i64 t103, .int .i64 0]) ?_ 1 _ rfl; (with_reducible repeat (first | refine blk_drewN ?_ _ | refine blk_drew ?_ | refine blk_alloc ?_ _)); refine blk_put (cs := #[.int .i64 0, .int .i64 0]) ?_ 0 _ rfl; (with_reducible repeat (first | refine blk_drewN ?_ _ | refine blk_drew ?_ | refine blk_alloc ?_ _)); refine blk_far ?_ NB106_105.out _; (with_reducible repeat (first | refine blk_drewN ?_ _ | refine blk_drew ?_ | refine blk_alloc ?_ _)); refine blk_far ?_ NB106_105.out _; (with_reducible repeat (first | refine blk_drewN ?_ _ | refine blk_drew ?_ | refine blk_alloc ?_ _)); exact BK106.out) hb); have n2_ := Aside0.mk (below_step (by repeat (first | (with_reducible first | exact HB.out | apply below_alloc | apply pw_below_drewN | apply below_drew1 | refine below_set ?_ GE105.out | refine below_set ?_ GE106.out) | exact HB.out)) hb); clear BK105; clear BK106; clear HB; have BK105 := n0_; have BK106 := n1_; have HB := n2_; clear n0_ n1_ n2_; (try clear hb); (try clear hb2); (try clear hk); (try clear hi)))
        go_meet
        case rel => exact ⟨_, (true), (by first | rfl | (simp; done) | (simp [*]; done)), H', ⟨by first | omega | exact Nat.le_refl _⟩, ⟨by (with_reducible repeat (first | refine blk_drewN ?_ _ | refine blk_drew ?_ | refine blk_alloc ?_ _)); exact BK105.out⟩, ⟨by (with_reducible repeat (first | refine blk_drewN ?_ _ | refine blk_drew ?_ | refine blk_alloc ?_ _)); exact BK106.out⟩, ⟨by repeat (first | (with_reducible first | exact HB.out | apply below_alloc | apply pw_below_drewN | apply below_drew1 | refine below_set ?_ GE105.out | refine below_set ?_ GE106.out) | exact HB.out)⟩⟩
  case rest =>
    clear HC3
    try clear c1
    try clear c2
    try clear p2
    try clear c3
    try clear c4
    try clear c5
    try clear p6
    try clear c7
    try clear c10
    try clear c10b0
    try clear c10b1
    try clear c12
    try clear c14
    try clear c15
    try clear c15b0
    try clear c16
    try clear c17
    try clear c23
    try clear c23b0
    try clear c24
    try clear c32
    try clear c34
    try clear c43
    try clear c51
    try clear c56
    try clear hcz17_0
    try clear hcz17_1
    try clear hcz19_0
    try clear hcz19_1
    try clear hcz21_0
    try clear hcz21_1
    try clear hcz22_0
    try clear hcz22_1
    try clear hcz25_0
    try clear hcz25_1
    try clear hcz27_0
    try clear hcz27_1
    try clear hcz29_0
    try clear hcz29_1
    try clear hcz30_0
    try clear hcz30_1
    try clear hcz35_0
    try clear hcz35_1
    try clear hcz37_0
    try clear hcz37_1
    try clear hcz39_0
    try clear hcz39_1
    try clear hcz40_0
    try clear hcz40_1
    try clear hcz44_0
    try clear hcz44_1
    try clear hcz46_0
    try clear hcz46_1
    try clear hcz48_0
    try clear hcz48_1
    try clear hcz49_0
    try clear hcz49_1
    try clear hcz52_0
    try clear hcz52_1
    try clear hcz54_0
    try clear hcz54_1
    try clear hcz57_0
    try clear hcz57_1
    try clear hcz8_0
    try clear hcz8_1
    try clear hcz9_0
    try clear hcz9_1
    try clear hfz17_0
    try clear hfz17_1
    try clear hfz19_0
    try clear hfz19_1
    try clear hfz21_0
    try clear hfz21_1
    try clear hfz22_0
    try clear hfz22_1
    try clear hfz25_0
    try clear hfz25_1
    try clear hfz27_0
    try clear hfz27_1
    try clear hfz29_0
    try clear hfz29_1
    try clear hfz30_0
    try clear hfz30_1
    try clear hfz35_0
    try clear hfz35_1
    try clear hfz37_0
    try clear hfz37_1
    try clear hfz39_0
    try clear hfz39_1
    try clear hfz40_0
    try clear hfz40_1
    try clear hfz44_0
    try clear hfz44_1
    try clear hfz46_0
    try clear hfz46_1
    try clear hfz48_0
    try clear hfz48_1
    try clear hfz49_0
    try clear hfz49_1
    try clear hfz52_0
    try clear hfz52_1
    try clear hfz54_0
    try clear hfz54_1
    try clear hfz57_0
    try clear hfz57_1
    try clear hfz8_0
    try clear hfz8_1
    try clear hfz9_0
    try clear hfz9_1
    obtain ⟨kq, x52_2, rfl, HA, HJ2, BK105, BK106, HB⟩ := hcut
    cases kq with
    | zero => exact absurd HA.out (by simp [tallymanlaw06_FenceCells.j0])
    | succ kj2 =>
      have H := HA.out
      clear HA
      simp only [tallymanlaw06_FenceCells.j0] at H
      by_cases c59 : x52_2 = true
      · subst c59
        have H1 : ((tallymanlaw06_alive.f).bind fun t111 => (some t111)) = some r := by rw [if_pos rfl] at H; exact H
        clear H
        have H := H1
        clear H1
        replace H := Option.bind_eq_some_iff.mp H
        obtain ⟨t111, A600, H⟩ := H
        replace H : (some t111) = some r := H
        have A60 := Aside0.mk A600
        clear A600
        obtain rfl := Option.some.inj H
        go_wp2_with (first | ((with_reducible refine gate_callee (f := 12) rfl ?_); refine goesL_ (some 53) rfl rfl Try.func12 (by kernel_rfl) rfl #[] rfl (by (try simp only [List.map_toArray, List.map_cons, List.map_nil]); first | done | rfl | (simp only [List.length_drop, List.length_take]; rfl)) ?_; (with_reducible refine (tallymanlaw06_alive.calls  t111 _ A60.out).mono ?_); rintro e w61 ⟨rfl, hb⟩; refine ⟨_, rfl, ?_⟩; have n0_ := Aside0.mk (blk_below (g := gb105) (o := .cells #[.int .i64 t101, .int .i64 t102] 24 (0, 0)) (by (with_reducible repeat (first | refine blk_drewN ?_ _ | refine blk_drew ?_ | refine blk_alloc ?_ _)); exact BK105.out) hb); have n1_ := Aside0.mk (blk_below (g := gb106) (o := .cells #[.int .i64 t103, .int .i64 t104] 24 (0, 0)) (by (with_reducible repeat (first | refine blk_drewN ?_ _ | refine blk_drew ?_ | refine blk_alloc ?_ _)); exact BK106.out) hb); have n2_ := Aside0.mk (below_step (by repeat (first | (with_reducible first | exact HB.out | apply below_alloc | apply pw_below_drewN | apply below_drew1 | refine below_set ?_ GE105.out | refine below_set ?_ GE106.out) | exact HB.out)) hb); clear BK105; clear BK106; clear HB; have BK105 := n0_; have BK106 := n1_; have HB := n2_; clear n0_ n1_ n2_; (try clear hb); (try clear hb2); (try clear hk); (try clear hi)))
        go_ret
        exact ⟨by first | rfl | ((repeat first | rw [Int.tdiv_eq_ediv_of_nonneg (by omega)] | rw [Int.tmod_eq_emod_of_nonneg (by omega)]); rfl) | (simp [errW_none, errW_some] <;> rfl) | (simp [*, errW_none, errW_some] <;> rfl), by repeat (first | (with_reducible first | exact HB.out | apply below_alloc | apply pw_below_drewN | apply below_drew1 | refine below_set ?_ GE105.out | refine below_set ?_ GE106.out) | exact HB.out)⟩
      · replace c59 := Bool.eq_false_iff.mpr c59
        subst c59
        have H1 : (tallymanlaw06_FenceCells.l0 kj2 l0 0 (wrap64 (t101 - 1)) t101 t102 t103 t104) = some r := by rw [if_neg (show ¬ (false = true) by decide)] at H; exact H
        clear H
        have H := H1
        clear H1
        have H' := Aside0.mk H
        clear H
        have hnb62 := NB105_106.out
        have hnc62 := NB106_105.out
        have hcz63_0 : wc.cell? ⟨gb105, 0, none⟩ = some (.int .i64 t101) := (blk_cell BK105.out 0).trans rfl
        have hcz63_1 : wc.cell? ⟨gb105, 1, none⟩ = some (.int .i64 t102) := (blk_cell BK105.out 1).trans rfl
        have hfz63_0 := blk_frozen BK105.out 0
        have hfz63_1 := blk_frozen BK105.out 1
        go_wp2
        go_loopg [5, 6] kj2 (fun kq v5 v6 w' => ∃ (x5_2 : Int) (x6_2 : Int), v5 = .int .i64 x5_2 ∧ v6 = .int .i64 x6_2 ∧ Aside0 (tallymanlaw06_FenceCells.l0 kq l0 x5_2 x6_2 t101 t102 t103 t104 = some r) ∧ Aside0 (kq ≤ kj2) ∧ Aside0 (w'.heap[gb105]? = some (.cells #[.int .i64 t101, .int .i64 t102] 24 (0, 0))) ∧ Aside0 (w'.heap[gb106]? = some (.cells #[.int .i64 t103, .int .i64 t104] 24 (0, 0))) ∧ Aside0 (Below w.heap.size w w'))
        case atStart => exact ⟨(0), (wrap64 (t101 - 1)), (by first | rfl | (simp; done) | (simp [*]; done)), (by first | rfl | (simp; done) | (simp [*]; done)), H', ⟨Nat.le_refl _⟩, ⟨by (with_reducible repeat (first | refine blk_drewN ?_ _ | refine blk_drew ?_ | refine blk_alloc ?_ _)); exact BK105.out⟩, ⟨by (with_reducible repeat (first | refine blk_drewN ?_ _ | refine blk_drew ?_ | refine blk_alloc ?_ _)); exact BK106.out⟩, ⟨by repeat (first | (with_reducible first | exact HB.out | apply below_alloc | apply pw_below_drewN | apply below_drew1 | refine below_set ?_ GE105.out | refine below_set ?_ GE106.out) | exact HB.out)⟩⟩
        case round =>
          clear H'
          try clear c1
          try clear c2
          try clear p2
          try clear c3
          try clear c4
          try clear c5
          try clear c6
          try clear p6
          try clear c7
          try clear c10
          try clear c10b0
          try clear c10b1
          try clear c12
          try clear c14
          try clear c15
          try clear c15b0
          try clear c16
          try clear c17
          try clear c23
          try clear c23b0
          try clear c24
          try clear c32
          try clear c34
          try clear c43
          try clear c51
          try clear c56
          try clear c59
          try clear c62
          try clear hcz17_0
          try clear hcz17_1
          try clear hcz19_0
          try clear hcz19_1
          try clear hcz21_0
          try clear hcz21_1
          try clear hcz22_0
          try clear hcz22_1
          try clear hcz25_0
          try clear hcz25_1
          try clear hcz27_0
          try clear hcz27_1
          try clear hcz29_0
          try clear hcz29_1
          try clear hcz30_0
          try clear hcz30_1
          try clear hcz35_0
          try clear hcz35_1
          try clear hcz37_0
          try clear hcz37_1
          try clear hcz39_0
          try clear hcz39_1
          try clear hcz40_0
          try clear hcz40_1
          try clear hcz44_0
          try clear hcz44_1
          try clear hcz46_0
          try clear hcz46_1
          try clear hcz48_0
          try clear hcz48_1
          try clear hcz49_0
          try clear hcz49_1
          try clear hcz52_0
          try clear hcz52_1
          try clear hcz54_0
          try clear hcz54_1
          try clear hcz57_0
          try clear hcz57_1
          try clear hcz63_0
          try clear hcz63_1
          try clear hcz8_0
          try clear hcz8_1
          try clear hcz9_0
          try clear hcz9_1
          try clear hfz17_0
          try clear hfz17_1
          try clear hfz19_0
          try clear hfz19_1
          try clear hfz21_0
          try clear hfz21_1
          try clear hfz22_0
          try clear hfz22_1
          try clear hfz25_0
          try clear hfz25_1
          try clear hfz27_0
          try clear hfz27_1
          try clear hfz29_0
          try clear hfz29_1
          try clear hfz30_0
          try clear hfz30_1
          try clear hfz35_0
          try clear hfz35_1
          try clear hfz37_0
          try clear hfz37_1
          try clear hfz39_0
          try clear hfz39_1
          try clear hfz40_0
          try clear hfz40_1
          try clear hfz44_0
          try clear hfz44_1
          try clear hfz46_0
          try clear hfz46_1
          try clear hfz48_0
          try clear hfz48_1
          try clear hfz49_0
          try clear hfz49_1
          try clear hfz52_0
          try clear hfz52_1
          try clear hfz54_0
          try clear hfz54_1
          try clear hfz57_0
          try clear hfz57_1
          try clear hfz63_0
          try clear hfz63_1
          try clear hfz8_0
          try clear hfz8_1
          try clear hfz9_0
          try clear hfz9_1
          try clear p2
          try clear p6
          obtain ⟨x5_2, x6_2, rfl, rfl, HA, HK2, BK105, BK106, HB⟩ := hrel
          cases gk with
          | zero => exact absurd HA.out (by simp [tallymanlaw06_FenceCells.l0])
          | succ k2 =>
            have H := HA.out
            clear HA
            simp only [tallymanlaw06_FenceCells.l0] at H
            by_cases c64 : x6_2 ≤ t103
            · rw [if_pos c64] at H
              have c64b0 : decide (x6_2 ≤ t103) = true := decide_eq_true c64
              clear c64
              have H' := Aside0.mk H
              clear H
              have hnb65 := NB106_105.out
              have hnc65 := NB105_106.out
              have hcz66_0 : wr.cell? ⟨gb106, 0, none⟩ = some (.int .i64 t103) := (blk_cell BK106.out 0).trans rfl
              have hcz66_1 : wr.cell? ⟨gb106, 1, none⟩ = some (.int .i64 t104) := (blk_cell BK106.out 1).trans rfl
              have hfz66_0 := blk_frozen BK106.out 0
              have hfz66_1 := blk_frozen BK106.out 1
              have hcz67_0 : wr.cell? ⟨gb105, 0, none⟩ = some (.int .i64 t101) := (blk_cell BK105.out 0).trans rfl
              have hcz67_1 : wr.cell? ⟨gb105, 1, none⟩ = some (.int .i64 t102) := (blk_cell BK105.out 1).trans rfl
              have hfz67_0 := blk_frozen BK105.out 0
              have hfz67_1 := blk_frozen BK105.out 1
              go_wp2
              go_loopg [5, 7] k2 (fun kq v5 v7 w' => ∃ (x5_3 : Int) (x7_3 : Int), v5 = .int .i64 x5_3 ∧ v7 = .int .i64 x7_3 ∧ Aside0 (tallymanlaw06_FenceCells.l1 kq l0 x5_3 x6_2 x7_3 t101 t102 t103 t104 = some r) ∧ Aside0 (kq ≤ k2) ∧ Aside0 (w'.heap[gb105]? = some (.cells #[.int .i64 t101, .int .i64 t102] 24 (0, 0))) ∧ Aside0 (w'.heap[gb106]? = some (.cells #[.int .i64 t103, .int .i64 t104] 24 (0, 0))) ∧ Aside0 (Below w.heap.size w w'))
              case atStart => exact ⟨(x5_2), (wrap64 (t102 - 1)), (by first | rfl | (simp; done) | (simp [*]; done)), (by first | rfl | (simp; done) | (simp [*]; done)), H', ⟨Nat.le_refl _⟩, ⟨by (with_reducible repeat (first | refine blk_drewN ?_ _ | refine blk_drew ?_ | refine blk_alloc ?_ _)); exact BK105.out⟩, ⟨by (with_reducible repeat (first | refine blk_drewN ?_ _ | refine blk_drew ?_ | refine blk_alloc ?_ _)); exact BK106.out⟩, ⟨by repeat (first | (with_reducible first | exact HB.out | apply below_alloc | apply pw_below_drewN | apply below_drew1 | refine below_set ?_ GE105.out | refine below_set ?_ GE106.out) | exact HB.out)⟩⟩
              case round =>
                clear H'
                try clear c1
                try clear c2
                try clear p2
                try clear c3
                try clear c4
                try clear c5
                try clear c6
                try clear p6
                try clear c7
                try clear c10
                try clear c10b0
                try clear c10b1
                try clear c12
                try clear c14
                try clear c15
                try clear c15b0
                try clear c16
                try clear c17
                try clear c23
                try clear c23b0
                try clear c24
                try clear c32
                try clear c34
                try clear c43
                try clear c51
                try clear c56
                try clear c59
                try clear c62
                try clear c64
                try clear c64b0
                try clear p64
                try clear c65
                try clear hcz17_0
                try clear hcz17_1
                try clear hcz19_0
                try clear hcz19_1
                try clear hcz21_0
                try clear hcz21_1
                try clear hcz22_0
                try clear hcz22_1
                try clear hcz25_0
                try clear hcz25_1
                try clear hcz27_0
                try clear hcz27_1
                try clear hcz29_0
                try clear hcz29_1
                try clear hcz30_0
                try clear hcz30_1
                try clear hcz35_0
                try clear hcz35_1
                try clear hcz37_0
                try clear hcz37_1
                try clear hcz39_0
                try clear hcz39_1
                try clear hcz40_0
                try clear hcz40_1
                try clear hcz44_0
                try clear hcz44_1
                try clear hcz46_0
                try clear hcz46_1
                try clear hcz48_0
                try clear hcz48_1
                try clear hcz49_0
                try clear hcz49_1
                try clear hcz52_0
                try clear hcz52_1
                try clear hcz54_0
                try clear hcz54_1
                try clear hcz57_0
                try clear hcz57_1
                try clear hcz63_0
                try clear hcz63_1
                try clear hcz66_0
                try clear hcz66_1
                try clear hcz67_0
                try clear hcz67_1
                try clear hcz8_0
                try clear hcz8_1
                try clear hcz9_0
                try clear hcz9_1
                try clear hfz17_0
                try clear hfz17_1
                try clear hfz19_0
                try clear hfz19_1
                try clear hfz21_0
                try clear hfz21_1
                try clear hfz22_0
                try clear hfz22_1
                try clear hfz25_0
                try clear hfz25_1
                try clear hfz27_0
                try clear hfz27_1
                try clear hfz29_0
                try clear hfz29_1
                try clear hfz30_0
                try clear hfz30_1
                try clear hfz35_0
                try clear hfz35_1
                try clear hfz37_0
                try clear hfz37_1
                try clear hfz39_0
                try clear hfz39_1
                try clear hfz40_0
                try clear hfz40_1
                try clear hfz44_0
                try clear hfz44_1
                try clear hfz46_0
                try clear hfz46_1
                try clear hfz48_0
                try clear hfz48_1
                try clear hfz49_0
                try clear hfz49_1
                try clear hfz52_0
                try clear hfz52_1
                try clear hfz54_0
                try clear hfz54_1
                try clear hfz57_0
                try clear hfz57_1
                try clear hfz63_0
                try clear hfz63_1
                try clear hfz66_0
                try clear hfz66_1
                try clear hfz67_0
                try clear hfz67_1
                try clear hfz8_0
                try clear hfz8_1
                try clear hfz9_0
                try clear hfz9_1
                try clear p2
                try clear p6
                obtain ⟨x5_3, x7_3, rfl, rfl, HA, HK3, BK105, BK106, HB⟩ := hrel
                cases gk with
                | zero => exact absurd HA.out (by simp [tallymanlaw06_FenceCells.l1])
                | succ k3 =>
                  have H := HA.out
                  clear HA
                  simp only [tallymanlaw06_FenceCells.l1] at H
                  by_cases c68 : x7_3 ≤ t104
                  · rw [if_pos c68] at H
                    have c68b0 : decide (x7_3 ≤ t104) = true := decide_eq_true c68
                    clear c68
                    replace H := Option.bind_eq_some_iff.mp H
                    obtain ⟨t114, A690, H⟩ := H
                    replace H : (if t114 = 0 then (tallymanlaw06_FenceCells.l1 k3 l0 (wrap64 (x5_3 + t114)) x6_2 (wrap64 (x7_3 + 1)) t101 t102 t103 t104) else (if x6_2 < t101 then (some false) else (if x7_3 < t102 then (some false) else (if x6_2 = t103 then (some false) else (if x7_3 = t104 then (some false) else (tallymanlaw06_FenceCells.l1 k3 l0 (wrap64 (x5_3 + t114)) x6_2 (wrap64 (x7_3 + 1)) t101 t102 t103 t104)))))) = some r := H
                    have A69 := Aside0.mk A690
                    clear A690
                    by_cases c70 : t114 = 0
                    · rw [if_pos c70] at H
                      have c70b0 : (t114 == 0) = true := beq_iff_eq.mpr c70
                      have c70b1 : (t114 != 0) = false := bne_eq_false_iff_eq.mpr c70
                      clear c70
                      have H' := Aside0.mk H
                      clear H
                      have hnb71 := NB106_105.out
                      have hnc71 := NB105_106.out
                      have hcz72_0 : wr.cell? ⟨gb106, 0, none⟩ = some (.int .i64 t103) := (blk_cell BK106.out 0).trans rfl
                      have hcz72_1 : wr.cell? ⟨gb106, 1, none⟩ = some (.int .i64 t104) := (blk_cell BK106.out 1).trans rfl
                      have hfz72_0 := blk_frozen BK106.out 0
                      have hfz72_1 := blk_frozen BK106.out 1
                      go_wp2_with (first | ((with_reducible refine gate_callee (f := 15) rfl ?_); refine goesL_ (some 76) rfl rfl Try.func15 (by kernel_rfl) rfl #[.slice A0 l0.length c0, .agg #[.int .i64 x6_2, .int .i64 x7_3]] rfl (by (try simp only [List.map_toArray, List.map_cons, List.map_nil]); first | done | rfl | (simp only [List.length_drop, List.length_take]; rfl)) ?_; (with_reducible refine (fence_Cell.calls _ _ l0 x6_2 x7_3 t114 _ ?side1 ?side2 A69.out).mono ?_); (case side1 => repeat (first | exact (Kd.C_below HR0.out HB.out) | (with_reducible refine Kd.C_alloc ?_ _) | (with_reducible refine Kd.C_drewN ?_ _) | (with_reducible refine Kd.C_drew ?_))); (case side2 => exact HC0.out); rintro e w73 ⟨rfl, hb⟩; refine ⟨_, rfl, ?_⟩; have n0_ := Aside0.mk (blk_below (g := gb105) (o := .cells #[.int .i64 t101, .int .i64 t102] 24 (0, 0)) (by (with_reducible repeat (first | refine blk_drewN ?_ _ | refine blk_drew ?_ | refine blk_alloc ?_ _)); exact BK105.out) hb); have n1_ := Aside0.mk (blk_below (g := gb106) (o := .cells #[.int .i64 t103, .int .i64 t104] 24 (0, 0)) (by (with_reducible repeat (first | refine blk_drewN ?_ _ | refine blk_drew ?_ | refine blk_alloc ?_ _)); exact BK106.out) hb); have n2_ := Aside0.mk (below_step (by repeat (first | (with_reducible first | exact HB.out | apply below_alloc | apply pw_below_drewN | apply below_drew1 | refine below_set ?_ GE105.out | refine below_set ?_ GE106.out) | exact HB.out)) hb); clear BK105; clear BK106; clear HB; have BK105 := n0_; have BK106 := n1_; have HB := n2_; clear n0_ n1_ n2_; (try clear hb); (try clear hb2); (try clear hk); (try clear hi)))
                      go_roundg k3
                      case measure => have := HJ2.out; have := HK2.out; have := HK3.out; omega
                      case rel => exact ⟨(wrap64 (x5_3 + t114)), (wrap64 (x7_3 + 1)), (by first | rfl | (simp; done) | (simp [*]; done)), (by first | rfl | (simp; done) | (simp [*]; done)), H', ⟨by have := HJ2.out; have := HK2.out; have := HK3.out; omega⟩, ⟨by (with_reducible repeat (first | refine blk_drewN ?_ _ | refine blk_drew ?_ | refine blk_alloc ?_ _)); exact BK105.out⟩, ⟨by (with_reducible repeat (first | refine blk_drewN ?_ _ | refine blk_drew ?_ | refine blk_alloc ?_ _)); exact BK106.out⟩, ⟨by repeat (first | (with_reducible first | exact HB.out | apply below_alloc | apply pw_below_drewN | apply below_drew1 | refine below_set ?_ GE105.out | refine below_set ?_ GE106.out) | exact HB.out)⟩⟩
                    · rw [if_neg c70] at H
                      have c70b0 : (t114 == 0) = false := beq_eq_false_iff_ne.mpr c70
                      have c70b1 : (t114 != 0) = true := bne_iff_ne.mpr c70
                      by_cases c74 : x6_2 < t101
                      · rw [if_pos c74] at H
                        have c74b0 : decide (x6_2 < t101) = true := decide_eq_true c74
                        clear c74
                        obtain rfl := Option.some.inj H
                        have hnb75 := NB106_105.out
                        have hnc75 := NB105_106.out
                        have hcz76_0 : wr.cell? ⟨gb106, 0, none⟩ = some (.int .i64 t103) := (blk_cell BK106.out 0).trans rfl
                        have hcz76_1 : wr.cell? ⟨gb106, 1, none⟩ = some (.int .i64 t104) := (blk_cell BK106.out 1).trans rfl
                        have hfz76_0 := blk_frozen BK106.out 0
                        have hfz76_1 := blk_frozen BK106.out 1
                        go_wp2_with (first | ((with_reducible refine gate_callee (f := 15) rfl ?_); refine goesL_ (some 76) rfl rfl Try.func15 (by kernel_rfl) rfl #[.slice A0 l0.length c0, .agg #[.int .i64 x6_2, .int .i64 x7_3]] rfl (by (try simp only [List.map_toArray, List.map_cons, List.map_nil]); first | done | rfl | (simp only [List.length_drop, List.length_take]; rfl)) ?_; (with_reducible refine (fence_Cell.calls _ _ l0 x6_2 x7_3 t114 _ ?side1 ?side2 A69.out).mono ?_); (case side1 => repeat (first | exact (Kd.C_below HR0.out HB.out) | (with_reducible refine Kd.C_alloc ?_ _) | (with_reducible refine Kd.C_drewN ?_ _) | (with_reducible refine Kd.C_drew ?_))); (case side2 => exact HC0.out); rintro e w77 ⟨rfl, hb⟩; refine ⟨_, rfl, ?_⟩; have n0_ := Aside0.mk (blk_below (g := gb105) (o := .cells #[.int .i64 t101, .int .i64 t102] 24 (0, 0)) (by (with_reducible repeat (first | refine blk_drewN ?_ _ | refine blk_drew ?_ | refine blk_alloc ?_ _)); exact BK105.out) hb); have n1_ := Aside0.mk (blk_below (g := gb106) (o := .cells #[.int .i64 t103, .int .i64 t104] 24 (0, 0)) (by (with_reducible repeat (first | refine blk_drewN ?_ _ | refine blk_drew ?_ | refine blk_alloc ?_ _)); exact BK106.out) hb); have n2_ := Aside0.mk (below_step (by repeat (first | (with_reducible first | exact HB.out | apply below_alloc | apply pw_below_drewN | apply below_drew1 | refine below_set ?_ GE105.out | refine below_set ?_ GE106.out) | exact HB.out)) hb); clear BK105; clear BK106; clear HB; have BK105 := n0_; have BK106 := n1_; have HB := n2_; clear n0_ n1_ n2_; (try clear hb); (try clear hb2); (try clear hk); (try clear hi); have hcz78_0 : w77.cell? ⟨gb105, 0, none⟩ = some (.int .i64 t101) := (blk_cell BK105.out 0).trans rfl; have hcz78_1 : w77.cell? ⟨gb105, 1, none⟩ = some (.int .i64 t102) := (blk_cell BK105.out 1).trans rfl; have hfz78_0 := blk_frozen BK105.out 0; have hfz78_1 := blk_frozen BK105.out 1))
                        go_ret
                        exact ⟨by first | rfl | ((repeat first | rw [Int.tdiv_eq_ediv_of_nonneg (by omega)] | rw [Int.tmod_eq_emod_of_nonneg (by omega)]); rfl) | (simp [errW_none, errW_some] <;> rfl) | (simp [*, errW_none, errW_some] <;> rfl), by repeat (first | (with_reducible first | exact HB.out | apply below_alloc | apply pw_below_drewN | apply below_drew1 | refine below_set ?_ GE105.out | refine below_set ?_ GE106.out) | exact HB.out)⟩
                      · rw [if_neg c74] at H
                        have c74b0 : decide (x6_2 < t101) = false := decide_eq_false c74
                        clear c74
                        by_cases c79 : x7_3 < t102
                        · rw [if_pos c79] at H
                          have c79b0 : decide (x7_3 < t102) = true := decide_eq_true c79
                          clear c79
                          obtain rfl := Option.some.inj H
                          have hnb80 := NB106_105.out
                          have hnc80 := NB105_106.out
                          have hcz81_0 : wr.cell? ⟨gb106, 0, none⟩ = some (.int .i64 t103) := (blk_cell BK106.out 0).trans rfl
                          have hcz81_1 : wr.cell? ⟨gb106, 1, none⟩ = some (.int .i64 t104) := (blk_cell BK106.out 1).trans rfl
                          have hfz81_0 := blk_frozen BK106.out 0
                          have hfz81_1 := blk_frozen BK106.out 1
                          go_wp2_with (first | ((with_reducible refine gate_callee (f := 15) rfl ?_); refine goesL_ (some 76) rfl rfl Try.func15 (by kernel_rfl) rfl #[.slice A0 l0.length c0, .agg #[.int .i64 x6_2, .int .i64 x7_3]] rfl (by (try simp only [List.map_toArray, List.map_cons, List.map_nil]); first | done | rfl | (simp only [List.length_drop, List.length_take]; rfl)) ?_; (with_reducible refine (fence_Cell.calls _ _ l0 x6_2 x7_3 t114 _ ?side1 ?side2 A69.out).mono ?_); (case side1 => repeat (first | exact (Kd.C_below HR0.out HB.out) | (with_reducible refine Kd.C_alloc ?_ _) | (with_reducible refine Kd.C_drewN ?_ _) | (with_reducible refine Kd.C_drew ?_))); (case side2 => exact HC0.out); rintro e w82 ⟨rfl, hb⟩; refine ⟨_, rfl, ?_⟩; have n0_ := Aside0.mk (blk_below (g := gb105) (o := .cells #[.int .i64 t101, .int .i64 t102] 24 (0, 0)) (by (with_reducible repeat (first | refine blk_drewN ?_ _ | refine blk_drew ?_ | refine blk_alloc ?_ _)); exact BK105.out) hb); have n1_ := Aside0.mk (blk_below (g := gb106) (o := .cells #[.int .i64 t103, .int .i64 t104] 24 (0, 0)) (by (with_reducible repeat (first | refine blk_drewN ?_ _ | refine blk_drew ?_ | refine blk_alloc ?_ _)); exact BK106.out) hb); have n2_ := Aside0.mk (below_step (by repeat (first | (with_reducible first | exact HB.out | apply below_alloc | apply pw_below_drewN | apply below_drew1 | refine below_set ?_ GE105.out | refine below_set ?_ GE106.out) | exact HB.out)) hb); clear BK105; clear BK106; clear HB; have BK105 := n0_; have BK106 := n1_; have HB := n2_; clear n0_ n1_ n2_; (try clear hb); (try clear hb2); (try clear hk); (try clear hi); have hcz83_0 : w82.cell? ⟨gb105, 0, none⟩ = some (.int .i64 t101) := (blk_cell BK105.out 0).trans rfl; have hcz83_1 : w82.cell? ⟨gb105, 1, none⟩ = some (.int .i64 t102) := (blk_cell BK105.out 1).trans rfl; have hfz83_0 := blk_frozen BK105.out 0; have hfz83_1 := blk_frozen BK105.out 1))
                          go_ret
                          exact ⟨by first | rfl | ((repeat first | rw [Int.tdiv_eq_ediv_of_nonneg (by omega)] | rw [Int.tmod_eq_emod_of_nonneg (by omega)]); rfl) | (simp [errW_none, errW_some] <;> rfl) | (simp [*, errW_none, errW_some] <;> rfl), by repeat (first | (with_reducible first | exact HB.out | apply below_alloc | apply pw_below_drewN | apply below_drew1 | refine below_set ?_ GE105.out | refine below_set ?_ GE106.out) | exact HB.out)⟩
                        · rw [if_neg c79] at H
                          have c79b0 : decide (x7_3 < t102) = false := decide_eq_false c79
                          clear c79
                          by_cases c84 : x6_2 = t103
                          · rw [if_pos c84] at H
                            have c84b0 : (x6_2 == t103) = true := beq_iff_eq.mpr c84
                            have c84b1 : (x6_2 != t103) = false := bne_eq_false_iff_eq.mpr c84
                            clear c84
                            obtain rfl := Option.some.inj H
                            have hnb85 := NB106_105.out
                            have hnc85 := NB105_106.out
                            have hcz86_0 : wr.cell? ⟨gb106, 0, none⟩ = some (.int .i64 t103) := (blk_cell BK106.out 0).trans rfl
                            have hcz86_1 : wr.cell? ⟨gb106, 1, none⟩ = some (.int .i64 t104) := (blk_cell BK106.out 1).trans rfl
                            have hfz86_0 := blk_frozen BK106.out 0
                            have hfz86_1 := blk_frozen BK106.out 1
                            go_wp2_with (first | ((with_reducible refine gate_callee (f := 15) rfl ?_); refine goesL_ (some 76) rfl rfl Try.func15 (by kernel_rfl) rfl #[.slice A0 l0.length c0, .agg #[.int .i64 x6_2, .int .i64 x7_3]] rfl (by (try simp only [List.map_toArray, List.map_cons, List.map_nil]); first | done | rfl | (simp only [List.length_drop, List.length_take]; rfl)) ?_; (with_reducible refine (fence_Cell.calls _ _ l0 x6_2 x7_3 t114 _ ?side1 ?side2 A69.out).mono ?_); (case side1 => repeat (first | exact (Kd.C_below HR0.out HB.out) | (with_reducible refine Kd.C_alloc ?_ _) | (with_reducible refine Kd.C_drewN ?_ _) | (with_reducible refine Kd.C_drew ?_))); (case side2 => exact HC0.out); rintro e w87 ⟨rfl, hb⟩; refine ⟨_, rfl, ?_⟩; have n0_ := Aside0.mk (blk_below (g := gb105) (o := .cells #[.int .i64 t101, .int .i64 t102] 24 (0, 0)) (by (with_reducible repeat (first | refine blk_drewN ?_ _ | refine blk_drew ?_ | refine blk_alloc ?_ _)); exact BK105.out) hb); have n1_ := Aside0.mk (blk_below (g := gb106) (o := .cells #[.int .i64 t103, .int .i64 t104] 24 (0, 0)) (by (with_reducible repeat (first | refine blk_drewN ?_ _ | refine blk_drew ?_ | refine blk_alloc ?_ _)); exact BK106.out) hb); have n2_ := Aside0.mk (below_step (by repeat (first | (with_reducible first | exact HB.out | apply below_alloc | apply pw_below_drewN | apply below_drew1 | refine below_set ?_ GE105.out | refine below_set ?_ GE106.out) | exact HB.out)) hb); clear BK105; clear BK106; clear HB; have BK105 := n0_; have BK106 := n1_; have HB := n2_; clear n0_ n1_ n2_; (try clear hb); (try clear hb2); (try clear hk); (try clear hi); have hcz88_0 : w87.cell? ⟨gb105, 0, none⟩ = some (.int .i64 t101) := (blk_cell BK105.out 0).trans rfl; have hcz88_1 : w87.cell? ⟨gb105, 1, none⟩ = some (.int .i64 t102) := (blk_cell BK105.out 1).trans rfl; have hfz88_0 := blk_frozen BK105.out 0; have hfz88_1 := blk_frozen BK105.out 1; have hcz89_0 : w87.cell? ⟨gb106, 0, none⟩ = some (.int .i64 t103) := (blk_cell BK106.out 0).trans rfl; have hcz89_1 : w87.cell? ⟨gb106, 1, none⟩ = some (.int .i64 t104) := (blk_cell BK106.out 1).trans rfl; have hfz89_0 := blk_frozen BK106.out 0; have hfz89_1 := blk_frozen BK106.out 1))
                            go_ret
                            exact ⟨by first | rfl | ((repeat first | rw [Int.tdiv_eq_ediv_of_nonneg (by omega)] | rw [Int.tmod_eq_emod_of_nonneg (by omega)]); rfl) | (simp [errW_none, errW_some] <;> rfl) | (simp [*, errW_none, errW_some] <;> rfl), by repeat (first | (with_reducible first | exact HB.out | apply below_alloc | apply pw_below_drewN | apply below_drew1 | refine below_set ?_ GE105.out | refine below_set ?_ GE106.out) | exact HB.out)⟩
                          · rw [if_neg c84] at H
                            have c84b0 : (x6_2 == t103) = false := beq_eq_false_iff_ne.mpr c84
                            have c84b1 : (x6_2 != t103) = true := bne_iff_ne.mpr c84
                            by_cases c90 : x7_3 = t104
                            · rw [if_pos c90] at H
                              have c90b0 : (x7_3 == t104) = true := beq_iff_eq.mpr c90
                              have c90b1 : (x7_3 != t104) = false := bne_eq_false_iff_eq.mpr c90
                              clear c90
                              obtain rfl := Option.some.inj H
                              have hnb91 := NB106_105.out
                              have hnc91 := NB105_106.out
                              have hcz92_0 : wr.cell? ⟨gb106, 0, none⟩ = some (.int .i64 t103) := (blk_cell BK106.out 0).trans rfl
                              have hcz92_1 : wr.cell? ⟨gb106, 1, none⟩ = some (.int .i64 t104) := (blk_cell BK106.out 1).trans rfl
                              have hfz92_0 := blk_frozen BK106.out 0
                              have hfz92_1 := blk_frozen BK106.out 1
                              go_wp2_with (first | ((with_reducible refine gate_callee (f := 15) rfl ?_); refine goesL_ (some 76) rfl rfl Try.func15 (by kernel_rfl) rfl #[.slice A0 l0.length c0, .agg #[.int .i64 x6_2, .int .i64 x7_3]] rfl (by (try simp only [List.map_toArray, List.map_cons, List.map_nil]); first | done | rfl | (simp only [List.length_drop, List.length_take]; rfl)) ?_; (with_reducible refine (fence_Cell.calls _ _ l0 x6_2 x7_3 t114 _ ?side1 ?side2 A69.out).mono ?_); (case side1 => repeat (first | exact (Kd.C_below HR0.out HB.out) | (with_reducible refine Kd.C_alloc ?_ _) | (with_reducible refine Kd.C_drewN ?_ _) | (with_reducible refine Kd.C_drew ?_))); (case side2 => exact HC0.out); rintro e w93 ⟨rfl, hb⟩; refine ⟨_, rfl, ?_⟩; have n0_ := Aside0.mk (blk_below (g := gb105) (o := .cells #[.int .i64 t101, .int .i64 t102] 24 (0, 0)) (by (with_reducible repeat (first | refine blk_drewN ?_ _ | refine blk_drew ?_ | refine blk_alloc ?_ _)); exact BK105.out) hb); have n1_ := Aside0.mk (blk_below (g := gb106) (o := .cells #[.int .i64 t103, .int .i64 t104] 24 (0, 0)) (by (with_reducible repeat (first | refine blk_drewN ?_ _ | refine blk_drew ?_ | refine blk_alloc ?_ _)); exact BK106.out) hb); have n2_ := Aside0.mk (below_step (by repeat (first | (with_reducible first | exact HB.out | apply below_alloc | apply pw_below_drewN | apply below_drew1 | refine below_set ?_ GE105.out | refine below_set ?_ GE106.out) | exact HB.out)) hb); clear BK105; clear BK106; clear HB; have BK105 := n0_; have BK106 := n1_; have HB := n2_; clear n0_ n1_ n2_; (try clear hb); (try clear hb2); (try clear hk); (try clear hi); have hcz94_0 : w93.cell? ⟨gb105, 0, none⟩ = some (.int .i64 t101) := (blk_cell BK105.out 0).trans rfl; have hcz94_1 : w93.cell? ⟨gb105, 1, none⟩ = some (.int .i64 t102) := (blk_cell BK105.out 1).trans rfl; have hfz94_0 := blk_frozen BK105.out 0; have hfz94_1 := blk_frozen BK105.out 1; have hcz95_0 : w93.cell? ⟨gb106, 0, none⟩ = some (.int .i64 t103) := (blk_cell BK106.out 0).trans rfl; have hcz95_1 : w93.cell? ⟨gb106, 1, none⟩ = some (.int .i64 t104) := (blk_cell BK106.out 1).trans rfl; have hfz95_0 := blk_frozen BK106.out 0; have hfz95_1 := blk_frozen BK106.out 1))
                              go_ret
                              exact ⟨by first | rfl | ((repeat first | rw [Int.tdiv_eq_ediv_of_nonneg (by omega)] | rw [Int.tmod_eq_emod_of_nonneg (by omega)]); rfl) | (simp [errW_none, errW_some] <;> rfl) | (simp [*, errW_none, errW_some] <;> rfl), by repeat (first | (with_reducible first | exact HB.out | apply below_alloc | apply pw_below_drewN | apply below_drew1 | refine below_set ?_ GE105.out | refine below_set ?_ GE106.out) | exact HB.out)⟩
                            · rw [if_neg c90] at H
                              have c90b0 : (x7_3 == t104) = false := beq_eq_false_iff_ne.mpr c90
                              have c90b1 : (x7_3 != t104) = true := bne_iff_ne.mpr c90
                              have H' := Aside0.mk H
                              clear H
                              have hnb96 := NB106_105.out
                              have hnc96 := NB105_106.out
                              have hcz97_0 : wr.cell? ⟨gb106, 0, none⟩ = some (.int .i64 t103) := (blk_cell BK106.out 0).trans rfl
                              have hcz97_1 : wr.cell? ⟨gb106, 1, none⟩ = some (.int .i64 t104) := (blk_cell BK106.out 1).trans rfl
                              have hfz97_0 := blk_frozen BK106.out 0
                              have hfz97_1 := blk_frozen BK106.out 1
                              go_wp2_with (first | ((with_reducible refine gate_callee (f := 15) rfl ?_); refine goesL_ (some 76) rfl rfl Try.func15 (by kernel_rfl) rfl #[.slice A0 l0.length c0, .agg #[.int .i64 x6_2, .int .i64 x7_3]] rfl (by (try simp only [List.map_toArray, List.map_cons, List.map_nil]); first | done | rfl | (simp only [List.length_drop, List.length_take]; rfl)) ?_; (with_reducible refine (fence_Cell.calls _ _ l0 x6_2 x7_3 t114 _ ?side1 ?side2 A69.out).mono ?_); (case side1 => repeat (first | exact (Kd.C_below HR0.out HB.out) | (with_reducible refine Kd.C_alloc ?_ _) | (with_reducible refine Kd.C_drewN ?_ _) | (with_reducible refine Kd.C_drew ?_))); (case side2 => exact HC0.out); rintro e w98 ⟨rfl, hb⟩; refine ⟨_, rfl, ?_⟩; have n0_ := Aside0.mk (blk_below (g := gb105) (o := .cells #[.int .i64 t101, .int .i64 t102] 24 (0, 0)) (by (with_reducible repeat (first | refine blk_drewN ?_ _ | refine blk_drew ?_ | refine blk_alloc ?_ _)); exact BK105.out) hb); have n1_ := Aside0.mk (blk_below (g := gb106) (o := .cells #[.int .i64 t103, .int .i64 t104] 24 (0, 0)) (by (with_reducible repeat (first | refine blk_drewN ?_ _ | refine blk_drew ?_ | refine blk_alloc ?_ _)); exact BK106.out) hb); have n2_ := Aside0.mk (below_step (by repeat (first | (with_reducible first | exact HB.out | apply below_alloc | apply pw_below_drewN | apply below_drew1 | refine below_set ?_ GE105.out | refine below_set ?_ GE106.out) | exact HB.out)) hb); clear BK105; clear BK106; clear HB; have BK105 := n0_; have BK106 := n1_; have HB := n2_; clear n0_ n1_ n2_; (try clear hb); (try clear hb2); (try clear hk); (try clear hi); have hcz99_0 : w98.cell? ⟨gb105, 0, none⟩ = some (.int .i64 t101) := (blk_cell BK105.out 0).trans rfl; have hcz99_1 : w98.cell? ⟨gb105, 1, none⟩ = some (.int .i64 t102) := (blk_cell BK105.out 1).trans rfl; have hfz99_0 := blk_frozen BK105.out 0; have hfz99_1 := blk_frozen BK105.out 1; have hcz100_0 : w98.cell? ⟨gb106, 0, none⟩ = some (.int .i64 t103) := (blk_cell BK106.out 0).trans rfl; have hcz100_1 : w98.cell? ⟨gb106, 1, none⟩ = some (.int .i64 t104) := (blk_cell BK106.out 1).trans rfl; have hfz100_0 := blk_frozen BK106.out 0; have hfz100_1 := blk_frozen BK106.out 1))
                              go_roundg k3
                              case measure => have := HJ2.out; have := HK2.out; have := HK3.out; omega
                              case rel => exact ⟨(wrap64 (x5_3 + t114)), (wrap64 (x7_3 + 1)), (by first | rfl | (simp; done) | (simp [*]; done)), (by first | rfl | (simp; done) | (simp [*]; done)), H', ⟨by have := HJ2.out; have := HK2.out; have := HK3.out; omega⟩, ⟨by (with_reducible repeat (first | refine blk_drewN ?_ _ | refine blk_drew ?_ | refine blk_alloc ?_ _)); exact BK105.out⟩, ⟨by (with_reducible repeat (first | refine blk_drewN ?_ _ | refine blk_drew ?_ | refine blk_alloc ?_ _)); exact BK106.out⟩, ⟨by repeat (first | (with_reducible first | exact HB.out | apply below_alloc | apply pw_below_drewN | apply below_drew1 | refine below_set ?_ GE105.out | refine below_set ?_ GE106.out) | exact HB.out)⟩⟩
                  · rw [if_neg c68] at H
                    have c68b0 : decide (x7_3 ≤ t104) = false := decide_eq_false c68
                    clear c68
                    have H' := Aside0.mk H
                    clear H
                    have hnb101 := NB106_105.out
                    have hnc101 := NB105_106.out
                    have hcz102_0 : wr.cell? ⟨gb106, 0, none⟩ = some (.int .i64 t103) := (blk_cell BK106.out 0).trans rfl
                    have hcz102_1 : wr.cell? ⟨gb106, 1, none⟩ = some (.int .i64 t104) := (blk_cell BK106.out 1).trans rfl
                    have hfz102_0 := blk_frozen BK106.out 0
                    have hfz102_1 := blk_frozen BK106.out 1
                    go_wp2
                    go_roundg k3
                    case measure => have := HJ2.out; have := HK2.out; have := HK3.out; omega
                    case rel => exact ⟨(x5_3), (wrap64 (x6_2 + 1)), (by first | rfl | (simp; done) | (simp [*]; done)), (by first | rfl | (simp; done) | (simp [*]; done)), H', ⟨by have := HJ2.out; have := HK2.out; have := HK3.out; omega⟩, ⟨by (with_reducible repeat (first | refine blk_drewN ?_ _ | refine blk_drew ?_ | refine blk_alloc ?_ _)); exact BK105.out⟩, ⟨by (with_reducible repeat (first | refine blk_drewN ?_ _ | refine blk_drew ?_ | refine blk_alloc ?_ _)); exact BK106.out⟩, ⟨by repeat (first | (with_reducible first | exact HB.out | apply below_alloc | apply pw_below_drewN | apply below_drew1 | refine below_set ?_ GE105.out | refine below_set ?_ GE106.out) | exact HB.out)⟩⟩
            · rw [if_neg c64] at H
              have c64b0 : decide (x6_2 ≤ t103) = false := decide_eq_false c64
              clear c64
              replace H := Option.bind_eq_some_iff.mp H
              obtain ⟨t112, A1030, H⟩ := H
              replace H : (if x5_2 = t112 then ((tallymanlaw06_alive.f).bind fun t113 => (some t113)) else (some false)) = some r := H
              have A103 := Aside0.mk A1030
              clear A1030
              by_cases c104 : x5_2 = t112
              · rw [if_pos c104] at H
                have c104b0 : (x5_2 == t112) = true := beq_iff_eq.mpr c104
                have c104b1 : (x5_2 != t112) = false := bne_eq_false_iff_eq.mpr c104
                clear c104
                replace H := Option.bind_eq_some_iff.mp H
                obtain ⟨t113, A1050, H⟩ := H
                replace H : (some t113) = some r := H
                have A105 := Aside0.mk A1050
                clear A1050
                obtain rfl := Option.some.inj H
                have hnb106 := NB106_105.out
                have hnc106 := NB105_106.out
                have hcz107_0 : wr.cell? ⟨gb106, 0, none⟩ = some (.int .i64 t103) := (blk_cell BK106.out 0).trans rfl
                have hcz107_1 : wr.cell? ⟨gb106, 1, none⟩ = some (.int .i64 t104) := (blk_cell BK106.out 1).trans rfl
                have hfz107_0 := blk_frozen BK106.out 0
                have hfz107_1 := blk_frozen BK106.out 1
                go_wp2_with (first | ((with_reducible refine gate_callee (f := 13) rfl ?_); refine goesL_ (some 108) rfl rfl Try.func13 (by kernel_rfl) rfl #[.slice A0 l0.length c0] rfl (by (try simp only [List.map_toArray, List.map_cons, List.map_nil]); first | done | rfl | (simp only [List.length_drop, List.length_take]; rfl)) ?_; (with_reducible refine (fence_Area.calls _ _ l0 t112 _ ?side1 ?side2 A103.out).mono ?_); (case side1 => repeat (first | exact (Kd.C_below HR0.out HB.out) | (with_reducible refine Kd.C_alloc ?_ _) | (with_reducible refine Kd.C_drewN ?_ _) | (with_reducible refine Kd.C_drew ?_))); (case side2 => exact HC0.out); rintro e w108 ⟨rfl, hb⟩; refine ⟨_, rfl, ?_⟩; have n0_ := Aside0.mk (blk_below (g := gb105) (o := .cells #[.int .i64 t101, .int .i64 t102] 24 (0, 0)) (by (with_reducible repeat (first | refine blk_drewN ?_ _ | refine blk_drew ?_ | refine blk_alloc ?_ _)); exact BK105.out) hb); have n1_ := Aside0.mk (blk_below (g := gb106) (o := .cells #[.int .i64 t103, .int .i64 t104] 24 (0, 0)) (by (with_reducible repeat (first | refine blk_drewN ?_ _ | refine blk_drew ?_ | refine blk_alloc ?_ _)); exact BK106.out) hb); have n2_ := Aside0.mk (below_step (by repeat (first | (with_reducible first | exact HB.out | apply below_alloc | apply pw_below_drewN | apply below_drew1 | refine below_set ?_ GE105.out | refine below_set ?_ GE106.out) | exact HB.out)) hb); clear BK105; clear BK106; clear HB; have BK105 := n0_; have BK106 := n1_; have HB := n2_; clear n0_ n1_ n2_; (try clear hb); (try clear hb2); (try clear hk); (try clear hi)) | (go_at_call 12; (with_reducible refine (tallymanlaw06_alive.calls  t113 _ A105.out).mono ?_); rintro e w109 ⟨rfl, hb⟩; have n0_ := Aside0.mk (blk_below (g := gb105) (o := .cells #[.int .i64 t101, .int .i64 t102] 24 (0, 0)) (by (with_reducible repeat (first | refine blk_drewN ?_ _ | refine blk_drew ?_ | refine blk_alloc ?_ _)); exact BK105.out) hb); have n1_ := Aside0.mk (blk_below (g := gb106) (o := .cells #[.int .i64 t103, .int .i64 t104] 24 (0, 0)) (by (with_reducible repeat (first | refine blk_drewN ?_ _ | refine blk_drew ?_ | refine blk_alloc ?_ _)); exact BK106.out) hb); have n2_ := Aside0.mk (below_step (by repeat (first | (with_reducible first | exact HB.out | apply below_alloc | apply pw_below_drewN | apply below_drew1 | refine below_set ?_ GE105.out | refine below_set ?_ GE106.out) | exact HB.out)) hb); clear BK105; clear BK106; clear HB; have BK105 := n0_; have BK106 := n1_; have HB := n2_; clear n0_ n1_ n2_; (try clear hb); (try clear hb2); (try clear hk); (try clear hi)))
                go_ret
                exact ⟨by first | rfl | ((repeat first | rw [Int.tdiv_eq_ediv_of_nonneg (by omega)] | rw [Int.tmod_eq_emod_of_nonneg (by omega)]); rfl) | (simp [errW_none, errW_some] <;> rfl) | (simp [*, errW_none, errW_some] <;> rfl), by repeat (first | (with_reducible first | exact HB.out | apply below_alloc | apply pw_below_drewN | apply below_drew1 | refine below_set ?_ GE105.out | refine below_set ?_ GE106.out) | exact HB.out)⟩
              · rw [if_neg c104] at H
                have c104b0 : (x5_2 == t112) = false := beq_eq_false_iff_ne.mpr c104
                have c104b1 : (x5_2 != t112) = true := bne_iff_ne.mpr c104
                obtain rfl := Option.some.inj H
                have hnb110 := NB106_105.out
                have hnc110 := NB105_106.out
                have hcz111_0 : wr.cell? ⟨gb106, 0, none⟩ = some (.int .i64 t103) := (blk_cell BK106.out 0).trans rfl
                have hcz111_1 : wr.cell? ⟨gb106, 1, none⟩ = some (.int .i64 t104) := (blk_cell BK106.out 1).trans rfl
                have hfz111_0 := blk_frozen BK106.out 0
                have hfz111_1 := blk_frozen BK106.out 1
                go_wp2_with (first | ((with_reducible refine gate_callee (f := 13) rfl ?_); refine goesL_ (some 108) rfl rfl Try.func13 (by kernel_rfl) rfl #[.slice A0 l0.length c0] rfl (by (try simp only [List.map_toArray, List.map_cons, List.map_nil]); first | done | rfl | (simp only [List.length_drop, List.length_take]; rfl)) ?_; (with_reducible refine (fence_Area.calls _ _ l0 t112 _ ?side1 ?side2 A103.out).mono ?_); (case side1 => repeat (first | exact (Kd.C_below HR0.out HB.out) | (with_reducible refine Kd.C_alloc ?_ _) | (with_reducible refine Kd.C_drewN ?_ _) | (with_reducible refine Kd.C_drew ?_))); (case side2 => exact HC0.out); rintro e w112 ⟨rfl, hb⟩; refine ⟨_, rfl, ?_⟩; have n0_ := Aside0.mk (blk_below (g := gb105) (o := .cells #[.int .i64 t101, .int .i64 t102] 24 (0, 0)) (by (with_reducible repeat (first | refine blk_drewN ?_ _ | refine blk_drew ?_ | refine blk_alloc ?_ _)); exact BK105.out) hb); have n1_ := Aside0.mk (blk_below (g := gb106) (o := .cells #[.int .i64 t103, .int .i64 t104] 24 (0, 0)) (by (with_reducible repeat (first | refine blk_drewN ?_ _ | refine blk_drew ?_ | refine blk_alloc ?_ _)); exact BK106.out) hb); have n2_ := Aside0.mk (below_step (by repeat (first | (with_reducible first | exact HB.out | apply below_alloc | apply pw_below_drewN | apply below_drew1 | refine below_set ?_ GE105.out | refine below_set ?_ GE106.out) | exact HB.out)) hb); clear BK105; clear BK106; clear HB; have BK105 := n0_; have BK106 := n1_; have HB := n2_; clear n0_ n1_ n2_; (try clear hb); (try clear hb2); (try clear hk); (try clear hi)))
                go_ret
                exact ⟨by first | rfl | ((repeat first | rw [Int.tdiv_eq_ediv_of_nonneg (by omega)] | rw [Int.tmod_eq_emod_of_nonneg (by omega)]); rfl) | (simp [errW_none, errW_some] <;> rfl) | (simp [*, errW_none, errW_some] <;> rfl), by repeat (first | (with_reducible first | exact HB.out | apply below_alloc | apply pw_below_drewN | apply below_drew1 | refine below_set ?_ GE105.out | refine below_set ?_ GE106.out) | exact HB.out)⟩
end Go.Proofs.Ytpoghhcpoimepaa.P
end
section
/- What came in, of any type that is made of numbers, texts, slices and structs: its value, and how it reads. -/
namespace Go.Proofs.Ytpoghhcpoimepaa.TR
open Go.RowKit Go.ChangeShapes Go.WideShapes Go.Deep Go.Proofs.YtpoghhcpoimepaaW.PrintWords Go.Proofs.YtpoghhcpoimepaaW.PrintLast Go.Proofs.YtpoghhcpoimepaaW.PrintMore
set_option linter.unusedVariables false
set_option linter.unusedSimpArgs false
/-- What the cells of type t hold, where they are well formed, is of the kind d. -/
def Tr {α : Type} (P : Program) (t : TypeId) (d : Kd α) (Wf : α → Prop) : Prop :=
  ∀ (H : Type) (enc : TypeId × Value → H) (w : World) (n : Nat) (cs : List Value) (x : DataW H × List MemPlace), DataW.trod enc P w 0 (fun _ => true) true n t cs = some x → ∃ a, d.K w a cs ∧ Wf a
theorem Tr_int {P : Program} {t : TypeId} {k : IntKind} (ht : P.underlying t = some (.int k)) : Tr P t (Kd.int k) (fun z => (Lit.int k z).wf = true) := by
  intro H enc w n cs x h
  obtain ⟨z, rfl, _, hw⟩ := DataW.trod_int ht h
  exact ⟨z, rfl, hw⟩
theorem Tr_iso {α β : Type} {P : Program} {t : TypeId} {d : Kd α} {Wf : α → Prop} (f : β → α) (g : α → β) (hg : ∀ a, f (g a) = a) (h : Tr P t d Wf) : Tr P t (Kd.iso d f) (fun b => Wf (f b)) := by
  intro H enc w n cs x hx
  obtain ⟨a, hK, hW⟩ := h H enc w n cs x hx
  exact ⟨g a, by show d.K w (f (g a)) cs; rw [hg]; exact hK, by show Wf (f (g a)); rw [hg]; exact hW⟩
theorem build {α : Type} (p : Nat → α → Prop) : ∀ n, (∀ i, i < n → ∃ a, p i a) → ∃ l : List α, l.length = n ∧ ∀ j a, l[j]? = some a → p j a := by
  intro n
  induction n with
  | zero => intro _; exact ⟨[], rfl, fun j a h => by simp at h⟩
  | succ n ih =>
    intro h
    obtain ⟨l, hl, hp⟩ := ih (fun i hi => h i (by omega))
    obtain ⟨a, ha⟩ := h n (by omega)
    refine ⟨l ++ [a], by simp [hl], fun j b hb => ?_⟩
    by_cases hj : j < l.length
    · rw [List.getElem?_append_left hj] at hb
      exact hp j b hb
    · rw [List.getElem?_append_right (by omega)] at hb
      have : j - l.length = 0 := by
        have := (List.getElem?_eq_some_iff.1 hb).1
        simp at this
        omega
      rw [this] at hb
      simp only [List.getElem?_cons_zero, Option.some.injEq] at hb
      subst hb
      rw [show j = n by omega]
      exact ha
theorem Tr_slice {α : Type} {P : Program} {t e : TypeId} {d : Kd α} {Wf : α → Prop} (ht : P.underlying t = some (.slice e)) (hc : P.cellsOf e = d.sz) (h : Tr P e d Wf) : Tr P t (Kd.slice e d) (fun l => ∀ a ∈ l, Wf a) := by
  intro H enc w n cs x hx
  rcases open_slice ht hx with ⟨rfl, _⟩ | ⟨a, len, cap, m, n', D, Pl, rfl, _, hle, hm, hmm, _, hel⟩
  · exact ⟨[], ⟨none, 0, rfl, Nat.le_refl _, Kd.C_nil d w⟩, fun a ha => by simp at ha⟩
  · have hmc : m = cap := by simpa using hmm
    obtain ⟨l, hl, hp⟩ := build (fun i (b : α) => (∃ cs', cs'.length = d.sz ∧ d.K w b cs' ∧ ∀ j u, cs'[j]? = some u → w.cell? (a.add (i * d.sz + j)) = some u) ∧ Wf b) len (fun i hi => by
      obtain ⟨cs', h1, h2⟩ := hel i (by omega)
      obtain ⟨_, h3, h4⟩ := World.cells?_some h1
      obtain ⟨b, hK, hW⟩ := h H enc w n' cs' _ h2
      refine ⟨b, ⟨cs', by rw [h3, hc], hK, fun j u hu => ?_⟩, hW⟩
      have hj := (List.getElem?_eq_some_iff.1 hu).1
      rw [← hc, ← Go.Deep.add_add, h4 j (by omega), hu])
    refine ⟨l, ⟨some a, cap, by rw [hl], by omega, ⟨rfl, ?_, fun _ => ⟨a, rfl, fun j b hb => (hp j b hb).1⟩⟩⟩, fun b hb => ?_⟩
    · unfold maxLen at hm; omega
    · obtain ⟨j, hj⟩ := List.getElem?_of_mem hb
      exact (hp j b hj).2
/-- The fields from one on, one behind the other. -/
theorem seg (cs : List Value) (o a b : Nat) : (cs.drop o).take (a + b) = (cs.drop o).take a ++ (cs.drop (o + a)).take b := by
  rw [List.take_add, List.drop_drop]
theorem pair_K {α β : Type} {d : Kd α} {e : Kd β} {w : World} {cs : List Value} {o : Nat} {a : α} {b : β} {s r : Nat} (h1 : d.K w a ((cs.drop o).take s)) (h2 : e.K w b ((cs.drop (o + s)).take r)) : (Kd.pair d e).K w (a, b) ((cs.drop o).take (s + r)) :=
  ⟨_, _, seg cs o s r, h1, h2⟩
/-- A struct's fields from one offset on, of the kinds of a pair of pairs. -/
def Fs {α : Type} (P : Program) (fs : List Field) (o : Nat) (d : Kd α) (Wf : α → Prop) (sz : Nat) : Prop :=
  ∀ (H : Type) (enc : TypeId × Value → H) (w : World) (n : Nat) (cs : List Value), (∀ f ∈ fs, ∃ y, DataW.trod enc P w 0 (fun _ => true) true n f.type ((cs.drop f.offset).take (P.cellsOf f.type)) = some y) → ∃ a, d.K w a ((cs.drop o).take sz) ∧ Wf a
theorem Fs_one {α : Type} {P : Program} {f : Field} {d : Kd α} {Wf : α → Prop} {o s : Nat} (ho : f.offset = o) (hs : P.cellsOf f.type = s) (h : Tr P f.type d Wf) : Fs P [f] o d Wf s := by
  intro H enc w n cs hf
  obtain ⟨y, hy⟩ := hf f (by simp)
  rw [ho, hs] at hy
  exact h H enc w n _ y hy
theorem Fs_cons {α β : Type} {P : Program} {f : Field} {fs : List Field} {d : Kd α} {e : Kd β} {Wf : α → Prop} {Wg : β → Prop} {o s r : Nat} (ho : f.offset = o) (hs : P.cellsOf f.type = s) (h : Tr P f.type d Wf) (hr : Fs P fs (o + s) e Wg r) : Fs P (f :: fs) o (Kd.pair d e) (fun x => Wf x.1 ∧ Wg x.2) (s + r) := by
  intro H enc w n cs hf
  obtain ⟨y, hy⟩ := hf f (by simp)
  rw [ho, hs] at hy
  obtain ⟨a, ha, hwa⟩ := h H enc w n _ y hy
  obtain ⟨b, hb, hwb⟩ := hr H enc w n cs (fun g hg => hf g (by simp [hg]))
  exact ⟨(a, b), pair_K ha hb, hwa, hwb⟩
theorem Tr_struct {α : Type} {P : Program} {t : TypeId} {fs : List Field} {d : Kd α} {Wf : α → Prop} {s : Nat} (ht : P.underlying t = some (.struct fs.toArray)) (hs : P.cellsOf t = s) (h : Fs P fs 0 d Wf s) : Tr P t d Wf := by
  intro H enc w n cs x hx
  obtain ⟨xs, n', _, _, hl, hlen, hf⟩ := DataW.trod_struct ht hx
  obtain ⟨a, hK, hW⟩ := h H enc w n' cs (fun f hfm => by
    obtain ⟨i, hi⟩ := List.getElem?_of_mem hfm
    have h1 := hf i f (by simpa using hi)
    have hil : i < fs.length := (List.getElem?_eq_some_iff.1 hi).1
    have h2 : i < xs.length := by rw [hlen]; simpa using hil
    exact ⟨xs[i], by rw [h1]; exact List.getElem?_eq_getElem h2⟩)
  rw [List.drop_zero, List.take_of_length_le (by omega)] at hK
  exact ⟨a, hK, hW⟩
end Go.Proofs.Ytpoghhcpoimepaa.TR
end
section
/- The law FenceMeasures, for any points. -/
namespace Go.Proofs.Ytpoghhcpoimepaa.P
open Go.Proofs.Ytpoghhcpoimepaa.B Go.RowKit Go.Proofs.YtpoghhcpoimepaaW.PrintWords Go.Proofs.YtpoghhcpoimepaaW.PrintLast Go.Proofs.YtpoghhcpoimepaaW.PrintMore
set_option linter.unusedVariables false
set_option linter.unusedSimpArgs false
theorem i64_of {x : Int} (h : (Lit.int .i64 x).wf = true) : -9223372036854775808 ≤ x ∧ x ≤ 9223372036854775807 := by
  have h1 : (decide ((-9223372036854775808 : Int) ≤ x) && decide (x ≤ 9223372036854775807)) = true := h
  rw [Bool.and_eq_true, decide_eq_true_iff, decide_eq_true_iff] at h1
  exact h1
set_option maxRecDepth 100000 in
theorem Tr22 : TR.Tr Try.prog 22 (Kd.slice 24 k24) (fun l => ∀ p ∈ l, rangeP p) := by
  have h := TR.Tr_slice (P := Try.prog) Try.underlying22 (by kernel_rfl) (TR.Tr_iso (fun x : S24 => (x.f0, x.f1)) (fun p => ⟨p.1, p.2⟩) (fun _ => rfl) (TR.Tr_struct (s := 2) Try.underlying24 (by kernel_rfl) (TR.Fs_cons (s := 1) rfl (by kernel_rfl) (TR.Tr_int Try.underlying3) (TR.Fs_one (s := 1) rfl (by kernel_rfl) (TR.Tr_int Try.underlying3)))))
  intro H enc w n cs x hv
  obtain ⟨l, h1, h2⟩ := h _ _ _ _ _ _ hv
  exact ⟨l, h1, fun p hp => by have := h2 p hp; exact ⟨i64_of this.1, i64_of this.2⟩⟩
end Go.Proofs.Ytpoghhcpoimepaa.P
end
section
/- The law FenceCells. -/
namespace Go.Proofs.Ytpoghhcpoimepaa.P
open Go.Proofs.Ytpoghhcpoimepaa.B Go.RowKit Go.Proofs.YtpoghhcpoimepaaW.PrintWords Go.Proofs.YtpoghhcpoimepaaW.PrintLast Go.Proofs.YtpoghhcpoimepaaW.PrintMore Go.Proofs.Ytpoghhcpoimepaa.FX Go.Proofs.Ytpoghhcpoimepaa.H
set_option linter.unusedVariables false
set_option linter.unusedSimpArgs false
theorem G_le {l : List S24} (hn : l.length ≤ 40) (x y : Int) : -40 ≤ G l x y ∧ G l x y ≤ 40 := by
  have := sumTo_le (fun j => cellS (atP l j).f0 (atP l j).f1 (atP l (j + 1)).f0 (atP l (j + 1)).f1 x y) 1 (fun j => cellS_le _ _ _ _ _ _) l.length
  unfold G
  omega
theorem G_cell {l : List S24} (hR : RightP l) (hr : ∀ p ∈ l, rangeP p) (x y : Int) : fence_Cell.f l x y = some (G l x y) := by
  unfold fence_Cell.f
  rw [if_pos hr]
  unfold cellV
  rw [if_pos hR]
  rfl
theorem l1_cells {l : List S24} (hR : RightP l) (hn : l.length ≤ 40) (hr : ∀ p ∈ l, rangeP p) (ax ay bx by' : Int) (M K : Nat) (hb : bxT l l.length = (⟨ax, ay⟩, ⟨bx, by'⟩)) (hM : bx - ax + 2 = M) (hK : by' - ay + 2 = K) (h1 : -500 ≤ ax ∧ ax ≤ 500) (h2 : -500 ≤ ay ∧ ay ≤ 500) (hM2 : M ≤ 16) (hK2 : K ≤ 16) (i : Nat) (hi : i < M) (S : Int) (hS : -100000 ≤ S ∧ S ≤ 100000) (r : Bool) (hnext : Ev (fun k => tallymanlaw06_FenceCells.l0 k l (S + sumTo (fun j => G l (ax - 1 + i) (ay - 1 + j)) K) (ax - 1 + ((i + 1 : Nat) : Int)) ax ay bx by') r) :
    ∀ (d j : Nat), j + d = K → Ev (fun k => tallymanlaw06_FenceCells.l1 k l (S + sumTo (fun j => G l (ax - 1 + i) (ay - 1 + j)) j) (ax - 1 + i) (ay - 1 + j) ax ay bx by') r := by
  intro d
  induction d with
  | zero =>
    intro j hj
    obtain rfl : j = K := by omega
    refine Ev.step (fun k => ?_) hnext
    rw [tallymanlaw06_FenceCells.l1, if_neg (by omega), n64 (by omega) (by omega)]
    congr 1
    omega
  | succ d ih =>
    intro j hj
    have hg := G_le hn (ax - 1 + i) (ay - 1 + j)
    have hs := sumTo_le (fun j => G l (ax - 1 + i) (ay - 1 + j)) 40 (fun j => G_le hn _ _) j
    have hout := G_out hR (ax - 1 + i) (ay - 1 + j)
    rw [hb] at hout
    simp only [] at hout
    refine Ev.step (fun k => ?_) (ih (j + 1) (by omega))
    rw [tallymanlaw06_FenceCells.l1, if_pos (by omega), G_cell hR hr, Option.bind_some, sumTo]
    generalize sumTo (fun j => G l (ax - 1 + i) (ay - 1 + j)) j = T at *
    generalize G l (ax - 1 + i) (ay - 1 + j) = g at *
    rw [n64 (x := S + T + g) (by omega) (by omega), n64 (x := ay - 1 + (j : Int) + 1) (by omega) (by omega)]
    have e : tallymanlaw06_FenceCells.l1 k l (S + T + g) (ax - 1 + i) (ay - 1 + (j : Int) + 1) ax ay bx by' = tallymanlaw06_FenceCells.l1 k l (S + (T + g)) (ax - 1 + i) (ay - 1 + ((j + 1 : Nat) : Int)) ax ay bx by' := by
      rw [show S + T + g = S + (T + g) by omega, show ay - 1 + (j : Int) + 1 = ay - 1 + ((j + 1 : Nat) : Int) by omega]
    by_cases h0 : g = 0
    · rw [if_pos h0]; exact e
    · have q : ∀ p : Prop, (p → g = 0) → ¬ p := fun p h hp => h0 (h hp)
      rw [if_neg h0, if_neg (q _ (fun h => hout (.inl h))), if_neg (q _ (fun h => hout (.inr (.inl h)))), if_neg (q _ (fun h => hout (.inr (.inr (.inl h))))), if_neg (q _ (fun h => hout (.inr (.inr (.inr h)))))]
      exact e
theorem l0_cells {l : List S24} (hR : RightP l) (hn : l.length ≤ 40) (hr : ∀ p ∈ l, rangeP p) (ax ay bx by' : Int) (M K : Nat) (hb : bxT l l.length = (⟨ax, ay⟩, ⟨bx, by'⟩)) (hM : bx - ax + 2 = M) (hK : by' - ay + 2 = K) (h1 : -500 ≤ ax ∧ ax ≤ 500) (h2 : -500 ≤ ay ∧ ay ≤ 500) (hM2 : M ≤ 16) (hK2 : K ≤ 16) : ∀ (d i : Nat), i + d = M → Ev (fun k => tallymanlaw06_FenceCells.l0 k l (sumTo (fun i => sumTo (fun j => G l (ax - 1 + i) (ay - 1 + j)) K) i) (ax - 1 + i) ax ay bx by') true := by
  intro d
  induction d with
  | zero =>
    intro i hi
    obtain rfl : i = M := by omega
    have hall := all_cells hR i K (by rw [hb]; exact hM) (by rw [hb]; exact hK)
    rw [hb] at hall
    simp only [] at hall
    have ha : fence_Area.f l = some (areaV l) := if_pos hr
    refine Ev.step (fun k => ?_) (Ev.now _)
    rw [tallymanlaw06_FenceCells.l0, if_neg (by omega), ha, hall, Option.bind_some, if_pos rfl, alive06]
    rfl
  | succ d ih =>
    intro i hi
    have hc : ∀ i : Nat, -640 ≤ sumTo (fun j => G l (ax - 1 + i) (ay - 1 + j)) K ∧ sumTo (fun j => G l (ax - 1 + i) (ay - 1 + j)) K ≤ 640 := fun i => by
      have := sumTo_le (fun j => G l (ax - 1 + i) (ay - 1 + j)) 40 (fun j => G_le hn _ _) K
      omega
    have hs := sumTo_le (fun (i : Nat) => sumTo (fun j => G l (ax - 1 + i) (ay - 1 + j)) K) 640 hc i
    have ih' := ih (i + 1) (by omega)
    rw [sumTo] at ih'
    have hl1 := l1_cells hR hn hr ax ay bx by' M K hb hM hK h1 h2 hM2 hK2 i (by omega) _ (by omega) true ih' K 0 (by omega)
    refine Ev.step (fun k => ?_) hl1
    rw [tallymanlaw06_FenceCells.l0, if_pos (by omega), n64 (by omega) (by omega), sumTo, Int.add_zero]
    congr 1
    omega
theorem smallN (x y n : Int) (hn : 0 ≤ n ∧ n ≤ 1000) (h : tallymanref03_Small.f x y n = some true) : (-n ≤ x ∧ x ≤ n) ∧ (-n ≤ y ∧ y ≤ n) := by
  unfold tallymanref03_Small.f at h
  rw [n64 (by omega) (by omega)] at h
  split at h
  · split at h
    · split at h
      · have := of_decide_eq_true (Option.some.inj h); omega
      · cases h
    · cases h
  · cases h
theorem small_some (x y n : Int) : ∃ b, tallymanref03_Small.f x y n = some b := by
  unfold tallymanref03_Small.f
  split
  · split
    · split
      · exact ⟨_, rfl⟩
      · exact ⟨_, rfl⟩
    · exact ⟨_, rfl⟩
  · exact ⟨_, rfl⟩
theorem j0_true (l : List S24) (a b c d : Int) : Ev (fun k => tallymanlaw06_FenceCells.j0 k l true a b c d) true :=
  Ev.step (fun k => by rw [tallymanlaw06_FenceCells.j0, if_pos rfl, alive06]; rfl) (Ev.now _)
theorem cells06 (l : List S24) (hr : ∀ p ∈ l, rangeP p) : ∃ k, tallymanlaw06_FenceCells.f k l = some true := by
  refine Ev.rounds ?_
  obtain ⟨⟨⟨ax, ay⟩, bx, by'⟩, hb⟩ : ∃ b, bxT l l.length = b := ⟨_, rfl⟩
  have hbox : fence_Box.f l = some (ax, ay, bx, by') := by unfold fence_Box.f; rw [hb]
  unfold tallymanlaw06_FenceCells.f
  rw [hbox]
  refine Ev.congr (fun k => Option.bind_some _ _) ?_
  simp only []
  by_cases h40 : (l.length : Int) > 40
  · exact Ev.congr (fun k => if_pos h40) (j0_true ..)
  refine Ev.congr (fun k => if_neg h40) ?_
  obtain ⟨b1, e1⟩ := small_some ax ay 500
  rw [e1]
  refine Ev.congr (fun k => Option.bind_some _ _) ?_
  cases b1
  · exact Ev.congr (fun k => if_neg Bool.false_ne_true) (j0_true ..)
  refine Ev.congr (fun k => if_pos rfl) ?_
  obtain ⟨b2, e2⟩ := small_some bx by' 500
  rw [e2]
  refine Ev.congr (fun k => Option.bind_some _ _) ?_
  cases b2
  · exact Ev.congr (fun k => if_neg Bool.false_ne_true) (j0_true ..)
  refine Ev.congr (fun k => if_pos rfl) ?_
  have s1 := smallN _ _ _ (by omega) e1
  have s2 := smallN _ _ _ (by omega) e2
  rw [n64 (x := bx - ax) (by omega) (by omega), n64 (x := by' - ay) (by omega) (by omega)]
  by_cases h3 : bx - ax > 14
  · exact Ev.congr (fun k => if_pos h3) (j0_true ..)
  refine Ev.congr (fun k => if_neg h3) ?_
  by_cases h4 : by' - ay > 14
  · exact Ev.congr (fun k => if_pos h4) (j0_true ..)
  refine Ev.congr (fun k => if_neg h4) ?_
  have hq : fence_Right.f l = some (decide (RightP l)) := if_pos hr
  rw [hq]
  refine Ev.congr (fun k => Option.bind_some _ _) ?_
  by_cases hR : RightP l
  · refine Ev.congr (fun k => if_pos (decide_eq_true hR)) ?_
    have hd := right_ref l
    rw [decide_eq_true hR] at hd
    refine Ev.bind hd ?_
    have hbx := in_box hR 0
    rw [hb] at hbx
    simp only [] at hbx
    have := l0_cells hR (by omega) hr ax ay bx by' (bx - ax + 2).toNat (by' - ay + 2).toNat hb (by omega) (by omega) (by omega) (by omega) (by omega) (by omega) (bx - ax + 2).toNat 0 (by omega)
    refine Ev.step (fun k => ?_) this
    rw [tallymanlaw06_FenceCells.j0, if_neg (by decide), n64 (by omega) (by omega), sumTo]
    congr 1
    omega
  · refine Ev.congr (fun k => if_neg (by rw [decide_eq_false hR]; exact Bool.false_ne_true)) (j0_true ..)
def tallymanlaw06_FenceCells.Pure : Prop := True
theorem tallymanlaw06_FenceCells.walk (P : tallymanlaw06_FenceCells.Pure) (a0 : Option Addr) (len0 cap0 : Nat) (w : World) {H : Type} {enc : TypeId × Value → H} {d : DataW H} {p : List MemPlace} (h0 : DataW.Trod enc Try.prog w 0 (fun _ => true) true 22 (.slice a0 len0 cap0) d p) :
    Calls Try.prog 4 #[.slice a0 len0 cap0] w fun e w' => e = .returned (.bool true) ∧ Below w.heap.size w w' := by
  obtain ⟨fuel, hf⟩ := h0
  obtain ⟨l, ⟨A, c, e, hc, hC⟩, hw⟩ := Tr22 _ _ _ _ _ _ hf
  simp [Value.cells] at e
  obtain ⟨rfl, rfl, rfl⟩ := e
  obtain ⟨k, hk⟩ := cells06 l hw
  exact tallymanlaw06_FenceCells.calls k _ _ l true w hC hc hk
end Go.Proofs.Ytpoghhcpoimepaa.P
end
section
namespace Go.Proofs.Ytpoghhcpoimepaa.Pure
open Go.RowKit Go.Proofs.Ytpoghhcpoimepaa.P Go.Proofs.YtpoghhcpoimepaaW.PrintWords Go.Proofs.YtpoghhcpoimepaaW.PrintLast
/-- The walk needs nothing else. -/
theorem FenceCells : tallymanlaw06_FenceCells.Pure := trivial
end Go.Proofs.Ytpoghhcpoimepaa.Pure
end
