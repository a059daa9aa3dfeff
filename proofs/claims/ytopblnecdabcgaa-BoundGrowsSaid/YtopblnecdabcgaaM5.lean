/- Several texts of this proof in one: what the law's functions come to, and the lemmas (some as the kit's print.sh printed them, what is not used struck). -/
import Derived.Test.YtopblnecdabcgaaM2
import Derived.Test.YtopblnecdabcgaaM3
import Derived.Test.YtopblnecdabcgaaM4
section
-- printed by the session's own call of print.py. Not trusted: Lean checks it.
namespace Go.Proofs.Ytopblnecdabcgaa.P
open Go.RowKit Go.Proofs.YtopblnecdabcgaaW.PrintWords Go.Proofs.YtopblnecdabcgaaW.PrintLast Go.Proofs.YtopblnecdabcgaaW.PrintMore
attribute [local go_sem] max2_int min2_int max_two min_two max_three min_three max_four min_four
set_option linter.unusedVariables false
set_option linter.unusedSimpArgs false
/-! ### tallymanref07_Right: function 86 -/
mutual
def tallymanref07_Right.l0 : Nat → List (S110) → Int → Option (Bool)
 | 0, _, _ => none
 | k + 1, x0, x3 => if x3 < (x0.length : Int) then (if 0 ≤ x3 then (if ((rd_T110 x0 x3).f0) < 1 then (tallymanref07_Right.j1 k x0 x3 true ((rd_T110 x0 x3).f0) ((rd_T110 x0 x3).f1.f0) ((rd_T110 x0 x3).f1.f1) ((rd_T110 x0 x3).f2.f0) ((rd_T110 x0 x3).f2.f1)) else (if ((rd_T110 x0 x3).f0) > 999 then (tallymanref07_Right.j1 k x0 x3 true ((rd_T110 x0 x3).f0) ((rd_T110 x0 x3).f1.f0) ((rd_T110 x0 x3).f1.f1) ((rd_T110 x0 x3).f2.f0) ((rd_T110 x0 x3).f2.f1)) else (if x3 > 0 then (if 0 ≤ (wrap64 (x3 - 1)) then (if (wrap64 (x3 - 1)) < (x0.length : Int) then (if ((rd_T110 x0 x3).f0) ≤ ((rd_T110 x0 (wrap64 (x3 - 1))).f0) then (tallymanref07_Right.j1 k x0 x3 true ((rd_T110 x0 x3).f0) ((rd_T110 x0 x3).f1.f0) ((rd_T110 x0 x3).f1.f1) ((rd_T110 x0 x3).f2.f0) ((rd_T110 x0 x3).f2.f1)) else ((tallymanref03_Small.f ((rd_T110 x0 x3).f1.f0) ((rd_T110 x0 x3).f1.f1) 1000).bind fun t104 => (if t104 = true then ((tallymanref03_Small.f ((rd_T110 x0 x3).f2.f0) ((rd_T110 x0 x3).f2.f1) 1000).bind fun t105 => (if t105 = true then (if ((rd_T110 x0 x3).f1.f0) > ((rd_T110 x0 x3).f2.f0) then (tallymanref07_Right.j1 k x0 x3 true ((rd_T110 x0 x3).f0) ((rd_T110 x0 x3).f1.f0) ((rd_T110 x0 x3).f1.f1) ((rd_T110 x0 x3).f2.f0) ((rd_T110 x0 x3).f2.f1)) else (tallymanref07_Right.j1 k x0 x3 (decide (((rd_T110 x0 x3).f1.f1) > ((rd_T110 x0 x3).f2.f1))) ((rd_T110 x0 x3).f0) ((rd_T110 x0 x3).f1.f0) ((rd_T110 x0 x3).f1.f1) ((rd_T110 x0 x3).f2.f0) ((rd_T110 x0 x3).f2.f1))) else (tallymanref07_Right.j1 k x0 x3 true ((rd_T110 x0 x3).f0) ((rd_T110 x0 x3).f1.f0) ((rd_T110 x0 x3).f1.f1) ((rd_T110 x0 x3).f2.f0) ((rd_T110 x0 x3).f2.f1)))) else (tallymanref07_Right.j1 k x0 x3 true ((rd_T110 x0 x3).f0) ((rd_T110 x0 x3).f1.f0) ((rd_T110 x0 x3).f1.f1) ((rd_T110 x0 x3).f2.f0) ((rd_T110 x0 x3).f2.f1))))) else (none)) else (none)) else ((tallymanref03_Small.f ((rd_T110 x0 x3).f1.f0) ((rd_T110 x0 x3).f1.f1) 1000).bind fun t106 => (if t106 = true then ((tallymanref03_Small.f ((rd_T110 x0 x3).f2.f0) ((rd_T110 x0 x3).f2.f1) 1000).bind fun t107 => (if t107 = true then (if ((rd_T110 x0 x3).f1.f0) > ((rd_T110 x0 x3).f2.f0) then (tallymanref07_Right.j1 k x0 x3 true ((rd_T110 x0 x3).f0) ((rd_T110 x0 x3).f1.f0) ((rd_T110 x0 x3).f1.f1) ((rd_T110 x0 x3).f2.f0) ((rd_T110 x0 x3).f2.f1)) else (tallymanref07_Right.j1 k x0 x3 (decide (((rd_T110 x0 x3).f1.f1) > ((rd_T110 x0 x3).f2.f1))) ((rd_T110 x0 x3).f0) ((rd_T110 x0 x3).f1.f0) ((rd_T110 x0 x3).f1.f1) ((rd_T110 x0 x3).f2.f0) ((rd_T110 x0 x3).f2.f1))) else (tallymanref07_Right.j1 k x0 x3 true ((rd_T110 x0 x3).f0) ((rd_T110 x0 x3).f1.f0) ((rd_T110 x0 x3).f1.f1) ((rd_T110 x0 x3).f2.f0) ((rd_T110 x0 x3).f2.f1)))) else (tallymanref07_Right.j1 k x0 x3 true ((rd_T110 x0 x3).f0) ((rd_T110 x0 x3).f1.f0) ((rd_T110 x0 x3).f1.f1) ((rd_T110 x0 x3).f2.f0) ((rd_T110 x0 x3).f2.f1))))))) else (none)) else (some true)
def tallymanref07_Right.j1 : Nat → List (S110) → Int → Bool → Int → Int → Int → Int → Int → Option (Bool)
 | 0, _, _, _, _, _, _, _, _ => none
 | k + 1, x0, x3, x71, x103000, x103001, x103002, x103003, x103004 => if x71 = true then (some false) else (tallymanref07_Right.l1 k x0 x3 0 x103000 x103001 x103002 x103003 x103004)
def tallymanref07_Right.l1 : Nat → List (S110) → Int → Int → Int → Int → Int → Int → Int → Option (Bool)
 | 0, _, _, _, _, _, _, _, _ => none
 | k + 1, x0, x3, x5, x103000, x103001, x103002, x103003, x103004 => if x5 < x3 then (if 0 ≤ x5 then (if x5 < (x0.length : Int) then ((tallymanref07_Meet.f ((rd_T110 x0 x5).f0) ((rd_T110 x0 x5).f1.f0) ((rd_T110 x0 x5).f1.f1) ((rd_T110 x0 x5).f2.f0) ((rd_T110 x0 x5).f2.f1) x103000 x103001 x103002 x103003 x103004).bind fun t109 => (if t109 = true then (some false) else (tallymanref07_Right.l1 k x0 x3 (wrap64 (x5 + 1)) x103000 x103001 x103002 x103003 x103004))) else (none)) else (none)) else (tallymanref07_Right.l0 k x0 (wrap64 (x3 + 1)))
end
def tallymanref07_Right.f (k : Nat) (l0 : List (S110)) : Option (Bool) := if (l0.length : Int) > 32 then (some false) else (tallymanref07_Right.l0 k l0 0)
theorem tallymanref07_Right.mono_l : ∀ k, (∀ y0 y1, LeO (tallymanref07_Right.l0 k y0 y1) (tallymanref07_Right.l0 (k + 1) y0 y1)) ∧ (∀ y0 y1 y2 y3 y4 y5 y6 y7, LeO (tallymanref07_Right.j1 k y0 y1 y2 y3 y4 y5 y6 y7) (tallymanref07_Right.j1 (k + 1) y0 y1 y2 y3 y4 y5 y6 y7)) ∧ (∀ y0 y1 y2 y3 y4 y5 y6 y7, LeO (tallymanref07_Right.l1 k y0 y1 y2 y3 y4 y5 y6 y7) (tallymanref07_Right.l1 (k + 1) y0 y1 y2 y3 y4 y5 y6 y7))
 | 0 => ⟨fun _ _ r h => by simp [tallymanref07_Right.l0] at h, fun _ _ _ _ _ _ _ _ r h => by simp [tallymanref07_Right.j1] at h, fun _ _ _ _ _ _ _ _ r h => by simp [tallymanref07_Right.l1] at h⟩
 | k + 1 => by
  obtain ⟨ih0, ih1, ih2⟩ := tallymanref07_Right.mono_l k
  refine ⟨?_, ?_, ?_⟩
  ·intro y0 y1
   unfold tallymanref07_Right.l0
   repeat' first
   | (with_reducible exact ih0 _ _)
   | (with_reducible exact ih1 _ _ _ _ _ _ _ _)
   | (with_reducible exact ih2 _ _ _ _ _ _ _ _)
   | (with_reducible exact LeO.refl _)
   | (with_reducible exact LeO.none _)
   | (with_reducible refine LeO.ite ?_ ?_)
   | (with_reducible refine LeO.bind ?_ (fun _ => ?_))
   | exact ih0 _ _
   | exact ih1 _ _ _ _ _ _ _ _
   | exact ih2 _ _ _ _ _ _ _ _
   | exact LeO.none _
   | refine LeO.ite ?_ ?_
   | refine LeO.bind ?_ (fun _ => ?_)
  ·intro y0 y1 y2 y3 y4 y5 y6 y7
   unfold tallymanref07_Right.j1
   repeat' first
   | (with_reducible exact ih0 _ _)
   | (with_reducible exact ih1 _ _ _ _ _ _ _ _)
   | (with_reducible exact ih2 _ _ _ _ _ _ _ _)
   | (with_reducible exact LeO.refl _)
   | (with_reducible exact LeO.none _)
   | (with_reducible refine LeO.ite ?_ ?_)
   | (with_reducible refine LeO.bind ?_ (fun _ => ?_))
   | exact ih0 _ _
   | exact ih1 _ _ _ _ _ _ _ _
   | exact ih2 _ _ _ _ _ _ _ _
   | exact LeO.none _
   | refine LeO.ite ?_ ?_
   | refine LeO.bind ?_ (fun _ => ?_)
  ·intro y0 y1 y2 y3 y4 y5 y6 y7
   unfold tallymanref07_Right.l1
   repeat' first
   | (with_reducible exact ih0 _ _)
   | (with_reducible exact ih1 _ _ _ _ _ _ _ _)
   | (with_reducible exact ih2 _ _ _ _ _ _ _ _)
   | (with_reducible exact LeO.refl _)
   | (with_reducible exact LeO.none _)
   | (with_reducible refine LeO.ite ?_ ?_)
   | (with_reducible refine LeO.bind ?_ (fun _ => ?_))
   | exact ih0 _ _
   | exact ih1 _ _ _ _ _ _ _ _
   | exact ih2 _ _ _ _ _ _ _ _
   | exact LeO.none _
   | refine LeO.ite ?_ ?_
   | refine LeO.bind ?_ (fun _ => ?_)
theorem tallymanref07_Right.mono : ∀ a0 k, LeO (tallymanref07_Right.f k a0) (tallymanref07_Right.f (k + 1) a0) := by
 intro a0 k
 obtain ⟨ih0, ih1, ih2⟩ := tallymanref07_Right.mono_l k
 unfold tallymanref07_Right.f
 repeat' first
   | (with_reducible exact ih0 _ _)
   | (with_reducible exact ih1 _ _ _ _ _ _ _ _)
   | (with_reducible exact ih2 _ _ _ _ _ _ _ _)
   | (with_reducible exact LeO.refl _)
   | (with_reducible exact LeO.none _)
   | (with_reducible refine LeO.ite ?_ ?_)
   | (with_reducible refine LeO.bind ?_ (fun _ => ?_))
   | exact ih0 _ _
   | exact ih1 _ _ _ _ _ _ _ _
   | exact ih2 _ _ _ _ _ _ _ _
   | exact LeO.none _
   | refine LeO.ite ?_ ?_
   | refine LeO.bind ?_ (fun _ => ?_)
def tallymanref07_Right.T7 : Bool × List (List Nat × List Nat) := (true, [([], []), ([0], [0]), ([1], [1]), ([2], [2]), ([3], [3]), ([4, 3], [3, 4]), ([5, 3], [3, 5]), ([3, 6], [3, 6]), ([7, 3], [7]), ([8], [8]), ([9, 8], [8, 9]), ([10, 8, 8], [8, 10]), ([11], [11]), ([12, 11], [11, 12]), ([11], [11]), ([11], [11]), ([15, 11], [11, 15]), ([14, 16, 11], [11, 14, 16]), ([17, 11], [11, 17]), ([18, 11], [11, 18]), ([13, 19, 11], [11, 13, 19]), ([11, 20, 8], [8, 11, 20]), ([8, 21], [8, 21]), ([22, 11], [22]), ([23], [23]), ([24, 23], [23, 24]), ([25, 23, 23], [23, 25]), ([26, 23], [23, 26]), ([23, 27], [23, 27]), ([28, 26], [28]), ([29], [29]), ([30, 29], [29, 30]), ([31, 29, 29], [29, 31]), ([32, 29], [29, 32]), ([29, 33], [29, 33]), ([34, 32], [34]), ([35], [35]), ([36, 35], [35, 36]), ([37, 35], [35, 37]), ([35], [35]), ([39, 35], [35, 39]), ([40, 35], [35, 40]), ([38, 41, 35], [35, 38, 41]), ([35, 42], [35, 42]), ([43, 35], [43]), ([44], [44]), ([45, 44], [44, 45]), ([46, 44], [44, 46]), ([44], [44]), ([48, 44], [44, 48]), ([49, 44], [44, 49]), ([47, 50, 44], [44, 47, 50]), ([44, 51], [44, 51])])
def tallymanref07_Right.B7 : List Nat := [0, 1, 3, 7, 15, 31, 63, 127, 255, 511, 1023, 2047, 4095, 8191, 4095, 4095, 36863, 118783, 249855, 511999, 1048575, 2097151, 4194303, 8388607, 16777215, 33554431, 67108863, 134217727, 268435455, 536870911, 1073741823, 2147483647, 4294967295, 8589934591, 17179869183, 34359738367, 68719476735, 137438953471, 274877906943, 68719476735, 618475290623, 1717986918399, 4398046511103, 8796093022207, 17592186044415, 35184372088831, 70368744177663, 140737488355327, 35184372088831, 316659348799487, 879609302220799, 2251799813685247, 4503599627370495]
theorem tallymanref07_Right.tab7 : rtab .any (opsOf Try.f86 7) = tallymanref07_Right.T7 := by kernel_rfl
theorem tallymanref07_Right.bits7 : waitsOk tallymanref07_Right.T7.2 tallymanref07_Right.B7 = true := by kernel_rfl
set_option maxHeartbeats 8000000 in
set_option maxRecDepth 100000 in
theorem tallymanref07_Right.calls (k : Nat) (A0 : Option Addr) (c0 : Nat) (l0 : List (S110)) (r : Bool) (w : World) (hr0 : Kd.C k110 w A0 l0.length l0) (hc0 : l0.length ≤ c0) (h : tallymanref07_Right.f k l0 = some r) :
  Calls Try.prog 86 #[.slice A0 l0.length c0] w fun e w' => e = .returned (.bool r) ∧ Below w.heap.size w w' := by
 have hu110 := Try.underlying110
 have hu108 := Try.underlying108
 have HR0 := Aside0.mk hr0
 have HC0 := Aside0.mk hc0
 clear hr0 hc0
 have HB := Aside0.mk (Below.refl w.heap.size w)
 have H : (if (l0.length : Int) > 32 then (some false) else (tallymanref07_Right.l0 k l0 0)) = some r := h
 clear h
 by_cases c2 : (l0.length : Int) > 32
 ·rw [if_pos c2] at H
  have c2b0 : decide (32 < (l0.length : Int)) = true := decide_eq_true c2
  have c2b1 : decide (32 < l0.length) = true := decide_eq_true (by omega)
  clear c2
  obtain rfl := Option.some.inj H
  go_enter Try.func86, Try.ntmps86
  go_wp2
  go_ret
  exact ⟨by first | rfl | ((repeat first | rw [Int.tdiv_eq_ediv_of_nonneg (by omega)] | rw [Int.tmod_eq_emod_of_nonneg (by omega)]); rfl) | (simp [errW_none, errW_some] <;> rfl) | (simp [*, errW_none, errW_some] <;> rfl), by repeat (first | (with_reducible first | exact HB.out | apply below_alloc | apply pw_below_drewN | apply below_drew1) | exact HB.out)⟩
 ·rw [if_neg c2] at H
  have c2b0 : decide (32 < (l0.length : Int)) = false := decide_eq_false c2
  have c2b1 : decide (32 < l0.length) = false := decide_eq_false (by omega)
  clear c2
  have H' := Aside0.mk H
  clear H
  go_enter Try.func86, Try.ntmps86
  go_wp2
  go_loopg [3] k (fun kq v3 w' => ∃ (x3_1 : Int), v3 = .int .i64 x3_1 ∧ Aside0 (tallymanref07_Right.l0 kq l0 x3_1 = some r) ∧ Aside0 (kq ≤ k) ∧ Aside0 (Below w.heap.size w w'))
  case atStart => exact ⟨(0), (by first | rfl | (simp; done) | (simp [*]; done)), H', ⟨Nat.le_refl _⟩, ⟨by repeat (first | (with_reducible first | exact HB.out | apply below_alloc | apply pw_below_drewN | apply below_drew1) | exact HB.out)⟩⟩
  case round =>
   clear H'
   try clear c2
   try clear c2b0
   try clear c2b1
   try clear p2
   obtain ⟨x3_1, rfl, HA, HK1, HB⟩ := hrel
   cases gk with
   | zero => exact absurd HA.out (by simp [tallymanref07_Right.l0])
   | succ k1 =>
    have H := HA.out
    clear HA
    simp only [tallymanref07_Right.l0] at H
    by_cases c3 : x3_1 < (l0.length : Int)
    ·rw [if_pos c3] at H
     have c3b0 : decide (x3_1 < (l0.length : Int)) = true := decide_eq_true c3
     clear c3
     by_cases c4 : 0 ≤ x3_1
     ·rw [if_pos c4] at H
      have c4b0 : decide (0 ≤ x3_1) = true := decide_eq_true c4
      clear c4
      have HC5 := Aside0.mk H
      clear H
      have p101 : 0 ≤ (x3_1 : Int) := of_decide_eq_true (by first | (with_reducible assumption) | assumption)
      have q101 : x3_1 < (l0.length : Int) := of_decide_eq_true (by first | (with_reducible assumption) | assumption)
      obtain ⟨ad101, e101, hx101_0, hx101_1, hx101_2, hx101_3, hx101_4⟩ := at_T110 HR0.out x3_1 p101 q101
      cases e101
      replace hx101_0 := (HB.out.cell (World.block_lt_of_cell? w _ hx101_0)).trans hx101_0
      replace hx101_1 := (HB.out.cell (World.block_lt_of_cell? w _ hx101_1)).trans hx101_1
      replace hx101_2 := (HB.out.cell (World.block_lt_of_cell? w _ hx101_2)).trans hx101_2
      replace hx101_3 := (HB.out.cell (World.block_lt_of_cell? w _ hx101_3)).trans hx101_3
      replace hx101_4 := (HB.out.cell (World.block_lt_of_cell? w _ hx101_4)).trans hx101_4
      replace p101 := eq_true p101
      replace q101 := eq_true q101
      go_upto_region 7 with (first | ((with_reducible refine gate_dst (N := 4) rfl ?_); refine box_event ?hg (N := 4) ?hd (cs := #[.int .i64 0, .int .i64 0, .int .i64 0, .int .i64 0, .int .i64 0]) (t := 110) ?hr ?_; (case hd => rfl); (case hg => rfl); (case hr => first | (go_simp; done) | (go_simp; rfl)); intro gb102 hg w6 hbox hb; have n0_ := Aside0.mk (below_step (by repeat (first | (with_reducible first | exact HB.out | apply below_alloc | apply pw_below_drewN | apply below_drew1) | exact HB.out)) hb); have n1_ := Aside0.mk (hbox); have n2_ := Aside0.mk ((by rw [hg]; exact (below_size (by repeat (first | (with_reducible first | exact HB.out | apply below_alloc | apply pw_below_drewN | apply below_drew1) | exact HB.out))) : w.heap.size ≤ gb102)); have n3_ := Aside0.mk ((by rw [hg]; exact (below_size (by repeat (first | (with_reducible first | exact HB.out | apply below_alloc | apply pw_below_drewN | apply below_drew1) | exact HB.out))) : w.heap.size ≤ gb102)); clear HB; have HB := n0_; have BK102 := n1_; have GW102 := n2_; have GE102 := n3_; clear n0_ n1_ n2_ n3_; clear hb hbox hg; have hcz7_0 : w6.cell? ⟨gb102, 0, none⟩ = some (.int .i64 0) := (blk_cell BK102.out 0).trans rfl; have hcz7_1 : w6.cell? ⟨gb102, 1, none⟩ = some (.int .i64 0) := (blk_cell BK102.out 1).trans rfl; have hcz7_2 : w6.cell? ⟨gb102, 2, none⟩ = some (.int .i64 0) := (blk_cell BK102.out 2).trans rfl; have hcz7_3 : w6.cell? ⟨gb102, 3, none⟩ = some (.int .i64 0) := (blk_cell BK102.out 3).trans rfl; have hcz7_4 : w6.cell? ⟨gb102, 4, none⟩ = some (.int .i64 0) := (blk_cell BK102.out 4).trans rfl; have hfz7_0 := blk_frozen BK102.out 0; have hfz7_1 := blk_frozen BK102.out 1; have hfz7_2 := blk_frozen BK102.out 2; have hfz7_3 := blk_frozen BK102.out 3; have hfz7_4 := blk_frozen BK102.out 4))
      (try simp only [Act.put, sA, sZ, sS])
      go_cut [71] (fun v71 wc => ∃ (kq : Nat) (x71_4 : Bool), v71 = .bool x71_4 ∧ Aside0 (tallymanref07_Right.j1 kq l0 x3_1 x71_4 ((rd_T110 l0 x3_1).f0) ((rd_T110 l0 x3_1).f1.f0) ((rd_T110 l0 x3_1).f1.f1) ((rd_T110 l0 x3_1).f2.f0) ((rd_T110 l0 x3_1).f2.f1) = some r) ∧ Aside0 (kq ≤ k1) ∧ Aside0 (wc.heap[gb102]? = some (.cells #[.int .i64 ((rd_T110 l0 x3_1).f0), .int .i64 ((rd_T110 l0 x3_1).f1.f0), .int .i64 ((rd_T110 l0 x3_1).f1.f1), .int .i64 ((rd_T110 l0 x3_1).f2.f0), .int .i64 ((rd_T110 l0 x3_1).f2.f1)] 110 (0, 0))) ∧ Aside0 (Below w.heap.size w wc))
      case first =>
       have H := HC5.out
       clear HC5
       by_cases c8 : ((rd_T110 l0 x3_1).f0) < 1
       ·rw [if_pos c8] at H
        have c8b0 : decide (((rd_T110 l0 x3_1).f0) < 1) = true := decide_eq_true c8
        clear c8
        (first | rw [c8b0] | (simp only [i64_w, i32_w]; rw [c8b0]) | skip)
        have H' := Aside0.mk H
        clear H
        try go_wp2
        have n0_ : Aside0 ((((((w6.setCell ⟨gb102, 0, none⟩ (.int .i64 ((rd_T110 l0 x3_1).f0))).setCell ⟨gb102, 1, none⟩ (.int .i64 ((rd_T110 l0 x3_1).f1.f0))).setCell ⟨gb102, 2, none⟩ (.int .i64 ((rd_T110 l0 x3_1).f1.f1))).setCell ⟨gb102, 3, none⟩ (.int .i64 ((rd_T110 l0 x3_1).f2.f0))).setCell ⟨gb102, 4, none⟩ (.int .i64 ((rd_T110 l0 x3_1).f2.f1))).heap[gb102]? = some (.cells #[.int .i64 ((rd_T110 l0 x3_1).f0), .int .i64 ((rd_T110 l0 x3_1).f1.f0), .int .i64 ((rd_T110 l0 x3_1).f1.f1), .int .i64 ((rd_T110 l0 x3_1).f2.f0), .int .i64 ((rd_T110 l0 x3_1).f2.f1)] 110 (0, 0))) := ⟨by (with_reducible repeat (first | refine blk_drewN ?_ _ | refine blk_drew ?_ | refine blk_alloc ?_ _)); refine blk_put (cs := #[.int .i64 ((rd_T110 l0 x3_1).f0), .int .i64 ((rd_T110 l0 x3_1).f1.f0), .int .i64 ((rd_T110 l0 x3_1).f1.f1), .int .i64 ((rd_T110 l0 x3_1).f2.f0), .int .i64 0]) ?_ 4 _ rfl; (with_reducible repeat (first | refine blk_drewN ?_ _ | refine blk_drew ?_ | refine blk_alloc ?_ _)); refine blk_put (cs := #[.int .i64 ((rd_T110 l0 x3_1).f0), .int .i64 ((rd_T110 l0 x3_1).f1.f0), .int .i64 ((rd_T110 l0 x3_1).f1.f1), .int .i64 0, .int .i64 0]) ?_ 3 _ rfl; (with_reducible repeat (first | refine blk_drewN ?_ _ | refine blk_drew ?_ | refine blk_alloc ?_ _)); refine blk_put (cs := #[.int .i64 ((rd_T110 l0 x3_1).f0), .int .i64 ((rd_T110 l0 x3_1).f1.f0), .int .i64 0, .int .i64 0, .int .i64 0]) ?_ 2 _ rfl; (with_reducible repeat (first | refine blk_drewN ?_ _ | refine blk_drew ?_ | refine blk_alloc ?_ _)); refine blk_put (cs := #[.int .i64 ((rd_T110 l0 x3_1).f0), .int .i64 0, .int .i64 0, .int .i64 0, .int .i64 0]) ?_ 1 _ rfl; (with_reducible repeat (first | refine blk_drewN ?_ _ | refine blk_drew ?_ | refine blk_alloc ?_ _)); refine blk_put (cs := #[.int .i64 0, .int .i64 0, .int .i64 0, .int .i64 0, .int .i64 0]) ?_ 0 _ rfl; (with_reducible repeat (first | refine blk_drewN ?_ _ | refine blk_drew ?_ | refine blk_alloc ?_ _)); exact BK102.out⟩
        have n1_ : Aside0 (Below w.heap.size w (((((w6.setCell ⟨gb102, 0, none⟩ (.int .i64 ((rd_T110 l0 x3_1).f0))).setCell ⟨gb102, 1, none⟩ (.int .i64 ((rd_T110 l0 x3_1).f1.f0))).setCell ⟨gb102, 2, none⟩ (.int .i64 ((rd_T110 l0 x3_1).f1.f1))).setCell ⟨gb102, 3, none⟩ (.int .i64 ((rd_T110 l0 x3_1).f2.f0))).setCell ⟨gb102, 4, none⟩ (.int .i64 ((rd_T110 l0 x3_1).f2.f1)))) := ⟨by repeat (first | (with_reducible first | exact HB.out | apply below_alloc | apply pw_below_drewN | apply below_drew1 | refine below_set ?_ GE102.out) | exact HB.out)⟩
        (try clear BK102)
        (try clear HB)
        generalize (((((w6.setCell ⟨gb102, 0, none⟩ (.int .i64 ((rd_T110 l0 x3_1).f0))).setCell ⟨gb102, 1, none⟩ (.int .i64 ((rd_T110 l0 x3_1).f1.f0))).setCell ⟨gb102, 2, none⟩ (.int .i64 ((rd_T110 l0 x3_1).f1.f1))).setCell ⟨gb102, 3, none⟩ (.int .i64 ((rd_T110 l0 x3_1).f2.f0))).setCell ⟨gb102, 4, none⟩ (.int .i64 ((rd_T110 l0 x3_1).f2.f1))) = w9 at n0_ n1_ ⊢
        have BK102 := n0_
        have HB := n1_
        clear n0_ n1_
        have n0_ := Aside0.mk (blk_drew BK102.out)
        have n1_ := Aside0.mk (below_drew1 HB.out)
        clear BK102
        clear HB
        have BK102 := n0_
        have HB := n1_
        clear n0_ n1_
        refine start_ (n := 53) (S := fun w' => w'.cell? ⟨gb102, 0, none⟩ = some (.int .i64 ((rd_T110 l0 x3_1).f0)) ∧ w'.cell? ⟨gb102, 1, none⟩ = some (.int .i64 ((rd_T110 l0 x3_1).f1.f0)) ∧ w'.cell? ⟨gb102, 2, none⟩ = some (.int .i64 ((rd_T110 l0 x3_1).f1.f1)) ∧ w'.cell? ⟨gb102, 3, none⟩ = some (.int .i64 ((rd_T110 l0 x3_1).f2.f0)) ∧ w'.cell? ⟨gb102, 4, none⟩ = some (.int .i64 ((rd_T110 l0 x3_1).f2.f1))) (ds := []) (btB 53 0) (by kernel_rfl) rfl rfl ⟨(blk_cell BK102.out 0).trans rfl, (blk_cell BK102.out 1).trans rfl, (blk_cell BK102.out 2).trans rfl, (blk_cell BK102.out 3).trans rfl, (blk_cell BK102.out 4).trans rfl⟩ (fun hHeld => ?_); refine with_tabW tallymanref07_Right.tab7 tallymanref07_Right.bits7 (fun HT_ HW_ => ?_)
        generalize w9.drew = w10 at BK102 HB hHeld ⊢
        refine pt_ ?_ 0 (some 19) (btB 53 1) rfl rfl HT_.out (by kernel_rfl) qq_ (Or.inl ⟨by rfl, ?_⟩) ?_ ?_ ?_
        rotate_left; ·intro w'; go_simp; with_reducible rfl
        rotate_left; ·simp only [Act.put, sA, sZ, sS, i64_w, i32_w]; rfl
        refine take_ (i := 1) (N := some 20) (v := ?_) (a' := ?_) (btB 53 3) rfl rfl (take_ofW HT_.out HW_.out (by kernel_rfl)) (fun _ _ _ h => h) (Or.inl ⟨by rfl, ?_⟩) hHeld ?_ ?_
        rotate_left; ·rintro w' ⟨s0, s1, s2, s3, s4⟩; go_simp; with_reducible rfl
        rotate_left; ·simp only [Act.put, sA, sZ, sS, i64_w, i32_w]; rfl
        refine pt_ ?_ 2 (some 21) (btB 53 7) rfl rfl HT_.out (by kernel_rfl) qq_ (Or.inl ⟨by rfl, ?_⟩) ?_ ?_ ?_
        rotate_left; ·intro w'; go_simp; with_reducible rfl
        rotate_left; ·simp only [Act.put, sA, sZ, sS, i64_w, i32_w]; rfl
        refine pt_ ?_ 3 (some 22) (btB 53 15) rfl rfl HT_.out (by kernel_rfl) qq_ (Or.inl ⟨by rfl, ?_⟩) ?_ ?_ ?_
        rotate_left; ·intro w'; go_simp; with_reducible rfl
        rotate_left; ·simp only [Act.put, sA, sZ, sS, i64_w, i32_w]; rfl
        refine pt_ undef 4 (some 23) (btB 53 31) rfl rfl HT_.out (by kernel_rfl) qq_ (Or.inr ⟨by rfl, rfl⟩) ?_ ?_ ?_
        rotate_left; ·simp only [Act.put, sA, sZ, sS, i64_w, i32_w]; rfl
        refine pt_ undef 5 (some 24) (btB 53 63) rfl rfl HT_.out (by kernel_rfl) qq_ (Or.inr ⟨by rfl, rfl⟩) ?_ ?_ ?_
        rotate_left; ·simp only [Act.put, sA, sZ, sS, i64_w, i32_w]; rfl
        refine pt_ undef 6 (some 25) (btB 53 127) rfl rfl HT_.out (by kernel_rfl) qq_ (Or.inr ⟨by rfl, rfl⟩) ?_ ?_ ?_
        rotate_left; ·simp only [Act.put, sA, sZ, sS, i64_w, i32_w]; rfl
        refine pt_ ?_ 7 (some 26) (btB 53 255) rfl rfl HT_.out (by kernel_rfl) qq_ (Or.inl ⟨by rfl, ?_⟩) ?_ ?_ ?_
        rotate_left; ·intro w'; go_simp; with_reducible rfl
        rotate_left; ·simp only [Act.put, sA, sZ, sS, i64_w, i32_w]; rfl
        refine pt_ ?_ 8 (some 27) (btB 53 511) rfl rfl HT_.out (by kernel_rfl) qq_ (Or.inl ⟨by rfl, ?_⟩) ?_ ?_ ?_
        rotate_left; ·intro w'; go_simp; with_reducible rfl
        rotate_left; ·simp only [Act.put, sA, sZ, sS, i64_w, i32_w]; rfl
        refine pt_ undef 9 (some 28) (btB 53 1023) rfl rfl HT_.out (by kernel_rfl) qq_ (Or.inr ⟨by rfl, rfl⟩) ?_ ?_ ?_
        rotate_left; ·simp only [Act.put, sA, sZ, sS, i64_w, i32_w]; rfl
        refine pt_ undef 10 (some 29) (btB 53 2047) rfl rfl HT_.out (by kernel_rfl) qq_ (Or.inr ⟨by rfl, rfl⟩) ?_ ?_ ?_
        rotate_left; ·simp only [Act.put, sA, sZ, sS, i64_w, i32_w]; rfl
        refine pt_ undef 11 (some 30) (btB 53 4095) rfl rfl HT_.out (by kernel_rfl) qq_ (Or.inr ⟨by rfl, rfl⟩) ?_ ?_ ?_
        rotate_left; ·simp only [Act.put, sA, sZ, sS, i64_w, i32_w]; rfl
        refine pt_ undef 12 (some 31) (btB 53 8191) rfl rfl HT_.out (by kernel_rfl) qq_ (Or.inr ⟨by rfl, rfl⟩) ?_ ?_ ?_
        rotate_left; ·simp only [Act.put, sA, sZ, sS, i64_w, i32_w]; rfl
        refine pt_ undef 13 (some 32) (btB 53 16383) rfl rfl HT_.out (by kernel_rfl) qq_ (Or.inr ⟨by rfl, rfl⟩) ?_ ?_ ?_
        rotate_left; ·simp only [Act.put, sA, sZ, sS, i64_w, i32_w]; rfl
        refine pt_ undef 14 (some 33) (btB 53 32767) rfl rfl HT_.out (by kernel_rfl) qq_ (Or.inr ⟨by rfl, rfl⟩) ?_ ?_ ?_
        rotate_left; ·simp only [Act.put, sA, sZ, sS, i64_w, i32_w]; rfl
        refine pt_ undef 15 (some 34) (btB 53 65535) rfl rfl HT_.out (by kernel_rfl) qq_ (Or.inr ⟨by rfl, rfl⟩) ?_ ?_ ?_
        rotate_left; ·simp only [Act.put, sA, sZ, sS, i64_w, i32_w]; rfl
        refine pt_ undef 16 (some 35) (btB 53 131071) rfl rfl HT_.out (by kernel_rfl) qq_ (Or.inr ⟨by rfl, rfl⟩) ?_ ?_ ?_
        rotate_left; ·simp only [Act.put, sA, sZ, sS, i64_w, i32_w]; rfl
        refine pt_ undef 17 (some 36) (btB 53 262143) rfl rfl HT_.out (by kernel_rfl) qq_ (Or.inr ⟨by rfl, rfl⟩) ?_ ?_ ?_
        rotate_left; ·simp only [Act.put, sA, sZ, sS, i64_w, i32_w]; rfl
        refine pt_ undef 18 (some 37) (btB 53 524287) rfl rfl HT_.out (by kernel_rfl) qq_ (Or.inr ⟨by rfl, rfl⟩) ?_ ?_ ?_
        rotate_left; ·simp only [Act.put, sA, sZ, sS, i64_w, i32_w]; rfl
        refine pt_ undef 19 (some 38) (btB 53 1048575) rfl rfl HT_.out (by kernel_rfl) qq_ (Or.inr ⟨by rfl, rfl⟩) ?_ ?_ ?_
        rotate_left; ·simp only [Act.put, sA, sZ, sS, i64_w, i32_w]; rfl
        refine pt_ undef 20 (some 39) (btB 53 2097151) rfl rfl HT_.out (by kernel_rfl) qq_ (Or.inr ⟨by rfl, rfl⟩) ?_ ?_ ?_
        rotate_left; ·simp only [Act.put, sA, sZ, sS, i64_w, i32_w]; rfl
        refine pt_ undef 21 (some 40) (btB 53 4194303) rfl rfl HT_.out (by kernel_rfl) qq_ (Or.inr ⟨by rfl, rfl⟩) ?_ ?_ ?_
        rotate_left; ·simp only [Act.put, sA, sZ, sS, i64_w, i32_w]; rfl
        refine pt_ ?_ 22 (some 41) (btB 53 8388607) rfl rfl HT_.out (by kernel_rfl) qq_ (Or.inl ⟨by rfl, ?_⟩) ?_ ?_ ?_
        rotate_left; ·intro w'; go_simp; with_reducible rfl
        rotate_left; ·simp only [Act.put, sA, sZ, sS, i64_w, i32_w]; rfl
        refine pt_ ?_ 23 (some 42) (btB 53 16777215) rfl rfl HT_.out (by kernel_rfl) qq_ (Or.inl ⟨by rfl, ?_⟩) ?_ ?_ ?_
        rotate_left; ·intro w'; go_simp; with_reducible rfl
        rotate_left; ·simp only [Act.put, sA, sZ, sS, i64_w, i32_w]; rfl
        refine pt_ undef 24 (some 43) (btB 53 33554431) rfl rfl HT_.out (by kernel_rfl) qq_ (Or.inr ⟨by rfl, rfl⟩) ?_ ?_ ?_
        rotate_left; ·simp only [Act.put, sA, sZ, sS, i64_w, i32_w]; rfl
        refine pt_ undef 25 (some 44) (btB 53 67108863) rfl rfl HT_.out (by kernel_rfl) qq_ (Or.inr ⟨by rfl, rfl⟩) ?_ ?_ ?_
        rotate_left; ·simp only [Act.put, sA, sZ, sS, i64_w, i32_w]; rfl
        refine pt_ undef 26 (some 45) (btB 53 134217727) rfl rfl HT_.out (by kernel_rfl) qq_ (Or.inr ⟨by rfl, rfl⟩) ?_ ?_ ?_
        rotate_left; ·simp only [Act.put, sA, sZ, sS, i64_w, i32_w]; rfl
        refine pt_ undef 27 (some 46) (btB 53 268435455) rfl rfl HT_.out (by kernel_rfl) qq_ (Or.inr ⟨by rfl, rfl⟩) ?_ ?_ ?_
        rotate_left; ·simp only [Act.put, sA, sZ, sS, i64_w, i32_w]; rfl
        refine pt_ ?_ 28 (some 47) (btB 53 536870911) rfl rfl HT_.out (by kernel_rfl) qq_ (Or.inl ⟨by rfl, ?_⟩) ?_ ?_ ?_
        rotate_left; ·intro w'; go_simp; with_reducible rfl
        rotate_left; ·simp only [Act.put, sA, sZ, sS, i64_w, i32_w]; rfl
        refine pt_ ?_ 29 (some 48) (btB 53 1073741823) rfl rfl HT_.out (by kernel_rfl) qq_ (Or.inl ⟨by rfl, ?_⟩) ?_ ?_ ?_
        rotate_left; ·intro w'; go_simp; with_reducible rfl
        rotate_left; ·simp only [Act.put, sA, sZ, sS, i64_w, i32_w]; rfl
        refine pt_ undef 30 (some 49) (btB 53 2147483647) rfl rfl HT_.out (by kernel_rfl) qq_ (Or.inr ⟨by rfl, rfl⟩) ?_ ?_ ?_
        rotate_left; ·simp only [Act.put, sA, sZ, sS, i64_w, i32_w]; rfl
        refine pt_ undef 31 (some 50) (btB 53 4294967295) rfl rfl HT_.out (by kernel_rfl) qq_ (Or.inr ⟨by rfl, rfl⟩) ?_ ?_ ?_
        rotate_left; ·simp only [Act.put, sA, sZ, sS, i64_w, i32_w]; rfl
        refine pt_ undef 32 (some 51) (btB 53 8589934591) rfl rfl HT_.out (by kernel_rfl) qq_ (Or.inr ⟨by rfl, rfl⟩) ?_ ?_ ?_
        rotate_left; ·simp only [Act.put, sA, sZ, sS, i64_w, i32_w]; rfl
        refine pt_ undef 33 (some 52) (btB 53 17179869183) rfl rfl HT_.out (by kernel_rfl) qq_ (Or.inr ⟨by rfl, rfl⟩) ?_ ?_ ?_
        rotate_left; ·simp only [Act.put, sA, sZ, sS, i64_w, i32_w]; rfl
        refine pt_ ?_ 34 (some 53) (btB 53 34359738367) rfl rfl HT_.out (by kernel_rfl) qq_ (Or.inl ⟨by rfl, ?_⟩) ?_ ?_ ?_
        rotate_left; ·intro w'; go_simp; with_reducible rfl
        rotate_left; ·simp only [Act.put, sA, sZ, sS, i64_w, i32_w]; rfl
        refine pt_ ?_ 35 (some 54) (btB 53 68719476735) rfl rfl HT_.out (by kernel_rfl) qq_ (Or.inl ⟨by rfl, ?_⟩) ?_ ?_ ?_
        rotate_left; ·intro w'; go_simp; with_reducible rfl
        rotate_left; ·simp only [Act.put, sA, sZ, sS, i64_w, i32_w]; rfl
        refine pt_ undef 36 (some 55) (btB 53 137438953471) rfl rfl HT_.out (by kernel_rfl) qq_ (Or.inr ⟨by rfl, rfl⟩) ?_ ?_ ?_
        rotate_left; ·simp only [Act.put, sA, sZ, sS, i64_w, i32_w]; rfl
        refine pt_ undef 37 (some 56) (btB 53 274877906943) rfl rfl HT_.out (by kernel_rfl) qq_ (Or.inr ⟨by rfl, rfl⟩) ?_ ?_ ?_
        rotate_left; ·simp only [Act.put, sA, sZ, sS, i64_w, i32_w]; rfl
        refine pt_ undef 38 (some 57) (btB 53 549755813887) rfl rfl HT_.out (by kernel_rfl) qq_ (Or.inr ⟨by rfl, rfl⟩) ?_ ?_ ?_
        rotate_left; ·simp only [Act.put, sA, sZ, sS, i64_w, i32_w]; rfl
        refine pt_ undef 39 (some 58) (btB 53 1099511627775) rfl rfl HT_.out (by kernel_rfl) qq_ (Or.inr ⟨by rfl, rfl⟩) ?_ ?_ ?_
        rotate_left; ·simp only [Act.put, sA, sZ, sS, i64_w, i32_w]; rfl
        refine pt_ undef 40 (some 59) (btB 53 2199023255551) rfl rfl HT_.out (by kernel_rfl) qq_ (Or.inr ⟨by rfl, rfl⟩) ?_ ?_ ?_
        rotate_left; ·simp only [Act.put, sA, sZ, sS, i64_w, i32_w]; rfl
        refine pt_ undef 41 (some 60) (btB 53 4398046511103) rfl rfl HT_.out (by kernel_rfl) qq_ (Or.inr ⟨by rfl, rfl⟩) ?_ ?_ ?_
        rotate_left; ·simp only [Act.put, sA, sZ, sS, i64_w, i32_w]; rfl
        refine pt_ undef 42 (some 61) (btB 53 8796093022207) rfl rfl HT_.out (by kernel_rfl) qq_ (Or.inr ⟨by rfl, rfl⟩) ?_ ?_ ?_
        rotate_left; ·simp only [Act.put, sA, sZ, sS, i64_w, i32_w]; rfl
        refine pt_ ?_ 43 (some 62) (btB 53 17592186044415) rfl rfl HT_.out (by kernel_rfl) qq_ (Or.inl ⟨by rfl, ?_⟩) ?_ ?_ ?_
        rotate_left; ·intro w'; go_simp; with_reducible rfl
        rotate_left; ·simp only [Act.put, sA, sZ, sS, i64_w, i32_w]; rfl
        refine pt_ ?_ 44 (some 63) (btB 53 35184372088831) rfl rfl HT_.out (by kernel_rfl) qq_ (Or.inl ⟨by rfl, ?_⟩) ?_ ?_ ?_
        rotate_left; ·intro w'; go_simp; with_reducible rfl
        rotate_left; ·simp only [Act.put, sA, sZ, sS, i64_w, i32_w]; rfl
        refine pt_ undef 45 (some 64) (btB 53 70368744177663) rfl rfl HT_.out (by kernel_rfl) qq_ (Or.inr ⟨by rfl, rfl⟩) ?_ ?_ ?_
        rotate_left; ·simp only [Act.put, sA, sZ, sS, i64_w, i32_w]; rfl
        refine pt_ undef 46 (some 65) (btB 53 140737488355327) rfl rfl HT_.out (by kernel_rfl) qq_ (Or.inr ⟨by rfl, rfl⟩) ?_ ?_ ?_
        rotate_left; ·simp only [Act.put, sA, sZ, sS, i64_w, i32_w]; rfl
        refine pt_ undef 47 (some 66) (btB 53 281474976710655) rfl rfl HT_.out (by kernel_rfl) qq_ (Or.inr ⟨by rfl, rfl⟩) ?_ ?_ ?_
        rotate_left; ·simp only [Act.put, sA, sZ, sS, i64_w, i32_w]; rfl
        refine pt_ undef 48 (some 67) (btB 53 562949953421311) rfl rfl HT_.out (by kernel_rfl) qq_ (Or.inr ⟨by rfl, rfl⟩) ?_ ?_ ?_
        rotate_left; ·simp only [Act.put, sA, sZ, sS, i64_w, i32_w]; rfl
        refine pt_ undef 49 (some 68) (btB 53 1125899906842623) rfl rfl HT_.out (by kernel_rfl) qq_ (Or.inr ⟨by rfl, rfl⟩) ?_ ?_ ?_
        rotate_left; ·simp only [Act.put, sA, sZ, sS, i64_w, i32_w]; rfl
        refine pt_ undef 50 (some 69) (btB 53 2251799813685247) rfl rfl HT_.out (by kernel_rfl) qq_ (Or.inr ⟨by rfl, rfl⟩) ?_ ?_ ?_
        rotate_left; ·simp only [Act.put, sA, sZ, sS, i64_w, i32_w]; rfl
        refine pt_ undef 51 (some 70) (btB 53 4503599627370495) rfl rfl HT_.out (by kernel_rfl) qq_ (Or.inr ⟨by rfl, rfl⟩) ?_ ?_ ?_
        rotate_left; ·simp only [Act.put, sA, sZ, sS, i64_w, i32_w]; rfl
        refine pt_ ?_ 52 (some 71) (btB 53 9007199254740991) rfl rfl HT_.out (by kernel_rfl) qq_ (Or.inl ⟨by rfl, ?_⟩) ?_ ?_ ?_
        rotate_left; ·intro w'; go_simp; with_reducible rfl
        rotate_left; ·simp only [Act.put, sA, sZ, sS, i64_w, i32_w]; rfl
        refine done_ (done_of HT_.out (by kernel_rfl)) ?_
        try go_wp2
        go_meet
        case rel => exact ⟨_, (true), (by first | rfl | (simp; done) | (simp [*]; done)), H', ⟨by have := HK1.out; first | omega | exact Nat.le_refl _⟩, ⟨by (with_reducible repeat (first | refine blk_drewN ?_ _ | refine blk_drew ?_ | refine blk_alloc ?_ _)); exact BK102.out⟩, ⟨by repeat (first | (with_reducible first | exact HB.out | apply below_alloc | apply pw_below_drewN | apply below_drew1 | refine below_set ?_ GE102.out) | exact HB.out)⟩⟩
       ·rw [if_neg c8] at H
        have c8b0 : decide (((rd_T110 l0 x3_1).f0) < 1) = false := decide_eq_false c8
        clear c8
        (first | rw [c8b0] | (simp only [i64_w, i32_w]; rw [c8b0]) | skip)
        by_cases c11 : ((rd_T110 l0 x3_1).f0) > 999
        ·rw [if_pos c11] at H
         have c11b0 : decide (999 < ((rd_T110 l0 x3_1).f0)) = true := decide_eq_true c11
         clear c11
         have H' := Aside0.mk H
         clear H
         try go_wp2
         have n0_ : Aside0 ((((((w6.setCell ⟨gb102, 0, none⟩ (.int .i64 ((rd_T110 l0 x3_1).f0))).setCell ⟨gb102, 1, none⟩ (.int .i64 ((rd_T110 l0 x3_1).f1.f0))).setCell ⟨gb102, 2, none⟩ (.int .i64 ((rd_T110 l0 x3_1).f1.f1))).setCell ⟨gb102, 3, none⟩ (.int .i64 ((rd_T110 l0 x3_1).f2.f0))).setCell ⟨gb102, 4, none⟩ (.int .i64 ((rd_T110 l0 x3_1).f2.f1))).heap[gb102]? = some (.cells #[.int .i64 ((rd_T110 l0 x3_1).f0), .int .i64 ((rd_T110 l0 x3_1).f1.f0), .int .i64 ((rd_T110 l0 x3_1).f1.f1), .int .i64 ((rd_T110 l0 x3_1).f2.f0), .int .i64 ((rd_T110 l0 x3_1).f2.f1)] 110 (0, 0))) := ⟨by (with_reducible repeat (first | refine blk_drewN ?_ _ | refine blk_drew ?_ | refine blk_alloc ?_ _)); refine blk_put (cs := #[.int .i64 ((rd_T110 l0 x3_1).f0), .int .i64 ((rd_T110 l0 x3_1).f1.f0), .int .i64 ((rd_T110 l0 x3_1).f1.f1), .int .i64 ((rd_T110 l0 x3_1).f2.f0), .int .i64 0]) ?_ 4 _ rfl; (with_reducible repeat (first | refine blk_drewN ?_ _ | refine blk_drew ?_ | refine blk_alloc ?_ _)); refine blk_put (cs := #[.int .i64 ((rd_T110 l0 x3_1).f0), .int .i64 ((rd_T110 l0 x3_1).f1.f0), .int .i64 ((rd_T110 l0 x3_1).f1.f1), .int .i64 0, .int .i64 0]) ?_ 3 _ rfl; (with_reducible repeat (first | refine blk_drewN ?_ _ | refine blk_drew ?_ | refine blk_alloc ?_ _)); refine blk_put (cs := #[.int .i64 ((rd_T110 l0 x3_1).f0), .int .i64 ((rd_T110 l0 x3_1).f1.f0), .int .i64 0, .int .i64 0, .int .i64 0]) ?_ 2 _ rfl; (with_reducible repeat (first | refine blk_drewN ?_ _ | refine blk_drew ?_ | refine blk_alloc ?_ _)); refine blk_put (cs := #[.int .i64 ((rd_T110 l0 x3_1).f0), .int .i64 0, .int .i64 0, .int .i64 0, .int .i64 0]) ?_ 1 _ rfl; (with_reducible repeat (first | refine blk_drewN ?_ _ | refine blk_drew ?_ | refine blk_alloc ?_ _)); refine blk_put (cs := #[.int .i64 0, .int .i64 0, .int .i64 0, .int .i64 0, .int .i64 0]) ?_ 0 _ rfl; (with_reducible repeat (first | refine blk_drewN ?_ _ | refine blk_drew ?_ | refine blk_alloc ?_ _)); exact BK102.out⟩
         have n1_ : Aside0 (Below w.heap.size w (((((w6.setCell ⟨gb102, 0, none⟩ (.int .i64 ((rd_T110 l0 x3_1).f0))).setCell ⟨gb102, 1, none⟩ (.int .i64 ((rd_T110 l0 x3_1).f1.f0))).setCell ⟨gb102, 2, none⟩ (.int .i64 ((rd_T110 l0 x3_1).f1.f1))).setCell ⟨gb102, 3, none⟩ (.int .i64 ((rd_T110 l0 x3_1).f2.f0))).setCell ⟨gb102, 4, none⟩ (.int .i64 ((rd_T110 l0 x3_1).f2.f1)))) := ⟨by repeat (first | (with_reducible first | exact HB.out | apply below_alloc | apply pw_below_drewN | apply below_drew1 | refine below_set ?_ GE102.out) | exact HB.out)⟩
         (try clear BK102)
         (try clear HB)
         generalize (((((w6.setCell ⟨gb102, 0, none⟩ (.int .i64 ((rd_T110 l0 x3_1).f0))).setCell ⟨gb102, 1, none⟩ (.int .i64 ((rd_T110 l0 x3_1).f1.f0))).setCell ⟨gb102, 2, none⟩ (.int .i64 ((rd_T110 l0 x3_1).f1.f1))).setCell ⟨gb102, 3, none⟩ (.int .i64 ((rd_T110 l0 x3_1).f2.f0))).setCell ⟨gb102, 4, none⟩ (.int .i64 ((rd_T110 l0 x3_1).f2.f1))) = w12 at n0_ n1_ ⊢
         have BK102 := n0_
         have HB := n1_
         clear n0_ n1_
         have n0_ := Aside0.mk (blk_drew BK102.out)
         have n1_ := Aside0.mk (below_drew1 HB.out)
         clear BK102
         clear HB
         have BK102 := n0_
         have HB := n1_
         clear n0_ n1_
         refine start_ (n := 53) (S := fun w' => w'.cell? ⟨gb102, 0, none⟩ = some (.int .i64 ((rd_T110 l0 x3_1).f0)) ∧ w'.cell? ⟨gb102, 1, none⟩ = some (.int .i64 ((rd_T110 l0 x3_1).f1.f0)) ∧ w'.cell? ⟨gb102, 2, none⟩ = some (.int .i64 ((rd_T110 l0 x3_1).f1.f1)) ∧ w'.cell? ⟨gb102, 3, none⟩ = some (.int .i64 ((rd_T110 l0 x3_1).f2.f0)) ∧ w'.cell? ⟨gb102, 4, none⟩ = some (.int .i64 ((rd_T110 l0 x3_1).f2.f1))) (ds := []) (btB 53 0) (by kernel_rfl) rfl rfl ⟨(blk_cell BK102.out 0).trans rfl, (blk_cell BK102.out 1).trans rfl, (blk_cell BK102.out 2).trans rfl, (blk_cell BK102.out 3).trans rfl, (blk_cell BK102.out 4).trans rfl⟩ (fun hHeld => ?_); refine with_tabW tallymanref07_Right.tab7 tallymanref07_Right.bits7 (fun HT_ HW_ => ?_)
         generalize w12.drew = w13 at BK102 HB hHeld ⊢
         refine pt_ ?_ 0 (some 19) (btB 53 1) rfl rfl HT_.out (by kernel_rfl) qq_ (Or.inl ⟨by rfl, ?_⟩) ?_ ?_ ?_
         rotate_left; ·intro w'; go_simp; with_reducible rfl
         rotate_left; ·simp only [Act.put, sA, sZ, sS, i64_w, i32_w]; rfl
         refine take_ (i := 1) (N := some 20) (v := ?_) (a' := ?_) (btB 53 3) rfl rfl (take_ofW HT_.out HW_.out (by kernel_rfl)) (fun _ _ _ h => h) (Or.inl ⟨by rfl, ?_⟩) hHeld ?_ ?_
         rotate_left; ·rintro w' ⟨s0, s1, s2, s3, s4⟩; go_simp; with_reducible rfl
         rotate_left; ·simp only [Act.put, sA, sZ, sS, i64_w, i32_w]; rfl
         refine pt_ ?_ 2 (some 21) (btB 53 7) rfl rfl HT_.out (by kernel_rfl) qq_ (Or.inl ⟨by rfl, ?_⟩) ?_ ?_ ?_
         rotate_left; ·intro w'; go_simp; with_reducible rfl
         rotate_left; ·simp only [Act.put, sA, sZ, sS, i64_w, i32_w]; rfl
         refine pt_ ?_ 3 (some 22) (btB 53 15) rfl rfl HT_.out (by kernel_rfl) qq_ (Or.inl ⟨by rfl, ?_⟩) ?_ ?_ ?_
         rotate_left; ·intro w'; go_simp; with_reducible rfl
         rotate_left; ·simp only [Act.put, sA, sZ, sS, i64_w, i32_w]; rfl
         refine pt_ ?_ 4 (some 23) (btB 53 31) rfl rfl HT_.out (by kernel_rfl) qq_ (Or.inl ⟨by rfl, ?_⟩) ?_ ?_ ?_
         rotate_left; ·intro w'; go_simp; with_reducible rfl
         rotate_left; ·simp only [Act.put, sA, sZ, sS, i64_w, i32_w]; rfl
         refine take_ (i := 5) (N := some 24) (v := ?_) (a' := ?_) (btB 53 63) rfl rfl (take_ofW HT_.out HW_.out (by kernel_rfl)) (fun _ _ _ h => h) (Or.inl ⟨by rfl, ?_⟩) hHeld ?_ ?_
         rotate_left; ·rintro w' ⟨s0, s1, s2, s3, s4⟩; go_simp; with_reducible rfl
         rotate_left; ·simp only [Act.put, sA, sZ, sS, i64_w, i32_w]; rfl
         refine pt_ ?_ 6 (some 25) (btB 53 127) rfl rfl HT_.out (by kernel_rfl) qq_ (Or.inl ⟨by rfl, ?_⟩) ?_ ?_ ?_
         rotate_left; ·intro w'; go_simp; with_reducible rfl
         rotate_left; ·simp only [Act.put, sA, sZ, sS, i64_w, i32_w]; rfl
         refine pt_ ?_ 7 (some 26) (btB 53 255) rfl rfl HT_.out (by kernel_rfl) qq_ (Or.inl ⟨by rfl, ?_⟩) ?_ ?_ ?_
         rotate_left; ·intro w'; go_simp; with_reducible rfl
         rotate_left; ·simp only [Act.put, sA, sZ, sS, i64_w, i32_w]; rfl
         refine pt_ ?_ 8 (some 27) (btB 53 511) rfl rfl HT_.out (by kernel_rfl) qq_ (Or.inl ⟨by rfl, ?_⟩) ?_ ?_ ?_
         rotate_left; ·intro w'; go_simp; with_reducible rfl
         rotate_left; ·simp only [Act.put, sA, sZ, sS, i64_w, i32_w]; rfl
         refine pt_ undef 9 (some 28) (btB 53 1023) rfl rfl HT_.out (by kernel_rfl) qq_ (Or.inr ⟨by rfl, rfl⟩) ?_ ?_ ?_
         rotate_left; ·simp only [Act.put, sA, sZ, sS, i64_w, i32_w]; rfl
         refine pt_ undef 10 (some 29) (btB 53 2047) rfl rfl HT_.out (by kernel_rfl) qq_ (Or.inr ⟨by rfl, rfl⟩) ?_ ?_ ?_
         rotate_left; ·simp only [Act.put, sA, sZ, sS, i64_w, i32_w]; rfl
         refine pt_ undef 11 (some 30) (btB 53 4095) rfl rfl HT_.out (by kernel_rfl) qq_ (Or.inr ⟨by rfl, rfl⟩) ?_ ?_ ?_
         rotate_left; ·simp only [Act.put, sA, sZ, sS, i64_w, i32_w]; rfl
         refine pt_ undef 12 (some 31) (btB 53 8191) rfl rfl HT_.out (by kernel_rfl) qq_ (Or.inr ⟨by rfl, rfl⟩) ?_ ?_ ?_
         rotate_left; ·simp only [Act.put, sA, sZ, sS, i64_w, i32_w]; rfl
         refine pt_ undef 13 (some 32) (btB 53 16383) rfl rfl HT_.out (by kernel_rfl) qq_ (Or.inr ⟨by rfl, rfl⟩) ?_ ?_ ?_
         rotate_left; ·simp only [Act.put, sA, sZ, sS, i64_w, i32_w]; rfl
         refine pt_ undef 14 (some 33) (btB 53 32767) rfl rfl HT_.out (by kernel_rfl) qq_ (Or.inr ⟨by rfl, rfl⟩) ?_ ?_ ?_
         rotate_left; ·simp only [Act.put, sA, sZ, sS, i64_w, i32_w]; rfl
         refine pt_ undef 15 (some 34) (btB 53 65535) rfl rfl HT_.out (by kernel_rfl) qq_ (Or.inr ⟨by rfl, rfl⟩) ?_ ?_ ?_
         rotate_left; ·simp only [Act.put, sA, sZ, sS, i64_w, i32_w]; rfl
         refine pt_ undef 16 (some 35) (btB 53 131071) rfl rfl HT_.out (by kernel_rfl) qq_ (Or.inr ⟨by rfl, rfl⟩) ?_ ?_ ?_
         rotate_left; ·simp only [Act.put, sA, sZ, sS, i64_w, i32_w]; rfl
         refine pt_ undef 17 (some 36) (btB 53 262143) rfl rfl HT_.out (by kernel_rfl) qq_ (Or.inr ⟨by rfl, rfl⟩) ?_ ?_ ?_
         rotate_left; ·simp only [Act.put, sA, sZ, sS, i64_w, i32_w]; rfl
         refine pt_ undef 18 (some 37) (btB 53 524287) rfl rfl HT_.out (by kernel_rfl) qq_ (Or.inr ⟨by rfl, rfl⟩) ?_ ?_ ?_
         rotate_left; ·simp only [Act.put, sA, sZ, sS, i64_w, i32_w]; rfl
         refine pt_ undef 19 (some 38) (btB 53 1048575) rfl rfl HT_.out (by kernel_rfl) qq_ (Or.inr ⟨by rfl, rfl⟩) ?_ ?_ ?_
         rotate_left; ·simp only [Act.put, sA, sZ, sS, i64_w, i32_w]; rfl
         refine pt_ undef 20 (some 39) (btB 53 2097151) rfl rfl HT_.out (by kernel_rfl) qq_ (Or.inr ⟨by rfl, rfl⟩) ?_ ?_ ?_
         rotate_left; ·simp only [Act.put, sA, sZ, sS, i64_w, i32_w]; rfl
         refine pt_ undef 21 (some 40) (btB 53 4194303) rfl rfl HT_.out (by kernel_rfl) qq_ (Or.inr ⟨by rfl, rfl⟩) ?_ ?_ ?_
         rotate_left; ·simp only [Act.put, sA, sZ, sS, i64_w, i32_w]; rfl
         refine pt_ ?_ 22 (some 41) (btB 53 8388607) rfl rfl HT_.out (by kernel_rfl) qq_ (Or.inl ⟨by rfl, ?_⟩) ?_ ?_ ?_
         rotate_left; ·intro w'; go_simp; with_reducible rfl
         rotate_left; ·simp only [Act.put, sA, sZ, sS, i64_w, i32_w]; rfl
         refine pt_ ?_ 23 (some 42) (btB 53 16777215) rfl rfl HT_.out (by kernel_rfl) qq_ (Or.inl ⟨by rfl, ?_⟩) ?_ ?_ ?_
         rotate_left; ·intro w'; go_simp; with_reducible rfl
         rotate_left; ·simp only [Act.put, sA, sZ, sS, i64_w, i32_w]; rfl
         refine pt_ undef 24 (some 43) (btB 53 33554431) rfl rfl HT_.out (by kernel_rfl) qq_ (Or.inr ⟨by rfl, rfl⟩) ?_ ?_ ?_
         rotate_left; ·simp only [Act.put, sA, sZ, sS, i64_w, i32_w]; rfl
         refine pt_ undef 25 (some 44) (btB 53 67108863) rfl rfl HT_.out (by kernel_rfl) qq_ (Or.inr ⟨by rfl, rfl⟩) ?_ ?_ ?_
         rotate_left; ·simp only [Act.put, sA, sZ, sS, i64_w, i32_w]; rfl
         refine pt_ undef 26 (some 45) (btB 53 134217727) rfl rfl HT_.out (by kernel_rfl) qq_ (Or.inr ⟨by rfl, rfl⟩) ?_ ?_ ?_
         rotate_left; ·simp only [Act.put, sA, sZ, sS, i64_w, i32_w]; rfl
         refine pt_ undef 27 (some 46) (btB 53 268435455) rfl rfl HT_.out (by kernel_rfl) qq_ (Or.inr ⟨by rfl, rfl⟩) ?_ ?_ ?_
         rotate_left; ·simp only [Act.put, sA, sZ, sS, i64_w, i32_w]; rfl
         refine pt_ ?_ 28 (some 47) (btB 53 536870911) rfl rfl HT_.out (by kernel_rfl) qq_ (Or.inl ⟨by rfl, ?_⟩) ?_ ?_ ?_
         rotate_left; ·intro w'; go_simp; with_reducible rfl
         rotate_left; ·simp only [Act.put, sA, sZ, sS, i64_w, i32_w]; rfl
         refine pt_ ?_ 29 (some 48) (btB 53 1073741823) rfl rfl HT_.out (by kernel_rfl) qq_ (Or.inl ⟨by rfl, ?_⟩) ?_ ?_ ?_
         rotate_left; ·intro w'; go_simp; with_reducible rfl
         rotate_left; ·simp only [Act.put, sA, sZ, sS, i64_w, i32_w]; rfl
         refine pt_ undef 30 (some 49) (btB 53 2147483647) rfl rfl HT_.out (by kernel_rfl) qq_ (Or.inr ⟨by rfl, rfl⟩) ?_ ?_ ?_
         rotate_left; ·simp only [Act.put, sA, sZ, sS, i64_w, i32_w]; rfl
         refine pt_ undef 31 (some 50) (btB 53 4294967295) rfl rfl HT_.out (by kernel_rfl) qq_ (Or.inr ⟨by rfl, rfl⟩) ?_ ?_ ?_
         rotate_left; ·simp only [Act.put, sA, sZ, sS, i64_w, i32_w]; rfl
         refine pt_ undef 32 (some 51) (btB 53 8589934591) rfl rfl HT_.out (by kernel_rfl) qq_ (Or.inr ⟨by rfl, rfl⟩) ?_ ?_ ?_
         rotate_left; ·simp only [Act.put, sA, sZ, sS, i64_w, i32_w]; rfl
         refine pt_ undef 33 (some 52) (btB 53 17179869183) rfl rfl HT_.out (by kernel_rfl) qq_ (Or.inr ⟨by rfl, rfl⟩) ?_ ?_ ?_
         rotate_left; ·simp only [Act.put, sA, sZ, sS, i64_w, i32_w]; rfl
         refine pt_ ?_ 34 (some 53) (btB 53 34359738367) rfl rfl HT_.out (by kernel_rfl) qq_ (Or.inl ⟨by rfl, ?_⟩) ?_ ?_ ?_
         rotate_left; ·intro w'; go_simp; with_reducible rfl
         rotate_left; ·simp only [Act.put, sA, sZ, sS, i64_w, i32_w]; rfl
         refine pt_ ?_ 35 (some 54) (btB 53 68719476735) rfl rfl HT_.out (by kernel_rfl) qq_ (Or.inl ⟨by rfl, ?_⟩) ?_ ?_ ?_
         rotate_left; ·intro w'; go_simp; with_reducible rfl
         rotate_left; ·simp only [Act.put, sA, sZ, sS, i64_w, i32_w]; rfl
         refine pt_ undef 36 (some 55) (btB 53 137438953471) rfl rfl HT_.out (by kernel_rfl) qq_ (Or.inr ⟨by rfl, rfl⟩) ?_ ?_ ?_
         rotate_left; ·simp only [Act.put, sA, sZ, sS, i64_w, i32_w]; rfl
         refine pt_ undef 37 (some 56) (btB 53 274877906943) rfl rfl HT_.out (by kernel_rfl) qq_ (Or.inr ⟨by rfl, rfl⟩) ?_ ?_ ?_
         rotate_left; ·simp only [Act.put, sA, sZ, sS, i64_w, i32_w]; rfl
         refine pt_ undef 38 (some 57) (btB 53 549755813887) rfl rfl HT_.out (by kernel_rfl) qq_ (Or.inr ⟨by rfl, rfl⟩) ?_ ?_ ?_
         rotate_left; ·simp only [Act.put, sA, sZ, sS, i64_w, i32_w]; rfl
         refine pt_ undef 39 (some 58) (btB 53 1099511627775) rfl rfl HT_.out (by kernel_rfl) qq_ (Or.inr ⟨by rfl, rfl⟩) ?_ ?_ ?_
         rotate_left; ·simp only [Act.put, sA, sZ, sS, i64_w, i32_w]; rfl
         refine pt_ undef 40 (some 59) (btB 53 2199023255551) rfl rfl HT_.out (by kernel_rfl) qq_ (Or.inr ⟨by rfl, rfl⟩) ?_ ?_ ?_
         rotate_left; ·simp only [Act.put, sA, sZ, sS, i64_w, i32_w]; rfl
         refine pt_ undef 41 (some 60) (btB 53 4398046511103) rfl rfl HT_.out (by kernel_rfl) qq_ (Or.inr ⟨by rfl, rfl⟩) ?_ ?_ ?_
         rotate_left; ·simp only [Act.put, sA, sZ, sS, i64_w, i32_w]; rfl
         refine pt_ undef 42 (some 61) (btB 53 8796093022207) rfl rfl HT_.out (by kernel_rfl) qq_ (Or.inr ⟨by rfl, rfl⟩) ?_ ?_ ?_
         rotate_left; ·simp only [Act.put, sA, sZ, sS, i64_w, i32_w]; rfl
         refine pt_ ?_ 43 (some 62) (btB 53 17592186044415) rfl rfl HT_.out (by kernel_rfl) qq_ (Or.inl ⟨by rfl, ?_⟩) ?_ ?_ ?_
         rotate_left; ·intro w'; go_simp; with_reducible rfl
         rotate_left; ·simp only [Act.put, sA, sZ, sS, i64_w, i32_w]; rfl
         refine pt_ ?_ 44 (some 63) (btB 53 35184372088831) rfl rfl HT_.out (by kernel_rfl) qq_ (Or.inl ⟨by rfl, ?_⟩) ?_ ?_ ?_
         rotate_left; ·intro w'; go_simp; with_reducible rfl
         rotate_left; ·simp only [Act.put, sA, sZ, sS, i64_w, i32_w]; rfl
         refine pt_ undef 45 (some 64) (btB 53 70368744177663) rfl rfl HT_.out (by kernel_rfl) qq_ (Or.inr ⟨by rfl, rfl⟩) ?_ ?_ ?_
         rotate_left; ·simp only [Act.put, sA, sZ, sS, i64_w, i32_w]; rfl
         refine pt_ undef 46 (some 65) (btB 53 140737488355327) rfl rfl HT_.out (by kernel_rfl) qq_ (Or.inr ⟨by rfl, rfl⟩) ?_ ?_ ?_
         rotate_left; ·simp only [Act.put, sA, sZ, sS, i64_w, i32_w]; rfl
         refine pt_ undef 47 (some 66) (btB 53 281474976710655) rfl rfl HT_.out (by kernel_rfl) qq_ (Or.inr ⟨by rfl, rfl⟩) ?_ ?_ ?_
         rotate_left; ·simp only [Act.put, sA, sZ, sS, i64_w, i32_w]; rfl
         refine pt_ undef 48 (some 67) (btB 53 562949953421311) rfl rfl HT_.out (by kernel_rfl) qq_ (Or.inr ⟨by rfl, rfl⟩) ?_ ?_ ?_
         rotate_left; ·simp only [Act.put, sA, sZ, sS, i64_w, i32_w]; rfl
         refine pt_ undef 49 (some 68) (btB 53 1125899906842623) rfl rfl HT_.out (by kernel_rfl) qq_ (Or.inr ⟨by rfl, rfl⟩) ?_ ?_ ?_
         rotate_left; ·simp only [Act.put, sA, sZ, sS, i64_w, i32_w]; rfl
         refine pt_ undef 50 (some 69) (btB 53 2251799813685247) rfl rfl HT_.out (by kernel_rfl) qq_ (Or.inr ⟨by rfl, rfl⟩) ?_ ?_ ?_
         rotate_left; ·simp only [Act.put, sA, sZ, sS, i64_w, i32_w]; rfl
         refine pt_ undef 51 (some 70) (btB 53 4503599627370495) rfl rfl HT_.out (by kernel_rfl) qq_ (Or.inr ⟨by rfl, rfl⟩) ?_ ?_ ?_
         rotate_left; ·simp only [Act.put, sA, sZ, sS, i64_w, i32_w]; rfl
         refine pt_ ?_ 52 (some 71) (btB 53 9007199254740991) rfl rfl HT_.out (by kernel_rfl) qq_ (Or.inl ⟨by rfl, ?_⟩) ?_ ?_ ?_
         rotate_left; ·intro w'; go_simp; with_reducible rfl
         rotate_left; ·simp only [Act.put, sA, sZ, sS, i64_w, i32_w]; rfl
         refine done_ (done_of HT_.out (by kernel_rfl)) ?_
         try go_wp2
         go_meet
         case rel => exact ⟨_, (true), (by first | rfl | (simp; done) | (simp [*]; done)), H', ⟨by have := HK1.out; first | omega | exact Nat.le_refl _⟩, ⟨by (with_reducible repeat (first | refine blk_drewN ?_ _ | refine blk_drew ?_ | refine blk_alloc ?_ _)); exact BK102.out⟩, ⟨by repeat (first | (with_reducible first | exact HB.out | apply below_alloc | apply pw_below_drewN | apply below_drew1 | refine below_set ?_ GE102.out) | exact HB.out)⟩⟩
        ·rw [if_neg c11] at H
         have c11b0 : decide (999 < ((rd_T110 l0 x3_1).f0)) = false := decide_eq_false c11
         clear c11
         by_cases c14 : x3_1 > 0
         ·rw [if_pos c14] at H
          have c14b0 : decide (0 < x3_1) = true := decide_eq_true c14
          clear c14
          obtain ⟨ji15, hji15⟩ : ∃ j_ : Int, (wrap64 (x3_1 - 1)) = j_ := ⟨_, rfl⟩
          replace H : (if 0 ≤ (ji15) then (if (ji15) < (l0.length : Int) then (if ((rd_T110 l0 x3_1).f0) ≤ ((rd_T110 l0 (ji15)).f0) then (tallymanref07_Right.j1 k1 l0 x3_1 true ((rd_T110 l0 x3_1).f0) ((rd_T110 l0 x3_1).f1.f0) ((rd_T110 l0 x3_1).f1.f1) ((rd_T110 l0 x3_1).f2.f0) ((rd_T110 l0 x3_1).f2.f1)) else ((tallymanref03_Small.f ((rd_T110 l0 x3_1).f1.f0) ((rd_T110 l0 x3_1).f1.f1) 1000).bind fun t104 => (if t104 = true then ((tallymanref03_Small.f ((rd_T110 l0 x3_1).f2.f0) ((rd_T110 l0 x3_1).f2.f1) 1000).bind fun t105 => (if t105 = true then (if ((rd_T110 l0 x3_1).f1.f0) > ((rd_T110 l0 x3_1).f2.f0) then (tallymanref07_Right.j1 k1 l0 x3_1 true ((rd_T110 l0 x3_1).f0) ((rd_T110 l0 x3_1).f1.f0) ((rd_T110 l0 x3_1).f1.f1) ((rd_T110 l0 x3_1).f2.f0) ((rd_T110 l0 x3_1).f2.f1)) else (tallymanref07_Right.j1 k1 l0 x3_1 (decide (((rd_T110 l0 x3_1).f1.f1) > ((rd_T110 l0 x3_1).f2.f1))) ((rd_T110 l0 x3_1).f0) ((rd_T110 l0 x3_1).f1.f0) ((rd_T110 l0 x3_1).f1.f1) ((rd_T110 l0 x3_1).f2.f0) ((rd_T110 l0 x3_1).f2.f1))) else (tallymanref07_Right.j1 k1 l0 x3_1 true ((rd_T110 l0 x3_1).f0) ((rd_T110 l0 x3_1).f1.f0) ((rd_T110 l0 x3_1).f1.f1) ((rd_T110 l0 x3_1).f2.f0) ((rd_T110 l0 x3_1).f2.f1)))) else (tallymanref07_Right.j1 k1 l0 x3_1 true ((rd_T110 l0 x3_1).f0) ((rd_T110 l0 x3_1).f1.f0) ((rd_T110 l0 x3_1).f1.f1) ((rd_T110 l0 x3_1).f2.f0) ((rd_T110 l0 x3_1).f2.f1))))) else (none)) else (none)) = some r := by first | (rw [hji15] at H; exact H) | (simp only [hji15] at H ⊢; exact H)
          have hji15w : (IntKind.i64.wrap (x3_1 - 1)) = ji15 := (i64_w _).trans hji15
          by_cases c16 : 0 ≤ (ji15)
          ·rw [if_pos c16] at H
           have c16b0 : decide (0 ≤ (ji15)) = true := decide_eq_true c16
           clear c16
           by_cases c17 : (ji15) < (l0.length : Int)
           ·rw [if_pos c17] at H
            have c17b0 : decide ((ji15) < (l0.length : Int)) = true := decide_eq_true c17
            clear c17
            by_cases c18 : ((rd_T110 l0 x3_1).f0) ≤ ((rd_T110 l0 (ji15)).f0)
            ·rw [if_pos c18] at H
             have c18b0 : decide (((rd_T110 l0 x3_1).f0) ≤ ((rd_T110 l0 (ji15)).f0)) = true := decide_eq_true c18
             clear c18
             have H' := Aside0.mk H
             clear H
             try go_wp2
             have n0_ : Aside0 ((((((w6.setCell ⟨gb102, 0, none⟩ (.int .i64 ((rd_T110 l0 x3_1).f0))).setCell ⟨gb102, 1, none⟩ (.int .i64 ((rd_T110 l0 x3_1).f1.f0))).setCell ⟨gb102, 2, none⟩ (.int .i64 ((rd_T110 l0 x3_1).f1.f1))).setCell ⟨gb102, 3, none⟩ (.int .i64 ((rd_T110 l0 x3_1).f2.f0))).setCell ⟨gb102, 4, none⟩ (.int .i64 ((rd_T110 l0 x3_1).f2.f1))).heap[gb102]? = some (.cells #[.int .i64 ((rd_T110 l0 x3_1).f0), .int .i64 ((rd_T110 l0 x3_1).f1.f0), .int .i64 ((rd_T110 l0 x3_1).f1.f1), .int .i64 ((rd_T110 l0 x3_1).f2.f0), .int .i64 ((rd_T110 l0 x3_1).f2.f1)] 110 (0, 0))) := ⟨by (with_reducible repeat (first | refine blk_drewN ?_ _ | refine blk_drew ?_ | refine blk_alloc ?_ _)); refine blk_put (cs := #[.int .i64 ((rd_T110 l0 x3_1).f0), .int .i64 ((rd_T110 l0 x3_1).f1.f0), .int .i64 ((rd_T110 l0 x3_1).f1.f1), .int .i64 ((rd_T110 l0 x3_1).f2.f0), .int .i64 0]) ?_ 4 _ rfl; (with_reducible repeat (first | refine blk_drewN ?_ _ | refine blk_drew ?_ | refine blk_alloc ?_ _)); refine blk_put (cs := #[.int .i64 ((rd_T110 l0 x3_1).f0), .int .i64 ((rd_T110 l0 x3_1).f1.f0), .int .i64 ((rd_T110 l0 x3_1).f1.f1), .int .i64 0, .int .i64 0]) ?_ 3 _ rfl; (with_reducible repeat (first | refine blk_drewN ?_ _ | refine blk_drew ?_ | refine blk_alloc ?_ _)); refine blk_put (cs := #[.int .i64 ((rd_T110 l0 x3_1).f0), .int .i64 ((rd_T110 l0 x3_1).f1.f0), .int .i64 0, .int .i64 0, .int .i64 0]) ?_ 2 _ rfl; (with_reducible repeat (first | refine blk_drewN ?_ _ | refine blk_drew ?_ | refine blk_alloc ?_ _)); refine blk_put (cs := #[.int .i64 ((rd_T110 l0 x3_1).f0), .int .i64 0, .int .i64 0, .int .i64 0, .int .i64 0]) ?_ 1 _ rfl; (with_reducible repeat (first | refine blk_drewN ?_ _ | refine blk_drew ?_ | refine blk_alloc ?_ _)); refine blk_put (cs := #[.int .i64 0, .int .i64 0, .int .i64 0, .int .i64 0, .int .i64 0]) ?_ 0 _ rfl; (with_reducible repeat (first | refine blk_drewN ?_ _ | refine blk_drew ?_ | refine blk_alloc ?_ _)); exact BK102.out⟩
             have n1_ : Aside0 (Below w.heap.size w (((((w6.setCell ⟨gb102, 0, none⟩ (.int .i64 ((rd_T110 l0 x3_1).f0))).setCell ⟨gb102, 1, none⟩ (.int .i64 ((rd_T110 l0 x3_1).f1.f0))).setCell ⟨gb102, 2, none⟩ (.int .i64 ((rd_T110 l0 x3_1).f1.f1))).setCell ⟨gb102, 3, none⟩ (.int .i64 ((rd_T110 l0 x3_1).f2.f0))).setCell ⟨gb102, 4, none⟩ (.int .i64 ((rd_T110 l0 x3_1).f2.f1)))) := ⟨by repeat (first | (with_reducible first | exact HB.out | apply below_alloc | apply pw_below_drewN | apply below_drew1 | refine below_set ?_ GE102.out) | exact HB.out)⟩
             (try clear BK102)
             (try clear HB)
             generalize (((((w6.setCell ⟨gb102, 0, none⟩ (.int .i64 ((rd_T110 l0 x3_1).f0))).setCell ⟨gb102, 1, none⟩ (.int .i64 ((rd_T110 l0 x3_1).f1.f0))).setCell ⟨gb102, 2, none⟩ (.int .i64 ((rd_T110 l0 x3_1).f1.f1))).setCell ⟨gb102, 3, none⟩ (.int .i64 ((rd_T110 l0 x3_1).f2.f0))).setCell ⟨gb102, 4, none⟩ (.int .i64 ((rd_T110 l0 x3_1).f2.f1))) = w19 at n0_ n1_ ⊢
             have BK102 := n0_
             have HB := n1_
             clear n0_ n1_
             have n0_ := Aside0.mk (blk_drew BK102.out)
             have n1_ := Aside0.mk (below_drew1 HB.out)
             clear BK102
             clear HB
             have BK102 := n0_
             have HB := n1_
             clear n0_ n1_
             have p103 : 0 ≤ ((ji15) : Int) := of_decide_eq_true (by first | (with_reducible assumption) | assumption)
             have q103 : (ji15) < (l0.length : Int) := of_decide_eq_true (by first | (with_reducible assumption) | assumption)
             obtain ⟨ad103, e103, hx103_0, hx103_1, hx103_2, hx103_3, hx103_4⟩ := at_T110 HR0.out (ji15) p103 q103
             have hw103_4 := hx103_4
             have hw103_3 := hx103_3
             have hw103_2 := hx103_2
             have hw103_1 := hx103_1
             have hw103_0 := hx103_0
             obtain rfl : ad101 = ad103 := (by injection e103)
             replace hx103_0 := (HB.out.cell (World.block_lt_of_cell? w _ hx103_0)).trans hx103_0
             replace hx103_1 := (HB.out.cell (World.block_lt_of_cell? w _ hx103_1)).trans hx103_1
             replace hx103_2 := (HB.out.cell (World.block_lt_of_cell? w _ hx103_2)).trans hx103_2
             replace hx103_3 := (HB.out.cell (World.block_lt_of_cell? w _ hx103_3)).trans hx103_3
             replace hx103_4 := (HB.out.cell (World.block_lt_of_cell? w _ hx103_4)).trans hx103_4
             replace p103 := eq_true p103
             replace q103 := eq_true q103
             refine start_ (n := 53) (S := fun w' => w'.cell? ⟨gb102, 0, none⟩ = some (.int .i64 ((rd_T110 l0 x3_1).f0)) ∧ w'.cell? ⟨gb102, 1, none⟩ = some (.int .i64 ((rd_T110 l0 x3_1).f1.f0)) ∧ w'.cell? ⟨gb102, 2, none⟩ = some (.int .i64 ((rd_T110 l0 x3_1).f1.f1)) ∧ w'.cell? ⟨gb102, 3, none⟩ = some (.int .i64 ((rd_T110 l0 x3_1).f2.f0)) ∧ w'.cell? ⟨gb102, 4, none⟩ = some (.int .i64 ((rd_T110 l0 x3_1).f2.f1)) ∧ w'.cell? (ad101.add (((ji15)).toNat * 5)) = some (.int .i64 ((rd_T110 l0 (ji15)).f0)) ∧ w'.cell? ⟨(ad101.add (((ji15)).toNat * 5)).block, (ad101.add (((ji15)).toNat * 5)).off + 1, none⟩ = some (.int .i64 ((rd_T110 l0 (ji15)).f1.f0)) ∧ w'.cell? ⟨(ad101.add (((ji15)).toNat * 5)).block, (ad101.add (((ji15)).toNat * 5)).off + 2, none⟩ = some (.int .i64 ((rd_T110 l0 (ji15)).f1.f1)) ∧ w'.cell? ⟨(ad101.add (((ji15)).toNat * 5)).block, (ad101.add (((ji15)).toNat * 5)).off + 3, none⟩ = some (.int .i64 ((rd_T110 l0 (ji15)).f2.f0)) ∧ w'.cell? ⟨(ad101.add (((ji15)).toNat * 5)).block, (ad101.add (((ji15)).toNat * 5)).off + 4, none⟩ = some (.int .i64 ((rd_T110 l0 (ji15)).f2.f1))) (ds := []) (btB 53 0) (by kernel_rfl) rfl rfl ⟨(blk_cell BK102.out 0).trans rfl, (blk_cell BK102.out 1).trans rfl, (blk_cell BK102.out 2).trans rfl, (blk_cell BK102.out 3).trans rfl, (blk_cell BK102.out 4).trans rfl, ((HB.out.cell (World.block_lt_of_cell? w _ hw103_0)).trans hw103_0), ((HB.out.cell (World.block_lt_of_cell? w _ hw103_1)).trans hw103_1), ((HB.out.cell (World.block_lt_of_cell? w _ hw103_2)).trans hw103_2), ((HB.out.cell (World.block_lt_of_cell? w _ hw103_3)).trans hw103_3), ((HB.out.cell (World.block_lt_of_cell? w _ hw103_4)).trans hw103_4)⟩ (fun hHeld => ?_); refine with_tabW tallymanref07_Right.tab7 tallymanref07_Right.bits7 (fun HT_ HW_ => ?_)
             generalize w19.drew = w20 at BK102 HB hx103_0 hx103_1 hx103_2 hx103_3 hx103_4 hHeld ⊢
             refine pt_ ?_ 0 (some 19) (btB 53 1) rfl rfl HT_.out (by kernel_rfl) qq_ (Or.inl ⟨by rfl, ?_⟩) ?_ ?_ ?_
             rotate_left; ·intro w'; go_simp; with_reducible rfl
             rotate_left; ·simp only [Act.put, sA, sZ, sS, i64_w, i32_w]; rfl
             refine take_ (i := 1) (N := some 20) (v := ?_) (a' := ?_) (btB 53 3) rfl rfl (take_ofW HT_.out HW_.out (by kernel_rfl)) (fun _ _ _ h => h) (Or.inl ⟨by rfl, ?_⟩) hHeld ?_ ?_
             rotate_left; ·rintro w' ⟨s0, s1, s2, s3, s4, s5, s6, s7, s8, s9⟩; go_simp; with_reducible rfl
             rotate_left; ·simp only [Act.put, sA, sZ, sS, i64_w, i32_w]; rfl
             refine pt_ ?_ 2 (some 21) (btB 53 7) rfl rfl HT_.out (by kernel_rfl) qq_ (Or.inl ⟨by rfl, ?_⟩) ?_ ?_ ?_
             rotate_left; ·intro w'; go_simp; with_reducible rfl
             rotate_left; ·simp only [Act.put, sA, sZ, sS, i64_w, i32_w]; rfl
             refine pt_ ?_ 3 (some 22) (btB 53 15) rfl rfl HT_.out (by kernel_rfl) qq_ (Or.inl ⟨by rfl, ?_⟩) ?_ ?_ ?_
             rotate_left; ·intro w'; go_simp; with_reducible rfl
             rotate_left; ·simp only [Act.put, sA, sZ, sS, i64_w, i32_w]; rfl
             refine pt_ ?_ 4 (some 23) (btB 53 31) rfl rfl HT_.out (by kernel_rfl) qq_ (Or.inl ⟨by rfl, ?_⟩) ?_ ?_ ?_
             rotate_left; ·intro w'; go_simp; with_reducible rfl
             rotate_left; ·simp only [Act.put, sA, sZ, sS, i64_w, i32_w]; rfl
             refine take_ (i := 5) (N := some 24) (v := ?_) (a' := ?_) (btB 53 63) rfl rfl (take_ofW HT_.out HW_.out (by kernel_rfl)) (fun _ _ _ h => h) (Or.inl ⟨by rfl, ?_⟩) hHeld ?_ ?_
             rotate_left; ·rintro w' ⟨s0, s1, s2, s3, s4, s5, s6, s7, s8, s9⟩; go_simp; with_reducible rfl
             rotate_left; ·simp only [Act.put, sA, sZ, sS, i64_w, i32_w]; rfl
             refine pt_ ?_ 6 (some 25) (btB 53 127) rfl rfl HT_.out (by kernel_rfl) qq_ (Or.inl ⟨by rfl, ?_⟩) ?_ ?_ ?_
             rotate_left; ·intro w'; go_simp; with_reducible rfl
             rotate_left; ·simp only [Act.put, sA, sZ, sS, i64_w, i32_w]; rfl
             refine pt_ ?_ 7 (some 26) (btB 53 255) rfl rfl HT_.out (by kernel_rfl) qq_ (Or.inl ⟨by rfl, ?_⟩) ?_ ?_ ?_
             rotate_left; ·intro w'; go_simp; with_reducible rfl
             rotate_left; ·simp only [Act.put, sA, sZ, sS, i64_w, i32_w]; rfl
             refine pt_ ?_ 8 (some 27) (btB 53 511) rfl rfl HT_.out (by kernel_rfl) qq_ (Or.inl ⟨by rfl, ?_⟩) ?_ ?_ ?_
             rotate_left; ·intro w'; go_simp; with_reducible rfl
             rotate_left; ·simp only [Act.put, sA, sZ, sS, i64_w, i32_w]; rfl
             refine pt_ ?_ 9 (some 28) (btB 53 1023) rfl rfl HT_.out (by kernel_rfl) qq_ (Or.inl ⟨by rfl, ?_⟩) ?_ ?_ ?_
             rotate_left; ·intro w'; go_simp; with_reducible rfl
             rotate_left; ·simp only [Act.put, sA, sZ, sS, i64_w, i32_w]; rfl
             refine pt_ ?_ 10 (some 29) (btB 53 2047) rfl rfl HT_.out (by kernel_rfl) qq_ (Or.inl ⟨by rfl, ?_⟩) ?_ ?_ ?_
             rotate_left; ·intro w'; go_simp; with_reducible rfl
             rotate_left; ·simp only [Act.put, sA, sZ, sS, i64_w, i32_w]; rfl
             refine pt_ ?_ 11 (some 30) (btB 53 4095) rfl rfl HT_.out (by kernel_rfl) qq_ (Or.inl ⟨by rfl, ?_⟩) ?_ ?_ ?_
             rotate_left; ·intro w'; go_simp; with_reducible rfl
             rotate_left; ·simp only [Act.put, sA, sZ, sS, i64_w, i32_w]; rfl
             refine pt_ ?_ 12 (some 31) (btB 53 8191) rfl rfl HT_.out (by kernel_rfl) qq_ (Or.inl ⟨by rfl, ?_⟩) ?_ ?_ ?_
             rotate_left; ·intro w'; go_simp; with_reducible rfl
             rotate_left; ·simp only [Act.put, sA, sZ, sS, i64_w, i32_w]; rfl
             refine pt_ ?_ 14 (some 33) (btB 53 24575) rfl rfl HT_.out (by kernel_rfl) qq_ (Or.inl ⟨by rfl, ?_⟩) ?_ ?_ ?_
             rotate_left; ·intro w'; go_simp; with_reducible rfl
             rotate_left; ·simp only [Act.put, sA, sZ, sS, i64_w, i32_w]; rfl
             refine pt_ ?_ 15 (some 34) (btB 53 57343) rfl rfl HT_.out (by kernel_rfl) qq_ (Or.inl ⟨by rfl, ?_⟩) ?_ ?_ ?_
             rotate_left; ·intro w'; go_simp; with_reducible rfl
             rotate_left; ·simp only [Act.put, sA, sZ, sS, i64_w, i32_w]; rfl
             refine pt_ ?_ 16 (some 35) (btB 53 122879) rfl rfl HT_.out (by kernel_rfl) qq_ (Or.inl ⟨by rfl, ?_⟩) ?_ ?_ ?_
             rotate_left; ·intro w'; go_simp; with_reducible rfl
             rotate_left; ·simp only [Act.put, sA, sZ, sS, i64_w, i32_w]; rfl
             refine pt_ ?_ 17 (some 36) (btB 53 253951) rfl rfl HT_.out (by kernel_rfl) qq_ (Or.inl ⟨by rfl, ?_⟩) ?_ ?_ ?_
             rotate_left; ·intro w'; go_simp; with_reducible rfl
             rotate_left; ·simp only [Act.put, sA, sZ, sS, i64_w, i32_w]; rfl
             refine pt_ ?_ 18 (some 37) (btB 53 516095) rfl rfl HT_.out (by kernel_rfl) qq_ (Or.inl ⟨by rfl, ?_⟩) ?_ ?_ ?_
             rotate_left; ·intro w'; go_simp; with_reducible rfl
             rotate_left; ·simp only [Act.put, sA, sZ, sS, i64_w, i32_w]; rfl
             refine take_ (i := 13) (N := some 32) (v := ?_) (a' := ?_) (btB 53 524287) rfl rfl (take_ofW HT_.out HW_.out (by kernel_rfl)) (fun _ _ _ h => h) (Or.inl ⟨by rfl, ?_⟩) hHeld ?_ ?_
             rotate_left; ·rintro w' ⟨s0, s1, s2, s3, s4, s5, s6, s7, s8, s9⟩; go_simp; with_reducible rfl
             rotate_left; ·simp only [Act.put, sA, sZ, sS, i64_w, i32_w]; rfl
             refine take_ (i := 19) (N := some 38) (v := ?_) (a' := ?_) (btB 53 1048575) rfl rfl (take_ofW HT_.out HW_.out (by kernel_rfl)) (fun _ _ _ h => h) (Or.inl ⟨by rfl, ?_⟩) hHeld ?_ ?_
             rotate_left; ·rintro w' ⟨s0, s1, s2, s3, s4, s5, s6, s7, s8, s9⟩; go_simp; with_reducible rfl
             rotate_left; ·simp only [Act.put, sA, sZ, sS, i64_w, i32_w]; rfl
             refine pt_ ?_ 20 (some 39) (btB 53 2097151) rfl rfl HT_.out (by kernel_rfl) qq_ (Or.inl ⟨by rfl, ?_⟩) ?_ ?_ ?_
             rotate_left; ·intro w'; go_simp; with_reducible rfl
             rotate_left; ·simp only [Act.put, sA, sZ, sS, i64_w, i32_w]; rfl
             refine pt_ ?_ 21 (some 40) (btB 53 4194303) rfl rfl HT_.out (by kernel_rfl) qq_ (Or.inl ⟨by rfl, ?_⟩) ?_ ?_ ?_
             rotate_left; ·intro w'; go_simp; with_reducible rfl
             rotate_left; ·simp only [Act.put, sA, sZ, sS, i64_w, i32_w]; rfl
             refine pt_ ?_ 22 (some 41) (btB 53 8388607) rfl rfl HT_.out (by kernel_rfl) qq_ (Or.inl ⟨by rfl, ?_⟩) ?_ ?_ ?_
             rotate_left; ·intro w'; go_simp; with_reducible rfl
             rotate_left; ·simp only [Act.put, sA, sZ, sS, i64_w, i32_w]; rfl
             refine pt_ ?_ 23 (some 42) (btB 53 16777215) rfl rfl HT_.out (by kernel_rfl) qq_ (Or.inl ⟨by rfl, ?_⟩) ?_ ?_ ?_
             rotate_left; ·intro w'; go_simp; with_reducible rfl
             rotate_left; ·simp only [Act.put, sA, sZ, sS, i64_w, i32_w]; rfl
             refine pt_ undef 24 (some 43) (btB 53 33554431) rfl rfl HT_.out (by kernel_rfl) qq_ (Or.inr ⟨by rfl, rfl⟩) ?_ ?_ ?_
             rotate_left; ·simp only [Act.put, sA, sZ, sS, i64_w, i32_w]; rfl
             refine pt_ undef 25 (some 44) (btB 53 67108863) rfl rfl HT_.out (by kernel_rfl) qq_ (Or.inr ⟨by rfl, rfl⟩) ?_ ?_ ?_
             rotate_left; ·simp only [Act.put, sA, sZ, sS, i64_w, i32_w]; rfl
             refine pt_ undef 26 (some 45) (btB 53 134217727) rfl rfl HT_.out (by kernel_rfl) qq_ (Or.inr ⟨by rfl, rfl⟩) ?_ ?_ ?_
             rotate_left; ·simp only [Act.put, sA, sZ, sS, i64_w, i32_w]; rfl
             refine pt_ undef 27 (some 46) (btB 53 268435455) rfl rfl HT_.out (by kernel_rfl) qq_ (Or.inr ⟨by rfl, rfl⟩) ?_ ?_ ?_
             rotate_left; ·simp only [Act.put, sA, sZ, sS, i64_w, i32_w]; rfl
             refine pt_ ?_ 28 (some 47) (btB 53 536870911) rfl rfl HT_.out (by kernel_rfl) qq_ (Or.inl ⟨by rfl, ?_⟩) ?_ ?_ ?_
             rotate_left; ·intro w'; go_simp; with_reducible rfl
             rotate_left; ·simp only [Act.put, sA, sZ, sS, i64_w, i32_w]; rfl
             refine pt_ ?_ 29 (some 48) (btB 53 1073741823) rfl rfl HT_.out (by kernel_rfl) qq_ (Or.inl ⟨by rfl, ?_⟩) ?_ ?_ ?_
             rotate_left; ·intro w'; go_simp; with_reducible rfl
             rotate_left; ·simp only [Act.put, sA, sZ, sS, i64_w, i32_w]; rfl
             refine pt_ undef 30 (some 49) (btB 53 2147483647) rfl rfl HT_.out (by kernel_rfl) qq_ (Or.inr ⟨by rfl, rfl⟩) ?_ ?_ ?_
             rotate_left; ·simp only [Act.put, sA, sZ, sS, i64_w, i32_w]; rfl
             refine pt_ undef 31 (some 50) (btB 53 4294967295) rfl rfl HT_.out (by kernel_rfl) qq_ (Or.inr ⟨by rfl, rfl⟩) ?_ ?_ ?_
             rotate_left; ·simp only [Act.put, sA, sZ, sS, i64_w, i32_w]; rfl
             refine pt_ undef 32 (some 51) (btB 53 8589934591) rfl rfl HT_.out (by kernel_rfl) qq_ (Or.inr ⟨by rfl, rfl⟩) ?_ ?_ ?_
             rotate_left; ·simp only [Act.put, sA, sZ, sS, i64_w, i32_w]; rfl
             refine pt_ undef 33 (some 52) (btB 53 17179869183) rfl rfl HT_.out (by kernel_rfl) qq_ (Or.inr ⟨by rfl, rfl⟩) ?_ ?_ ?_
             rotate_left; ·simp only [Act.put, sA, sZ, sS, i64_w, i32_w]; rfl
             refine pt_ ?_ 34 (some 53) (btB 53 34359738367) rfl rfl HT_.out (by kernel_rfl) qq_ (Or.inl ⟨by rfl, ?_⟩) ?_ ?_ ?_
             rotate_left; ·intro w'; go_simp; with_reducible rfl
             rotate_left; ·simp only [Act.put, sA, sZ, sS, i64_w, i32_w]; rfl
             refine pt_ ?_ 35 (some 54) (btB 53 68719476735) rfl rfl HT_.out (by kernel_rfl) qq_ (Or.inl ⟨by rfl, ?_⟩) ?_ ?_ ?_
             rotate_left; ·intro w'; go_simp; with_reducible rfl
             rotate_left; ·simp only [Act.put, sA, sZ, sS, i64_w, i32_w]; rfl
             refine pt_ undef 36 (some 55) (btB 53 137438953471) rfl rfl HT_.out (by kernel_rfl) qq_ (Or.inr ⟨by rfl, rfl⟩) ?_ ?_ ?_
             rotate_left; ·simp only [Act.put, sA, sZ, sS, i64_w, i32_w]; rfl
             refine pt_ undef 37 (some 56) (btB 53 274877906943) rfl rfl HT_.out (by kernel_rfl) qq_ (Or.inr ⟨by rfl, rfl⟩) ?_ ?_ ?_
             rotate_left; ·simp only [Act.put, sA, sZ, sS, i64_w, i32_w]; rfl
             refine pt_ undef 38 (some 57) (btB 53 549755813887) rfl rfl HT_.out (by kernel_rfl) qq_ (Or.inr ⟨by rfl, rfl⟩) ?_ ?_ ?_
             rotate_left; ·simp only [Act.put, sA, sZ, sS, i64_w, i32_w]; rfl
             refine pt_ undef 39 (some 58) (btB 53 1099511627775) rfl rfl HT_.out (by kernel_rfl) qq_ (Or.inr ⟨by rfl, rfl⟩) ?_ ?_ ?_
             rotate_left; ·simp only [Act.put, sA, sZ, sS, i64_w, i32_w]; rfl
             refine pt_ undef 40 (some 59) (btB 53 2199023255551) rfl rfl HT_.out (by kernel_rfl) qq_ (Or.inr ⟨by rfl, rfl⟩) ?_ ?_ ?_
             rotate_left; ·simp only [Act.put, sA, sZ, sS, i64_w, i32_w]; rfl
             refine pt_ undef 41 (some 60) (btB 53 4398046511103) rfl rfl HT_.out (by kernel_rfl) qq_ (Or.inr ⟨by rfl, rfl⟩) ?_ ?_ ?_
             rotate_left; ·simp only [Act.put, sA, sZ, sS, i64_w, i32_w]; rfl
             refine pt_ undef 42 (some 61) (btB 53 8796093022207) rfl rfl HT_.out (by kernel_rfl) qq_ (Or.inr ⟨by rfl, rfl⟩) ?_ ?_ ?_
             rotate_left; ·simp only [Act.put, sA, sZ, sS, i64_w, i32_w]; rfl
             refine pt_ ?_ 43 (some 62) (btB 53 17592186044415) rfl rfl HT_.out (by kernel_rfl) qq_ (Or.inl ⟨by rfl, ?_⟩) ?_ ?_ ?_
             rotate_left; ·intro w'; go_simp; with_reducible rfl
             rotate_left; ·simp only [Act.put, sA, sZ, sS, i64_w, i32_w]; rfl
             refine pt_ ?_ 44 (some 63) (btB 53 35184372088831) rfl rfl HT_.out (by kernel_rfl) qq_ (Or.inl ⟨by rfl, ?_⟩) ?_ ?_ ?_
             rotate_left; ·intro w'; go_simp; with_reducible rfl
             rotate_left; ·simp only [Act.put, sA, sZ, sS, i64_w, i32_w]; rfl
             refine pt_ undef 45 (some 64) (btB 53 70368744177663) rfl rfl HT_.out (by kernel_rfl) qq_ (Or.inr ⟨by rfl, rfl⟩) ?_ ?_ ?_
             rotate_left; ·simp only [Act.put, sA, sZ, sS, i64_w, i32_w]; rfl
             refine pt_ undef 46 (some 65) (btB 53 140737488355327) rfl rfl HT_.out (by kernel_rfl) qq_ (Or.inr ⟨by rfl, rfl⟩) ?_ ?_ ?_
             rotate_left; ·simp only [Act.put, sA, sZ, sS, i64_w, i32_w]; rfl
             refine pt_ undef 47 (some 66) (btB 53 281474976710655) rfl rfl HT_.out (by kernel_rfl) qq_ (Or.inr ⟨by rfl, rfl⟩) ?_ ?_ ?_
             rotate_left; ·simp only [Act.put, sA, sZ, sS, i64_w, i32_w]; rfl
             refine pt_ undef 48 (some 67) (btB 53 562949953421311) rfl rfl HT_.out (by kernel_rfl) qq_ (Or.inr ⟨by rfl, rfl⟩) ?_ ?_ ?_
             rotate_left; ·simp only [Act.put, sA, sZ, sS, i64_w, i32_w]; rfl
             refine pt_ undef 49 (some 68) (btB 53 1125899906842623) rfl rfl HT_.out (by kernel_rfl) qq_ (Or.inr ⟨by rfl, rfl⟩) ?_ ?_ ?_
             rotate_left; ·simp only [Act.put, sA, sZ, sS, i64_w, i32_w]; rfl
             refine pt_ undef 50 (some 69) (btB 53 2251799813685247) rfl rfl HT_.out (by kernel_rfl) qq_ (Or.inr ⟨by rfl, rfl⟩) ?_ ?_ ?_
             rotate_left; ·simp only [Act.put, sA, sZ, sS, i64_w, i32_w]; rfl
             refine pt_ undef 51 (some 70) (btB 53 4503599627370495) rfl rfl HT_.out (by kernel_rfl) qq_ (Or.inr ⟨by rfl, rfl⟩) ?_ ?_ ?_
             rotate_left; ·simp only [Act.put, sA, sZ, sS, i64_w, i32_w]; rfl
             refine pt_ ?_ 52 (some 71) (btB 53 9007199254740991) rfl rfl HT_.out (by kernel_rfl) qq_ (Or.inl ⟨by rfl, ?_⟩) ?_ ?_ ?_
             rotate_left; ·intro w'; go_simp; with_reducible rfl
             rotate_left; ·simp only [Act.put, sA, sZ, sS, i64_w, i32_w]; rfl
             refine done_ (done_of HT_.out (by kernel_rfl)) ?_
             try go_wp2
             go_meet
             case rel => exact ⟨_, (true), (by first | rfl | (simp; done) | (simp [*]; done)), H', ⟨by have := HK1.out; first | omega | exact Nat.le_refl _⟩, ⟨by (with_reducible repeat (first | refine blk_drewN ?_ _ | refine blk_drew ?_ | refine blk_alloc ?_ _)); exact BK102.out⟩, ⟨by repeat (first | (with_reducible first | exact HB.out | apply below_alloc | apply pw_below_drewN | apply below_drew1 | refine below_set ?_ GE102.out) | exact HB.out)⟩⟩
            ·rw [if_neg c18] at H
             have c18b0 : decide (((rd_T110 l0 x3_1).f0) ≤ ((rd_T110 l0 (ji15)).f0)) = false := decide_eq_false c18
             clear c18
             replace H := Option.bind_eq_some_iff.mp H
             obtain ⟨t104, A210, H⟩ := H
             replace H : (if t104 = true then ((tallymanref03_Small.f ((rd_T110 l0 x3_1).f2.f0) ((rd_T110 l0 x3_1).f2.f1) 1000).bind fun t105 => (if t105 = true then (if ((rd_T110 l0 x3_1).f1.f0) > ((rd_T110 l0 x3_1).f2.f0) then (tallymanref07_Right.j1 k1 l0 x3_1 true ((rd_T110 l0 x3_1).f0) ((rd_T110 l0 x3_1).f1.f0) ((rd_T110 l0 x3_1).f1.f1) ((rd_T110 l0 x3_1).f2.f0) ((rd_T110 l0 x3_1).f2.f1)) else (tallymanref07_Right.j1 k1 l0 x3_1 (decide (((rd_T110 l0 x3_1).f1.f1) > ((rd_T110 l0 x3_1).f2.f1))) ((rd_T110 l0 x3_1).f0) ((rd_T110 l0 x3_1).f1.f0) ((rd_T110 l0 x3_1).f1.f1) ((rd_T110 l0 x3_1).f2.f0) ((rd_T110 l0 x3_1).f2.f1))) else (tallymanref07_Right.j1 k1 l0 x3_1 true ((rd_T110 l0 x3_1).f0) ((rd_T110 l0 x3_1).f1.f0) ((rd_T110 l0 x3_1).f1.f1) ((rd_T110 l0 x3_1).f2.f0) ((rd_T110 l0 x3_1).f2.f1)))) else (tallymanref07_Right.j1 k1 l0 x3_1 true ((rd_T110 l0 x3_1).f0) ((rd_T110 l0 x3_1).f1.f0) ((rd_T110 l0 x3_1).f1.f1) ((rd_T110 l0 x3_1).f2.f0) ((rd_T110 l0 x3_1).f2.f1))) = some r := H
             have A21 := Aside0.mk A210
             clear A210
             by_cases c22 : t104 = true
             ·subst c22
              have H1 : ((tallymanref03_Small.f ((rd_T110 l0 x3_1).f2.f0) ((rd_T110 l0 x3_1).f2.f1) 1000).bind fun t105 => (if t105 = true then (if ((rd_T110 l0 x3_1).f1.f0) > ((rd_T110 l0 x3_1).f2.f0) then (tallymanref07_Right.j1 k1 l0 x3_1 true ((rd_T110 l0 x3_1).f0) ((rd_T110 l0 x3_1).f1.f0) ((rd_T110 l0 x3_1).f1.f1) ((rd_T110 l0 x3_1).f2.f0) ((rd_T110 l0 x3_1).f2.f1)) else (tallymanref07_Right.j1 k1 l0 x3_1 (decide (((rd_T110 l0 x3_1).f1.f1) > ((rd_T110 l0 x3_1).f2.f1))) ((rd_T110 l0 x3_1).f0) ((rd_T110 l0 x3_1).f1.f0) ((rd_T110 l0 x3_1).f1.f1) ((rd_T110 l0 x3_1).f2.f0) ((rd_T110 l0 x3_1).f2.f1))) else (tallymanref07_Right.j1 k1 l0 x3_1 true ((rd_T110 l0 x3_1).f0) ((rd_T110 l0 x3_1).f1.f0) ((rd_T110 l0 x3_1).f1.f1) ((rd_T110 l0 x3_1).f2.f0) ((rd_T110 l0 x3_1).f2.f1)))) = some r := by rw [if_pos rfl] at H; exact H
              clear H
              have H := H1
              clear H1
              replace H := Option.bind_eq_some_iff.mp H
              obtain ⟨t105, A230, H⟩ := H
              replace H : (if t105 = true then (if ((rd_T110 l0 x3_1).f1.f0) > ((rd_T110 l0 x3_1).f2.f0) then (tallymanref07_Right.j1 k1 l0 x3_1 true ((rd_T110 l0 x3_1).f0) ((rd_T110 l0 x3_1).f1.f0) ((rd_T110 l0 x3_1).f1.f1) ((rd_T110 l0 x3_1).f2.f0) ((rd_T110 l0 x3_1).f2.f1)) else (tallymanref07_Right.j1 k1 l0 x3_1 (decide (((rd_T110 l0 x3_1).f1.f1) > ((rd_T110 l0 x3_1).f2.f1))) ((rd_T110 l0 x3_1).f0) ((rd_T110 l0 x3_1).f1.f0) ((rd_T110 l0 x3_1).f1.f1) ((rd_T110 l0 x3_1).f2.f0) ((rd_T110 l0 x3_1).f2.f1))) else (tallymanref07_Right.j1 k1 l0 x3_1 true ((rd_T110 l0 x3_1).f0) ((rd_T110 l0 x3_1).f1.f0) ((rd_T110 l0 x3_1).f1.f1) ((rd_T110 l0 x3_1).f2.f0) ((rd_T110 l0 x3_1).f2.f1))) = some r := H
              have A23 := Aside0.mk A230
              clear A230
              by_cases c24 : t105 = true
              ·subst c24
               have H1 : (if ((rd_T110 l0 x3_1).f1.f0) > ((rd_T110 l0 x3_1).f2.f0) then (tallymanref07_Right.j1 k1 l0 x3_1 true ((rd_T110 l0 x3_1).f0) ((rd_T110 l0 x3_1).f1.f0) ((rd_T110 l0 x3_1).f1.f1) ((rd_T110 l0 x3_1).f2.f0) ((rd_T110 l0 x3_1).f2.f1)) else (tallymanref07_Right.j1 k1 l0 x3_1 (decide (((rd_T110 l0 x3_1).f1.f1) > ((rd_T110 l0 x3_1).f2.f1))) ((rd_T110 l0 x3_1).f0) ((rd_T110 l0 x3_1).f1.f0) ((rd_T110 l0 x3_1).f1.f1) ((rd_T110 l0 x3_1).f2.f0) ((rd_T110 l0 x3_1).f2.f1))) = some r := by rw [if_pos rfl] at H; exact H
               clear H
               have H := H1
               clear H1
               by_cases c25 : ((rd_T110 l0 x3_1).f1.f0) > ((rd_T110 l0 x3_1).f2.f0)
               ·rw [if_pos c25] at H
                have c25b0 : decide (((rd_T110 l0 x3_1).f2.f0) < ((rd_T110 l0 x3_1).f1.f0)) = true := decide_eq_true c25
                clear c25
                have H' := Aside0.mk H
                clear H
                try go_wp2
                have n0_ : Aside0 ((((((w6.setCell ⟨gb102, 0, none⟩ (.int .i64 ((rd_T110 l0 x3_1).f0))).setCell ⟨gb102, 1, none⟩ (.int .i64 ((rd_T110 l0 x3_1).f1.f0))).setCell ⟨gb102, 2, none⟩ (.int .i64 ((rd_T110 l0 x3_1).f1.f1))).setCell ⟨gb102, 3, none⟩ (.int .i64 ((rd_T110 l0 x3_1).f2.f0))).setCell ⟨gb102, 4, none⟩ (.int .i64 ((rd_T110 l0 x3_1).f2.f1))).heap[gb102]? = some (.cells #[.int .i64 ((rd_T110 l0 x3_1).f0), .int .i64 ((rd_T110 l0 x3_1).f1.f0), .int .i64 ((rd_T110 l0 x3_1).f1.f1), .int .i64 ((rd_T110 l0 x3_1).f2.f0), .int .i64 ((rd_T110 l0 x3_1).f2.f1)] 110 (0, 0))) := ⟨by (with_reducible repeat (first | refine blk_drewN ?_ _ | refine blk_drew ?_ | refine blk_alloc ?_ _)); refine blk_put (cs := #[.int .i64 ((rd_T110 l0 x3_1).f0), .int .i64 ((rd_T110 l0 x3_1).f1.f0), .int .i64 ((rd_T110 l0 x3_1).f1.f1), .int .i64 ((rd_T110 l0 x3_1).f2.f0), .int .i64 0]) ?_ 4 _ rfl; (with_reducible repeat (first | refine blk_drewN ?_ _ | refine blk_drew ?_ | refine blk_alloc ?_ _)); refine blk_put (cs := #[.int .i64 ((rd_T110 l0 x3_1).f0), .int .i64 ((rd_T110 l0 x3_1).f1.f0), .int .i64 ((rd_T110 l0 x3_1).f1.f1), .int .i64 0, .int .i64 0]) ?_ 3 _ rfl; (with_reducible repeat (first | refine blk_drewN ?_ _ | refine blk_drew ?_ | refine blk_alloc ?_ _)); refine blk_put (cs := #[.int .i64 ((rd_T110 l0 x3_1).f0), .int .i64 ((rd_T110 l0 x3_1).f1.f0), .int .i64 0, .int .i64 0, .int .i64 0]) ?_ 2 _ rfl; (with_reducible repeat (first | refine blk_drewN ?_ _ | refine blk_drew ?_ | refine blk_alloc ?_ _)); refine blk_put (cs := #[.int .i64 ((rd_T110 l0 x3_1).f0), .int .i64 0, .int .i64 0, .int .i64 0, .int .i64 0]) ?_ 1 _ rfl; (with_reducible repeat (first | refine blk_drewN ?_ _ | refine blk_drew ?_ | refine blk_alloc ?_ _)); refine blk_put (cs := #[.int .i64 0, .int .i64 0, .int .i64 0, .int .i64 0, .int .i64 0]) ?_ 0 _ rfl; (with_reducible repeat (first | refine blk_drewN ?_ _ | refine blk_drew ?_ | refine blk_alloc ?_ _)); exact BK102.out⟩
                have n1_ : Aside0 (Below w.heap.size w (((((w6.setCell ⟨gb102, 0, none⟩ (.int .i64 ((rd_T110 l0 x3_1).f0))).setCell ⟨gb102, 1, none⟩ (.int .i64 ((rd_T110 l0 x3_1).f1.f0))).setCell ⟨gb102, 2, none⟩ (.int .i64 ((rd_T110 l0 x3_1).f1.f1))).setCell ⟨gb102, 3, none⟩ (.int .i64 ((rd_T110 l0 x3_1).f2.f0))).setCell ⟨gb102, 4, none⟩ (.int .i64 ((rd_T110 l0 x3_1).f2.f1)))) := ⟨by repeat (first | (with_reducible first | exact HB.out | apply below_alloc | apply pw_below_drewN | apply below_drew1 | refine below_set ?_ GE102.out) | exact HB.out)⟩
                (try clear BK102)
                (try clear HB)
                generalize (((((w6.setCell ⟨gb102, 0, none⟩ (.int .i64 ((rd_T110 l0 x3_1).f0))).setCell ⟨gb102, 1, none⟩ (.int .i64 ((rd_T110 l0 x3_1).f1.f0))).setCell ⟨gb102, 2, none⟩ (.int .i64 ((rd_T110 l0 x3_1).f1.f1))).setCell ⟨gb102, 3, none⟩ (.int .i64 ((rd_T110 l0 x3_1).f2.f0))).setCell ⟨gb102, 4, none⟩ (.int .i64 ((rd_T110 l0 x3_1).f2.f1))) = w26 at n0_ n1_ ⊢
                have BK102 := n0_
                have HB := n1_
                clear n0_ n1_
                have n0_ := Aside0.mk (blk_drew BK102.out)
                have n1_ := Aside0.mk (below_drew1 HB.out)
                clear BK102
                clear HB
                have BK102 := n0_
                have HB := n1_
                clear n0_ n1_
                have p103 : 0 ≤ ((ji15) : Int) := of_decide_eq_true (by first | (with_reducible assumption) | assumption)
                have q103 : (ji15) < (l0.length : Int) := of_decide_eq_true (by first | (with_reducible assumption) | assumption)
                obtain ⟨ad103, e103, hx103_0, hx103_1, hx103_2, hx103_3, hx103_4⟩ := at_T110 HR0.out (ji15) p103 q103
                have hw103_4 := hx103_4
                have hw103_3 := hx103_3
                have hw103_2 := hx103_2
                have hw103_1 := hx103_1
                have hw103_0 := hx103_0
                obtain rfl : ad101 = ad103 := (by injection e103)
                replace hx103_0 := (HB.out.cell (World.block_lt_of_cell? w _ hx103_0)).trans hx103_0
                replace hx103_1 := (HB.out.cell (World.block_lt_of_cell? w _ hx103_1)).trans hx103_1
                replace hx103_2 := (HB.out.cell (World.block_lt_of_cell? w _ hx103_2)).trans hx103_2
                replace hx103_3 := (HB.out.cell (World.block_lt_of_cell? w _ hx103_3)).trans hx103_3
                replace hx103_4 := (HB.out.cell (World.block_lt_of_cell? w _ hx103_4)).trans hx103_4
                replace p103 := eq_true p103
                replace q103 := eq_true q103
                refine start_ (n := 53) (S := fun w' => w'.cell? ⟨gb102, 0, none⟩ = some (.int .i64 ((rd_T110 l0 x3_1).f0)) ∧ w'.cell? ⟨gb102, 1, none⟩ = some (.int .i64 ((rd_T110 l0 x3_1).f1.f0)) ∧ w'.cell? ⟨gb102, 2, none⟩ = some (.int .i64 ((rd_T110 l0 x3_1).f1.f1)) ∧ w'.cell? ⟨gb102, 3, none⟩ = some (.int .i64 ((rd_T110 l0 x3_1).f2.f0)) ∧ w'.cell? ⟨gb102, 4, none⟩ = some (.int .i64 ((rd_T110 l0 x3_1).f2.f1)) ∧ w'.cell? (ad101.add (((ji15)).toNat * 5)) = some (.int .i64 ((rd_T110 l0 (ji15)).f0)) ∧ w'.cell? ⟨(ad101.add (((ji15)).toNat * 5)).block, (ad101.add (((ji15)).toNat * 5)).off + 1, none⟩ = some (.int .i64 ((rd_T110 l0 (ji15)).f1.f0)) ∧ w'.cell? ⟨(ad101.add (((ji15)).toNat * 5)).block, (ad101.add (((ji15)).toNat * 5)).off + 2, none⟩ = some (.int .i64 ((rd_T110 l0 (ji15)).f1.f1)) ∧ w'.cell? ⟨(ad101.add (((ji15)).toNat * 5)).block, (ad101.add (((ji15)).toNat * 5)).off + 3, none⟩ = some (.int .i64 ((rd_T110 l0 (ji15)).f2.f0)) ∧ w'.cell? ⟨(ad101.add (((ji15)).toNat * 5)).block, (ad101.add (((ji15)).toNat * 5)).off + 4, none⟩ = some (.int .i64 ((rd_T110 l0 (ji15)).f2.f1))) (ds := []) (btB 53 0) (by kernel_rfl) rfl rfl ⟨(blk_cell BK102.out 0).trans rfl, (blk_cell BK102.out 1).trans rfl, (blk_cell BK102.out 2).trans rfl, (blk_cell BK102.out 3).trans rfl, (blk_cell BK102.out 4).trans rfl, ((HB.out.cell (World.block_lt_of_cell? w _ hw103_0)).trans hw103_0), ((HB.out.cell (World.block_lt_of_cell? w _ hw103_1)).trans hw103_1), ((HB.out.cell (World.block_lt_of_cell? w _ hw103_2)).trans hw103_2), ((HB.out.cell (World.block_lt_of_cell? w _ hw103_3)).trans hw103_3), ((HB.out.cell (World.block_lt_of_cell? w _ hw103_4)).trans hw103_4)⟩ (fun hHeld => ?_); refine with_tabW tallymanref07_Right.tab7 tallymanref07_Right.bits7 (fun HT_ HW_ => ?_)
                generalize w26.drew = w27 at BK102 HB hx103_0 hx103_1 hx103_2 hx103_3 hx103_4 hHeld ⊢
                refine pt_ ?_ 0 (some 19) (btB 53 1) rfl rfl HT_.out (by kernel_rfl) qq_ (Or.inl ⟨by rfl, ?_⟩) ?_ ?_ ?_
                rotate_left; ·intro w'; go_simp; with_reducible rfl
                rotate_left; ·simp only [Act.put, sA, sZ, sS, i64_w, i32_w]; rfl
                refine take_ (i := 1) (N := some 20) (v := ?_) (a' := ?_) (btB 53 3) rfl rfl (take_ofW HT_.out HW_.out (by kernel_rfl)) (fun _ _ _ h => h) (Or.inl ⟨by rfl, ?_⟩) hHeld ?_ ?_
                rotate_left; ·rintro w' ⟨s0, s1, s2, s3, s4, s5, s6, s7, s8, s9⟩; go_simp; with_reducible rfl
                rotate_left; ·simp only [Act.put, sA, sZ, sS, i64_w, i32_w]; rfl
                refine pt_ ?_ 2 (some 21) (btB 53 7) rfl rfl HT_.out (by kernel_rfl) qq_ (Or.inl ⟨by rfl, ?_⟩) ?_ ?_ ?_
                rotate_left; ·intro w'; go_simp; with_reducible rfl
                rotate_left; ·simp only [Act.put, sA, sZ, sS, i64_w, i32_w]; rfl
                refine pt_ ?_ 3 (some 22) (btB 53 15) rfl rfl HT_.out (by kernel_rfl) qq_ (Or.inl ⟨by rfl, ?_⟩) ?_ ?_ ?_
                rotate_left; ·intro w'; go_simp; with_reducible rfl
                rotate_left; ·simp only [Act.put, sA, sZ, sS, i64_w, i32_w]; rfl
                refine pt_ ?_ 4 (some 23) (btB 53 31) rfl rfl HT_.out (by kernel_rfl) qq_ (Or.inl ⟨by rfl, ?_⟩) ?_ ?_ ?_
                rotate_left; ·intro w'; go_simp; with_reducible rfl
                rotate_left; ·simp only [Act.put, sA, sZ, sS, i64_w, i32_w]; rfl
                refine take_ (i := 5) (N := some 24) (v := ?_) (a' := ?_) (btB 53 63) rfl rfl (take_ofW HT_.out HW_.out (by kernel_rfl)) (fun _ _ _ h => h) (Or.inl ⟨by rfl, ?_⟩) hHeld ?_ ?_
                rotate_left; ·rintro w' ⟨s0, s1, s2, s3, s4, s5, s6, s7, s8, s9⟩; go_simp; with_reducible rfl
                rotate_left; ·simp only [Act.put, sA, sZ, sS, i64_w, i32_w]; rfl
                refine pt_ ?_ 6 (some 25) (btB 53 127) rfl rfl HT_.out (by kernel_rfl) qq_ (Or.inl ⟨by rfl, ?_⟩) ?_ ?_ ?_
                rotate_left; ·intro w'; go_simp; with_reducible rfl
                rotate_left; ·simp only [Act.put, sA, sZ, sS, i64_w, i32_w]; rfl
                refine pt_ ?_ 7 (some 26) (btB 53 255) rfl rfl HT_.out (by kernel_rfl) qq_ (Or.inl ⟨by rfl, ?_⟩) ?_ ?_ ?_
                rotate_left; ·intro w'; go_simp; with_reducible rfl
                rotate_left; ·simp only [Act.put, sA, sZ, sS, i64_w, i32_w]; rfl
                refine pt_ ?_ 8 (some 27) (btB 53 511) rfl rfl HT_.out (by kernel_rfl) qq_ (Or.inl ⟨by rfl, ?_⟩) ?_ ?_ ?_
                rotate_left; ·intro w'; go_simp; with_reducible rfl
                rotate_left; ·simp only [Act.put, sA, sZ, sS, i64_w, i32_w]; rfl
                refine pt_ ?_ 9 (some 28) (btB 53 1023) rfl rfl HT_.out (by kernel_rfl) qq_ (Or.inl ⟨by rfl, ?_⟩) ?_ ?_ ?_
                rotate_left; ·intro w'; go_simp; with_reducible rfl
                rotate_left; ·simp only [Act.put, sA, sZ, sS, i64_w, i32_w]; rfl
                refine pt_ ?_ 10 (some 29) (btB 53 2047) rfl rfl HT_.out (by kernel_rfl) qq_ (Or.inl ⟨by rfl, ?_⟩) ?_ ?_ ?_
                rotate_left; ·intro w'; go_simp; with_reducible rfl
                rotate_left; ·simp only [Act.put, sA, sZ, sS, i64_w, i32_w]; rfl
                refine pt_ ?_ 11 (some 30) (btB 53 4095) rfl rfl HT_.out (by kernel_rfl) qq_ (Or.inl ⟨by rfl, ?_⟩) ?_ ?_ ?_
                rotate_left; ·intro w'; go_simp; with_reducible rfl
                rotate_left; ·simp only [Act.put, sA, sZ, sS, i64_w, i32_w]; rfl
                refine pt_ ?_ 12 (some 31) (btB 53 8191) rfl rfl HT_.out (by kernel_rfl) qq_ (Or.inl ⟨by rfl, ?_⟩) ?_ ?_ ?_
                rotate_left; ·intro w'; go_simp; with_reducible rfl
                rotate_left; ·simp only [Act.put, sA, sZ, sS, i64_w, i32_w]; rfl
                refine pt_ ?_ 14 (some 33) (btB 53 24575) rfl rfl HT_.out (by kernel_rfl) qq_ (Or.inl ⟨by rfl, ?_⟩) ?_ ?_ ?_
                rotate_left; ·intro w'; go_simp; with_reducible rfl
                rotate_left; ·simp only [Act.put, sA, sZ, sS, i64_w, i32_w]; rfl
                refine pt_ ?_ 15 (some 34) (btB 53 57343) rfl rfl HT_.out (by kernel_rfl) qq_ (Or.inl ⟨by rfl, ?_⟩) ?_ ?_ ?_
                rotate_left; ·intro w'; go_simp; with_reducible rfl
                rotate_left; ·simp only [Act.put, sA, sZ, sS, i64_w, i32_w]; rfl
                refine pt_ ?_ 16 (some 35) (btB 53 122879) rfl rfl HT_.out (by kernel_rfl) qq_ (Or.inl ⟨by rfl, ?_⟩) ?_ ?_ ?_
                rotate_left; ·intro w'; go_simp; with_reducible rfl
                rotate_left; ·simp only [Act.put, sA, sZ, sS, i64_w, i32_w]; rfl
                refine pt_ ?_ 17 (some 36) (btB 53 253951) rfl rfl HT_.out (by kernel_rfl) qq_ (Or.inl ⟨by rfl, ?_⟩) ?_ ?_ ?_
                rotate_left; ·intro w'; go_simp; with_reducible rfl
                rotate_left; ·simp only [Act.put, sA, sZ, sS, i64_w, i32_w]; rfl
                refine pt_ ?_ 18 (some 37) (btB 53 516095) rfl rfl HT_.out (by kernel_rfl) qq_ (Or.inl ⟨by rfl, ?_⟩) ?_ ?_ ?_
                rotate_left; ·intro w'; go_simp; with_reducible rfl
                rotate_left; ·simp only [Act.put, sA, sZ, sS, i64_w, i32_w]; rfl
                refine take_ (i := 13) (N := some 32) (v := ?_) (a' := ?_) (btB 53 524287) rfl rfl (take_ofW HT_.out HW_.out (by kernel_rfl)) (fun _ _ _ h => h) (Or.inl ⟨by rfl, ?_⟩) hHeld ?_ ?_
                rotate_left; ·rintro w' ⟨s0, s1, s2, s3, s4, s5, s6, s7, s8, s9⟩; go_simp; with_reducible rfl
                rotate_left; ·simp only [Act.put, sA, sZ, sS, i64_w, i32_w]; rfl
                refine take_ (i := 19) (N := some 38) (v := ?_) (a' := ?_) (btB 53 1048575) rfl rfl (take_ofW HT_.out HW_.out (by kernel_rfl)) (fun _ _ _ h => h) (Or.inl ⟨by rfl, ?_⟩) hHeld ?_ ?_
                rotate_left; ·rintro w' ⟨s0, s1, s2, s3, s4, s5, s6, s7, s8, s9⟩; go_simp; with_reducible rfl
                rotate_left; ·simp only [Act.put, sA, sZ, sS, i64_w, i32_w]; rfl
                refine pt_ ?_ 20 (some 39) (btB 53 2097151) rfl rfl HT_.out (by kernel_rfl) qq_ (Or.inl ⟨by rfl, ?_⟩) ?_ ?_ ?_
                rotate_left; ·intro w'; go_simp; with_reducible rfl
                rotate_left; ·simp only [Act.put, sA, sZ, sS, i64_w, i32_w]; rfl
                refine pt_ ?_ 21 (some 40) (btB 53 4194303) rfl rfl HT_.out (by kernel_rfl) qq_ (Or.inl ⟨by rfl, ?_⟩) ?_ ?_ ?_
                rotate_left; ·intro w'; go_simp; with_reducible rfl
                rotate_left; ·simp only [Act.put, sA, sZ, sS, i64_w, i32_w]; rfl
                refine pt_ ?_ 22 (some 41) (btB 53 8388607) rfl rfl HT_.out (by kernel_rfl) qq_ (Or.inl ⟨by rfl, ?_⟩) ?_ ?_ ?_
                rotate_left; ·intro w'; go_simp; with_reducible rfl
                rotate_left; ·simp only [Act.put, sA, sZ, sS, i64_w, i32_w]; rfl
                refine pt_ ?_ 23 (some 42) (btB 53 16777215) rfl rfl HT_.out (by kernel_rfl) qq_ (Or.inl ⟨by rfl, ?_⟩) ?_ ?_ ?_
                rotate_left; ·intro w'; go_simp; with_reducible rfl
                rotate_left; ·simp only [Act.put, sA, sZ, sS, i64_w, i32_w]; rfl
                refine pt_ ?_ 24 (some 43) (btB 53 33554431) rfl rfl HT_.out (by kernel_rfl) qq_ (Or.inl ⟨by rfl, ?_⟩) ?_ ?_ ?_
                rotate_left; ·intro w'; go_simp; with_reducible rfl
                rotate_left; ·simp only [Act.put, sA, sZ, sS, i64_w, i32_w]; rfl
                refine take_ (i := 25) (N := some 44) (v := ?_) (a' := ?_) (btB 53 67108863) rfl rfl (take_ofW HT_.out HW_.out (by kernel_rfl)) (fun _ _ _ h => h) (Or.inl ⟨by rfl, ?_⟩) hHeld ?_ ?_
                rotate_left; ·rintro w' ⟨s0, s1, s2, s3, s4, s5, s6, s7, s8, s9⟩; go_simp; with_reducible rfl
                rotate_left; ·simp only [Act.put, sA, sZ, sS, i64_w, i32_w]; rfl
                refine one_ (i := 26) (N := some 45) (btB 53 134217727) rfl rfl (one_of HT_.out (by kernel_rfl)) (by decide) (fun K hK => ?_)
                refine goes_ Try.func112 (by kernel_rfl) rfl #[.agg #[.int .i64 ((rd_T110 l0 x3_1).f1.f0), .int .i64 ((rd_T110 l0 x3_1).f1.f1)], .int .i64 1000] (by rfl) rfl rfl (by (try simp only [List.map_toArray, List.map_cons, List.map_nil]); first | done | rfl | (simp only [List.length_drop, List.length_take]; rfl)) ?_
                with_reducible refine (tallymanref03_Small.calls ((rd_T110 l0 x3_1).f1.f0) ((rd_T110 l0 x3_1).f1.f1) 1000 true _ A21.out).mono ?_
                rintro e w28 ⟨rfl, hb⟩
                refine ⟨_, rfl, ?_⟩
                have n0_ := Aside0.mk (blk_below (g := gb102) (o := .cells #[.int .i64 ((rd_T110 l0 x3_1).f0), .int .i64 ((rd_T110 l0 x3_1).f1.f0), .int .i64 ((rd_T110 l0 x3_1).f1.f1), .int .i64 ((rd_T110 l0 x3_1).f2.f0), .int .i64 ((rd_T110 l0 x3_1).f2.f1)] 110 (0, 0)) (by (with_reducible repeat (first | refine blk_drewN ?_ _ | refine blk_drew ?_ | refine blk_alloc ?_ _)); exact BK102.out) hb)
                have n1_ := Aside0.mk (below_step (by repeat (first | (with_reducible first | exact HB.out | apply below_alloc | apply pw_below_drewN | apply below_drew1 | refine below_set ?_ GE102.out) | exact HB.out)) hb)
                clear BK102
                clear HB
                have BK102 := n0_
                have HB := n1_
                clear n0_ n1_
                (try clear hb)
                (try clear hb2)
                (try clear hk)
                (try clear hi)
                refine hK.out _ _ ⟨(blk_cell BK102.out 0).trans rfl, (blk_cell BK102.out 1).trans rfl, (blk_cell BK102.out 2).trans rfl, (blk_cell BK102.out 3).trans rfl, (blk_cell BK102.out 4).trans rfl, ((HB.out.cell (World.block_lt_of_cell? w _ hw103_0)).trans hw103_0), ((HB.out.cell (World.block_lt_of_cell? w _ hw103_1)).trans hw103_1), ((HB.out.cell (World.block_lt_of_cell? w _ hw103_2)).trans hw103_2), ((HB.out.cell (World.block_lt_of_cell? w _ hw103_3)).trans hw103_3), ((HB.out.cell (World.block_lt_of_cell? w _ hw103_4)).trans hw103_4)⟩ (fun hHeld => ?_)
                clear hK K
                refine norm_ (a' := ?_) ?_ ?_
                rotate_left; ·show Act.put _ (some 45) _ = _; simp only [Act.put, sA, sZ, sS, i64_w, i32_w]; rfl
                refine pt_ ?_ 27 (some 46) (btB 53 268435455) rfl rfl HT_.out (by kernel_rfl) qq_ (Or.inl ⟨by rfl, ?_⟩) ?_ ?_ ?_
                rotate_left; ·intro w'; go_simp; with_reducible rfl
                rotate_left; ·simp only [Act.put, sA, sZ, sS, i64_w, i32_w]; rfl
                refine pt_ ?_ 28 (some 47) (btB 53 536870911) rfl rfl HT_.out (by kernel_rfl) qq_ (Or.inl ⟨by rfl, ?_⟩) ?_ ?_ ?_
                rotate_left; ·intro w'; go_simp; with_reducible rfl
                rotate_left; ·simp only [Act.put, sA, sZ, sS, i64_w, i32_w]; rfl
                refine pt_ ?_ 29 (some 48) (btB 53 1073741823) rfl rfl HT_.out (by kernel_rfl) qq_ (Or.inl ⟨by rfl, ?_⟩) ?_ ?_ ?_
                rotate_left; ·intro w'; go_simp; with_reducible rfl
                rotate_left; ·simp only [Act.put, sA, sZ, sS, i64_w, i32_w]; rfl
                refine pt_ ?_ 30 (some 49) (btB 53 2147483647) rfl rfl HT_.out (by kernel_rfl) qq_ (Or.inl ⟨by rfl, ?_⟩) ?_ ?_ ?_
                rotate_left; ·intro w'; go_simp; with_reducible rfl
                rotate_left; ·simp only [Act.put, sA, sZ, sS, i64_w, i32_w]; rfl
                refine take_ (i := 31) (N := some 50) (v := ?_) (a' := ?_) (btB 53 4294967295) rfl rfl (take_ofW HT_.out HW_.out (by kernel_rfl)) (fun _ _ _ h => h) (Or.inl ⟨by rfl, ?_⟩) hHeld ?_ ?_
                rotate_left; ·rintro w' ⟨s0, s1, s2, s3, s4, s5, s6, s7, s8, s9⟩; go_simp; with_reducible rfl
                rotate_left; ·simp only [Act.put, sA, sZ, sS, i64_w, i32_w]; rfl
                refine one_ (i := 32) (N := some 51) (btB 53 8589934591) rfl rfl (one_of HT_.out (by kernel_rfl)) (by decide) (fun K hK => ?_)
                refine goes_ Try.func112 (by kernel_rfl) rfl #[.agg #[.int .i64 ((rd_T110 l0 x3_1).f2.f0), .int .i64 ((rd_T110 l0 x3_1).f2.f1)], .int .i64 1000] (by rfl) rfl rfl (by (try simp only [List.map_toArray, List.map_cons, List.map_nil]); first | done | rfl | (simp only [List.length_drop, List.length_take]; rfl)) ?_
                with_reducible refine (tallymanref03_Small.calls ((rd_T110 l0 x3_1).f2.f0) ((rd_T110 l0 x3_1).f2.f1) 1000 true _ A23.out).mono ?_
                rintro e w29 ⟨rfl, hb⟩
                refine ⟨_, rfl, ?_⟩
                have n0_ := Aside0.mk (blk_below (g := gb102) (o := .cells #[.int .i64 ((rd_T110 l0 x3_1).f0), .int .i64 ((rd_T110 l0 x3_1).f1.f0), .int .i64 ((rd_T110 l0 x3_1).f1.f1), .int .i64 ((rd_T110 l0 x3_1).f2.f0), .int .i64 ((rd_T110 l0 x3_1).f2.f1)] 110 (0, 0)) (by (with_reducible repeat (first | refine blk_drewN ?_ _ | refine blk_drew ?_ | refine blk_alloc ?_ _)); exact BK102.out) hb)
                have n1_ := Aside0.mk (below_step (by repeat (first | (with_reducible first | exact HB.out | apply below_alloc | apply pw_below_drewN | apply below_drew1 | refine below_set ?_ GE102.out) | exact HB.out)) hb)
                clear BK102
                clear HB
                have BK102 := n0_
                have HB := n1_
                clear n0_ n1_
                (try clear hb)
                (try clear hb2)
                (try clear hk)
                (try clear hi)
                refine hK.out _ _ ⟨(blk_cell BK102.out 0).trans rfl, (blk_cell BK102.out 1).trans rfl, (blk_cell BK102.out 2).trans rfl, (blk_cell BK102.out 3).trans rfl, (blk_cell BK102.out 4).trans rfl, ((HB.out.cell (World.block_lt_of_cell? w _ hw103_0)).trans hw103_0), ((HB.out.cell (World.block_lt_of_cell? w _ hw103_1)).trans hw103_1), ((HB.out.cell (World.block_lt_of_cell? w _ hw103_2)).trans hw103_2), ((HB.out.cell (World.block_lt_of_cell? w _ hw103_3)).trans hw103_3), ((HB.out.cell (World.block_lt_of_cell? w _ hw103_4)).trans hw103_4)⟩ (fun hHeld => ?_)
                clear hK K
                refine norm_ (a' := ?_) ?_ ?_
                rotate_left; ·show Act.put _ (some 51) _ = _; simp only [Act.put, sA, sZ, sS, i64_w, i32_w]; rfl
                refine pt_ ?_ 33 (some 52) (btB 53 17179869183) rfl rfl HT_.out (by kernel_rfl) qq_ (Or.inl ⟨by rfl, ?_⟩) ?_ ?_ ?_
                rotate_left; ·intro w'; go_simp; with_reducible rfl
                rotate_left; ·simp only [Act.put, sA, sZ, sS, i64_w, i32_w]; rfl
                refine pt_ ?_ 34 (some 53) (btB 53 34359738367) rfl rfl HT_.out (by kernel_rfl) qq_ (Or.inl ⟨by rfl, ?_⟩) ?_ ?_ ?_
                rotate_left; ·intro w'; go_simp; with_reducible rfl
                rotate_left; ·simp only [Act.put, sA, sZ, sS, i64_w, i32_w]; rfl
                refine pt_ ?_ 35 (some 54) (btB 53 68719476735) rfl rfl HT_.out (by kernel_rfl) qq_ (Or.inl ⟨by rfl, ?_⟩) ?_ ?_ ?_
                rotate_left; ·intro w'; go_simp; with_reducible rfl
                rotate_left; ·simp only [Act.put, sA, sZ, sS, i64_w, i32_w]; rfl
                refine pt_ ?_ 36 (some 55) (btB 53 137438953471) rfl rfl HT_.out (by kernel_rfl) qq_ (Or.inl ⟨by rfl, ?_⟩) ?_ ?_ ?_
                rotate_left; ·intro w'; go_simp; with_reducible rfl
                rotate_left; ·simp only [Act.put, sA, sZ, sS, i64_w, i32_w]; rfl
                refine pt_ ?_ 37 (some 56) (btB 53 274877906943) rfl rfl HT_.out (by kernel_rfl) qq_ (Or.inl ⟨by rfl, ?_⟩) ?_ ?_ ?_
                rotate_left; ·intro w'; go_simp; with_reducible rfl
                rotate_left; ·simp only [Act.put, sA, sZ, sS, i64_w, i32_w]; rfl
                refine pt_ ?_ 39 (some 58) (btB 53 824633720831) rfl rfl HT_.out (by kernel_rfl) qq_ (Or.inl ⟨by rfl, ?_⟩) ?_ ?_ ?_
                rotate_left; ·intro w'; go_simp; with_reducible rfl
                rotate_left; ·simp only [Act.put, sA, sZ, sS, i64_w, i32_w]; rfl
                refine pt_ ?_ 40 (some 59) (btB 53 1924145348607) rfl rfl HT_.out (by kernel_rfl) qq_ (Or.inl ⟨by rfl, ?_⟩) ?_ ?_ ?_
                rotate_left; ·intro w'; go_simp; with_reducible rfl
                rotate_left; ·simp only [Act.put, sA, sZ, sS, i64_w, i32_w]; rfl
                refine take_ (i := 38) (N := some 57) (v := ?_) (a' := ?_) (btB 53 2199023255551) rfl rfl (take_ofW HT_.out HW_.out (by kernel_rfl)) (fun _ _ _ h => h) (Or.inl ⟨by rfl, ?_⟩) hHeld ?_ ?_
                rotate_left; ·rintro w' ⟨s0, s1, s2, s3, s4, s5, s6, s7, s8, s9⟩; go_simp; with_reducible rfl
                rotate_left; ·simp only [Act.put, sA, sZ, sS, i64_w, i32_w]; rfl
                refine take_ (i := 41) (N := some 60) (v := ?_) (a' := ?_) (btB 53 4398046511103) rfl rfl (take_ofW HT_.out HW_.out (by kernel_rfl)) (fun _ _ _ h => h) (Or.inl ⟨by rfl, ?_⟩) hHeld ?_ ?_
                rotate_left; ·rintro w' ⟨s0, s1, s2, s3, s4, s5, s6, s7, s8, s9⟩; go_simp; with_reducible rfl
                rotate_left; ·simp only [Act.put, sA, sZ, sS, i64_w, i32_w]; rfl
                refine pt_ ?_ 42 (some 61) (btB 53 8796093022207) rfl rfl HT_.out (by kernel_rfl) qq_ (Or.inl ⟨by rfl, ?_⟩) ?_ ?_ ?_
                rotate_left; ·intro w'; go_simp; with_reducible rfl
                rotate_left; ·simp only [Act.put, sA, sZ, sS, i64_w, i32_w]; rfl
                refine pt_ ?_ 43 (some 62) (btB 53 17592186044415) rfl rfl HT_.out (by kernel_rfl) qq_ (Or.inl ⟨by rfl, ?_⟩) ?_ ?_ ?_
                rotate_left; ·intro w'; go_simp; with_reducible rfl
                rotate_left; ·simp only [Act.put, sA, sZ, sS, i64_w, i32_w]; rfl
                refine pt_ ?_ 44 (some 63) (btB 53 35184372088831) rfl rfl HT_.out (by kernel_rfl) qq_ (Or.inl ⟨by rfl, ?_⟩) ?_ ?_ ?_
                rotate_left; ·intro w'; go_simp; with_reducible rfl
                rotate_left; ·simp only [Act.put, sA, sZ, sS, i64_w, i32_w]; rfl
                refine pt_ undef 45 (some 64) (btB 53 70368744177663) rfl rfl HT_.out (by kernel_rfl) qq_ (Or.inr ⟨by rfl, rfl⟩) ?_ ?_ ?_
                rotate_left; ·simp only [Act.put, sA, sZ, sS, i64_w, i32_w]; rfl
                refine pt_ undef 46 (some 65) (btB 53 140737488355327) rfl rfl HT_.out (by kernel_rfl) qq_ (Or.inr ⟨by rfl, rfl⟩) ?_ ?_ ?_
                rotate_left; ·simp only [Act.put, sA, sZ, sS, i64_w, i32_w]; rfl
                refine pt_ undef 47 (some 66) (btB 53 281474976710655) rfl rfl HT_.out (by kernel_rfl) qq_ (Or.inr ⟨by rfl, rfl⟩) ?_ ?_ ?_
                rotate_left; ·simp only [Act.put, sA, sZ, sS, i64_w, i32_w]; rfl
                refine pt_ undef 48 (some 67) (btB 53 562949953421311) rfl rfl HT_.out (by kernel_rfl) qq_ (Or.inr ⟨by rfl, rfl⟩) ?_ ?_ ?_
                rotate_left; ·simp only [Act.put, sA, sZ, sS, i64_w, i32_w]; rfl
                refine pt_ undef 49 (some 68) (btB 53 1125899906842623) rfl rfl HT_.out (by kernel_rfl) qq_ (Or.inr ⟨by rfl, rfl⟩) ?_ ?_ ?_
                rotate_left; ·simp only [Act.put, sA, sZ, sS, i64_w, i32_w]; rfl
                refine pt_ undef 50 (some 69) (btB 53 2251799813685247) rfl rfl HT_.out (by kernel_rfl) qq_ (Or.inr ⟨by rfl, rfl⟩) ?_ ?_ ?_
                rotate_left; ·simp only [Act.put, sA, sZ, sS, i64_w, i32_w]; rfl
                refine pt_ undef 51 (some 70) (btB 53 4503599627370495) rfl rfl HT_.out (by kernel_rfl) qq_ (Or.inr ⟨by rfl, rfl⟩) ?_ ?_ ?_
                rotate_left; ·simp only [Act.put, sA, sZ, sS, i64_w, i32_w]; rfl
                refine pt_ ?_ 52 (some 71) (btB 53 9007199254740991) rfl rfl HT_.out (by kernel_rfl) qq_ (Or.inl ⟨by rfl, ?_⟩) ?_ ?_ ?_
                rotate_left; ·intro w'; go_simp; with_reducible rfl
                rotate_left; ·simp only [Act.put, sA, sZ, sS, i64_w, i32_w]; rfl
                refine done_ (done_of HT_.out (by kernel_rfl)) ?_
                try go_wp2
                go_meet
                case rel => exact ⟨_, (true), (by first | rfl | (simp; done) | (simp [*]; done)), H', ⟨by have := HK1.out; first | omega | exact Nat.le_refl _⟩, ⟨by (with_reducible repeat (first | refine blk_drewN ?_ _ | refine blk_drew ?_ | refine blk_alloc ?_ _)); exact BK102.out⟩, ⟨by repeat (first | (with_reducible first | exact HB.out | apply below_alloc | apply pw_below_drewN | apply below_drew1 | refine below_set ?_ GE102.out) | exact HB.out)⟩⟩
               ·rw [if_neg c25] at H
                have c25b0 : decide (((rd_T110 l0 x3_1).f2.f0) < ((rd_T110 l0 x3_1).f1.f0)) = false := decide_eq_false c25
                clear c25
                have H' := Aside0.mk H
                clear H
                try go_wp2
                have n0_ : Aside0 ((((((w6.setCell ⟨gb102, 0, none⟩ (.int .i64 ((rd_T110 l0 x3_1).f0))).setCell ⟨gb102, 1, none⟩ (.int .i64 ((rd_T110 l0 x3_1).f1.f0))).setCell ⟨gb102, 2, none⟩ (.int .i64 ((rd_T110 l0 x3_1).f1.f1))).setCell ⟨gb102, 3, none⟩ (.int .i64 ((rd_T110 l0 x3_1).f2.f0))).setCell ⟨gb102, 4, none⟩ (.int .i64 ((rd_T110 l0 x3_1).f2.f1))).heap[gb102]? = some (.cells #[.int .i64 ((rd_T110 l0 x3_1).f0), .int .i64 ((rd_T110 l0 x3_1).f1.f0), .int .i64 ((rd_T110 l0 x3_1).f1.f1), .int .i64 ((rd_T110 l0 x3_1).f2.f0), .int .i64 ((rd_T110 l0 x3_1).f2.f1)] 110 (0, 0))) := ⟨by (with_reducible repeat (first | refine blk_drewN ?_ _ | refine blk_drew ?_ | refine blk_alloc ?_ _)); refine blk_put (cs := #[.int .i64 ((rd_T110 l0 x3_1).f0), .int .i64 ((rd_T110 l0 x3_1).f1.f0), .int .i64 ((rd_T110 l0 x3_1).f1.f1), .int .i64 ((rd_T110 l0 x3_1).f2.f0), .int .i64 0]) ?_ 4 _ rfl; (with_reducible repeat (first | refine blk_drewN ?_ _ | refine blk_drew ?_ | refine blk_alloc ?_ _)); refine blk_put (cs := #[.int .i64 ((rd_T110 l0 x3_1).f0), .int .i64 ((rd_T110 l0 x3_1).f1.f0), .int .i64 ((rd_T110 l0 x3_1).f1.f1), .int .i64 0, .int .i64 0]) ?_ 3 _ rfl; (with_reducible repeat (first | refine blk_drewN ?_ _ | refine blk_drew ?_ | refine blk_alloc ?_ _)); refine blk_put (cs := #[.int .i64 ((rd_T110 l0 x3_1).f0), .int .i64 ((rd_T110 l0 x3_1).f1.f0), .int .i64 0, .int .i64 0, .int .i64 0]) ?_ 2 _ rfl; (with_reducible repeat (first | refine blk_drewN ?_ _ | refine blk_drew ?_ | refine blk_alloc ?_ _)); refine blk_put (cs := #[.int .i64 ((rd_T110 l0 x3_1).f0), .int .i64 0, .int .i64 0, .int .i64 0, .int .i64 0]) ?_ 1 _ rfl; (with_reducible repeat (first | refine blk_drewN ?_ _ | refine blk_drew ?_ | refine blk_alloc ?_ _)); refine blk_put (cs := #[.int .i64 0, .int .i64 0, .int .i64 0, .int .i64 0, .int .i64 0]) ?_ 0 _ rfl; (with_reducible repeat (first | refine blk_drewN ?_ _ | refine blk_drew ?_ | refine blk_alloc ?_ _)); exact BK102.out⟩
                have n1_ : Aside0 (Below w.heap.size w (((((w6.setCell ⟨gb102, 0, none⟩ (.int .i64 ((rd_T110 l0 x3_1).f0))).setCell ⟨gb102, 1, none⟩ (.int .i64 ((rd_T110 l0 x3_1).f1.f0))).setCell ⟨gb102, 2, none⟩ (.int .i64 ((rd_T110 l0 x3_1).f1.f1))).setCell ⟨gb102, 3, none⟩ (.int .i64 ((rd_T110 l0 x3_1).f2.f0))).setCell ⟨gb102, 4, none⟩ (.int .i64 ((rd_T110 l0 x3_1).f2.f1)))) := ⟨by repeat (first | (with_reducible first | exact HB.out | apply below_alloc | apply pw_below_drewN | apply below_drew1 | refine below_set ?_ GE102.out) | exact HB.out)⟩
                (try clear BK102)
                (try clear HB)
                generalize (((((w6.setCell ⟨gb102, 0, none⟩ (.int .i64 ((rd_T110 l0 x3_1).f0))).setCell ⟨gb102, 1, none⟩ (.int .i64 ((rd_T110 l0 x3_1).f1.f0))).setCell ⟨gb102, 2, none⟩ (.int .i64 ((rd_T110 l0 x3_1).f1.f1))).setCell ⟨gb102, 3, none⟩ (.int .i64 ((rd_T110 l0 x3_1).f2.f0))).setCell ⟨gb102, 4, none⟩ (.int .i64 ((rd_T110 l0 x3_1).f2.f1))) = w30 at n0_ n1_ ⊢
                have BK102 := n0_
                have HB := n1_
                clear n0_ n1_
                have n0_ := Aside0.mk (blk_drew BK102.out)
                have n1_ := Aside0.mk (below_drew1 HB.out)
                clear BK102
                clear HB
                have BK102 := n0_
                have HB := n1_
                clear n0_ n1_
                have p103 : 0 ≤ ((ji15) : Int) := of_decide_eq_true (by first | (with_reducible assumption) | assumption)
                have q103 : (ji15) < (l0.length : Int) := of_decide_eq_true (by first | (with_reducible assumption) | assumption)
                obtain ⟨ad103, e103, hx103_0, hx103_1, hx103_2, hx103_3, hx103_4⟩ := at_T110 HR0.out (ji15) p103 q103
                have hw103_4 := hx103_4
                have hw103_3 := hx103_3
                have hw103_2 := hx103_2
                have hw103_1 := hx103_1
                have hw103_0 := hx103_0
                obtain rfl : ad101 = ad103 := (by injection e103)
                replace hx103_0 := (HB.out.cell (World.block_lt_of_cell? w _ hx103_0)).trans hx103_0
                replace hx103_1 := (HB.out.cell (World.block_lt_of_cell? w _ hx103_1)).trans hx103_1
                replace hx103_2 := (HB.out.cell (World.block_lt_of_cell? w _ hx103_2)).trans hx103_2
                replace hx103_3 := (HB.out.cell (World.block_lt_of_cell? w _ hx103_3)).trans hx103_3
                replace hx103_4 := (HB.out.cell (World.block_lt_of_cell? w _ hx103_4)).trans hx103_4
                replace p103 := eq_true p103
                replace q103 := eq_true q103
                refine start_ (n := 53) (S := fun w' => w'.cell? ⟨gb102, 0, none⟩ = some (.int .i64 ((rd_T110 l0 x3_1).f0)) ∧ w'.cell? ⟨gb102, 1, none⟩ = some (.int .i64 ((rd_T110 l0 x3_1).f1.f0)) ∧ w'.cell? ⟨gb102, 2, none⟩ = some (.int .i64 ((rd_T110 l0 x3_1).f1.f1)) ∧ w'.cell? ⟨gb102, 3, none⟩ = some (.int .i64 ((rd_T110 l0 x3_1).f2.f0)) ∧ w'.cell? ⟨gb102, 4, none⟩ = some (.int .i64 ((rd_T110 l0 x3_1).f2.f1)) ∧ w'.cell? (ad101.add (((ji15)).toNat * 5)) = some (.int .i64 ((rd_T110 l0 (ji15)).f0)) ∧ w'.cell? ⟨(ad101.add (((ji15)).toNat * 5)).block, (ad101.add (((ji15)).toNat * 5)).off + 1, none⟩ = some (.int .i64 ((rd_T110 l0 (ji15)).f1.f0)) ∧ w'.cell? ⟨(ad101.add (((ji15)).toNat * 5)).block, (ad101.add (((ji15)).toNat * 5)).off + 2, none⟩ = some (.int .i64 ((rd_T110 l0 (ji15)).f1.f1)) ∧ w'.cell? ⟨(ad101.add (((ji15)).toNat * 5)).block, (ad101.add (((ji15)).toNat * 5)).off + 3, none⟩ = some (.int .i64 ((rd_T110 l0 (ji15)).f2.f0)) ∧ w'.cell? ⟨(ad101.add (((ji15)).toNat * 5)).block, (ad101.add (((ji15)).toNat * 5)).off + 4, none⟩ = some (.int .i64 ((rd_T110 l0 (ji15)).f2.f1))) (ds := []) (btB 53 0) (by kernel_rfl) rfl rfl ⟨(blk_cell BK102.out 0).trans rfl, (blk_cell BK102.out 1).trans rfl, (blk_cell BK102.out 2).trans rfl, (blk_cell BK102.out 3).trans rfl, (blk_cell BK102.out 4).trans rfl, ((HB.out.cell (World.block_lt_of_cell? w _ hw103_0)).trans hw103_0), ((HB.out.cell (World.block_lt_of_cell? w _ hw103_1)).trans hw103_1), ((HB.out.cell (World.block_lt_of_cell? w _ hw103_2)).trans hw103_2), ((HB.out.cell (World.block_lt_of_cell? w _ hw103_3)).trans hw103_3), ((HB.out.cell (World.block_lt_of_cell? w _ hw103_4)).trans hw103_4)⟩ (fun hHeld => ?_); refine with_tabW tallymanref07_Right.tab7 tallymanref07_Right.bits7 (fun HT_ HW_ => ?_)
                generalize w30.drew = w31 at BK102 HB hx103_0 hx103_1 hx103_2 hx103_3 hx103_4 hHeld ⊢
                refine pt_ ?_ 0 (some 19) (btB 53 1) rfl rfl HT_.out (by kernel_rfl) qq_ (Or.inl ⟨by rfl, ?_⟩) ?_ ?_ ?_
                rotate_left; ·intro w'; go_simp; with_reducible rfl
                rotate_left; ·simp only [Act.put, sA, sZ, sS, i64_w, i32_w]; rfl
                refine take_ (i := 1) (N := some 20) (v := ?_) (a' := ?_) (btB 53 3) rfl rfl (take_ofW HT_.out HW_.out (by kernel_rfl)) (fun _ _ _ h => h) (Or.inl ⟨by rfl, ?_⟩) hHeld ?_ ?_
                rotate_left; ·rintro w' ⟨s0, s1, s2, s3, s4, s5, s6, s7, s8, s9⟩; go_simp; with_reducible rfl
                rotate_left; ·simp only [Act.put, sA, sZ, sS, i64_w, i32_w]; rfl
                refine pt_ ?_ 2 (some 21) (btB 53 7) rfl rfl HT_.out (by kernel_rfl) qq_ (Or.inl ⟨by rfl, ?_⟩) ?_ ?_ ?_
                rotate_left; ·intro w'; go_simp; with_reducible rfl
                rotate_left; ·simp only [Act.put, sA, sZ, sS, i64_w, i32_w]; rfl
                refine pt_ ?_ 3 (some 22) (btB 53 15) rfl rfl HT_.out (by kernel_rfl) qq_ (Or.inl ⟨by rfl, ?_⟩) ?_ ?_ ?_
                rotate_left; ·intro w'; go_simp; with_reducible rfl
                rotate_left; ·simp only [Act.put, sA, sZ, sS, i64_w, i32_w]; rfl
                refine pt_ ?_ 4 (some 23) (btB 53 31) rfl rfl HT_.out (by kernel_rfl) qq_ (Or.inl ⟨by rfl, ?_⟩) ?_ ?_ ?_
                rotate_left; ·intro w'; go_simp; with_reducible rfl
                rotate_left; ·simp only [Act.put, sA, sZ, sS, i64_w, i32_w]; rfl
                refine take_ (i := 5) (N := some 24) (v := ?_) (a' := ?_) (btB 53 63) rfl rfl (take_ofW HT_.out HW_.out (by kernel_rfl)) (fun _ _ _ h => h) (Or.inl ⟨by rfl, ?_⟩) hHeld ?_ ?_
                rotate_left; ·rintro w' ⟨s0, s1, s2, s3, s4, s5, s6, s7, s8, s9⟩; go_simp; with_reducible rfl
                rotate_left; ·simp only [Act.put, sA, sZ, sS, i64_w, i32_w]; rfl
                refine pt_ ?_ 6 (some 25) (btB 53 127) rfl rfl HT_.out (by kernel_rfl) qq_ (Or.inl ⟨by rfl, ?_⟩) ?_ ?_ ?_
                rotate_left; ·intro w'; go_simp; with_reducible rfl
                rotate_left; ·simp only [Act.put, sA, sZ, sS, i64_w, i32_w]; rfl
                refine pt_ ?_ 7 (some 26) (btB 53 255) rfl rfl HT_.out (by kernel_rfl) qq_ (Or.inl ⟨by rfl, ?_⟩) ?_ ?_ ?_
                rotate_left; ·intro w'; go_simp; with_reducible rfl
                rotate_left; ·simp only [Act.put, sA, sZ, sS, i64_w, i32_w]; rfl
                refine pt_ ?_ 8 (some 27) (btB 53 511) rfl rfl HT_.out (by kernel_rfl) qq_ (Or.inl ⟨by rfl, ?_⟩) ?_ ?_ ?_
                rotate_left; ·intro w'; go_simp; with_reducible rfl
                rotate_left; ·simp only [Act.put, sA, sZ, sS, i64_w, i32_w]; rfl
                refine pt_ ?_ 9 (some 28) (btB 53 1023) rfl rfl HT_.out (by kernel_rfl) qq_ (Or.inl ⟨by rfl, ?_⟩) ?_ ?_ ?_
                rotate_left; ·intro w'; go_simp; with_reducible rfl
                rotate_left; ·simp only [Act.put, sA, sZ, sS, i64_w, i32_w]; rfl
                refine pt_ ?_ 10 (some 29) (btB 53 2047) rfl rfl HT_.out (by kernel_rfl) qq_ (Or.inl ⟨by rfl, ?_⟩) ?_ ?_ ?_
                rotate_left; ·intro w'; go_simp; with_reducible rfl
                rotate_left; ·simp only [Act.put, sA, sZ, sS, i64_w, i32_w]; rfl
                refine pt_ ?_ 11 (some 30) (btB 53 4095) rfl rfl HT_.out (by kernel_rfl) qq_ (Or.inl ⟨by rfl, ?_⟩) ?_ ?_ ?_
                rotate_left; ·intro w'; go_simp; with_reducible rfl
                rotate_left; ·simp only [Act.put, sA, sZ, sS, i64_w, i32_w]; rfl
                refine pt_ ?_ 12 (some 31) (btB 53 8191) rfl rfl HT_.out (by kernel_rfl) qq_ (Or.inl ⟨by rfl, ?_⟩) ?_ ?_ ?_
                rotate_left; ·intro w'; go_simp; with_reducible rfl
                rotate_left; ·simp only [Act.put, sA, sZ, sS, i64_w, i32_w]; rfl
                refine pt_ ?_ 14 (some 33) (btB 53 24575) rfl rfl HT_.out (by kernel_rfl) qq_ (Or.inl ⟨by rfl, ?_⟩) ?_ ?_ ?_
                rotate_left; ·intro w'; go_simp; with_reducible rfl
                rotate_left; ·simp only [Act.put, sA, sZ, sS, i64_w, i32_w]; rfl
                refine pt_ ?_ 15 (some 34) (btB 53 57343) rfl rfl HT_.out (by kernel_rfl) qq_ (Or.inl ⟨by rfl, ?_⟩) ?_ ?_ ?_
                rotate_left; ·intro w'; go_simp; with_reducible rfl
                rotate_left; ·simp only [Act.put, sA, sZ, sS, i64_w, i32_w]; rfl
                refine pt_ ?_ 16 (some 35) (btB 53 122879) rfl rfl HT_.out (by kernel_rfl) qq_ (Or.inl ⟨by rfl, ?_⟩) ?_ ?_ ?_
                rotate_left; ·intro w'; go_simp; with_reducible rfl
                rotate_left; ·simp only [Act.put, sA, sZ, sS, i64_w, i32_w]; rfl
                refine pt_ ?_ 17 (some 36) (btB 53 253951) rfl rfl HT_.out (by kernel_rfl) qq_ (Or.inl ⟨by rfl, ?_⟩) ?_ ?_ ?_
                rotate_left; ·intro w'; go_simp; with_reducible rfl
                rotate_left; ·simp only [Act.put, sA, sZ, sS, i64_w, i32_w]; rfl
                refine pt_ ?_ 18 (some 37) (btB 53 516095) rfl rfl HT_.out (by kernel_rfl) qq_ (Or.inl ⟨by rfl, ?_⟩) ?_ ?_ ?_
                rotate_left; ·intro w'; go_simp; with_reducible rfl
                rotate_left; ·simp only [Act.put, sA, sZ, sS, i64_w, i32_w]; rfl
                refine take_ (i := 13) (N := some 32) (v := ?_) (a' := ?_) (btB 53 524287) rfl rfl (take_ofW HT_.out HW_.out (by kernel_rfl)) (fun _ _ _ h => h) (Or.inl ⟨by rfl, ?_⟩) hHeld ?_ ?_
                rotate_left; ·rintro w' ⟨s0, s1, s2, s3, s4, s5, s6, s7, s8, s9⟩; go_simp; with_reducible rfl
                rotate_left; ·simp only [Act.put, sA, sZ, sS, i64_w, i32_w]; rfl
                refine take_ (i := 19) (N := some 38) (v := ?_) (a' := ?_) (btB 53 1048575) rfl rfl (take_ofW HT_.out HW_.out (by kernel_rfl)) (fun _ _ _ h => h) (Or.inl ⟨by rfl, ?_⟩) hHeld ?_ ?_
                rotate_left; ·rintro w' ⟨s0, s1, s2, s3, s4, s5, s6, s7, s8, s9⟩; go_simp; with_reducible rfl
                rotate_left; ·simp only [Act.put, sA, sZ, sS, i64_w, i32_w]; rfl
                refine pt_ ?_ 20 (some 39) (btB 53 2097151) rfl rfl HT_.out (by kernel_rfl) qq_ (Or.inl ⟨by rfl, ?_⟩) ?_ ?_ ?_
                rotate_left; ·intro w'; go_simp; with_reducible rfl
                rotate_left; ·simp only [Act.put, sA, sZ, sS, i64_w, i32_w]; rfl
                refine pt_ ?_ 21 (some 40) (btB 53 4194303) rfl rfl HT_.out (by kernel_rfl) qq_ (Or.inl ⟨by rfl, ?_⟩) ?_ ?_ ?_
                rotate_left; ·intro w'; go_simp; with_reducible rfl
                rotate_left; ·simp only [Act.put, sA, sZ, sS, i64_w, i32_w]; rfl
                refine pt_ ?_ 22 (some 41) (btB 53 8388607) rfl rfl HT_.out (by kernel_rfl) qq_ (Or.inl ⟨by rfl, ?_⟩) ?_ ?_ ?_
                rotate_left; ·intro w'; go_simp; with_reducible rfl
                rotate_left; ·simp only [Act.put, sA, sZ, sS, i64_w, i32_w]; rfl
                refine pt_ ?_ 23 (some 42) (btB 53 16777215) rfl rfl HT_.out (by kernel_rfl) qq_ (Or.inl ⟨by rfl, ?_⟩) ?_ ?_ ?_
                rotate_left; ·intro w'; go_simp; with_reducible rfl
                rotate_left; ·simp only [Act.put, sA, sZ, sS, i64_w, i32_w]; rfl
                refine pt_ ?_ 24 (some 43) (btB 53 33554431) rfl rfl HT_.out (by kernel_rfl) qq_ (Or.inl ⟨by rfl, ?_⟩) ?_ ?_ ?_
                rotate_left; ·intro w'; go_simp; with_reducible rfl
                rotate_left; ·simp only [Act.put, sA, sZ, sS, i64_w, i32_w]; rfl
                refine take_ (i := 25) (N := some 44) (v := ?_) (a' := ?_) (btB 53 67108863) rfl rfl (take_ofW HT_.out HW_.out (by kernel_rfl)) (fun _ _ _ h => h) (Or.inl ⟨by rfl, ?_⟩) hHeld ?_ ?_
                rotate_left; ·rintro w' ⟨s0, s1, s2, s3, s4, s5, s6, s7, s8, s9⟩; go_simp; with_reducible rfl
                rotate_left; ·simp only [Act.put, sA, sZ, sS, i64_w, i32_w]; rfl
                refine one_ (i := 26) (N := some 45) (btB 53 134217727) rfl rfl (one_of HT_.out (by kernel_rfl)) (by decide) (fun K hK => ?_)
                refine goes_ Try.func112 (by kernel_rfl) rfl #[.agg #[.int .i64 ((rd_T110 l0 x3_1).f1.f0), .int .i64 ((rd_T110 l0 x3_1).f1.f1)], .int .i64 1000] (by rfl) rfl rfl (by (try simp only [List.map_toArray, List.map_cons, List.map_nil]); first | done | rfl | (simp only [List.length_drop, List.length_take]; rfl)) ?_
                with_reducible refine (tallymanref03_Small.calls ((rd_T110 l0 x3_1).f1.f0) ((rd_T110 l0 x3_1).f1.f1) 1000 true _ A21.out).mono ?_
                rintro e w32 ⟨rfl, hb⟩
                refine ⟨_, rfl, ?_⟩
                have n0_ := Aside0.mk (blk_below (g := gb102) (o := .cells #[.int .i64 ((rd_T110 l0 x3_1).f0), .int .i64 ((rd_T110 l0 x3_1).f1.f0), .int .i64 ((rd_T110 l0 x3_1).f1.f1), .int .i64 ((rd_T110 l0 x3_1).f2.f0), .int .i64 ((rd_T110 l0 x3_1).f2.f1)] 110 (0, 0)) (by (with_reducible repeat (first | refine blk_drewN ?_ _ | refine blk_drew ?_ | refine blk_alloc ?_ _)); exact BK102.out) hb)
                have n1_ := Aside0.mk (below_step (by repeat (first | (with_reducible first | exact HB.out | apply below_alloc | apply pw_below_drewN | apply below_drew1 | refine below_set ?_ GE102.out) | exact HB.out)) hb)
                clear BK102
                clear HB
                have BK102 := n0_
                have HB := n1_
                clear n0_ n1_
                (try clear hb)
                (try clear hb2)
                (try clear hk)
                (try clear hi)
                refine hK.out _ _ ⟨(blk_cell BK102.out 0).trans rfl, (blk_cell BK102.out 1).trans rfl, (blk_cell BK102.out 2).trans rfl, (blk_cell BK102.out 3).trans rfl, (blk_cell BK102.out 4).trans rfl, ((HB.out.cell (World.block_lt_of_cell? w _ hw103_0)).trans hw103_0), ((HB.out.cell (World.block_lt_of_cell? w _ hw103_1)).trans hw103_1), ((HB.out.cell (World.block_lt_of_cell? w _ hw103_2)).trans hw103_2), ((HB.out.cell (World.block_lt_of_cell? w _ hw103_3)).trans hw103_3), ((HB.out.cell (World.block_lt_of_cell? w _ hw103_4)).trans hw103_4)⟩ (fun hHeld => ?_)
                clear hK K
                refine norm_ (a' := ?_) ?_ ?_
                rotate_left; ·show Act.put _ (some 45) _ = _; simp only [Act.put, sA, sZ, sS, i64_w, i32_w]; rfl
                refine pt_ ?_ 27 (some 46) (btB 53 268435455) rfl rfl HT_.out (by kernel_rfl) qq_ (Or.inl ⟨by rfl, ?_⟩) ?_ ?_ ?_
                rotate_left; ·intro w'; go_simp; with_reducible rfl
                rotate_left; ·simp only [Act.put, sA, sZ, sS, i64_w, i32_w]; rfl
                refine pt_ ?_ 28 (some 47) (btB 53 536870911) rfl rfl HT_.out (by kernel_rfl) qq_ (Or.inl ⟨by rfl, ?_⟩) ?_ ?_ ?_
                rotate_left; ·intro w'; go_simp; with_reducible rfl
                rotate_left; ·simp only [Act.put, sA, sZ, sS, i64_w, i32_w]; rfl
                refine pt_ ?_ 29 (some 48) (btB 53 1073741823) rfl rfl HT_.out (by kernel_rfl) qq_ (Or.inl ⟨by rfl, ?_⟩) ?_ ?_ ?_
                rotate_left; ·intro w'; go_simp; with_reducible rfl
                rotate_left; ·simp only [Act.put, sA, sZ, sS, i64_w, i32_w]; rfl
                refine pt_ ?_ 30 (some 49) (btB 53 2147483647) rfl rfl HT_.out (by kernel_rfl) qq_ (Or.inl ⟨by rfl, ?_⟩) ?_ ?_ ?_
                rotate_left; ·intro w'; go_simp; with_reducible rfl
                rotate_left; ·simp only [Act.put, sA, sZ, sS, i64_w, i32_w]; rfl
                refine take_ (i := 31) (N := some 50) (v := ?_) (a' := ?_) (btB 53 4294967295) rfl rfl (take_ofW HT_.out HW_.out (by kernel_rfl)) (fun _ _ _ h => h) (Or.inl ⟨by rfl, ?_⟩) hHeld ?_ ?_
                rotate_left; ·rintro w' ⟨s0, s1, s2, s3, s4, s5, s6, s7, s8, s9⟩; go_simp; with_reducible rfl
                rotate_left; ·simp only [Act.put, sA, sZ, sS, i64_w, i32_w]; rfl
                refine one_ (i := 32) (N := some 51) (btB 53 8589934591) rfl rfl (one_of HT_.out (by kernel_rfl)) (by decide) (fun K hK => ?_)
                refine goes_ Try.func112 (by kernel_rfl) rfl #[.agg #[.int .i64 ((rd_T110 l0 x3_1).f2.f0), .int .i64 ((rd_T110 l0 x3_1).f2.f1)], .int .i64 1000] (by rfl) rfl rfl (by (try simp only [List.map_toArray, List.map_cons, List.map_nil]); first | done | rfl | (simp only [List.length_drop, List.length_take]; rfl)) ?_
                with_reducible refine (tallymanref03_Small.calls ((rd_T110 l0 x3_1).f2.f0) ((rd_T110 l0 x3_1).f2.f1) 1000 true _ A23.out).mono ?_
                rintro e w33 ⟨rfl, hb⟩
                refine ⟨_, rfl, ?_⟩
                have n0_ := Aside0.mk (blk_below (g := gb102) (o := .cells #[.int .i64 ((rd_T110 l0 x3_1).f0), .int .i64 ((rd_T110 l0 x3_1).f1.f0), .int .i64 ((rd_T110 l0 x3_1).f1.f1), .int .i64 ((rd_T110 l0 x3_1).f2.f0), .int .i64 ((rd_T110 l0 x3_1).f2.f1)] 110 (0, 0)) (by (with_reducible repeat (first | refine blk_drewN ?_ _ | refine blk_drew ?_ | refine blk_alloc ?_ _)); exact BK102.out) hb)
                have n1_ := Aside0.mk (below_step (by repeat (first | (with_reducible first | exact HB.out | apply below_alloc | apply pw_below_drewN | apply below_drew1 | refine below_set ?_ GE102.out) | exact HB.out)) hb)
                clear BK102
                clear HB
                have BK102 := n0_
                have HB := n1_
                clear n0_ n1_
                (try clear hb)
                (try clear hb2)
                (try clear hk)
                (try clear hi)
                refine hK.out _ _ ⟨(blk_cell BK102.out 0).trans rfl, (blk_cell BK102.out 1).trans rfl, (blk_cell BK102.out 2).trans rfl, (blk_cell BK102.out 3).trans rfl, (blk_cell BK102.out 4).trans rfl, ((HB.out.cell (World.block_lt_of_cell? w _ hw103_0)).trans hw103_0), ((HB.out.cell (World.block_lt_of_cell? w _ hw103_1)).trans hw103_1), ((HB.out.cell (World.block_lt_of_cell? w _ hw103_2)).trans hw103_2), ((HB.out.cell (World.block_lt_of_cell? w _ hw103_3)).trans hw103_3), ((HB.out.cell (World.block_lt_of_cell? w _ hw103_4)).trans hw103_4)⟩ (fun hHeld => ?_)
                clear hK K
                refine norm_ (a' := ?_) ?_ ?_
                rotate_left; ·show Act.put _ (some 51) _ = _; simp only [Act.put, sA, sZ, sS, i64_w, i32_w]; rfl
                refine pt_ ?_ 33 (some 52) (btB 53 17179869183) rfl rfl HT_.out (by kernel_rfl) qq_ (Or.inl ⟨by rfl, ?_⟩) ?_ ?_ ?_
                rotate_left; ·intro w'; go_simp; with_reducible rfl
                rotate_left; ·simp only [Act.put, sA, sZ, sS, i64_w, i32_w]; rfl
                refine pt_ ?_ 34 (some 53) (btB 53 34359738367) rfl rfl HT_.out (by kernel_rfl) qq_ (Or.inl ⟨by rfl, ?_⟩) ?_ ?_ ?_
                rotate_left; ·intro w'; go_simp; with_reducible rfl
                rotate_left; ·simp only [Act.put, sA, sZ, sS, i64_w, i32_w]; rfl
                refine pt_ ?_ 35 (some 54) (btB 53 68719476735) rfl rfl HT_.out (by kernel_rfl) qq_ (Or.inl ⟨by rfl, ?_⟩) ?_ ?_ ?_
                rotate_left; ·intro w'; go_simp; with_reducible rfl
                rotate_left; ·simp only [Act.put, sA, sZ, sS, i64_w, i32_w]; rfl
                refine pt_ ?_ 36 (some 55) (btB 53 137438953471) rfl rfl HT_.out (by kernel_rfl) qq_ (Or.inl ⟨by rfl, ?_⟩) ?_ ?_ ?_
                rotate_left; ·intro w'; go_simp; with_reducible rfl
                rotate_left; ·simp only [Act.put, sA, sZ, sS, i64_w, i32_w]; rfl
                refine pt_ ?_ 37 (some 56) (btB 53 274877906943) rfl rfl HT_.out (by kernel_rfl) qq_ (Or.inl ⟨by rfl, ?_⟩) ?_ ?_ ?_
                rotate_left; ·intro w'; go_simp; with_reducible rfl
                rotate_left; ·simp only [Act.put, sA, sZ, sS, i64_w, i32_w]; rfl
                refine pt_ ?_ 39 (some 58) (btB 53 824633720831) rfl rfl HT_.out (by kernel_rfl) qq_ (Or.inl ⟨by rfl, ?_⟩) ?_ ?_ ?_
                rotate_left; ·intro w'; go_simp; with_reducible rfl
                rotate_left; ·simp only [Act.put, sA, sZ, sS, i64_w, i32_w]; rfl
                refine pt_ ?_ 40 (some 59) (btB 53 1924145348607) rfl rfl HT_.out (by kernel_rfl) qq_ (Or.inl ⟨by rfl, ?_⟩) ?_ ?_ ?_
                rotate_left; ·intro w'; go_simp; with_reducible rfl
                rotate_left; ·simp only [Act.put, sA, sZ, sS, i64_w, i32_w]; rfl
                refine take_ (i := 38) (N := some 57) (v := ?_) (a' := ?_) (btB 53 2199023255551) rfl rfl (take_ofW HT_.out HW_.out (by kernel_rfl)) (fun _ _ _ h => h) (Or.inl ⟨by rfl, ?_⟩) hHeld ?_ ?_
                rotate_left; ·rintro w' ⟨s0, s1, s2, s3, s4, s5, s6, s7, s8, s9⟩; go_simp; with_reducible rfl
                rotate_left; ·simp only [Act.put, sA, sZ, sS, i64_w, i32_w]; rfl
                refine take_ (i := 41) (N := some 60) (v := ?_) (a' := ?_) (btB 53 4398046511103) rfl rfl (take_ofW HT_.out HW_.out (by kernel_rfl)) (fun _ _ _ h => h) (Or.inl ⟨by rfl, ?_⟩) hHeld ?_ ?_
                rotate_left; ·rintro w' ⟨s0, s1, s2, s3, s4, s5, s6, s7, s8, s9⟩; go_simp; with_reducible rfl
                rotate_left; ·simp only [Act.put, sA, sZ, sS, i64_w, i32_w]; rfl
                refine pt_ ?_ 42 (some 61) (btB 53 8796093022207) rfl rfl HT_.out (by kernel_rfl) qq_ (Or.inl ⟨by rfl, ?_⟩) ?_ ?_ ?_
                rotate_left; ·intro w'; go_simp; with_reducible rfl
                rotate_left; ·simp only [Act.put, sA, sZ, sS, i64_w, i32_w]; rfl
                refine pt_ ?_ 43 (some 62) (btB 53 17592186044415) rfl rfl HT_.out (by kernel_rfl) qq_ (Or.inl ⟨by rfl, ?_⟩) ?_ ?_ ?_
                rotate_left; ·intro w'; go_simp; with_reducible rfl
                rotate_left; ·simp only [Act.put, sA, sZ, sS, i64_w, i32_w]; rfl
                refine pt_ ?_ 44 (some 63) (btB 53 35184372088831) rfl rfl HT_.out (by kernel_rfl) qq_ (Or.inl ⟨by rfl, ?_⟩) ?_ ?_ ?_
                rotate_left; ·intro w'; go_simp; with_reducible rfl
                rotate_left; ·simp only [Act.put, sA, sZ, sS, i64_w, i32_w]; rfl
                refine pt_ ?_ 45 (some 64) (btB 53 70368744177663) rfl rfl HT_.out (by kernel_rfl) qq_ (Or.inl ⟨by rfl, ?_⟩) ?_ ?_ ?_
                rotate_left; ·intro w'; go_simp; with_reducible rfl
                rotate_left; ·simp only [Act.put, sA, sZ, sS, i64_w, i32_w]; rfl
                refine pt_ ?_ 46 (some 65) (btB 53 140737488355327) rfl rfl HT_.out (by kernel_rfl) qq_ (Or.inl ⟨by rfl, ?_⟩) ?_ ?_ ?_
                rotate_left; ·intro w'; go_simp; with_reducible rfl
                rotate_left; ·simp only [Act.put, sA, sZ, sS, i64_w, i32_w]; rfl
                refine pt_ ?_ 48 (some 67) (btB 53 422212465065983) rfl rfl HT_.out (by kernel_rfl) qq_ (Or.inl ⟨by rfl, ?_⟩) ?_ ?_ ?_
                rotate_left; ·intro w'; go_simp; with_reducible rfl
                rotate_left; ·simp only [Act.put, sA, sZ, sS, i64_w, i32_w]; rfl
                refine pt_ ?_ 49 (some 68) (btB 53 985162418487295) rfl rfl HT_.out (by kernel_rfl) qq_ (Or.inl ⟨by rfl, ?_⟩) ?_ ?_ ?_
                rotate_left; ·intro w'; go_simp; with_reducible rfl
                rotate_left; ·simp only [Act.put, sA, sZ, sS, i64_w, i32_w]; rfl
                refine take_ (i := 47) (N := some 66) (v := ?_) (a' := ?_) (btB 53 1125899906842623) rfl rfl (take_ofW HT_.out HW_.out (by kernel_rfl)) (fun _ _ _ h => h) (Or.inl ⟨by rfl, ?_⟩) hHeld ?_ ?_
                rotate_left; ·rintro w' ⟨s0, s1, s2, s3, s4, s5, s6, s7, s8, s9⟩; go_simp; with_reducible rfl
                rotate_left; ·simp only [Act.put, sA, sZ, sS, i64_w, i32_w]; rfl
                refine take_ (i := 50) (N := some 69) (v := ?_) (a' := ?_) (btB 53 2251799813685247) rfl rfl (take_ofW HT_.out HW_.out (by kernel_rfl)) (fun _ _ _ h => h) (Or.inl ⟨by rfl, ?_⟩) hHeld ?_ ?_
                rotate_left; ·rintro w' ⟨s0, s1, s2, s3, s4, s5, s6, s7, s8, s9⟩; go_simp; with_reducible rfl
                rotate_left; ·simp only [Act.put, sA, sZ, sS, i64_w, i32_w]; rfl
                refine pt_ ?_ 51 (some 70) (btB 53 4503599627370495) rfl rfl HT_.out (by kernel_rfl) qq_ (Or.inl ⟨by rfl, ?_⟩) ?_ ?_ ?_
                rotate_left; ·intro w'; go_simp; with_reducible rfl
                rotate_left; ·simp only [Act.put, sA, sZ, sS, i64_w, i32_w]; rfl
                refine pt_ ?_ 52 (some 71) (btB 53 9007199254740991) rfl rfl HT_.out (by kernel_rfl) qq_ (Or.inl ⟨by rfl, ?_⟩) ?_ ?_ ?_
                rotate_left; ·intro w'; go_simp; with_reducible rfl
                rotate_left; ·simp only [Act.put, sA, sZ, sS, i64_w, i32_w]; rfl
                refine done_ (done_of HT_.out (by kernel_rfl)) ?_
                try go_wp2
                go_meet
                case rel => exact ⟨_, (decide (((rd_T110 l0 x3_1).f1.f1) > ((rd_T110 l0 x3_1).f2.f1))), (by first | rfl | (simp; done) | (simp [*]; done)), H', ⟨by have := HK1.out; first | omega | exact Nat.le_refl _⟩, ⟨by (with_reducible repeat (first | refine blk_drewN ?_ _ | refine blk_drew ?_ | refine blk_alloc ?_ _)); exact BK102.out⟩, ⟨by repeat (first | (with_reducible first | exact HB.out | apply below_alloc | apply pw_below_drewN | apply below_drew1 | refine below_set ?_ GE102.out) | exact HB.out)⟩⟩
              ·replace c24 := Bool.eq_false_iff.mpr c24
               subst c24
               have H1 : (tallymanref07_Right.j1 k1 l0 x3_1 true ((rd_T110 l0 x3_1).f0) ((rd_T110 l0 x3_1).f1.f0) ((rd_T110 l0 x3_1).f1.f1) ((rd_T110 l0 x3_1).f2.f0) ((rd_T110 l0 x3_1).f2.f1)) = some r := by rw [if_neg (show ¬ (false = true) by decide)] at H; exact H
               clear H
               have H := H1
               clear H1
               have H' := Aside0.mk H
               clear H
               try go_wp2
               have n0_ : Aside0 ((((((w6.setCell ⟨gb102, 0, none⟩ (.int .i64 ((rd_T110 l0 x3_1).f0))).setCell ⟨gb102, 1, none⟩ (.int .i64 ((rd_T110 l0 x3_1).f1.f0))).setCell ⟨gb102, 2, none⟩ (.int .i64 ((rd_T110 l0 x3_1).f1.f1))).setCell ⟨gb102, 3, none⟩ (.int .i64 ((rd_T110 l0 x3_1).f2.f0))).setCell ⟨gb102, 4, none⟩ (.int .i64 ((rd_T110 l0 x3_1).f2.f1))).heap[gb102]? = some (.cells #[.int .i64 ((rd_T110 l0 x3_1).f0), .int .i64 ((rd_T110 l0 x3_1).f1.f0), .int .i64 ((rd_T110 l0 x3_1).f1.f1), .int .i64 ((rd_T110 l0 x3_1).f2.f0), .int .i64 ((rd_T110 l0 x3_1).f2.f1)] 110 (0, 0))) := ⟨by (with_reducible repeat (first | refine blk_drewN ?_ _ | refine blk_drew ?_ | refine blk_alloc ?_ _)); refine blk_put (cs := #[.int .i64 ((rd_T110 l0 x3_1).f0), .int .i64 ((rd_T110 l0 x3_1).f1.f0), .int .i64 ((rd_T110 l0 x3_1).f1.f1), .int .i64 ((rd_T110 l0 x3_1).f2.f0), .int .i64 0]) ?_ 4 _ rfl; (with_reducible repeat (first | refine blk_drewN ?_ _ | refine blk_drew ?_ | refine blk_alloc ?_ _)); refine blk_put (cs := #[.int .i64 ((rd_T110 l0 x3_1).f0), .int .i64 ((rd_T110 l0 x3_1).f1.f0), .int .i64 ((rd_T110 l0 x3_1).f1.f1), .int .i64 0, .int .i64 0]) ?_ 3 _ rfl; (with_reducible repeat (first | refine blk_drewN ?_ _ | refine blk_drew ?_ | refine blk_alloc ?_ _)); refine blk_put (cs := #[.int .i64 ((rd_T110 l0 x3_1).f0), .int .i64 ((rd_T110 l0 x3_1).f1.f0), .int .i64 0, .int .i64 0, .int .i64 0]) ?_ 2 _ rfl; (with_reducible repeat (first | refine blk_drewN ?_ _ | refine blk_drew ?_ | refine blk_alloc ?_ _)); refine blk_put (cs := #[.int .i64 ((rd_T110 l0 x3_1).f0), .int .i64 0, .int .i64 0, .int .i64 0, .int .i64 0]) ?_ 1 _ rfl; (with_reducible repeat (first | refine blk_drewN ?_ _ | refine blk_drew ?_ | refine blk_alloc ?_ _)); refine blk_put (cs := #[.int .i64 0, .int .i64 0, .int .i64 0, .int .i64 0, .int .i64 0]) ?_ 0 _ rfl; (with_reducible repeat (first | refine blk_drewN ?_ _ | refine blk_drew ?_ | refine blk_alloc ?_ _)); exact BK102.out⟩
               have n1_ : Aside0 (Below w.heap.size w (((((w6.setCell ⟨gb102, 0, none⟩ (.int .i64 ((rd_T110 l0 x3_1).f0))).setCell ⟨gb102, 1, none⟩ (.int .i64 ((rd_T110 l0 x3_1).f1.f0))).setCell ⟨gb102, 2, none⟩ (.int .i64 ((rd_T110 l0 x3_1).f1.f1))).setCell ⟨gb102, 3, none⟩ (.int .i64 ((rd_T110 l0 x3_1).f2.f0))).setCell ⟨gb102, 4, none⟩ (.int .i64 ((rd_T110 l0 x3_1).f2.f1)))) := ⟨by repeat (first | (with_reducible first | exact HB.out | apply below_alloc | apply pw_below_drewN | apply below_drew1 | refine below_set ?_ GE102.out) | exact HB.out)⟩
               (try clear BK102)
               (try clear HB)
               generalize (((((w6.setCell ⟨gb102, 0, none⟩ (.int .i64 ((rd_T110 l0 x3_1).f0))).setCell ⟨gb102, 1, none⟩ (.int .i64 ((rd_T110 l0 x3_1).f1.f0))).setCell ⟨gb102, 2, none⟩ (.int .i64 ((rd_T110 l0 x3_1).f1.f1))).setCell ⟨gb102, 3, none⟩ (.int .i64 ((rd_T110 l0 x3_1).f2.f0))).setCell ⟨gb102, 4, none⟩ (.int .i64 ((rd_T110 l0 x3_1).f2.f1))) = w34 at n0_ n1_ ⊢
               have BK102 := n0_
               have HB := n1_
               clear n0_ n1_
               have n0_ := Aside0.mk (blk_drew BK102.out)
               have n1_ := Aside0.mk (below_drew1 HB.out)
               clear BK102
               clear HB
               have BK102 := n0_
               have HB := n1_
               clear n0_ n1_
               have p103 : 0 ≤ ((ji15) : Int) := of_decide_eq_true (by first | (with_reducible assumption) | assumption)
               have q103 : (ji15) < (l0.length : Int) := of_decide_eq_true (by first | (with_reducible assumption) | assumption)
               obtain ⟨ad103, e103, hx103_0, hx103_1, hx103_2, hx103_3, hx103_4⟩ := at_T110 HR0.out (ji15) p103 q103
               have hw103_4 := hx103_4
               have hw103_3 := hx103_3
               have hw103_2 := hx103_2
               have hw103_1 := hx103_1
               have hw103_0 := hx103_0
               obtain rfl : ad101 = ad103 := (by injection e103)
               replace hx103_0 := (HB.out.cell (World.block_lt_of_cell? w _ hx103_0)).trans hx103_0
               replace hx103_1 := (HB.out.cell (World.block_lt_of_cell? w _ hx103_1)).trans hx103_1
               replace hx103_2 := (HB.out.cell (World.block_lt_of_cell? w _ hx103_2)).trans hx103_2
               replace hx103_3 := (HB.out.cell (World.block_lt_of_cell? w _ hx103_3)).trans hx103_3
               replace hx103_4 := (HB.out.cell (World.block_lt_of_cell? w _ hx103_4)).trans hx103_4
               replace p103 := eq_true p103
               replace q103 := eq_true q103
               refine start_ (n := 53) (S := fun w' => w'.cell? ⟨gb102, 0, none⟩ = some (.int .i64 ((rd_T110 l0 x3_1).f0)) ∧ w'.cell? ⟨gb102, 1, none⟩ = some (.int .i64 ((rd_T110 l0 x3_1).f1.f0)) ∧ w'.cell? ⟨gb102, 2, none⟩ = some (.int .i64 ((rd_T110 l0 x3_1).f1.f1)) ∧ w'.cell? ⟨gb102, 3, none⟩ = some (.int .i64 ((rd_T110 l0 x3_1).f2.f0)) ∧ w'.cell? ⟨gb102, 4, none⟩ = some (.int .i64 ((rd_T110 l0 x3_1).f2.f1)) ∧ w'.cell? (ad101.add (((ji15)).toNat * 5)) = some (.int .i64 ((rd_T110 l0 (ji15)).f0)) ∧ w'.cell? ⟨(ad101.add (((ji15)).toNat * 5)).block, (ad101.add (((ji15)).toNat * 5)).off + 1, none⟩ = some (.int .i64 ((rd_T110 l0 (ji15)).f1.f0)) ∧ w'.cell? ⟨(ad101.add (((ji15)).toNat * 5)).block, (ad101.add (((ji15)).toNat * 5)).off + 2, none⟩ = some (.int .i64 ((rd_T110 l0 (ji15)).f1.f1)) ∧ w'.cell? ⟨(ad101.add (((ji15)).toNat * 5)).block, (ad101.add (((ji15)).toNat * 5)).off + 3, none⟩ = some (.int .i64 ((rd_T110 l0 (ji15)).f2.f0)) ∧ w'.cell? ⟨(ad101.add (((ji15)).toNat * 5)).block, (ad101.add (((ji15)).toNat * 5)).off + 4, none⟩ = some (.int .i64 ((rd_T110 l0 (ji15)).f2.f1))) (ds := []) (btB 53 0) (by kernel_rfl) rfl rfl ⟨(blk_cell BK102.out 0).trans rfl, (blk_cell BK102.out 1).trans rfl, (blk_cell BK102.out 2).trans rfl, (blk_cell BK102.out 3).trans rfl, (blk_cell BK102.out 4).trans rfl, ((HB.out.cell (World.block_lt_of_cell? w _ hw103_0)).trans hw103_0), ((HB.out.cell (World.block_lt_of_cell? w _ hw103_1)).trans hw103_1), ((HB.out.cell (World.block_lt_of_cell? w _ hw103_2)).trans hw103_2), ((HB.out.cell (World.block_lt_of_cell? w _ hw103_3)).trans hw103_3), ((HB.out.cell (World.block_lt_of_cell? w _ hw103_4)).trans hw103_4)⟩ (fun hHeld => ?_); refine with_tabW tallymanref07_Right.tab7 tallymanref07_Right.bits7 (fun HT_ HW_ => ?_)
               generalize w34.drew = w35 at BK102 HB hx103_0 hx103_1 hx103_2 hx103_3 hx103_4 hHeld ⊢
               refine pt_ ?_ 0 (some 19) (btB 53 1) rfl rfl HT_.out (by kernel_rfl) qq_ (Or.inl ⟨by rfl, ?_⟩) ?_ ?_ ?_
               rotate_left; ·intro w'; go_simp; with_reducible rfl
               rotate_left; ·simp only [Act.put, sA, sZ, sS, i64_w, i32_w]; rfl
               refine take_ (i := 1) (N := some 20) (v := ?_) (a' := ?_) (btB 53 3) rfl rfl (take_ofW HT_.out HW_.out (by kernel_rfl)) (fun _ _ _ h => h) (Or.inl ⟨by rfl, ?_⟩) hHeld ?_ ?_
               rotate_left; ·rintro w' ⟨s0, s1, s2, s3, s4, s5, s6, s7, s8, s9⟩; go_simp; with_reducible rfl
               rotate_left; ·simp only [Act.put, sA, sZ, sS, i64_w, i32_w]; rfl
               refine pt_ ?_ 2 (some 21) (btB 53 7) rfl rfl HT_.out (by kernel_rfl) qq_ (Or.inl ⟨by rfl, ?_⟩) ?_ ?_ ?_
               rotate_left; ·intro w'; go_simp; with_reducible rfl
               rotate_left; ·simp only [Act.put, sA, sZ, sS, i64_w, i32_w]; rfl
               refine pt_ ?_ 3 (some 22) (btB 53 15) rfl rfl HT_.out (by kernel_rfl) qq_ (Or.inl ⟨by rfl, ?_⟩) ?_ ?_ ?_
               rotate_left; ·intro w'; go_simp; with_reducible rfl
               rotate_left; ·simp only [Act.put, sA, sZ, sS, i64_w, i32_w]; rfl
               refine pt_ ?_ 4 (some 23) (btB 53 31) rfl rfl HT_.out (by kernel_rfl) qq_ (Or.inl ⟨by rfl, ?_⟩) ?_ ?_ ?_
               rotate_left; ·intro w'; go_simp; with_reducible rfl
               rotate_left; ·simp only [Act.put, sA, sZ, sS, i64_w, i32_w]; rfl
               refine take_ (i := 5) (N := some 24) (v := ?_) (a' := ?_) (btB 53 63) rfl rfl (take_ofW HT_.out HW_.out (by kernel_rfl)) (fun _ _ _ h => h) (Or.inl ⟨by rfl, ?_⟩) hHeld ?_ ?_
               rotate_left; ·rintro w' ⟨s0, s1, s2, s3, s4, s5, s6, s7, s8, s9⟩; go_simp; with_reducible rfl
               rotate_left; ·simp only [Act.put, sA, sZ, sS, i64_w, i32_w]; rfl
               refine pt_ ?_ 6 (some 25) (btB 53 127) rfl rfl HT_.out (by kernel_rfl) qq_ (Or.inl ⟨by rfl, ?_⟩) ?_ ?_ ?_
               rotate_left; ·intro w'; go_simp; with_reducible rfl
               rotate_left; ·simp only [Act.put, sA, sZ, sS, i64_w, i32_w]; rfl
               refine pt_ ?_ 7 (some 26) (btB 53 255) rfl rfl HT_.out (by kernel_rfl) qq_ (Or.inl ⟨by rfl, ?_⟩) ?_ ?_ ?_
               rotate_left; ·intro w'; go_simp; with_reducible rfl
               rotate_left; ·simp only [Act.put, sA, sZ, sS, i64_w, i32_w]; rfl
               refine pt_ ?_ 8 (some 27) (btB 53 511) rfl rfl HT_.out (by kernel_rfl) qq_ (Or.inl ⟨by rfl, ?_⟩) ?_ ?_ ?_
               rotate_left; ·intro w'; go_simp; with_reducible rfl
               rotate_left; ·simp only [Act.put, sA, sZ, sS, i64_w, i32_w]; rfl
               refine pt_ ?_ 9 (some 28) (btB 53 1023) rfl rfl HT_.out (by kernel_rfl) qq_ (Or.inl ⟨by rfl, ?_⟩) ?_ ?_ ?_
               rotate_left; ·intro w'; go_simp; with_reducible rfl
               rotate_left; ·simp only [Act.put, sA, sZ, sS, i64_w, i32_w]; rfl
               refine pt_ ?_ 10 (some 29) (btB 53 2047) rfl rfl HT_.out (by kernel_rfl) qq_ (Or.inl ⟨by rfl, ?_⟩) ?_ ?_ ?_
               rotate_left; ·intro w'; go_simp; with_reducible rfl
               rotate_left; ·simp only [Act.put, sA, sZ, sS, i64_w, i32_w]; rfl
               refine pt_ ?_ 11 (some 30) (btB 53 4095) rfl rfl HT_.out (by kernel_rfl) qq_ (Or.inl ⟨by rfl, ?_⟩) ?_ ?_ ?_
               rotate_left; ·intro w'; go_simp; with_reducible rfl
               rotate_left; ·simp only [Act.put, sA, sZ, sS, i64_w, i32_w]; rfl
               refine pt_ ?_ 12 (some 31) (btB 53 8191) rfl rfl HT_.out (by kernel_rfl) qq_ (Or.inl ⟨by rfl, ?_⟩) ?_ ?_ ?_
               rotate_left; ·intro w'; go_simp; with_reducible rfl
               rotate_left; ·simp only [Act.put, sA, sZ, sS, i64_w, i32_w]; rfl
               refine pt_ ?_ 14 (some 33) (btB 53 24575) rfl rfl HT_.out (by kernel_rfl) qq_ (Or.inl ⟨by rfl, ?_⟩) ?_ ?_ ?_
               rotate_left; ·intro w'; go_simp; with_reducible rfl
               rotate_left; ·simp only [Act.put, sA, sZ, sS, i64_w, i32_w]; rfl
               refine pt_ ?_ 15 (some 34) (btB 53 57343) rfl rfl HT_.out (by kernel_rfl) qq_ (Or.inl ⟨by rfl, ?_⟩) ?_ ?_ ?_
               rotate_left; ·intro w'; go_simp; with_reducible rfl
               rotate_left; ·simp only [Act.put, sA, sZ, sS, i64_w, i32_w]; rfl
               refine pt_ ?_ 16 (some 35) (btB 53 122879) rfl rfl HT_.out (by kernel_rfl) qq_ (Or.inl ⟨by rfl, ?_⟩) ?_ ?_ ?_
               rotate_left; ·intro w'; go_simp; with_reducible rfl
               rotate_left; ·simp only [Act.put, sA, sZ, sS, i64_w, i32_w]; rfl
               refine pt_ ?_ 17 (some 36) (btB 53 253951) rfl rfl HT_.out (by kernel_rfl) qq_ (Or.inl ⟨by rfl, ?_⟩) ?_ ?_ ?_
               rotate_left; ·intro w'; go_simp; with_reducible rfl
               rotate_left; ·simp only [Act.put, sA, sZ, sS, i64_w, i32_w]; rfl
               refine pt_ ?_ 18 (some 37) (btB 53 516095) rfl rfl HT_.out (by kernel_rfl) qq_ (Or.inl ⟨by rfl, ?_⟩) ?_ ?_ ?_
               rotate_left; ·intro w'; go_simp; with_reducible rfl
               rotate_left; ·simp only [Act.put, sA, sZ, sS, i64_w, i32_w]; rfl
               refine take_ (i := 13) (N := some 32) (v := ?_) (a' := ?_) (btB 53 524287) rfl rfl (take_ofW HT_.out HW_.out (by kernel_rfl)) (fun _ _ _ h => h) (Or.inl ⟨by rfl, ?_⟩) hHeld ?_ ?_
               rotate_left; ·rintro w' ⟨s0, s1, s2, s3, s4, s5, s6, s7, s8, s9⟩; go_simp; with_reducible rfl
               rotate_left; ·simp only [Act.put, sA, sZ, sS, i64_w, i32_w]; rfl
               refine take_ (i := 19) (N := some 38) (v := ?_) (a' := ?_) (btB 53 1048575) rfl rfl (take_ofW HT_.out HW_.out (by kernel_rfl)) (fun _ _ _ h => h) (Or.inl ⟨by rfl, ?_⟩) hHeld ?_ ?_
               rotate_left; ·rintro w' ⟨s0, s1, s2, s3, s4, s5, s6, s7, s8, s9⟩; go_simp; with_reducible rfl
               rotate_left; ·simp only [Act.put, sA, sZ, sS, i64_w, i32_w]; rfl
               refine pt_ ?_ 20 (some 39) (btB 53 2097151) rfl rfl HT_.out (by kernel_rfl) qq_ (Or.inl ⟨by rfl, ?_⟩) ?_ ?_ ?_
               rotate_left; ·intro w'; go_simp; with_reducible rfl
               rotate_left; ·simp only [Act.put, sA, sZ, sS, i64_w, i32_w]; rfl
               refine pt_ ?_ 21 (some 40) (btB 53 4194303) rfl rfl HT_.out (by kernel_rfl) qq_ (Or.inl ⟨by rfl, ?_⟩) ?_ ?_ ?_
               rotate_left; ·intro w'; go_simp; with_reducible rfl
               rotate_left; ·simp only [Act.put, sA, sZ, sS, i64_w, i32_w]; rfl
               refine pt_ ?_ 22 (some 41) (btB 53 8388607) rfl rfl HT_.out (by kernel_rfl) qq_ (Or.inl ⟨by rfl, ?_⟩) ?_ ?_ ?_
               rotate_left; ·intro w'; go_simp; with_reducible rfl
               rotate_left; ·simp only [Act.put, sA, sZ, sS, i64_w, i32_w]; rfl
               refine pt_ ?_ 23 (some 42) (btB 53 16777215) rfl rfl HT_.out (by kernel_rfl) qq_ (Or.inl ⟨by rfl, ?_⟩) ?_ ?_ ?_
               rotate_left; ·intro w'; go_simp; with_reducible rfl
               rotate_left; ·simp only [Act.put, sA, sZ, sS, i64_w, i32_w]; rfl
               refine pt_ ?_ 24 (some 43) (btB 53 33554431) rfl rfl HT_.out (by kernel_rfl) qq_ (Or.inl ⟨by rfl, ?_⟩) ?_ ?_ ?_
               rotate_left; ·intro w'; go_simp; with_reducible rfl
               rotate_left; ·simp only [Act.put, sA, sZ, sS, i64_w, i32_w]; rfl
               refine take_ (i := 25) (N := some 44) (v := ?_) (a' := ?_) (btB 53 67108863) rfl rfl (take_ofW HT_.out HW_.out (by kernel_rfl)) (fun _ _ _ h => h) (Or.inl ⟨by rfl, ?_⟩) hHeld ?_ ?_
               rotate_left; ·rintro w' ⟨s0, s1, s2, s3, s4, s5, s6, s7, s8, s9⟩; go_simp; with_reducible rfl
               rotate_left; ·simp only [Act.put, sA, sZ, sS, i64_w, i32_w]; rfl
               refine one_ (i := 26) (N := some 45) (btB 53 134217727) rfl rfl (one_of HT_.out (by kernel_rfl)) (by decide) (fun K hK => ?_)
               refine goes_ Try.func112 (by kernel_rfl) rfl #[.agg #[.int .i64 ((rd_T110 l0 x3_1).f1.f0), .int .i64 ((rd_T110 l0 x3_1).f1.f1)], .int .i64 1000] (by rfl) rfl rfl (by (try simp only [List.map_toArray, List.map_cons, List.map_nil]); first | done | rfl | (simp only [List.length_drop, List.length_take]; rfl)) ?_
               with_reducible refine (tallymanref03_Small.calls ((rd_T110 l0 x3_1).f1.f0) ((rd_T110 l0 x3_1).f1.f1) 1000 true _ A21.out).mono ?_
               rintro e w36 ⟨rfl, hb⟩
               refine ⟨_, rfl, ?_⟩
               have n0_ := Aside0.mk (blk_below (g := gb102) (o := .cells #[.int .i64 ((rd_T110 l0 x3_1).f0), .int .i64 ((rd_T110 l0 x3_1).f1.f0), .int .i64 ((rd_T110 l0 x3_1).f1.f1), .int .i64 ((rd_T110 l0 x3_1).f2.f0), .int .i64 ((rd_T110 l0 x3_1).f2.f1)] 110 (0, 0)) (by (with_reducible repeat (first | refine blk_drewN ?_ _ | refine blk_drew ?_ | refine blk_alloc ?_ _)); exact BK102.out) hb)
               have n1_ := Aside0.mk (below_step (by repeat (first | (with_reducible first | exact HB.out | apply below_alloc | apply pw_below_drewN | apply below_drew1 | refine below_set ?_ GE102.out) | exact HB.out)) hb)
               clear BK102
               clear HB
               have BK102 := n0_
               have HB := n1_
               clear n0_ n1_
               (try clear hb)
               (try clear hb2)
               (try clear hk)
               (try clear hi)
               refine hK.out _ _ ⟨(blk_cell BK102.out 0).trans rfl, (blk_cell BK102.out 1).trans rfl, (blk_cell BK102.out 2).trans rfl, (blk_cell BK102.out 3).trans rfl, (blk_cell BK102.out 4).trans rfl, ((HB.out.cell (World.block_lt_of_cell? w _ hw103_0)).trans hw103_0), ((HB.out.cell (World.block_lt_of_cell? w _ hw103_1)).trans hw103_1), ((HB.out.cell (World.block_lt_of_cell? w _ hw103_2)).trans hw103_2), ((HB.out.cell (World.block_lt_of_cell? w _ hw103_3)).trans hw103_3), ((HB.out.cell (World.block_lt_of_cell? w _ hw103_4)).trans hw103_4)⟩ (fun hHeld => ?_)
               clear hK K
               refine norm_ (a' := ?_) ?_ ?_
               rotate_left; ·show Act.put _ (some 45) _ = _; simp only [Act.put, sA, sZ, sS, i64_w, i32_w]; rfl
               refine pt_ ?_ 27 (some 46) (btB 53 268435455) rfl rfl HT_.out (by kernel_rfl) qq_ (Or.inl ⟨by rfl, ?_⟩) ?_ ?_ ?_
               rotate_left; ·intro w'; go_simp; with_reducible rfl
               rotate_left; ·simp only [Act.put, sA, sZ, sS, i64_w, i32_w]; rfl
               refine pt_ ?_ 28 (some 47) (btB 53 536870911) rfl rfl HT_.out (by kernel_rfl) qq_ (Or.inl ⟨by rfl, ?_⟩) ?_ ?_ ?_
               rotate_left; ·intro w'; go_simp; with_reducible rfl
               rotate_left; ·simp only [Act.put, sA, sZ, sS, i64_w, i32_w]; rfl
               refine pt_ ?_ 29 (some 48) (btB 53 1073741823) rfl rfl HT_.out (by kernel_rfl) qq_ (Or.inl ⟨by rfl, ?_⟩) ?_ ?_ ?_
               rotate_left; ·intro w'; go_simp; with_reducible rfl
               rotate_left; ·simp only [Act.put, sA, sZ, sS, i64_w, i32_w]; rfl
               refine pt_ ?_ 30 (some 49) (btB 53 2147483647) rfl rfl HT_.out (by kernel_rfl) qq_ (Or.inl ⟨by rfl, ?_⟩) ?_ ?_ ?_
               rotate_left; ·intro w'; go_simp; with_reducible rfl
               rotate_left; ·simp only [Act.put, sA, sZ, sS, i64_w, i32_w]; rfl
               refine take_ (i := 31) (N := some 50) (v := ?_) (a' := ?_) (btB 53 4294967295) rfl rfl (take_ofW HT_.out HW_.out (by kernel_rfl)) (fun _ _ _ h => h) (Or.inl ⟨by rfl, ?_⟩) hHeld ?_ ?_
               rotate_left; ·rintro w' ⟨s0, s1, s2, s3, s4, s5, s6, s7, s8, s9⟩; go_simp; with_reducible rfl
               rotate_left; ·simp only [Act.put, sA, sZ, sS, i64_w, i32_w]; rfl
               refine one_ (i := 32) (N := some 51) (btB 53 8589934591) rfl rfl (one_of HT_.out (by kernel_rfl)) (by decide) (fun K hK => ?_)
               refine goes_ Try.func112 (by kernel_rfl) rfl #[.agg #[.int .i64 ((rd_T110 l0 x3_1).f2.f0), .int .i64 ((rd_T110 l0 x3_1).f2.f1)], .int .i64 1000] (by rfl) rfl rfl (by (try simp only [List.map_toArray, List.map_cons, List.map_nil]); first | done | rfl | (simp only [List.length_drop, List.length_take]; rfl)) ?_
               with_reducible refine (tallymanref03_Small.calls ((rd_T110 l0 x3_1).f2.f0) ((rd_T110 l0 x3_1).f2.f1) 1000 false _ A23.out).mono ?_
               rintro e w37 ⟨rfl, hb⟩
               refine ⟨_, rfl, ?_⟩
               have n0_ := Aside0.mk (blk_below (g := gb102) (o := .cells #[.int .i64 ((rd_T110 l0 x3_1).f0), .int .i64 ((rd_T110 l0 x3_1).f1.f0), .int .i64 ((rd_T110 l0 x3_1).f1.f1), .int .i64 ((rd_T110 l0 x3_1).f2.f0), .int .i64 ((rd_T110 l0 x3_1).f2.f1)] 110 (0, 0)) (by (with_reducible repeat (first | refine blk_drewN ?_ _ | refine blk_drew ?_ | refine blk_alloc ?_ _)); exact BK102.out) hb)
               have n1_ := Aside0.mk (below_step (by repeat (first | (with_reducible first | exact HB.out | apply below_alloc | apply pw_below_drewN | apply below_drew1 | refine below_set ?_ GE102.out) | exact HB.out)) hb)
               clear BK102
               clear HB
               have BK102 := n0_
               have HB := n1_
               clear n0_ n1_
               (try clear hb)
               (try clear hb2)
               (try clear hk)
               (try clear hi)
               refine hK.out _ _ ⟨(blk_cell BK102.out 0).trans rfl, (blk_cell BK102.out 1).trans rfl, (blk_cell BK102.out 2).trans rfl, (blk_cell BK102.out 3).trans rfl, (blk_cell BK102.out 4).trans rfl, ((HB.out.cell (World.block_lt_of_cell? w _ hw103_0)).trans hw103_0), ((HB.out.cell (World.block_lt_of_cell? w _ hw103_1)).trans hw103_1), ((HB.out.cell (World.block_lt_of_cell? w _ hw103_2)).trans hw103_2), ((HB.out.cell (World.block_lt_of_cell? w _ hw103_3)).trans hw103_3), ((HB.out.cell (World.block_lt_of_cell? w _ hw103_4)).trans hw103_4)⟩ (fun hHeld => ?_)
               clear hK K
               refine norm_ (a' := ?_) ?_ ?_
               rotate_left; ·show Act.put _ (some 51) _ = _; simp only [Act.put, sA, sZ, sS, i64_w, i32_w]; rfl
               refine pt_ ?_ 33 (some 52) (btB 53 17179869183) rfl rfl HT_.out (by kernel_rfl) qq_ (Or.inl ⟨by rfl, ?_⟩) ?_ ?_ ?_
               rotate_left; ·intro w'; go_simp; with_reducible rfl
               rotate_left; ·simp only [Act.put, sA, sZ, sS, i64_w, i32_w]; rfl
               refine pt_ ?_ 34 (some 53) (btB 53 34359738367) rfl rfl HT_.out (by kernel_rfl) qq_ (Or.inl ⟨by rfl, ?_⟩) ?_ ?_ ?_
               rotate_left; ·intro w'; go_simp; with_reducible rfl
               rotate_left; ·simp only [Act.put, sA, sZ, sS, i64_w, i32_w]; rfl
               refine pt_ ?_ 35 (some 54) (btB 53 68719476735) rfl rfl HT_.out (by kernel_rfl) qq_ (Or.inl ⟨by rfl, ?_⟩) ?_ ?_ ?_
               rotate_left; ·intro w'; go_simp; with_reducible rfl
               rotate_left; ·simp only [Act.put, sA, sZ, sS, i64_w, i32_w]; rfl
               refine pt_ undef 36 (some 55) (btB 53 137438953471) rfl rfl HT_.out (by kernel_rfl) qq_ (Or.inr ⟨by rfl, rfl⟩) ?_ ?_ ?_
               rotate_left; ·simp only [Act.put, sA, sZ, sS, i64_w, i32_w]; rfl
               refine pt_ undef 37 (some 56) (btB 53 274877906943) rfl rfl HT_.out (by kernel_rfl) qq_ (Or.inr ⟨by rfl, rfl⟩) ?_ ?_ ?_
               rotate_left; ·simp only [Act.put, sA, sZ, sS, i64_w, i32_w]; rfl
               refine pt_ undef 38 (some 57) (btB 53 549755813887) rfl rfl HT_.out (by kernel_rfl) qq_ (Or.inr ⟨by rfl, rfl⟩) ?_ ?_ ?_
               rotate_left; ·simp only [Act.put, sA, sZ, sS, i64_w, i32_w]; rfl
               refine pt_ undef 39 (some 58) (btB 53 1099511627775) rfl rfl HT_.out (by kernel_rfl) qq_ (Or.inr ⟨by rfl, rfl⟩) ?_ ?_ ?_
               rotate_left; ·simp only [Act.put, sA, sZ, sS, i64_w, i32_w]; rfl
               refine pt_ undef 40 (some 59) (btB 53 2199023255551) rfl rfl HT_.out (by kernel_rfl) qq_ (Or.inr ⟨by rfl, rfl⟩) ?_ ?_ ?_
               rotate_left; ·simp only [Act.put, sA, sZ, sS, i64_w, i32_w]; rfl
               refine pt_ undef 41 (some 60) (btB 53 4398046511103) rfl rfl HT_.out (by kernel_rfl) qq_ (Or.inr ⟨by rfl, rfl⟩) ?_ ?_ ?_
               rotate_left; ·simp only [Act.put, sA, sZ, sS, i64_w, i32_w]; rfl
               refine pt_ undef 42 (some 61) (btB 53 8796093022207) rfl rfl HT_.out (by kernel_rfl) qq_ (Or.inr ⟨by rfl, rfl⟩) ?_ ?_ ?_
               rotate_left; ·simp only [Act.put, sA, sZ, sS, i64_w, i32_w]; rfl
               refine pt_ ?_ 43 (some 62) (btB 53 17592186044415) rfl rfl HT_.out (by kernel_rfl) qq_ (Or.inl ⟨by rfl, ?_⟩) ?_ ?_ ?_
               rotate_left; ·intro w'; go_simp; with_reducible rfl
               rotate_left; ·simp only [Act.put, sA, sZ, sS, i64_w, i32_w]; rfl
               refine pt_ ?_ 44 (some 63) (btB 53 35184372088831) rfl rfl HT_.out (by kernel_rfl) qq_ (Or.inl ⟨by rfl, ?_⟩) ?_ ?_ ?_
               rotate_left; ·intro w'; go_simp; with_reducible rfl
               rotate_left; ·simp only [Act.put, sA, sZ, sS, i64_w, i32_w]; rfl
               refine pt_ undef 45 (some 64) (btB 53 70368744177663) rfl rfl HT_.out (by kernel_rfl) qq_ (Or.inr ⟨by rfl, rfl⟩) ?_ ?_ ?_
               rotate_left; ·simp only [Act.put, sA, sZ, sS, i64_w, i32_w]; rfl
               refine pt_ undef 46 (some 65) (btB 53 140737488355327) rfl rfl HT_.out (by kernel_rfl) qq_ (Or.inr ⟨by rfl, rfl⟩) ?_ ?_ ?_
               rotate_left; ·simp only [Act.put, sA, sZ, sS, i64_w, i32_w]; rfl
               refine pt_ undef 47 (some 66) (btB 53 281474976710655) rfl rfl HT_.out (by kernel_rfl) qq_ (Or.inr ⟨by rfl, rfl⟩) ?_ ?_ ?_
               rotate_left; ·simp only [Act.put, sA, sZ, sS, i64_w, i32_w]; rfl
               refine pt_ undef 48 (some 67) (btB 53 562949953421311) rfl rfl HT_.out (by kernel_rfl) qq_ (Or.inr ⟨by rfl, rfl⟩) ?_ ?_ ?_
               rotate_left; ·simp only [Act.put, sA, sZ, sS, i64_w, i32_w]; rfl
               refine pt_ undef 49 (some 68) (btB 53 1125899906842623) rfl rfl HT_.out (by kernel_rfl) qq_ (Or.inr ⟨by rfl, rfl⟩) ?_ ?_ ?_
               rotate_left; ·simp only [Act.put, sA, sZ, sS, i64_w, i32_w]; rfl
               refine pt_ undef 50 (some 69) (btB 53 2251799813685247) rfl rfl HT_.out (by kernel_rfl) qq_ (Or.inr ⟨by rfl, rfl⟩) ?_ ?_ ?_
               rotate_left; ·simp only [Act.put, sA, sZ, sS, i64_w, i32_w]; rfl
               refine pt_ undef 51 (some 70) (btB 53 4503599627370495) rfl rfl HT_.out (by kernel_rfl) qq_ (Or.inr ⟨by rfl, rfl⟩) ?_ ?_ ?_
               rotate_left; ·simp only [Act.put, sA, sZ, sS, i64_w, i32_w]; rfl
               refine pt_ ?_ 52 (some 71) (btB 53 9007199254740991) rfl rfl HT_.out (by kernel_rfl) qq_ (Or.inl ⟨by rfl, ?_⟩) ?_ ?_ ?_
               rotate_left; ·intro w'; go_simp; with_reducible rfl
               rotate_left; ·simp only [Act.put, sA, sZ, sS, i64_w, i32_w]; rfl
               refine done_ (done_of HT_.out (by kernel_rfl)) ?_
               try go_wp2
               go_meet
               case rel => exact ⟨_, (true), (by first | rfl | (simp; done) | (simp [*]; done)), H', ⟨by have := HK1.out; first | omega | exact Nat.le_refl _⟩, ⟨by (with_reducible repeat (first | refine blk_drewN ?_ _ | refine blk_drew ?_ | refine blk_alloc ?_ _)); exact BK102.out⟩, ⟨by repeat (first | (with_reducible first | exact HB.out | apply below_alloc | apply pw_below_drewN | apply below_drew1 | refine below_set ?_ GE102.out) | exact HB.out)⟩⟩
             ·replace c22 := Bool.eq_false_iff.mpr c22
              subst c22
              have H1 : (tallymanref07_Right.j1 k1 l0 x3_1 true ((rd_T110 l0 x3_1).f0) ((rd_T110 l0 x3_1).f1.f0) ((rd_T110 l0 x3_1).f1.f1) ((rd_T110 l0 x3_1).f2.f0) ((rd_T110 l0 x3_1).f2.f1)) = some r := by rw [if_neg (show ¬ (false = true) by decide)] at H; exact H
              clear H
              have H := H1
              clear H1
              have H' := Aside0.mk H
              clear H
              try go_wp2
              have n0_ : Aside0 ((((((w6.setCell ⟨gb102, 0, none⟩ (.int .i64 ((rd_T110 l0 x3_1).f0))).setCell ⟨gb102, 1, none⟩ (.int .i64 ((rd_T110 l0 x3_1).f1.f0))).setCell ⟨gb102, 2, none⟩ (.int .i64 ((rd_T110 l0 x3_1).f1.f1))).setCell ⟨gb102, 3, none⟩ (.int .i64 ((rd_T110 l0 x3_1).f2.f0))).setCell ⟨gb102, 4, none⟩ (.int .i64 ((rd_T110 l0 x3_1).f2.f1))).heap[gb102]? = some (.cells #[.int .i64 ((rd_T110 l0 x3_1).f0), .int .i64 ((rd_T110 l0 x3_1).f1.f0), .int .i64 ((rd_T110 l0 x3_1).f1.f1), .int .i64 ((rd_T110 l0 x3_1).f2.f0), .int .i64 ((rd_T110 l0 x3_1).f2.f1)] 110 (0, 0))) := ⟨by (with_reducible repeat (first | refine blk_drewN ?_ _ | refine blk_drew ?_ | refine blk_alloc ?_ _)); refine blk_put (cs := #[.int .i64 ((rd_T110 l0 x3_1).f0), .int .i64 ((rd_T110 l0 x3_1).f1.f0), .int .i64 ((rd_T110 l0 x3_1).f1.f1), .int .i64 ((rd_T110 l0 x3_1).f2.f0), .int .i64 0]) ?_ 4 _ rfl; (with_reducible repeat (first | refine blk_drewN ?_ _ | refine blk_drew ?_ | refine blk_alloc ?_ _)); refine blk_put (cs := #[.int .i64 ((rd_T110 l0 x3_1).f0), .int .i64 ((rd_T110 l0 x3_1).f1.f0), .int .i64 ((rd_T110 l0 x3_1).f1.f1), .int .i64 0, .int .i64 0]) ?_ 3 _ rfl; (with_reducible repeat (first | refine blk_drewN ?_ _ | refine blk_drew ?_ | refine blk_alloc ?_ _)); refine blk_put (cs := #[.int .i64 ((rd_T110 l0 x3_1).f0), .int .i64 ((rd_T110 l0 x3_1).f1.f0), .int .i64 0, .int .i64 0, .int .i64 0]) ?_ 2 _ rfl; (with_reducible repeat (first | refine blk_drewN ?_ _ | refine blk_drew ?_ | refine blk_alloc ?_ _)); refine blk_put (cs := #[.int .i64 ((rd_T110 l0 x3_1).f0), .int .i64 0, .int .i64 0, .int .i64 0, .int .i64 0]) ?_ 1 _ rfl; (with_reducible repeat (first | refine blk_drewN ?_ _ | refine blk_drew ?_ | refine blk_alloc ?_ _)); refine blk_put (cs := #[.int .i64 0, .int .i64 0, .int .i64 0, .int .i64 0, .int .i64 0]) ?_ 0 _ rfl; (with_reducible repeat (first | refine blk_drewN ?_ _ | refine blk_drew ?_ | refine blk_alloc ?_ _)); exact BK102.out⟩
              have n1_ : Aside0 (Below w.heap.size w (((((w6.setCell ⟨gb102, 0, none⟩ (.int .i64 ((rd_T110 l0 x3_1).f0))).setCell ⟨gb102, 1, none⟩ (.int .i64 ((rd_T110 l0 x3_1).f1.f0))).setCell ⟨gb102, 2, none⟩ (.int .i64 ((rd_T110 l0 x3_1).f1.f1))).setCell ⟨gb102, 3, none⟩ (.int .i64 ((rd_T110 l0 x3_1).f2.f0))).setCell ⟨gb102, 4, none⟩ (.int .i64 ((rd_T110 l0 x3_1).f2.f1)))) := ⟨by repeat (first | (with_reducible first | exact HB.out | apply below_alloc | apply pw_below_drewN | apply below_drew1 | refine below_set ?_ GE102.out) | exact HB.out)⟩
              (try clear BK102)
              (try clear HB)
              generalize (((((w6.setCell ⟨gb102, 0, none⟩ (.int .i64 ((rd_T110 l0 x3_1).f0))).setCell ⟨gb102, 1, none⟩ (.int .i64 ((rd_T110 l0 x3_1).f1.f0))).setCell ⟨gb102, 2, none⟩ (.int .i64 ((rd_T110 l0 x3_1).f1.f1))).setCell ⟨gb102, 3, none⟩ (.int .i64 ((rd_T110 l0 x3_1).f2.f0))).setCell ⟨gb102, 4, none⟩ (.int .i64 ((rd_T110 l0 x3_1).f2.f1))) = w38 at n0_ n1_ ⊢
              have BK102 := n0_
              have HB := n1_
              clear n0_ n1_
              have n0_ := Aside0.mk (blk_drew BK102.out)
              have n1_ := Aside0.mk (below_drew1 HB.out)
              clear BK102
              clear HB
              have BK102 := n0_
              have HB := n1_
              clear n0_ n1_
              have p103 : 0 ≤ ((ji15) : Int) := of_decide_eq_true (by first | (with_reducible assumption) | assumption)
              have q103 : (ji15) < (l0.length : Int) := of_decide_eq_true (by first | (with_reducible assumption) | assumption)
              obtain ⟨ad103, e103, hx103_0, hx103_1, hx103_2, hx103_3, hx103_4⟩ := at_T110 HR0.out (ji15) p103 q103
              have hw103_4 := hx103_4
              have hw103_3 := hx103_3
              have hw103_2 := hx103_2
              have hw103_1 := hx103_1
              have hw103_0 := hx103_0
              obtain rfl : ad101 = ad103 := (by injection e103)
              replace hx103_0 := (HB.out.cell (World.block_lt_of_cell? w _ hx103_0)).trans hx103_0
              replace hx103_1 := (HB.out.cell (World.block_lt_of_cell? w _ hx103_1)).trans hx103_1
              replace hx103_2 := (HB.out.cell (World.block_lt_of_cell? w _ hx103_2)).trans hx103_2
              replace hx103_3 := (HB.out.cell (World.block_lt_of_cell? w _ hx103_3)).trans hx103_3
              replace hx103_4 := (HB.out.cell (World.block_lt_of_cell? w _ hx103_4)).trans hx103_4
              replace p103 := eq_true p103
              replace q103 := eq_true q103
              refine start_ (n := 53) (S := fun w' => w'.cell? ⟨gb102, 0, none⟩ = some (.int .i64 ((rd_T110 l0 x3_1).f0)) ∧ w'.cell? ⟨gb102, 1, none⟩ = some (.int .i64 ((rd_T110 l0 x3_1).f1.f0)) ∧ w'.cell? ⟨gb102, 2, none⟩ = some (.int .i64 ((rd_T110 l0 x3_1).f1.f1)) ∧ w'.cell? ⟨gb102, 3, none⟩ = some (.int .i64 ((rd_T110 l0 x3_1).f2.f0)) ∧ w'.cell? ⟨gb102, 4, none⟩ = some (.int .i64 ((rd_T110 l0 x3_1).f2.f1)) ∧ w'.cell? (ad101.add (((ji15)).toNat * 5)) = some (.int .i64 ((rd_T110 l0 (ji15)).f0)) ∧ w'.cell? ⟨(ad101.add (((ji15)).toNat * 5)).block, (ad101.add (((ji15)).toNat * 5)).off + 1, none⟩ = some (.int .i64 ((rd_T110 l0 (ji15)).f1.f0)) ∧ w'.cell? ⟨(ad101.add (((ji15)).toNat * 5)).block, (ad101.add (((ji15)).toNat * 5)).off + 2, none⟩ = some (.int .i64 ((rd_T110 l0 (ji15)).f1.f1)) ∧ w'.cell? ⟨(ad101.add (((ji15)).toNat * 5)).block, (ad101.add (((ji15)).toNat * 5)).off + 3, none⟩ = some (.int .i64 ((rd_T110 l0 (ji15)).f2.f0)) ∧ w'.cell? ⟨(ad101.add (((ji15)).toNat * 5)).block, (ad101.add (((ji15)).toNat * 5)).off + 4, none⟩ = some (.int .i64 ((rd_T110 l0 (ji15)).f2.f1))) (ds := []) (btB 53 0) (by kernel_rfl) rfl rfl ⟨(blk_cell BK102.out 0).trans rfl, (blk_cell BK102.out 1).trans rfl, (blk_cell BK102.out 2).trans rfl, (blk_cell BK102.out 3).trans rfl, (blk_cell BK102.out 4).trans rfl, ((HB.out.cell (World.block_lt_of_cell? w _ hw103_0)).trans hw103_0), ((HB.out.cell (World.block_lt_of_cell? w _ hw103_1)).trans hw103_1), ((HB.out.cell (World.block_lt_of_cell? w _ hw103_2)).trans hw103_2), ((HB.out.cell (World.block_lt_of_cell? w _ hw103_3)).trans hw103_3), ((HB.out.cell (World.block_lt_of_cell? w _ hw103_4)).trans hw103_4)⟩ (fun hHeld => ?_); refine with_tabW tallymanref07_Right.tab7 tallymanref07_Right.bits7 (fun HT_ HW_ => ?_)
              generalize w38.drew = w39 at BK102 HB hx103_0 hx103_1 hx103_2 hx103_3 hx103_4 hHeld ⊢
              refine pt_ ?_ 0 (some 19) (btB 53 1) rfl rfl HT_.out (by kernel_rfl) qq_ (Or.inl ⟨by rfl, ?_⟩) ?_ ?_ ?_
              rotate_left; ·intro w'; go_simp; with_reducible rfl
              rotate_left; ·simp only [Act.put, sA, sZ, sS, i64_w, i32_w]; rfl
              refine take_ (i := 1) (N := some 20) (v := ?_) (a' := ?_) (btB 53 3) rfl rfl (take_ofW HT_.out HW_.out (by kernel_rfl)) (fun _ _ _ h => h) (Or.inl ⟨by rfl, ?_⟩) hHeld ?_ ?_
              rotate_left; ·rintro w' ⟨s0, s1, s2, s3, s4, s5, s6, s7, s8, s9⟩; go_simp; with_reducible rfl
              rotate_left; ·simp only [Act.put, sA, sZ, sS, i64_w, i32_w]; rfl
              refine pt_ ?_ 2 (some 21) (btB 53 7) rfl rfl HT_.out (by kernel_rfl) qq_ (Or.inl ⟨by rfl, ?_⟩) ?_ ?_ ?_
              rotate_left; ·intro w'; go_simp; with_reducible rfl
              rotate_left; ·simp only [Act.put, sA, sZ, sS, i64_w, i32_w]; rfl
              refine pt_ ?_ 3 (some 22) (btB 53 15) rfl rfl HT_.out (by kernel_rfl) qq_ (Or.inl ⟨by rfl, ?_⟩) ?_ ?_ ?_
              rotate_left; ·intro w'; go_simp; with_reducible rfl
              rotate_left; ·simp only [Act.put, sA, sZ, sS, i64_w, i32_w]; rfl
              refine pt_ ?_ 4 (some 23) (btB 53 31) rfl rfl HT_.out (by kernel_rfl) qq_ (Or.inl ⟨by rfl, ?_⟩) ?_ ?_ ?_
              rotate_left; ·intro w'; go_simp; with_reducible rfl
              rotate_left; ·simp only [Act.put, sA, sZ, sS, i64_w, i32_w]; rfl
              refine take_ (i := 5) (N := some 24) (v := ?_) (a' := ?_) (btB 53 63) rfl rfl (take_ofW HT_.out HW_.out (by kernel_rfl)) (fun _ _ _ h => h) (Or.inl ⟨by rfl, ?_⟩) hHeld ?_ ?_
              rotate_left; ·rintro w' ⟨s0, s1, s2, s3, s4, s5, s6, s7, s8, s9⟩; go_simp; with_reducible rfl
              rotate_left; ·simp only [Act.put, sA, sZ, sS, i64_w, i32_w]; rfl
              refine pt_ ?_ 6 (some 25) (btB 53 127) rfl rfl HT_.out (by kernel_rfl) qq_ (Or.inl ⟨by rfl, ?_⟩) ?_ ?_ ?_
              rotate_left; ·intro w'; go_simp; with_reducible rfl
              rotate_left; ·simp only [Act.put, sA, sZ, sS, i64_w, i32_w]; rfl
              refine pt_ ?_ 7 (some 26) (btB 53 255) rfl rfl HT_.out (by kernel_rfl) qq_ (Or.inl ⟨by rfl, ?_⟩) ?_ ?_ ?_
              rotate_left; ·intro w'; go_simp; with_reducible rfl
              rotate_left; ·simp only [Act.put, sA, sZ, sS, i64_w, i32_w]; rfl
              refine pt_ ?_ 8 (some 27) (btB 53 511) rfl rfl HT_.out (by kernel_rfl) qq_ (Or.inl ⟨by rfl, ?_⟩) ?_ ?_ ?_
              rotate_left; ·intro w'; go_simp; with_reducible rfl
              rotate_left; ·simp only [Act.put, sA, sZ, sS, i64_w, i32_w]; rfl
              refine pt_ ?_ 9 (some 28) (btB 53 1023) rfl rfl HT_.out (by kernel_rfl) qq_ (Or.inl ⟨by rfl, ?_⟩) ?_ ?_ ?_
              rotate_left; ·intro w'; go_simp; with_reducible rfl
              rotate_left; ·simp only [Act.put, sA, sZ, sS, i64_w, i32_w]; rfl
              refine pt_ ?_ 10 (some 29) (btB 53 2047) rfl rfl HT_.out (by kernel_rfl) qq_ (Or.inl ⟨by rfl, ?_⟩) ?_ ?_ ?_
              rotate_left; ·intro w'; go_simp; with_reducible rfl
              rotate_left; ·simp only [Act.put, sA, sZ, sS, i64_w, i32_w]; rfl
              refine pt_ ?_ 11 (some 30) (btB 53 4095) rfl rfl HT_.out (by kernel_rfl) qq_ (Or.inl ⟨by rfl, ?_⟩) ?_ ?_ ?_
              rotate_left; ·intro w'; go_simp; with_reducible rfl
              rotate_left; ·simp only [Act.put, sA, sZ, sS, i64_w, i32_w]; rfl
              refine pt_ ?_ 12 (some 31) (btB 53 8191) rfl rfl HT_.out (by kernel_rfl) qq_ (Or.inl ⟨by rfl, ?_⟩) ?_ ?_ ?_
              rotate_left; ·intro w'; go_simp; with_reducible rfl
              rotate_left; ·simp only [Act.put, sA, sZ, sS, i64_w, i32_w]; rfl
              refine pt_ ?_ 14 (some 33) (btB 53 24575) rfl rfl HT_.out (by kernel_rfl) qq_ (Or.inl ⟨by rfl, ?_⟩) ?_ ?_ ?_
              rotate_left; ·intro w'; go_simp; with_reducible rfl
              rotate_left; ·simp only [Act.put, sA, sZ, sS, i64_w, i32_w]; rfl
              refine pt_ ?_ 15 (some 34) (btB 53 57343) rfl rfl HT_.out (by kernel_rfl) qq_ (Or.inl ⟨by rfl, ?_⟩) ?_ ?_ ?_
              rotate_left; ·intro w'; go_simp; with_reducible rfl
              rotate_left; ·simp only [Act.put, sA, sZ, sS, i64_w, i32_w]; rfl
              refine pt_ ?_ 16 (some 35) (btB 53 122879) rfl rfl HT_.out (by kernel_rfl) qq_ (Or.inl ⟨by rfl, ?_⟩) ?_ ?_ ?_
              rotate_left; ·intro w'; go_simp; with_reducible rfl
              rotate_left; ·simp only [Act.put, sA, sZ, sS, i64_w, i32_w]; rfl
              refine pt_ ?_ 17 (some 36) (btB 53 253951) rfl rfl HT_.out (by kernel_rfl) qq_ (Or.inl ⟨by rfl, ?_⟩) ?_ ?_ ?_
              rotate_left; ·intro w'; go_simp; with_reducible rfl
              rotate_left; ·simp only [Act.put, sA, sZ, sS, i64_w, i32_w]; rfl
              refine pt_ ?_ 18 (some 37) (btB 53 516095) rfl rfl HT_.out (by kernel_rfl) qq_ (Or.inl ⟨by rfl, ?_⟩) ?_ ?_ ?_
              rotate_left; ·intro w'; go_simp; with_reducible rfl
              rotate_left; ·simp only [Act.put, sA, sZ, sS, i64_w, i32_w]; rfl
              refine take_ (i := 13) (N := some 32) (v := ?_) (a' := ?_) (btB 53 524287) rfl rfl (take_ofW HT_.out HW_.out (by kernel_rfl)) (fun _ _ _ h => h) (Or.inl ⟨by rfl, ?_⟩) hHeld ?_ ?_
              rotate_left; ·rintro w' ⟨s0, s1, s2, s3, s4, s5, s6, s7, s8, s9⟩; go_simp; with_reducible rfl
              rotate_left; ·simp only [Act.put, sA, sZ, sS, i64_w, i32_w]; rfl
              refine take_ (i := 19) (N := some 38) (v := ?_) (a' := ?_) (btB 53 1048575) rfl rfl (take_ofW HT_.out HW_.out (by kernel_rfl)) (fun _ _ _ h => h) (Or.inl ⟨by rfl, ?_⟩) hHeld ?_ ?_
              rotate_left; ·rintro w' ⟨s0, s1, s2, s3, s4, s5, s6, s7, s8, s9⟩; go_simp; with_reducible rfl
              rotate_left; ·simp only [Act.put, sA, sZ, sS, i64_w, i32_w]; rfl
              refine pt_ ?_ 20 (some 39) (btB 53 2097151) rfl rfl HT_.out (by kernel_rfl) qq_ (Or.inl ⟨by rfl, ?_⟩) ?_ ?_ ?_
              rotate_left; ·intro w'; go_simp; with_reducible rfl
              rotate_left; ·simp only [Act.put, sA, sZ, sS, i64_w, i32_w]; rfl
              refine pt_ ?_ 21 (some 40) (btB 53 4194303) rfl rfl HT_.out (by kernel_rfl) qq_ (Or.inl ⟨by rfl, ?_⟩) ?_ ?_ ?_
              rotate_left; ·intro w'; go_simp; with_reducible rfl
              rotate_left; ·simp only [Act.put, sA, sZ, sS, i64_w, i32_w]; rfl
              refine pt_ ?_ 22 (some 41) (btB 53 8388607) rfl rfl HT_.out (by kernel_rfl) qq_ (Or.inl ⟨by rfl, ?_⟩) ?_ ?_ ?_
              rotate_left; ·intro w'; go_simp; with_reducible rfl
              rotate_left; ·simp only [Act.put, sA, sZ, sS, i64_w, i32_w]; rfl
              refine pt_ ?_ 23 (some 42) (btB 53 16777215) rfl rfl HT_.out (by kernel_rfl) qq_ (Or.inl ⟨by rfl, ?_⟩) ?_ ?_ ?_
              rotate_left; ·intro w'; go_simp; with_reducible rfl
              rotate_left; ·simp only [Act.put, sA, sZ, sS, i64_w, i32_w]; rfl
              refine pt_ ?_ 24 (some 43) (btB 53 33554431) rfl rfl HT_.out (by kernel_rfl) qq_ (Or.inl ⟨by rfl, ?_⟩) ?_ ?_ ?_
              rotate_left; ·intro w'; go_simp; with_reducible rfl
              rotate_left; ·simp only [Act.put, sA, sZ, sS, i64_w, i32_w]; rfl
              refine take_ (i := 25) (N := some 44) (v := ?_) (a' := ?_) (btB 53 67108863) rfl rfl (take_ofW HT_.out HW_.out (by kernel_rfl)) (fun _ _ _ h => h) (Or.inl ⟨by rfl, ?_⟩) hHeld ?_ ?_
              rotate_left; ·rintro w' ⟨s0, s1, s2, s3, s4, s5, s6, s7, s8, s9⟩; go_simp; with_reducible rfl
              rotate_left; ·simp only [Act.put, sA, sZ, sS, i64_w, i32_w]; rfl
              refine one_ (i := 26) (N := some 45) (btB 53 134217727) rfl rfl (one_of HT_.out (by kernel_rfl)) (by decide) (fun K hK => ?_)
              refine goes_ Try.func112 (by kernel_rfl) rfl #[.agg #[.int .i64 ((rd_T110 l0 x3_1).f1.f0), .int .i64 ((rd_T110 l0 x3_1).f1.f1)], .int .i64 1000] (by rfl) rfl rfl (by (try simp only [List.map_toArray, List.map_cons, List.map_nil]); first | done | rfl | (simp only [List.length_drop, List.length_take]; rfl)) ?_
              with_reducible refine (tallymanref03_Small.calls ((rd_T110 l0 x3_1).f1.f0) ((rd_T110 l0 x3_1).f1.f1) 1000 false _ A21.out).mono ?_
              rintro e w40 ⟨rfl, hb⟩
              refine ⟨_, rfl, ?_⟩
              have n0_ := Aside0.mk (blk_below (g := gb102) (o := .cells #[.int .i64 ((rd_T110 l0 x3_1).f0), .int .i64 ((rd_T110 l0 x3_1).f1.f0), .int .i64 ((rd_T110 l0 x3_1).f1.f1), .int .i64 ((rd_T110 l0 x3_1).f2.f0), .int .i64 ((rd_T110 l0 x3_1).f2.f1)] 110 (0, 0)) (by (with_reducible repeat (first | refine blk_drewN ?_ _ | refine blk_drew ?_ | refine blk_alloc ?_ _)); exact BK102.out) hb)
              have n1_ := Aside0.mk (below_step (by repeat (first | (with_reducible first | exact HB.out | apply below_alloc | apply pw_below_drewN | apply below_drew1 | refine below_set ?_ GE102.out) | exact HB.out)) hb)
              clear BK102
              clear HB
              have BK102 := n0_
              have HB := n1_
              clear n0_ n1_
              (try clear hb)
              (try clear hb2)
              (try clear hk)
              (try clear hi)
              refine hK.out _ _ ⟨(blk_cell BK102.out 0).trans rfl, (blk_cell BK102.out 1).trans rfl, (blk_cell BK102.out 2).trans rfl, (blk_cell BK102.out 3).trans rfl, (blk_cell BK102.out 4).trans rfl, ((HB.out.cell (World.block_lt_of_cell? w _ hw103_0)).trans hw103_0), ((HB.out.cell (World.block_lt_of_cell? w _ hw103_1)).trans hw103_1), ((HB.out.cell (World.block_lt_of_cell? w _ hw103_2)).trans hw103_2), ((HB.out.cell (World.block_lt_of_cell? w _ hw103_3)).trans hw103_3), ((HB.out.cell (World.block_lt_of_cell? w _ hw103_4)).trans hw103_4)⟩ (fun hHeld => ?_)
              clear hK K
              refine norm_ (a' := ?_) ?_ ?_
              rotate_left; ·show Act.put _ (some 45) _ = _; simp only [Act.put, sA, sZ, sS, i64_w, i32_w]; rfl
              refine pt_ ?_ 27 (some 46) (btB 53 268435455) rfl rfl HT_.out (by kernel_rfl) qq_ (Or.inl ⟨by rfl, ?_⟩) ?_ ?_ ?_
              rotate_left; ·intro w'; go_simp; with_reducible rfl
              rotate_left; ·simp only [Act.put, sA, sZ, sS, i64_w, i32_w]; rfl
              refine pt_ ?_ 28 (some 47) (btB 53 536870911) rfl rfl HT_.out (by kernel_rfl) qq_ (Or.inl ⟨by rfl, ?_⟩) ?_ ?_ ?_
              rotate_left; ·intro w'; go_simp; with_reducible rfl
              rotate_left; ·simp only [Act.put, sA, sZ, sS, i64_w, i32_w]; rfl
              refine pt_ ?_ 29 (some 48) (btB 53 1073741823) rfl rfl HT_.out (by kernel_rfl) qq_ (Or.inl ⟨by rfl, ?_⟩) ?_ ?_ ?_
              rotate_left; ·intro w'; go_simp; with_reducible rfl
              rotate_left; ·simp only [Act.put, sA, sZ, sS, i64_w, i32_w]; rfl
              refine pt_ undef 30 (some 49) (btB 53 2147483647) rfl rfl HT_.out (by kernel_rfl) qq_ (Or.inr ⟨by rfl, rfl⟩) ?_ ?_ ?_
              rotate_left; ·simp only [Act.put, sA, sZ, sS, i64_w, i32_w]; rfl
              refine pt_ undef 31 (some 50) (btB 53 4294967295) rfl rfl HT_.out (by kernel_rfl) qq_ (Or.inr ⟨by rfl, rfl⟩) ?_ ?_ ?_
              rotate_left; ·simp only [Act.put, sA, sZ, sS, i64_w, i32_w]; rfl
              refine pt_ undef 32 (some 51) (btB 53 8589934591) rfl rfl HT_.out (by kernel_rfl) qq_ (Or.inr ⟨by rfl, rfl⟩) ?_ ?_ ?_
              rotate_left; ·simp only [Act.put, sA, sZ, sS, i64_w, i32_w]; rfl
              refine pt_ undef 33 (some 52) (btB 53 17179869183) rfl rfl HT_.out (by kernel_rfl) qq_ (Or.inr ⟨by rfl, rfl⟩) ?_ ?_ ?_
              rotate_left; ·simp only [Act.put, sA, sZ, sS, i64_w, i32_w]; rfl
              refine pt_ ?_ 34 (some 53) (btB 53 34359738367) rfl rfl HT_.out (by kernel_rfl) qq_ (Or.inl ⟨by rfl, ?_⟩) ?_ ?_ ?_
              rotate_left; ·intro w'; go_simp; with_reducible rfl
              rotate_left; ·simp only [Act.put, sA, sZ, sS, i64_w, i32_w]; rfl
              refine pt_ ?_ 35 (some 54) (btB 53 68719476735) rfl rfl HT_.out (by kernel_rfl) qq_ (Or.inl ⟨by rfl, ?_⟩) ?_ ?_ ?_
              rotate_left; ·intro w'; go_simp; with_reducible rfl
              rotate_left; ·simp only [Act.put, sA, sZ, sS, i64_w, i32_w]; rfl
              refine pt_ undef 36 (some 55) (btB 53 137438953471) rfl rfl HT_.out (by kernel_rfl) qq_ (Or.inr ⟨by rfl, rfl⟩) ?_ ?_ ?_
              rotate_left; ·simp only [Act.put, sA, sZ, sS, i64_w, i32_w]; rfl
              refine pt_ undef 37 (some 56) (btB 53 274877906943) rfl rfl HT_.out (by kernel_rfl) qq_ (Or.inr ⟨by rfl, rfl⟩) ?_ ?_ ?_
              rotate_left; ·simp only [Act.put, sA, sZ, sS, i64_w, i32_w]; rfl
              refine pt_ undef 38 (some 57) (btB 53 549755813887) rfl rfl HT_.out (by kernel_rfl) qq_ (Or.inr ⟨by rfl, rfl⟩) ?_ ?_ ?_
              rotate_left; ·simp only [Act.put, sA, sZ, sS, i64_w, i32_w]; rfl
              refine pt_ undef 39 (some 58) (btB 53 1099511627775) rfl rfl HT_.out (by kernel_rfl) qq_ (Or.inr ⟨by rfl, rfl⟩) ?_ ?_ ?_
              rotate_left; ·simp only [Act.put, sA, sZ, sS, i64_w, i32_w]; rfl
              refine pt_ undef 40 (some 59) (btB 53 2199023255551) rfl rfl HT_.out (by kernel_rfl) qq_ (Or.inr ⟨by rfl, rfl⟩) ?_ ?_ ?_
              rotate_left; ·simp only [Act.put, sA, sZ, sS, i64_w, i32_w]; rfl
              refine pt_ undef 41 (some 60) (btB 53 4398046511103) rfl rfl HT_.out (by kernel_rfl) qq_ (Or.inr ⟨by rfl, rfl⟩) ?_ ?_ ?_
              rotate_left; ·simp only [Act.put, sA, sZ, sS, i64_w, i32_w]; rfl
              refine pt_ undef 42 (some 61) (btB 53 8796093022207) rfl rfl HT_.out (by kernel_rfl) qq_ (Or.inr ⟨by rfl, rfl⟩) ?_ ?_ ?_
              rotate_left; ·simp only [Act.put, sA, sZ, sS, i64_w, i32_w]; rfl
              refine pt_ ?_ 43 (some 62) (btB 53 17592186044415) rfl rfl HT_.out (by kernel_rfl) qq_ (Or.inl ⟨by rfl, ?_⟩) ?_ ?_ ?_
              rotate_left; ·intro w'; go_simp; with_reducible rfl
              rotate_left; ·simp only [Act.put, sA, sZ, sS, i64_w, i32_w]; rfl
              refine pt_ ?_ 44 (some 63) (btB 53 35184372088831) rfl rfl HT_.out (by kernel_rfl) qq_ (Or.inl ⟨by rfl, ?_⟩) ?_ ?_ ?_
              rotate_left; ·intro w'; go_simp; with_reducible rfl
              rotate_left; ·simp only [Act.put, sA, sZ, sS, i64_w, i32_w]; rfl
              refine pt_ undef 45 (some 64) (btB 53 70368744177663) rfl rfl HT_.out (by kernel_rfl) qq_ (Or.inr ⟨by rfl, rfl⟩) ?_ ?_ ?_
              rotate_left; ·simp only [Act.put, sA, sZ, sS, i64_w, i32_w]; rfl
              refine pt_ undef 46 (some 65) (btB 53 140737488355327) rfl rfl HT_.out (by kernel_rfl) qq_ (Or.inr ⟨by rfl, rfl⟩) ?_ ?_ ?_
              rotate_left; ·simp only [Act.put, sA, sZ, sS, i64_w, i32_w]; rfl
              refine pt_ undef 47 (some 66) (btB 53 281474976710655) rfl rfl HT_.out (by kernel_rfl) qq_ (Or.inr ⟨by rfl, rfl⟩) ?_ ?_ ?_
              rotate_left; ·simp only [Act.put, sA, sZ, sS, i64_w, i32_w]; rfl
              refine pt_ undef 48 (some 67) (btB 53 562949953421311) rfl rfl HT_.out (by kernel_rfl) qq_ (Or.inr ⟨by rfl, rfl⟩) ?_ ?_ ?_
              rotate_left; ·simp only [Act.put, sA, sZ, sS, i64_w, i32_w]; rfl
              refine pt_ undef 49 (some 68) (btB 53 1125899906842623) rfl rfl HT_.out (by kernel_rfl) qq_ (Or.inr ⟨by rfl, rfl⟩) ?_ ?_ ?_
              rotate_left; ·simp only [Act.put, sA, sZ, sS, i64_w, i32_w]; rfl
              refine pt_ undef 50 (some 69) (btB 53 2251799813685247) rfl rfl HT_.out (by kernel_rfl) qq_ (Or.inr ⟨by rfl, rfl⟩) ?_ ?_ ?_
              rotate_left; ·simp only [Act.put, sA, sZ, sS, i64_w, i32_w]; rfl
              refine pt_ undef 51 (some 70) (btB 53 4503599627370495) rfl rfl HT_.out (by kernel_rfl) qq_ (Or.inr ⟨by rfl, rfl⟩) ?_ ?_ ?_
              rotate_left; ·simp only [Act.put, sA, sZ, sS, i64_w, i32_w]; rfl
              refine pt_ ?_ 52 (some 71) (btB 53 9007199254740991) rfl rfl HT_.out (by kernel_rfl) qq_ (Or.inl ⟨by rfl, ?_⟩) ?_ ?_ ?_
              rotate_left; ·intro w'; go_simp; with_reducible rfl
              rotate_left; ·simp only [Act.put, sA, sZ, sS, i64_w, i32_w]; rfl
              refine done_ (done_of HT_.out (by kernel_rfl)) ?_
              try go_wp2
              go_meet
              case rel => exact ⟨_, (true), (by first | rfl | (simp; done) | (simp [*]; done)), H', ⟨by have := HK1.out; first | omega | exact Nat.le_refl _⟩, ⟨by (with_reducible repeat (first | refine blk_drewN ?_ _ | refine blk_drew ?_ | refine blk_alloc ?_ _)); exact BK102.out⟩, ⟨by repeat (first | (with_reducible first | exact HB.out | apply below_alloc | apply pw_below_drewN | apply below_drew1 | refine below_set ?_ GE102.out) | exact HB.out)⟩⟩
           ·rw [if_neg c17] at H
            exact absurd H (by simp)
          ·rw [if_neg c16] at H
           exact absurd H (by simp)
         ·rw [if_neg c14] at H
          have c14b0 : decide (0 < x3_1) = false := decide_eq_false c14
          clear c14
          replace H := Option.bind_eq_some_iff.mp H
          obtain ⟨t106, A410, H⟩ := H
          replace H : (if t106 = true then ((tallymanref03_Small.f ((rd_T110 l0 x3_1).f2.f0) ((rd_T110 l0 x3_1).f2.f1) 1000).bind fun t107 => (if t107 = true then (if ((rd_T110 l0 x3_1).f1.f0) > ((rd_T110 l0 x3_1).f2.f0) then (tallymanref07_Right.j1 k1 l0 x3_1 true ((rd_T110 l0 x3_1).f0) ((rd_T110 l0 x3_1).f1.f0) ((rd_T110 l0 x3_1).f1.f1) ((rd_T110 l0 x3_1).f2.f0) ((rd_T110 l0 x3_1).f2.f1)) else (tallymanref07_Right.j1 k1 l0 x3_1 (decide (((rd_T110 l0 x3_1).f1.f1) > ((rd_T110 l0 x3_1).f2.f1))) ((rd_T110 l0 x3_1).f0) ((rd_T110 l0 x3_1).f1.f0) ((rd_T110 l0 x3_1).f1.f1) ((rd_T110 l0 x3_1).f2.f0) ((rd_T110 l0 x3_1).f2.f1))) else (tallymanref07_Right.j1 k1 l0 x3_1 true ((rd_T110 l0 x3_1).f0) ((rd_T110 l0 x3_1).f1.f0) ((rd_T110 l0 x3_1).f1.f1) ((rd_T110 l0 x3_1).f2.f0) ((rd_T110 l0 x3_1).f2.f1)))) else (tallymanref07_Right.j1 k1 l0 x3_1 true ((rd_T110 l0 x3_1).f0) ((rd_T110 l0 x3_1).f1.f0) ((rd_T110 l0 x3_1).f1.f1) ((rd_T110 l0 x3_1).f2.f0) ((rd_T110 l0 x3_1).f2.f1))) = some r := H
          have A41 := Aside0.mk A410
          clear A410
          by_cases c42 : t106 = true
          ·subst c42
           have H1 : ((tallymanref03_Small.f ((rd_T110 l0 x3_1).f2.f0) ((rd_T110 l0 x3_1).f2.f1) 1000).bind fun t107 => (if t107 = true then (if ((rd_T110 l0 x3_1).f1.f0) > ((rd_T110 l0 x3_1).f2.f0) then (tallymanref07_Right.j1 k1 l0 x3_1 true ((rd_T110 l0 x3_1).f0) ((rd_T110 l0 x3_1).f1.f0) ((rd_T110 l0 x3_1).f1.f1) ((rd_T110 l0 x3_1).f2.f0) ((rd_T110 l0 x3_1).f2.f1)) else (tallymanref07_Right.j1 k1 l0 x3_1 (decide (((rd_T110 l0 x3_1).f1.f1) > ((rd_T110 l0 x3_1).f2.f1))) ((rd_T110 l0 x3_1).f0) ((rd_T110 l0 x3_1).f1.f0) ((rd_T110 l0 x3_1).f1.f1) ((rd_T110 l0 x3_1).f2.f0) ((rd_T110 l0 x3_1).f2.f1))) else (tallymanref07_Right.j1 k1 l0 x3_1 true ((rd_T110 l0 x3_1).f0) ((rd_T110 l0 x3_1).f1.f0) ((rd_T110 l0 x3_1).f1.f1) ((rd_T110 l0 x3_1).f2.f0) ((rd_T110 l0 x3_1).f2.f1)))) = some r := by rw [if_pos rfl] at H; exact H
           clear H
           have H := H1
           clear H1
           replace H := Option.bind_eq_some_iff.mp H
           obtain ⟨t107, A430, H⟩ := H
           replace H : (if t107 = true then (if ((rd_T110 l0 x3_1).f1.f0) > ((rd_T110 l0 x3_1).f2.f0) then (tallymanref07_Right.j1 k1 l0 x3_1 true ((rd_T110 l0 x3_1).f0) ((rd_T110 l0 x3_1).f1.f0) ((rd_T110 l0 x3_1).f1.f1) ((rd_T110 l0 x3_1).f2.f0) ((rd_T110 l0 x3_1).f2.f1)) else (tallymanref07_Right.j1 k1 l0 x3_1 (decide (((rd_T110 l0 x3_1).f1.f1) > ((rd_T110 l0 x3_1).f2.f1))) ((rd_T110 l0 x3_1).f0) ((rd_T110 l0 x3_1).f1.f0) ((rd_T110 l0 x3_1).f1.f1) ((rd_T110 l0 x3_1).f2.f0) ((rd_T110 l0 x3_1).f2.f1))) else (tallymanref07_Right.j1 k1 l0 x3_1 true ((rd_T110 l0 x3_1).f0) ((rd_T110 l0 x3_1).f1.f0) ((rd_T110 l0 x3_1).f1.f1) ((rd_T110 l0 x3_1).f2.f0) ((rd_T110 l0 x3_1).f2.f1))) = some r := H
           have A43 := Aside0.mk A430
           clear A430
           by_cases c44 : t107 = true
           ·subst c44
            have H1 : (if ((rd_T110 l0 x3_1).f1.f0) > ((rd_T110 l0 x3_1).f2.f0) then (tallymanref07_Right.j1 k1 l0 x3_1 true ((rd_T110 l0 x3_1).f0) ((rd_T110 l0 x3_1).f1.f0) ((rd_T110 l0 x3_1).f1.f1) ((rd_T110 l0 x3_1).f2.f0) ((rd_T110 l0 x3_1).f2.f1)) else (tallymanref07_Right.j1 k1 l0 x3_1 (decide (((rd_T110 l0 x3_1).f1.f1) > ((rd_T110 l0 x3_1).f2.f1))) ((rd_T110 l0 x3_1).f0) ((rd_T110 l0 x3_1).f1.f0) ((rd_T110 l0 x3_1).f1.f1) ((rd_T110 l0 x3_1).f2.f0) ((rd_T110 l0 x3_1).f2.f1))) = some r := by rw [if_pos rfl] at H; exact H
            clear H
            have H := H1
            clear H1
            by_cases c45 : ((rd_T110 l0 x3_1).f1.f0) > ((rd_T110 l0 x3_1).f2.f0)
            ·rw [if_pos c45] at H
             have c45b0 : decide (((rd_T110 l0 x3_1).f2.f0) < ((rd_T110 l0 x3_1).f1.f0)) = true := decide_eq_true c45
             clear c45
             have H' := Aside0.mk H
             clear H
             try go_wp2
             have n0_ : Aside0 ((((((w6.setCell ⟨gb102, 0, none⟩ (.int .i64 ((rd_T110 l0 x3_1).f0))).setCell ⟨gb102, 1, none⟩ (.int .i64 ((rd_T110 l0 x3_1).f1.f0))).setCell ⟨gb102, 2, none⟩ (.int .i64 ((rd_T110 l0 x3_1).f1.f1))).setCell ⟨gb102, 3, none⟩ (.int .i64 ((rd_T110 l0 x3_1).f2.f0))).setCell ⟨gb102, 4, none⟩ (.int .i64 ((rd_T110 l0 x3_1).f2.f1))).heap[gb102]? = some (.cells #[.int .i64 ((rd_T110 l0 x3_1).f0), .int .i64 ((rd_T110 l0 x3_1).f1.f0), .int .i64 ((rd_T110 l0 x3_1).f1.f1), .int .i64 ((rd_T110 l0 x3_1).f2.f0), .int .i64 ((rd_T110 l0 x3_1).f2.f1)] 110 (0, 0))) := ⟨by (with_reducible repeat (first | refine blk_drewN ?_ _ | refine blk_drew ?_ | refine blk_alloc ?_ _)); refine blk_put (cs := #[.int .i64 ((rd_T110 l0 x3_1).f0), .int .i64 ((rd_T110 l0 x3_1).f1.f0), .int .i64 ((rd_T110 l0 x3_1).f1.f1), .int .i64 ((rd_T110 l0 x3_1).f2.f0), .int .i64 0]) ?_ 4 _ rfl; (with_reducible repeat (first | refine blk_drewN ?_ _ | refine blk_drew ?_ | refine blk_alloc ?_ _)); refine blk_put (cs := #[.int .i64 ((rd_T110 l0 x3_1).f0), .int .i64 ((rd_T110 l0 x3_1).f1.f0), .int .i64 ((rd_T110 l0 x3_1).f1.f1), .int .i64 0, .int .i64 0]) ?_ 3 _ rfl; (with_reducible repeat (first | refine blk_drewN ?_ _ | refine blk_drew ?_ | refine blk_alloc ?_ _)); refine blk_put (cs := #[.int .i64 ((rd_T110 l0 x3_1).f0), .int .i64 ((rd_T110 l0 x3_1).f1.f0), .int .i64 0, .int .i64 0, .int .i64 0]) ?_ 2 _ rfl; (with_reducible repeat (first | refine blk_drewN ?_ _ | refine blk_drew ?_ | refine blk_alloc ?_ _)); refine blk_put (cs := #[.int .i64 ((rd_T110 l0 x3_1).f0), .int .i64 0, .int .i64 0, .int .i64 0, .int .i64 0]) ?_ 1 _ rfl; (with_reducible repeat (first | refine blk_drewN ?_ _ | refine blk_drew ?_ | refine blk_alloc ?_ _)); refine blk_put (cs := #[.int .i64 0, .int .i64 0, .int .i64 0, .int .i64 0, .int .i64 0]) ?_ 0 _ rfl; (with_reducible repeat (first | refine blk_drewN ?_ _ | refine blk_drew ?_ | refine blk_alloc ?_ _)); exact BK102.out⟩
             have n1_ : Aside0 (Below w.heap.size w (((((w6.setCell ⟨gb102, 0, none⟩ (.int .i64 ((rd_T110 l0 x3_1).f0))).setCell ⟨gb102, 1, none⟩ (.int .i64 ((rd_T110 l0 x3_1).f1.f0))).setCell ⟨gb102, 2, none⟩ (.int .i64 ((rd_T110 l0 x3_1).f1.f1))).setCell ⟨gb102, 3, none⟩ (.int .i64 ((rd_T110 l0 x3_1).f2.f0))).setCell ⟨gb102, 4, none⟩ (.int .i64 ((rd_T110 l0 x3_1).f2.f1)))) := ⟨by repeat (first | (with_reducible first | exact HB.out | apply below_alloc | apply pw_below_drewN | apply below_drew1 | refine below_set ?_ GE102.out) | exact HB.out)⟩
             (try clear BK102)
             (try clear HB)
             generalize (((((w6.setCell ⟨gb102, 0, none⟩ (.int .i64 ((rd_T110 l0 x3_1).f0))).setCell ⟨gb102, 1, none⟩ (.int .i64 ((rd_T110 l0 x3_1).f1.f0))).setCell ⟨gb102, 2, none⟩ (.int .i64 ((rd_T110 l0 x3_1).f1.f1))).setCell ⟨gb102, 3, none⟩ (.int .i64 ((rd_T110 l0 x3_1).f2.f0))).setCell ⟨gb102, 4, none⟩ (.int .i64 ((rd_T110 l0 x3_1).f2.f1))) = w46 at n0_ n1_ ⊢
             have BK102 := n0_
             have HB := n1_
             clear n0_ n1_
             have n0_ := Aside0.mk (blk_drew BK102.out)
             have n1_ := Aside0.mk (below_drew1 HB.out)
             clear BK102
             clear HB
             have BK102 := n0_
             have HB := n1_
             clear n0_ n1_
             refine start_ (n := 53) (S := fun w' => w'.cell? ⟨gb102, 0, none⟩ = some (.int .i64 ((rd_T110 l0 x3_1).f0)) ∧ w'.cell? ⟨gb102, 1, none⟩ = some (.int .i64 ((rd_T110 l0 x3_1).f1.f0)) ∧ w'.cell? ⟨gb102, 2, none⟩ = some (.int .i64 ((rd_T110 l0 x3_1).f1.f1)) ∧ w'.cell? ⟨gb102, 3, none⟩ = some (.int .i64 ((rd_T110 l0 x3_1).f2.f0)) ∧ w'.cell? ⟨gb102, 4, none⟩ = some (.int .i64 ((rd_T110 l0 x3_1).f2.f1))) (ds := []) (btB 53 0) (by kernel_rfl) rfl rfl ⟨(blk_cell BK102.out 0).trans rfl, (blk_cell BK102.out 1).trans rfl, (blk_cell BK102.out 2).trans rfl, (blk_cell BK102.out 3).trans rfl, (blk_cell BK102.out 4).trans rfl⟩ (fun hHeld => ?_); refine with_tabW tallymanref07_Right.tab7 tallymanref07_Right.bits7 (fun HT_ HW_ => ?_)
             generalize w46.drew = w47 at BK102 HB hHeld ⊢
             refine pt_ ?_ 0 (some 19) (btB 53 1) rfl rfl HT_.out (by kernel_rfl) qq_ (Or.inl ⟨by rfl, ?_⟩) ?_ ?_ ?_
             rotate_left; ·intro w'; go_simp; with_reducible rfl
             rotate_left; ·simp only [Act.put, sA, sZ, sS, i64_w, i32_w]; rfl
             refine take_ (i := 1) (N := some 20) (v := ?_) (a' := ?_) (btB 53 3) rfl rfl (take_ofW HT_.out HW_.out (by kernel_rfl)) (fun _ _ _ h => h) (Or.inl ⟨by rfl, ?_⟩) hHeld ?_ ?_
             rotate_left; ·rintro w' ⟨s0, s1, s2, s3, s4⟩; go_simp; with_reducible rfl
             rotate_left; ·simp only [Act.put, sA, sZ, sS, i64_w, i32_w]; rfl
             refine pt_ ?_ 2 (some 21) (btB 53 7) rfl rfl HT_.out (by kernel_rfl) qq_ (Or.inl ⟨by rfl, ?_⟩) ?_ ?_ ?_
             rotate_left; ·intro w'; go_simp; with_reducible rfl
             rotate_left; ·simp only [Act.put, sA, sZ, sS, i64_w, i32_w]; rfl
             refine pt_ ?_ 3 (some 22) (btB 53 15) rfl rfl HT_.out (by kernel_rfl) qq_ (Or.inl ⟨by rfl, ?_⟩) ?_ ?_ ?_
             rotate_left; ·intro w'; go_simp; with_reducible rfl
             rotate_left; ·simp only [Act.put, sA, sZ, sS, i64_w, i32_w]; rfl
             refine pt_ ?_ 4 (some 23) (btB 53 31) rfl rfl HT_.out (by kernel_rfl) qq_ (Or.inl ⟨by rfl, ?_⟩) ?_ ?_ ?_
             rotate_left; ·intro w'; go_simp; with_reducible rfl
             rotate_left; ·simp only [Act.put, sA, sZ, sS, i64_w, i32_w]; rfl
             refine take_ (i := 5) (N := some 24) (v := ?_) (a' := ?_) (btB 53 63) rfl rfl (take_ofW HT_.out HW_.out (by kernel_rfl)) (fun _ _ _ h => h) (Or.inl ⟨by rfl, ?_⟩) hHeld ?_ ?_
             rotate_left; ·rintro w' ⟨s0, s1, s2, s3, s4⟩; go_simp; with_reducible rfl
             rotate_left; ·simp only [Act.put, sA, sZ, sS, i64_w, i32_w]; rfl
             refine pt_ ?_ 6 (some 25) (btB 53 127) rfl rfl HT_.out (by kernel_rfl) qq_ (Or.inl ⟨by rfl, ?_⟩) ?_ ?_ ?_
             rotate_left; ·intro w'; go_simp; with_reducible rfl
             rotate_left; ·simp only [Act.put, sA, sZ, sS, i64_w, i32_w]; rfl
             refine pt_ ?_ 7 (some 26) (btB 53 255) rfl rfl HT_.out (by kernel_rfl) qq_ (Or.inl ⟨by rfl, ?_⟩) ?_ ?_ ?_
             rotate_left; ·intro w'; go_simp; with_reducible rfl
             rotate_left; ·simp only [Act.put, sA, sZ, sS, i64_w, i32_w]; rfl
             refine pt_ ?_ 8 (some 27) (btB 53 511) rfl rfl HT_.out (by kernel_rfl) qq_ (Or.inl ⟨by rfl, ?_⟩) ?_ ?_ ?_
             rotate_left; ·intro w'; go_simp; with_reducible rfl
             rotate_left; ·simp only [Act.put, sA, sZ, sS, i64_w, i32_w]; rfl
             refine pt_ ?_ 9 (some 28) (btB 53 1023) rfl rfl HT_.out (by kernel_rfl) qq_ (Or.inl ⟨by rfl, ?_⟩) ?_ ?_ ?_
             rotate_left; ·intro w'; go_simp; with_reducible rfl
             rotate_left; ·simp only [Act.put, sA, sZ, sS, i64_w, i32_w]; rfl
             refine pt_ ?_ 10 (some 29) (btB 53 2047) rfl rfl HT_.out (by kernel_rfl) qq_ (Or.inl ⟨by rfl, ?_⟩) ?_ ?_ ?_
             rotate_left; ·intro w'; go_simp; with_reducible rfl
             rotate_left; ·simp only [Act.put, sA, sZ, sS, i64_w, i32_w]; rfl
             refine pt_ ?_ 11 (some 30) (btB 53 4095) rfl rfl HT_.out (by kernel_rfl) qq_ (Or.inl ⟨by rfl, ?_⟩) ?_ ?_ ?_
             rotate_left; ·intro w'; go_simp; with_reducible rfl
             rotate_left; ·simp only [Act.put, sA, sZ, sS, i64_w, i32_w]; rfl
             refine pt_ undef 12 (some 31) (btB 53 8191) rfl rfl HT_.out (by kernel_rfl) qq_ (Or.inr ⟨by rfl, rfl⟩) ?_ ?_ ?_
             rotate_left; ·simp only [Act.put, sA, sZ, sS, i64_w, i32_w]; rfl
             refine pt_ undef 13 (some 32) (btB 53 16383) rfl rfl HT_.out (by kernel_rfl) qq_ (Or.inr ⟨by rfl, rfl⟩) ?_ ?_ ?_
             rotate_left; ·simp only [Act.put, sA, sZ, sS, i64_w, i32_w]; rfl
             refine pt_ undef 14 (some 33) (btB 53 32767) rfl rfl HT_.out (by kernel_rfl) qq_ (Or.inr ⟨by rfl, rfl⟩) ?_ ?_ ?_
             rotate_left; ·simp only [Act.put, sA, sZ, sS, i64_w, i32_w]; rfl
             refine pt_ undef 15 (some 34) (btB 53 65535) rfl rfl HT_.out (by kernel_rfl) qq_ (Or.inr ⟨by rfl, rfl⟩) ?_ ?_ ?_
             rotate_left; ·simp only [Act.put, sA, sZ, sS, i64_w, i32_w]; rfl
             refine pt_ undef 16 (some 35) (btB 53 131071) rfl rfl HT_.out (by kernel_rfl) qq_ (Or.inr ⟨by rfl, rfl⟩) ?_ ?_ ?_
             rotate_left; ·simp only [Act.put, sA, sZ, sS, i64_w, i32_w]; rfl
             refine pt_ undef 17 (some 36) (btB 53 262143) rfl rfl HT_.out (by kernel_rfl) qq_ (Or.inr ⟨by rfl, rfl⟩) ?_ ?_ ?_
             rotate_left; ·simp only [Act.put, sA, sZ, sS, i64_w, i32_w]; rfl
             refine pt_ undef 18 (some 37) (btB 53 524287) rfl rfl HT_.out (by kernel_rfl) qq_ (Or.inr ⟨by rfl, rfl⟩) ?_ ?_ ?_
             rotate_left; ·simp only [Act.put, sA, sZ, sS, i64_w, i32_w]; rfl
             refine pt_ undef 19 (some 38) (btB 53 1048575) rfl rfl HT_.out (by kernel_rfl) qq_ (Or.inr ⟨by rfl, rfl⟩) ?_ ?_ ?_
             rotate_left; ·simp only [Act.put, sA, sZ, sS, i64_w, i32_w]; rfl
             refine pt_ undef 20 (some 39) (btB 53 2097151) rfl rfl HT_.out (by kernel_rfl) qq_ (Or.inr ⟨by rfl, rfl⟩) ?_ ?_ ?_
             rotate_left; ·simp only [Act.put, sA, sZ, sS, i64_w, i32_w]; rfl
             refine pt_ ?_ 21 (some 40) (btB 53 4194303) rfl rfl HT_.out (by kernel_rfl) qq_ (Or.inl ⟨by rfl, ?_⟩) ?_ ?_ ?_
             rotate_left; ·intro w'; go_simp; with_reducible rfl
             rotate_left; ·simp only [Act.put, sA, sZ, sS, i64_w, i32_w]; rfl
             refine pt_ ?_ 22 (some 41) (btB 53 8388607) rfl rfl HT_.out (by kernel_rfl) qq_ (Or.inl ⟨by rfl, ?_⟩) ?_ ?_ ?_
             rotate_left; ·intro w'; go_simp; with_reducible rfl
             rotate_left; ·simp only [Act.put, sA, sZ, sS, i64_w, i32_w]; rfl
             refine pt_ ?_ 23 (some 42) (btB 53 16777215) rfl rfl HT_.out (by kernel_rfl) qq_ (Or.inl ⟨by rfl, ?_⟩) ?_ ?_ ?_
             rotate_left; ·intro w'; go_simp; with_reducible rfl
             rotate_left; ·simp only [Act.put, sA, sZ, sS, i64_w, i32_w]; rfl
             refine pt_ ?_ 24 (some 43) (btB 53 33554431) rfl rfl HT_.out (by kernel_rfl) qq_ (Or.inl ⟨by rfl, ?_⟩) ?_ ?_ ?_
             rotate_left; ·intro w'; go_simp; with_reducible rfl
             rotate_left; ·simp only [Act.put, sA, sZ, sS, i64_w, i32_w]; rfl
             refine take_ (i := 25) (N := some 44) (v := ?_) (a' := ?_) (btB 53 67108863) rfl rfl (take_ofW HT_.out HW_.out (by kernel_rfl)) (fun _ _ _ h => h) (Or.inl ⟨by rfl, ?_⟩) hHeld ?_ ?_
             rotate_left; ·rintro w' ⟨s0, s1, s2, s3, s4⟩; go_simp; with_reducible rfl
             rotate_left; ·simp only [Act.put, sA, sZ, sS, i64_w, i32_w]; rfl
             refine one_ (i := 26) (N := some 45) (btB 53 134217727) rfl rfl (one_of HT_.out (by kernel_rfl)) (by decide) (fun K hK => ?_)
             refine goes_ Try.func112 (by kernel_rfl) rfl #[.agg #[.int .i64 ((rd_T110 l0 x3_1).f1.f0), .int .i64 ((rd_T110 l0 x3_1).f1.f1)], .int .i64 1000] (by rfl) rfl rfl (by (try simp only [List.map_toArray, List.map_cons, List.map_nil]); first | done | rfl | (simp only [List.length_drop, List.length_take]; rfl)) ?_
             with_reducible refine (tallymanref03_Small.calls ((rd_T110 l0 x3_1).f1.f0) ((rd_T110 l0 x3_1).f1.f1) 1000 true _ A41.out).mono ?_
             rintro e w48 ⟨rfl, hb⟩
             refine ⟨_, rfl, ?_⟩
             have n0_ := Aside0.mk (blk_below (g := gb102) (o := .cells #[.int .i64 ((rd_T110 l0 x3_1).f0), .int .i64 ((rd_T110 l0 x3_1).f1.f0), .int .i64 ((rd_T110 l0 x3_1).f1.f1), .int .i64 ((rd_T110 l0 x3_1).f2.f0), .int .i64 ((rd_T110 l0 x3_1).f2.f1)] 110 (0, 0)) (by (with_reducible repeat (first | refine blk_drewN ?_ _ | refine blk_drew ?_ | refine blk_alloc ?_ _)); exact BK102.out) hb)
             have n1_ := Aside0.mk (below_step (by repeat (first | (with_reducible first | exact HB.out | apply below_alloc | apply pw_below_drewN | apply below_drew1 | refine below_set ?_ GE102.out) | exact HB.out)) hb)
             clear BK102
             clear HB
             have BK102 := n0_
             have HB := n1_
             clear n0_ n1_
             (try clear hb)
             (try clear hb2)
             (try clear hk)
             (try clear hi)
             refine hK.out _ _ ⟨(blk_cell BK102.out 0).trans rfl, (blk_cell BK102.out 1).trans rfl, (blk_cell BK102.out 2).trans rfl, (blk_cell BK102.out 3).trans rfl, (blk_cell BK102.out 4).trans rfl⟩ (fun hHeld => ?_)
             clear hK K
             refine norm_ (a' := ?_) ?_ ?_
             rotate_left; ·show Act.put _ (some 45) _ = _; simp only [Act.put, sA, sZ, sS, i64_w, i32_w]; rfl
             refine pt_ ?_ 27 (some 46) (btB 53 268435455) rfl rfl HT_.out (by kernel_rfl) qq_ (Or.inl ⟨by rfl, ?_⟩) ?_ ?_ ?_
             rotate_left; ·intro w'; go_simp; with_reducible rfl
             rotate_left; ·simp only [Act.put, sA, sZ, sS, i64_w, i32_w]; rfl
             refine pt_ ?_ 28 (some 47) (btB 53 536870911) rfl rfl HT_.out (by kernel_rfl) qq_ (Or.inl ⟨by rfl, ?_⟩) ?_ ?_ ?_
             rotate_left; ·intro w'; go_simp; with_reducible rfl
             rotate_left; ·simp only [Act.put, sA, sZ, sS, i64_w, i32_w]; rfl
             refine pt_ ?_ 29 (some 48) (btB 53 1073741823) rfl rfl HT_.out (by kernel_rfl) qq_ (Or.inl ⟨by rfl, ?_⟩) ?_ ?_ ?_
             rotate_left; ·intro w'; go_simp; with_reducible rfl
             rotate_left; ·simp only [Act.put, sA, sZ, sS, i64_w, i32_w]; rfl
             refine pt_ ?_ 30 (some 49) (btB 53 2147483647) rfl rfl HT_.out (by kernel_rfl) qq_ (Or.inl ⟨by rfl, ?_⟩) ?_ ?_ ?_
             rotate_left; ·intro w'; go_simp; with_reducible rfl
             rotate_left; ·simp only [Act.put, sA, sZ, sS, i64_w, i32_w]; rfl
             refine take_ (i := 31) (N := some 50) (v := ?_) (a' := ?_) (btB 53 4294967295) rfl rfl (take_ofW HT_.out HW_.out (by kernel_rfl)) (fun _ _ _ h => h) (Or.inl ⟨by rfl, ?_⟩) hHeld ?_ ?_
             rotate_left; ·rintro w' ⟨s0, s1, s2, s3, s4⟩; go_simp; with_reducible rfl
             rotate_left; ·simp only [Act.put, sA, sZ, sS, i64_w, i32_w]; rfl
             refine one_ (i := 32) (N := some 51) (btB 53 8589934591) rfl rfl (one_of HT_.out (by kernel_rfl)) (by decide) (fun K hK => ?_)
             refine goes_ Try.func112 (by kernel_rfl) rfl #[.agg #[.int .i64 ((rd_T110 l0 x3_1).f2.f0), .int .i64 ((rd_T110 l0 x3_1).f2.f1)], .int .i64 1000] (by rfl) rfl rfl (by (try simp only [List.map_toArray, List.map_cons, List.map_nil]); first | done | rfl | (simp only [List.length_drop, List.length_take]; rfl)) ?_
             with_reducible refine (tallymanref03_Small.calls ((rd_T110 l0 x3_1).f2.f0) ((rd_T110 l0 x3_1).f2.f1) 1000 true _ A43.out).mono ?_
             rintro e w49 ⟨rfl, hb⟩
             refine ⟨_, rfl, ?_⟩
             have n0_ := Aside0.mk (blk_below (g := gb102) (o := .cells #[.int .i64 ((rd_T110 l0 x3_1).f0), .int .i64 ((rd_T110 l0 x3_1).f1.f0), .int .i64 ((rd_T110 l0 x3_1).f1.f1), .int .i64 ((rd_T110 l0 x3_1).f2.f0), .int .i64 ((rd_T110 l0 x3_1).f2.f1)] 110 (0, 0)) (by (with_reducible repeat (first | refine blk_drewN ?_ _ | refine blk_drew ?_ | refine blk_alloc ?_ _)); exact BK102.out) hb)
             have n1_ := Aside0.mk (below_step (by repeat (first | (with_reducible first | exact HB.out | apply below_alloc | apply pw_below_drewN | apply below_drew1 | refine below_set ?_ GE102.out) | exact HB.out)) hb)
             clear BK102
             clear HB
             have BK102 := n0_
             have HB := n1_
             clear n0_ n1_
             (try clear hb)
             (try clear hb2)
             (try clear hk)
             (try clear hi)
             refine hK.out _ _ ⟨(blk_cell BK102.out 0).trans rfl, (blk_cell BK102.out 1).trans rfl, (blk_cell BK102.out 2).trans rfl, (blk_cell BK102.out 3).trans rfl, (blk_cell BK102.out 4).trans rfl⟩ (fun hHeld => ?_)
             clear hK K
             refine norm_ (a' := ?_) ?_ ?_
             rotate_left; ·show Act.put _ (some 51) _ = _; simp only [Act.put, sA, sZ, sS, i64_w, i32_w]; rfl
             refine pt_ ?_ 33 (some 52) (btB 53 17179869183) rfl rfl HT_.out (by kernel_rfl) qq_ (Or.inl ⟨by rfl, ?_⟩) ?_ ?_ ?_
             rotate_left; ·intro w'; go_simp; with_reducible rfl
             rotate_left; ·simp only [Act.put, sA, sZ, sS, i64_w, i32_w]; rfl
             refine pt_ ?_ 34 (some 53) (btB 53 34359738367) rfl rfl HT_.out (by kernel_rfl) qq_ (Or.inl ⟨by rfl, ?_⟩) ?_ ?_ ?_
             rotate_left; ·intro w'; go_simp; with_reducible rfl
             rotate_left; ·simp only [Act.put, sA, sZ, sS, i64_w, i32_w]; rfl
             refine pt_ ?_ 35 (some 54) (btB 53 68719476735) rfl rfl HT_.out (by kernel_rfl) qq_ (Or.inl ⟨by rfl, ?_⟩) ?_ ?_ ?_
             rotate_left; ·intro w'; go_simp; with_reducible rfl
             rotate_left; ·simp only [Act.put, sA, sZ, sS, i64_w, i32_w]; rfl
             refine pt_ ?_ 36 (some 55) (btB 53 137438953471) rfl rfl HT_.out (by kernel_rfl) qq_ (Or.inl ⟨by rfl, ?_⟩) ?_ ?_ ?_
             rotate_left; ·intro w'; go_simp; with_reducible rfl
             rotate_left; ·simp only [Act.put, sA, sZ, sS, i64_w, i32_w]; rfl
             refine pt_ ?_ 37 (some 56) (btB 53 274877906943) rfl rfl HT_.out (by kernel_rfl) qq_ (Or.inl ⟨by rfl, ?_⟩) ?_ ?_ ?_
             rotate_left; ·intro w'; go_simp; with_reducible rfl
             rotate_left; ·simp only [Act.put, sA, sZ, sS, i64_w, i32_w]; rfl
             refine pt_ ?_ 39 (some 58) (btB 53 824633720831) rfl rfl HT_.out (by kernel_rfl) qq_ (Or.inl ⟨by rfl, ?_⟩) ?_ ?_ ?_
             rotate_left; ·intro w'; go_simp; with_reducible rfl
             rotate_left; ·simp only [Act.put, sA, sZ, sS, i64_w, i32_w]; rfl
             refine pt_ ?_ 40 (some 59) (btB 53 1924145348607) rfl rfl HT_.out (by kernel_rfl) qq_ (Or.inl ⟨by rfl, ?_⟩) ?_ ?_ ?_
             rotate_left; ·intro w'; go_simp; with_reducible rfl
             rotate_left; ·simp only [Act.put, sA, sZ, sS, i64_w, i32_w]; rfl
             refine take_ (i := 38) (N := some 57) (v := ?_) (a' := ?_) (btB 53 2199023255551) rfl rfl (take_ofW HT_.out HW_.out (by kernel_rfl)) (fun _ _ _ h => h) (Or.inl ⟨by rfl, ?_⟩) hHeld ?_ ?_
             rotate_left; ·rintro w' ⟨s0, s1, s2, s3, s4⟩; go_simp; with_reducible rfl
             rotate_left; ·simp only [Act.put, sA, sZ, sS, i64_w, i32_w]; rfl
             refine take_ (i := 41) (N := some 60) (v := ?_) (a' := ?_) (btB 53 4398046511103) rfl rfl (take_ofW HT_.out HW_.out (by kernel_rfl)) (fun _ _ _ h => h) (Or.inl ⟨by rfl, ?_⟩) hHeld ?_ ?_
             rotate_left; ·rintro w' ⟨s0, s1, s2, s3, s4⟩; go_simp; with_reducible rfl
             rotate_left; ·simp only [Act.put, sA, sZ, sS, i64_w, i32_w]; rfl
             refine pt_ ?_ 42 (some 61) (btB 53 8796093022207) rfl rfl HT_.out (by kernel_rfl) qq_ (Or.inl ⟨by rfl, ?_⟩) ?_ ?_ ?_
             rotate_left; ·intro w'; go_simp; with_reducible rfl
             rotate_left; ·simp only [Act.put, sA, sZ, sS, i64_w, i32_w]; rfl
             refine pt_ ?_ 43 (some 62) (btB 53 17592186044415) rfl rfl HT_.out (by kernel_rfl) qq_ (Or.inl ⟨by rfl, ?_⟩) ?_ ?_ ?_
             rotate_left; ·intro w'; go_simp; with_reducible rfl
             rotate_left; ·simp only [Act.put, sA, sZ, sS, i64_w, i32_w]; rfl
             refine pt_ ?_ 44 (some 63) (btB 53 35184372088831) rfl rfl HT_.out (by kernel_rfl) qq_ (Or.inl ⟨by rfl, ?_⟩) ?_ ?_ ?_
             rotate_left; ·intro w'; go_simp; with_reducible rfl
             rotate_left; ·simp only [Act.put, sA, sZ, sS, i64_w, i32_w]; rfl
             refine pt_ undef 45 (some 64) (btB 53 70368744177663) rfl rfl HT_.out (by kernel_rfl) qq_ (Or.inr ⟨by rfl, rfl⟩) ?_ ?_ ?_
             rotate_left; ·simp only [Act.put, sA, sZ, sS, i64_w, i32_w]; rfl
             refine pt_ undef 46 (some 65) (btB 53 140737488355327) rfl rfl HT_.out (by kernel_rfl) qq_ (Or.inr ⟨by rfl, rfl⟩) ?_ ?_ ?_
             rotate_left; ·simp only [Act.put, sA, sZ, sS, i64_w, i32_w]; rfl
             refine pt_ undef 47 (some 66) (btB 53 281474976710655) rfl rfl HT_.out (by kernel_rfl) qq_ (Or.inr ⟨by rfl, rfl⟩) ?_ ?_ ?_
             rotate_left; ·simp only [Act.put, sA, sZ, sS, i64_w, i32_w]; rfl
             refine pt_ undef 48 (some 67) (btB 53 562949953421311) rfl rfl HT_.out (by kernel_rfl) qq_ (Or.inr ⟨by rfl, rfl⟩) ?_ ?_ ?_
             rotate_left; ·simp only [Act.put, sA, sZ, sS, i64_w, i32_w]; rfl
             refine pt_ undef 49 (some 68) (btB 53 1125899906842623) rfl rfl HT_.out (by kernel_rfl) qq_ (Or.inr ⟨by rfl, rfl⟩) ?_ ?_ ?_
             rotate_left; ·simp only [Act.put, sA, sZ, sS, i64_w, i32_w]; rfl
             refine pt_ undef 50 (some 69) (btB 53 2251799813685247) rfl rfl HT_.out (by kernel_rfl) qq_ (Or.inr ⟨by rfl, rfl⟩) ?_ ?_ ?_
             rotate_left; ·simp only [Act.put, sA, sZ, sS, i64_w, i32_w]; rfl
             refine pt_ undef 51 (some 70) (btB 53 4503599627370495) rfl rfl HT_.out (by kernel_rfl) qq_ (Or.inr ⟨by rfl, rfl⟩) ?_ ?_ ?_
             rotate_left; ·simp only [Act.put, sA, sZ, sS, i64_w, i32_w]; rfl
             refine pt_ ?_ 52 (some 71) (btB 53 9007199254740991) rfl rfl HT_.out (by kernel_rfl) qq_ (Or.inl ⟨by rfl, ?_⟩) ?_ ?_ ?_
             rotate_left; ·intro w'; go_simp; with_reducible rfl
             rotate_left; ·simp only [Act.put, sA, sZ, sS, i64_w, i32_w]; rfl
             refine done_ (done_of HT_.out (by kernel_rfl)) ?_
             try go_wp2
             go_meet
             case rel => exact ⟨_, (true), (by first | rfl | (simp; done) | (simp [*]; done)), H', ⟨by have := HK1.out; first | omega | exact Nat.le_refl _⟩, ⟨by (with_reducible repeat (first | refine blk_drewN ?_ _ | refine blk_drew ?_ | refine blk_alloc ?_ _)); exact BK102.out⟩, ⟨by repeat (first | (with_reducible first | exact HB.out | apply below_alloc | apply pw_below_drewN | apply below_drew1 | refine below_set ?_ GE102.out) | exact HB.out)⟩⟩
            ·rw [if_neg c45] at H
             have c45b0 : decide (((rd_T110 l0 x3_1).f2.f0) < ((rd_T110 l0 x3_1).f1.f0)) = false := decide_eq_false c45
             clear c45
             have H' := Aside0.mk H
             clear H
             try go_wp2
             have n0_ : Aside0 ((((((w6.setCell ⟨gb102, 0, none⟩ (.int .i64 ((rd_T110 l0 x3_1).f0))).setCell ⟨gb102, 1, none⟩ (.int .i64 ((rd_T110 l0 x3_1).f1.f0))).setCell ⟨gb102, 2, none⟩ (.int .i64 ((rd_T110 l0 x3_1).f1.f1))).setCell ⟨gb102, 3, none⟩ (.int .i64 ((rd_T110 l0 x3_1).f2.f0))).setCell ⟨gb102, 4, none⟩ (.int .i64 ((rd_T110 l0 x3_1).f2.f1))).heap[gb102]? = some (.cells #[.int .i64 ((rd_T110 l0 x3_1).f0), .int .i64 ((rd_T110 l0 x3_1).f1.f0), .int .i64 ((rd_T110 l0 x3_1).f1.f1), .int .i64 ((rd_T110 l0 x3_1).f2.f0), .int .i64 ((rd_T110 l0 x3_1).f2.f1)] 110 (0, 0))) := ⟨by (with_reducible repeat (first | refine blk_drewN ?_ _ | refine blk_drew ?_ | refine blk_alloc ?_ _)); refine blk_put (cs := #[.int .i64 ((rd_T110 l0 x3_1).f0), .int .i64 ((rd_T110 l0 x3_1).f1.f0), .int .i64 ((rd_T110 l0 x3_1).f1.f1), .int .i64 ((rd_T110 l0 x3_1).f2.f0), .int .i64 0]) ?_ 4 _ rfl; (with_reducible repeat (first | refine blk_drewN ?_ _ | refine blk_drew ?_ | refine blk_alloc ?_ _)); refine blk_put (cs := #[.int .i64 ((rd_T110 l0 x3_1).f0), .int .i64 ((rd_T110 l0 x3_1).f1.f0), .int .i64 ((rd_T110 l0 x3_1).f1.f1), .int .i64 0, .int .i64 0]) ?_ 3 _ rfl; (with_reducible repeat (first | refine blk_drewN ?_ _ | refine blk_drew ?_ | refine blk_alloc ?_ _)); refine blk_put (cs := #[.int .i64 ((rd_T110 l0 x3_1).f0), .int .i64 ((rd_T110 l0 x3_1).f1.f0), .int .i64 0, .int .i64 0, .int .i64 0]) ?_ 2 _ rfl; (with_reducible repeat (first | refine blk_drewN ?_ _ | refine blk_drew ?_ | refine blk_alloc ?_ _)); refine blk_put (cs := #[.int .i64 ((rd_T110 l0 x3_1).f0), .int .i64 0, .int .i64 0, .int .i64 0, .int .i64 0]) ?_ 1 _ rfl; (with_reducible repeat (first | refine blk_drewN ?_ _ | refine blk_drew ?_ | refine blk_alloc ?_ _)); refine blk_put (cs := #[.int .i64 0, .int .i64 0, .int .i64 0, .int .i64 0, .int .i64 0]) ?_ 0 _ rfl; (with_reducible repeat (first | refine blk_drewN ?_ _ | refine blk_drew ?_ | refine blk_alloc ?_ _)); exact BK102.out⟩
             have n1_ : Aside0 (Below w.heap.size w (((((w6.setCell ⟨gb102, 0, none⟩ (.int .i64 ((rd_T110 l0 x3_1).f0))).setCell ⟨gb102, 1, none⟩ (.int .i64 ((rd_T110 l0 x3_1).f1.f0))).setCell ⟨gb102, 2, none⟩ (.int .i64 ((rd_T110 l0 x3_1).f1.f1))).setCell ⟨gb102, 3, none⟩ (.int .i64 ((rd_T110 l0 x3_1).f2.f0))).setCell ⟨gb102, 4, none⟩ (.int .i64 ((rd_T110 l0 x3_1).f2.f1)))) := ⟨by repeat (first | (with_reducible first | exact HB.out | apply below_alloc | apply pw_below_drewN | apply below_drew1 | refine below_set ?_ GE102.out) | exact HB.out)⟩
             (try clear BK102)
             (try clear HB)
             generalize (((((w6.setCell ⟨gb102, 0, none⟩ (.int .i64 ((rd_T110 l0 x3_1).f0))).setCell ⟨gb102, 1, none⟩ (.int .i64 ((rd_T110 l0 x3_1).f1.f0))).setCell ⟨gb102, 2, none⟩ (.int .i64 ((rd_T110 l0 x3_1).f1.f1))).setCell ⟨gb102, 3, none⟩ (.int .i64 ((rd_T110 l0 x3_1).f2.f0))).setCell ⟨gb102, 4, none⟩ (.int .i64 ((rd_T110 l0 x3_1).f2.f1))) = w50 at n0_ n1_ ⊢
             have BK102 := n0_
             have HB := n1_
             clear n0_ n1_
             have n0_ := Aside0.mk (blk_drew BK102.out)
             have n1_ := Aside0.mk (below_drew1 HB.out)
             clear BK102
             clear HB
             have BK102 := n0_
             have HB := n1_
             clear n0_ n1_
             refine start_ (n := 53) (S := fun w' => w'.cell? ⟨gb102, 0, none⟩ = some (.int .i64 ((rd_T110 l0 x3_1).f0)) ∧ w'.cell? ⟨gb102, 1, none⟩ = some (.int .i64 ((rd_T110 l0 x3_1).f1.f0)) ∧ w'.cell? ⟨gb102, 2, none⟩ = some (.int .i64 ((rd_T110 l0 x3_1).f1.f1)) ∧ w'.cell? ⟨gb102, 3, none⟩ = some (.int .i64 ((rd_T110 l0 x3_1).f2.f0)) ∧ w'.cell? ⟨gb102, 4, none⟩ = some (.int .i64 ((rd_T110 l0 x3_1).f2.f1))) (ds := []) (btB 53 0) (by kernel_rfl) rfl rfl ⟨(blk_cell BK102.out 0).trans rfl, (blk_cell BK102.out 1).trans rfl, (blk_cell BK102.out 2).trans rfl, (blk_cell BK102.out 3).trans rfl, (blk_cell BK102.out 4).trans rfl⟩ (fun hHeld => ?_); refine with_tabW tallymanref07_Right.tab7 tallymanref07_Right.bits7 (fun HT_ HW_ => ?_)
             generalize w50.drew = w51 at BK102 HB hHeld ⊢
             refine pt_ ?_ 0 (some 19) (btB 53 1) rfl rfl HT_.out (by kernel_rfl) qq_ (Or.inl ⟨by rfl, ?_⟩) ?_ ?_ ?_
             rotate_left; ·intro w'; go_simp; with_reducible rfl
             rotate_left; ·simp only [Act.put, sA, sZ, sS, i64_w, i32_w]; rfl
             refine take_ (i := 1) (N := some 20) (v := ?_) (a' := ?_) (btB 53 3) rfl rfl (take_ofW HT_.out HW_.out (by kernel_rfl)) (fun _ _ _ h => h) (Or.inl ⟨by rfl, ?_⟩) hHeld ?_ ?_
             rotate_left; ·rintro w' ⟨s0, s1, s2, s3, s4⟩; go_simp; with_reducible rfl
             rotate_left; ·simp only [Act.put, sA, sZ, sS, i64_w, i32_w]; rfl
             refine pt_ ?_ 2 (some 21) (btB 53 7) rfl rfl HT_.out (by kernel_rfl) qq_ (Or.inl ⟨by rfl, ?_⟩) ?_ ?_ ?_
             rotate_left; ·intro w'; go_simp; with_reducible rfl
             rotate_left; ·simp only [Act.put, sA, sZ, sS, i64_w, i32_w]; rfl
             refine pt_ ?_ 3 (some 22) (btB 53 15) rfl rfl HT_.out (by kernel_rfl) qq_ (Or.inl ⟨by rfl, ?_⟩) ?_ ?_ ?_
             rotate_left; ·intro w'; go_simp; with_reducible rfl
             rotate_left; ·simp only [Act.put, sA, sZ, sS, i64_w, i32_w]; rfl
             refine pt_ ?_ 4 (some 23) (btB 53 31) rfl rfl HT_.out (by kernel_rfl) qq_ (Or.inl ⟨by rfl, ?_⟩) ?_ ?_ ?_
             rotate_left; ·intro w'; go_simp; with_reducible rfl
             rotate_left; ·simp only [Act.put, sA, sZ, sS, i64_w, i32_w]; rfl
             refine take_ (i := 5) (N := some 24) (v := ?_) (a' := ?_) (btB 53 63) rfl rfl (take_ofW HT_.out HW_.out (by kernel_rfl)) (fun _ _ _ h => h) (Or.inl ⟨by rfl, ?_⟩) hHeld ?_ ?_
             rotate_left; ·rintro w' ⟨s0, s1, s2, s3, s4⟩; go_simp; with_reducible rfl
             rotate_left; ·simp only [Act.put, sA, sZ, sS, i64_w, i32_w]; rfl
             refine pt_ ?_ 6 (some 25) (btB 53 127) rfl rfl HT_.out (by kernel_rfl) qq_ (Or.inl ⟨by rfl, ?_⟩) ?_ ?_ ?_
             rotate_left; ·intro w'; go_simp; with_reducible rfl
             rotate_left; ·simp only [Act.put, sA, sZ, sS, i64_w, i32_w]; rfl
             refine pt_ ?_ 7 (some 26) (btB 53 255) rfl rfl HT_.out (by kernel_rfl) qq_ (Or.inl ⟨by rfl, ?_⟩) ?_ ?_ ?_
             rotate_left; ·intro w'; go_simp; with_reducible rfl
             rotate_left; ·simp only [Act.put, sA, sZ, sS, i64_w, i32_w]; rfl
             refine pt_ ?_ 8 (some 27) (btB 53 511) rfl rfl HT_.out (by kernel_rfl) qq_ (Or.inl ⟨by rfl, ?_⟩) ?_ ?_ ?_
             rotate_left; ·intro w'; go_simp; with_reducible rfl
             rotate_left; ·simp only [Act.put, sA, sZ, sS, i64_w, i32_w]; rfl
             refine pt_ ?_ 9 (some 28) (btB 53 1023) rfl rfl HT_.out (by kernel_rfl) qq_ (Or.inl ⟨by rfl, ?_⟩) ?_ ?_ ?_
             rotate_left; ·intro w'; go_simp; with_reducible rfl
             rotate_left; ·simp only [Act.put, sA, sZ, sS, i64_w, i32_w]; rfl
             refine pt_ ?_ 10 (some 29) (btB 53 2047) rfl rfl HT_.out (by kernel_rfl) qq_ (Or.inl ⟨by rfl, ?_⟩) ?_ ?_ ?_
             rotate_left; ·intro w'; go_simp; with_reducible rfl
             rotate_left; ·simp only [Act.put, sA, sZ, sS, i64_w, i32_w]; rfl
             refine pt_ ?_ 11 (some 30) (btB 53 4095) rfl rfl HT_.out (by kernel_rfl) qq_ (Or.inl ⟨by rfl, ?_⟩) ?_ ?_ ?_
             rotate_left; ·intro w'; go_simp; with_reducible rfl
             rotate_left; ·simp only [Act.put, sA, sZ, sS, i64_w, i32_w]; rfl
             refine pt_ undef 12 (some 31) (btB 53 8191) rfl rfl HT_.out (by kernel_rfl) qq_ (Or.inr ⟨by rfl, rfl⟩) ?_ ?_ ?_
             rotate_left; ·simp only [Act.put, sA, sZ, sS, i64_w, i32_w]; rfl
             refine pt_ undef 13 (some 32) (btB 53 16383) rfl rfl HT_.out (by kernel_rfl) qq_ (Or.inr ⟨by rfl, rfl⟩) ?_ ?_ ?_
             rotate_left; ·simp only [Act.put, sA, sZ, sS, i64_w, i32_w]; rfl
             refine pt_ undef 14 (some 33) (btB 53 32767) rfl rfl HT_.out (by kernel_rfl) qq_ (Or.inr ⟨by rfl, rfl⟩) ?_ ?_ ?_
             rotate_left; ·simp only [Act.put, sA, sZ, sS, i64_w, i32_w]; rfl
             refine pt_ undef 15 (some 34) (btB 53 65535) rfl rfl HT_.out (by kernel_rfl) qq_ (Or.inr ⟨by rfl, rfl⟩) ?_ ?_ ?_
             rotate_left; ·simp only [Act.put, sA, sZ, sS, i64_w, i32_w]; rfl
             refine pt_ undef 16 (some 35) (btB 53 131071) rfl rfl HT_.out (by kernel_rfl) qq_ (Or.inr ⟨by rfl, rfl⟩) ?_ ?_ ?_
             rotate_left; ·simp only [Act.put, sA, sZ, sS, i64_w, i32_w]; rfl
             refine pt_ undef 17 (some 36) (btB 53 262143) rfl rfl HT_.out (by kernel_rfl) qq_ (Or.inr ⟨by rfl, rfl⟩) ?_ ?_ ?_
             rotate_left; ·simp only [Act.put, sA, sZ, sS, i64_w, i32_w]; rfl
             refine pt_ undef 18 (some 37) (btB 53 524287) rfl rfl HT_.out (by kernel_rfl) qq_ (Or.inr ⟨by rfl, rfl⟩) ?_ ?_ ?_
             rotate_left; ·simp only [Act.put, sA, sZ, sS, i64_w, i32_w]; rfl
             refine pt_ undef 19 (some 38) (btB 53 1048575) rfl rfl HT_.out (by kernel_rfl) qq_ (Or.inr ⟨by rfl, rfl⟩) ?_ ?_ ?_
             rotate_left; ·simp only [Act.put, sA, sZ, sS, i64_w, i32_w]; rfl
             refine pt_ undef 20 (some 39) (btB 53 2097151) rfl rfl HT_.out (by kernel_rfl) qq_ (Or.inr ⟨by rfl, rfl⟩) ?_ ?_ ?_
             rotate_left; ·simp only [Act.put, sA, sZ, sS, i64_w, i32_w]; rfl
             refine pt_ ?_ 21 (some 40) (btB 53 4194303) rfl rfl HT_.out (by kernel_rfl) qq_ (Or.inl ⟨by rfl, ?_⟩) ?_ ?_ ?_
             rotate_left; ·intro w'; go_simp; with_reducible rfl
             rotate_left; ·simp only [Act.put, sA, sZ, sS, i64_w, i32_w]; rfl
             refine pt_ ?_ 22 (some 41) (btB 53 8388607) rfl rfl HT_.out (by kernel_rfl) qq_ (Or.inl ⟨by rfl, ?_⟩) ?_ ?_ ?_
             rotate_left; ·intro w'; go_simp; with_reducible rfl
             rotate_left; ·simp only [Act.put, sA, sZ, sS, i64_w, i32_w]; rfl
             refine pt_ ?_ 23 (some 42) (btB 53 16777215) rfl rfl HT_.out (by kernel_rfl) qq_ (Or.inl ⟨by rfl, ?_⟩) ?_ ?_ ?_
             rotate_left; ·intro w'; go_simp; with_reducible rfl
             rotate_left; ·simp only [Act.put, sA, sZ, sS, i64_w, i32_w]; rfl
             refine pt_ ?_ 24 (some 43) (btB 53 33554431) rfl rfl HT_.out (by kernel_rfl) qq_ (Or.inl ⟨by rfl, ?_⟩) ?_ ?_ ?_
             rotate_left; ·intro w'; go_simp; with_reducible rfl
             rotate_left; ·simp only [Act.put, sA, sZ, sS, i64_w, i32_w]; rfl
             refine take_ (i := 25) (N := some 44) (v := ?_) (a' := ?_) (btB 53 67108863) rfl rfl (take_ofW HT_.out HW_.out (by kernel_rfl)) (fun _ _ _ h => h) (Or.inl ⟨by rfl, ?_⟩) hHeld ?_ ?_
             rotate_left; ·rintro w' ⟨s0, s1, s2, s3, s4⟩; go_simp; with_reducible rfl
             rotate_left; ·simp only [Act.put, sA, sZ, sS, i64_w, i32_w]; rfl
             refine one_ (i := 26) (N := some 45) (btB 53 134217727) rfl rfl (one_of HT_.out (by kernel_rfl)) (by decide) (fun K hK => ?_)
             refine goes_ Try.func112 (by kernel_rfl) rfl #[.agg #[.int .i64 ((rd_T110 l0 x3_1).f1.f0), .int .i64 ((rd_T110 l0 x3_1).f1.f1)], .int .i64 1000] (by rfl) rfl rfl (by (try simp only [List.map_toArray, List.map_cons, List.map_nil]); first | done | rfl | (simp only [List.length_drop, List.length_take]; rfl)) ?_
             with_reducible refine (tallymanref03_Small.calls ((rd_T110 l0 x3_1).f1.f0) ((rd_T110 l0 x3_1).f1.f1) 1000 true _ A41.out).mono ?_
             rintro e w52 ⟨rfl, hb⟩
             refine ⟨_, rfl, ?_⟩
             have n0_ := Aside0.mk (blk_below (g := gb102) (o := .cells #[.int .i64 ((rd_T110 l0 x3_1).f0), .int .i64 ((rd_T110 l0 x3_1).f1.f0), .int .i64 ((rd_T110 l0 x3_1).f1.f1), .int .i64 ((rd_T110 l0 x3_1).f2.f0), .int .i64 ((rd_T110 l0 x3_1).f2.f1)] 110 (0, 0)) (by (with_reducible repeat (first | refine blk_drewN ?_ _ | refine blk_drew ?_ | refine blk_alloc ?_ _)); exact BK102.out) hb)
             have n1_ := Aside0.mk (below_step (by repeat (first | (with_reducible first | exact HB.out | apply below_alloc | apply pw_below_drewN | apply below_drew1 | refine below_set ?_ GE102.out) | exact HB.out)) hb)
             clear BK102
             clear HB
             have BK102 := n0_
             have HB := n1_
             clear n0_ n1_
             (try clear hb)
             (try clear hb2)
             (try clear hk)
             (try clear hi)
             refine hK.out _ _ ⟨(blk_cell BK102.out 0).trans rfl, (blk_cell BK102.out 1).trans rfl, (blk_cell BK102.out 2).trans rfl, (blk_cell BK102.out 3).trans rfl, (blk_cell BK102.out 4).trans rfl⟩ (fun hHeld => ?_)
             clear hK K
             refine norm_ (a' := ?_) ?_ ?_
             rotate_left; ·show Act.put _ (some 45) _ = _; simp only [Act.put, sA, sZ, sS, i64_w, i32_w]; rfl
             refine pt_ ?_ 27 (some 46) (btB 53 268435455) rfl rfl HT_.out (by kernel_rfl) qq_ (Or.inl ⟨by rfl, ?_⟩) ?_ ?_ ?_
             rotate_left; ·intro w'; go_simp; with_reducible rfl
             rotate_left; ·simp only [Act.put, sA, sZ, sS, i64_w, i32_w]; rfl
             refine pt_ ?_ 28 (some 47) (btB 53 536870911) rfl rfl HT_.out (by kernel_rfl) qq_ (Or.inl ⟨by rfl, ?_⟩) ?_ ?_ ?_
             rotate_left; ·intro w'; go_simp; with_reducible rfl
             rotate_left; ·simp only [Act.put, sA, sZ, sS, i64_w, i32_w]; rfl
             refine pt_ ?_ 29 (some 48) (btB 53 1073741823) rfl rfl HT_.out (by kernel_rfl) qq_ (Or.inl ⟨by rfl, ?_⟩) ?_ ?_ ?_
             rotate_left; ·intro w'; go_simp; with_reducible rfl
             rotate_left; ·simp only [Act.put, sA, sZ, sS, i64_w, i32_w]; rfl
             refine pt_ ?_ 30 (some 49) (btB 53 2147483647) rfl rfl HT_.out (by kernel_rfl) qq_ (Or.inl ⟨by rfl, ?_⟩) ?_ ?_ ?_
             rotate_left; ·intro w'; go_simp; with_reducible rfl
             rotate_left; ·simp only [Act.put, sA, sZ, sS, i64_w, i32_w]; rfl
             refine take_ (i := 31) (N := some 50) (v := ?_) (a' := ?_) (btB 53 4294967295) rfl rfl (take_ofW HT_.out HW_.out (by kernel_rfl)) (fun _ _ _ h => h) (Or.inl ⟨by rfl, ?_⟩) hHeld ?_ ?_
             rotate_left; ·rintro w' ⟨s0, s1, s2, s3, s4⟩; go_simp; with_reducible rfl
             rotate_left; ·simp only [Act.put, sA, sZ, sS, i64_w, i32_w]; rfl
             refine one_ (i := 32) (N := some 51) (btB 53 8589934591) rfl rfl (one_of HT_.out (by kernel_rfl)) (by decide) (fun K hK => ?_)
             refine goes_ Try.func112 (by kernel_rfl) rfl #[.agg #[.int .i64 ((rd_T110 l0 x3_1).f2.f0), .int .i64 ((rd_T110 l0 x3_1).f2.f1)], .int .i64 1000] (by rfl) rfl rfl (by (try simp only [List.map_toArray, List.map_cons, List.map_nil]); first | done | rfl | (simp only [List.length_drop, List.length_take]; rfl)) ?_
             with_reducible refine (tallymanref03_Small.calls ((rd_T110 l0 x3_1).f2.f0) ((rd_T110 l0 x3_1).f2.f1) 1000 true _ A43.out).mono ?_
             rintro e w53 ⟨rfl, hb⟩
             refine ⟨_, rfl, ?_⟩
             have n0_ := Aside0.mk (blk_below (g := gb102) (o := .cells #[.int .i64 ((rd_T110 l0 x3_1).f0), .int .i64 ((rd_T110 l0 x3_1).f1.f0), .int .i64 ((rd_T110 l0 x3_1).f1.f1), .int .i64 ((rd_T110 l0 x3_1).f2.f0), .int .i64 ((rd_T110 l0 x3_1).f2.f1)] 110 (0, 0)) (by (with_reducible repeat (first | refine blk_drewN ?_ _ | refine blk_drew ?_ | refine blk_alloc ?_ _)); exact BK102.out) hb)
             have n1_ := Aside0.mk (below_step (by repeat (first | (with_reducible first | exact HB.out | apply below_alloc | apply pw_below_drewN | apply below_drew1 | refine below_set ?_ GE102.out) | exact HB.out)) hb)
             clear BK102
             clear HB
             have BK102 := n0_
             have HB := n1_
             clear n0_ n1_
             (try clear hb)
             (try clear hb2)
             (try clear hk)
             (try clear hi)
             refine hK.out _ _ ⟨(blk_cell BK102.out 0).trans rfl, (blk_cell BK102.out 1).trans rfl, (blk_cell BK102.out 2).trans rfl, (blk_cell BK102.out 3).trans rfl, (blk_cell BK102.out 4).trans rfl⟩ (fun hHeld => ?_)
             clear hK K
             refine norm_ (a' := ?_) ?_ ?_
             rotate_left; ·show Act.put _ (some 51) _ = _; simp only [Act.put, sA, sZ, sS, i64_w, i32_w]; rfl
             refine pt_ ?_ 33 (some 52) (btB 53 17179869183) rfl rfl HT_.out (by kernel_rfl) qq_ (Or.inl ⟨by rfl, ?_⟩) ?_ ?_ ?_
             rotate_left; ·intro w'; go_simp; with_reducible rfl
             rotate_left; ·simp only [Act.put, sA, sZ, sS, i64_w, i32_w]; rfl
             refine pt_ ?_ 34 (some 53) (btB 53 34359738367) rfl rfl HT_.out (by kernel_rfl) qq_ (Or.inl ⟨by rfl, ?_⟩) ?_ ?_ ?_
             rotate_left; ·intro w'; go_simp; with_reducible rfl
             rotate_left; ·simp only [Act.put, sA, sZ, sS, i64_w, i32_w]; rfl
             refine pt_ ?_ 35 (some 54) (btB 53 68719476735) rfl rfl HT_.out (by kernel_rfl) qq_ (Or.inl ⟨by rfl, ?_⟩) ?_ ?_ ?_
             rotate_left; ·intro w'; go_simp; with_reducible rfl
             rotate_left; ·simp only [Act.put, sA, sZ, sS, i64_w, i32_w]; rfl
             refine pt_ ?_ 36 (some 55) (btB 53 137438953471) rfl rfl HT_.out (by kernel_rfl) qq_ (Or.inl ⟨by rfl, ?_⟩) ?_ ?_ ?_
             rotate_left; ·intro w'; go_simp; with_reducible rfl
             rotate_left; ·simp only [Act.put, sA, sZ, sS, i64_w, i32_w]; rfl
             refine pt_ ?_ 37 (some 56) (btB 53 274877906943) rfl rfl HT_.out (by kernel_rfl) qq_ (Or.inl ⟨by rfl, ?_⟩) ?_ ?_ ?_
             rotate_left; ·intro w'; go_simp; with_reducible rfl
             rotate_left; ·simp only [Act.put, sA, sZ, sS, i64_w, i32_w]; rfl
             refine pt_ ?_ 39 (some 58) (btB 53 824633720831) rfl rfl HT_.out (by kernel_rfl) qq_ (Or.inl ⟨by rfl, ?_⟩) ?_ ?_ ?_
             rotate_left; ·intro w'; go_simp; with_reducible rfl
             rotate_left; ·simp only [Act.put, sA, sZ, sS, i64_w, i32_w]; rfl
             refine pt_ ?_ 40 (some 59) (btB 53 1924145348607) rfl rfl HT_.out (by kernel_rfl) qq_ (Or.inl ⟨by rfl, ?_⟩) ?_ ?_ ?_
             rotate_left; ·intro w'; go_simp; with_reducible rfl
             rotate_left; ·simp only [Act.put, sA, sZ, sS, i64_w, i32_w]; rfl
             refine take_ (i := 38) (N := some 57) (v := ?_) (a' := ?_) (btB 53 2199023255551) rfl rfl (take_ofW HT_.out HW_.out (by kernel_rfl)) (fun _ _ _ h => h) (Or.inl ⟨by rfl, ?_⟩) hHeld ?_ ?_
             rotate_left; ·rintro w' ⟨s0, s1, s2, s3, s4⟩; go_simp; with_reducible rfl
             rotate_left; ·simp only [Act.put, sA, sZ, sS, i64_w, i32_w]; rfl
             refine take_ (i := 41) (N := some 60) (v := ?_) (a' := ?_) (btB 53 4398046511103) rfl rfl (take_ofW HT_.out HW_.out (by kernel_rfl)) (fun _ _ _ h => h) (Or.inl ⟨by rfl, ?_⟩) hHeld ?_ ?_
             rotate_left; ·rintro w' ⟨s0, s1, s2, s3, s4⟩; go_simp; with_reducible rfl
             rotate_left; ·simp only [Act.put, sA, sZ, sS, i64_w, i32_w]; rfl
             refine pt_ ?_ 42 (some 61) (btB 53 8796093022207) rfl rfl HT_.out (by kernel_rfl) qq_ (Or.inl ⟨by rfl, ?_⟩) ?_ ?_ ?_
             rotate_left; ·intro w'; go_simp; with_reducible rfl
             rotate_left; ·simp only [Act.put, sA, sZ, sS, i64_w, i32_w]; rfl
             refine pt_ ?_ 43 (some 62) (btB 53 17592186044415) rfl rfl HT_.out (by kernel_rfl) qq_ (Or.inl ⟨by rfl, ?_⟩) ?_ ?_ ?_
             rotate_left; ·intro w'; go_simp; with_reducible rfl
             rotate_left; ·simp only [Act.put, sA, sZ, sS, i64_w, i32_w]; rfl
             refine pt_ ?_ 44 (some 63) (btB 53 35184372088831) rfl rfl HT_.out (by kernel_rfl) qq_ (Or.inl ⟨by rfl, ?_⟩) ?_ ?_ ?_
             rotate_left; ·intro w'; go_simp; with_reducible rfl
             rotate_left; ·simp only [Act.put, sA, sZ, sS, i64_w, i32_w]; rfl
             refine pt_ ?_ 45 (some 64) (btB 53 70368744177663) rfl rfl HT_.out (by kernel_rfl) qq_ (Or.inl ⟨by rfl, ?_⟩) ?_ ?_ ?_
             rotate_left; ·intro w'; go_simp; with_reducible rfl
             rotate_left; ·simp only [Act.put, sA, sZ, sS, i64_w, i32_w]; rfl
             refine pt_ ?_ 46 (some 65) (btB 53 140737488355327) rfl rfl HT_.out (by kernel_rfl) qq_ (Or.inl ⟨by rfl, ?_⟩) ?_ ?_ ?_
             rotate_left; ·intro w'; go_simp; with_reducible rfl
             rotate_left; ·simp only [Act.put, sA, sZ, sS, i64_w, i32_w]; rfl
             refine pt_ ?_ 48 (some 67) (btB 53 422212465065983) rfl rfl HT_.out (by kernel_rfl) qq_ (Or.inl ⟨by rfl, ?_⟩) ?_ ?_ ?_
             rotate_left; ·intro w'; go_simp; with_reducible rfl
             rotate_left; ·simp only [Act.put, sA, sZ, sS, i64_w, i32_w]; rfl
             refine pt_ ?_ 49 (some 68) (btB 53 985162418487295) rfl rfl HT_.out (by kernel_rfl) qq_ (Or.inl ⟨by rfl, ?_⟩) ?_ ?_ ?_
             rotate_left; ·intro w'; go_simp; with_reducible rfl
             rotate_left; ·simp only [Act.put, sA, sZ, sS, i64_w, i32_w]; rfl
             refine take_ (i := 47) (N := some 66) (v := ?_) (a' := ?_) (btB 53 1125899906842623) rfl rfl (take_ofW HT_.out HW_.out (by kernel_rfl)) (fun _ _ _ h => h) (Or.inl ⟨by rfl, ?_⟩) hHeld ?_ ?_
             rotate_left; ·rintro w' ⟨s0, s1, s2, s3, s4⟩; go_simp; with_reducible rfl
             rotate_left; ·simp only [Act.put, sA, sZ, sS, i64_w, i32_w]; rfl
             refine take_ (i := 50) (N := some 69) (v := ?_) (a' := ?_) (btB 53 2251799813685247) rfl rfl (take_ofW HT_.out HW_.out (by kernel_rfl)) (fun _ _ _ h => h) (Or.inl ⟨by rfl, ?_⟩) hHeld ?_ ?_
             rotate_left; ·rintro w' ⟨s0, s1, s2, s3, s4⟩; go_simp; with_reducible rfl
             rotate_left; ·simp only [Act.put, sA, sZ, sS, i64_w, i32_w]; rfl
             refine pt_ ?_ 51 (some 70) (btB 53 4503599627370495) rfl rfl HT_.out (by kernel_rfl) qq_ (Or.inl ⟨by rfl, ?_⟩) ?_ ?_ ?_
             rotate_left; ·intro w'; go_simp; with_reducible rfl
             rotate_left; ·simp only [Act.put, sA, sZ, sS, i64_w, i32_w]; rfl
             refine pt_ ?_ 52 (some 71) (btB 53 9007199254740991) rfl rfl HT_.out (by kernel_rfl) qq_ (Or.inl ⟨by rfl, ?_⟩) ?_ ?_ ?_
             rotate_left; ·intro w'; go_simp; with_reducible rfl
             rotate_left; ·simp only [Act.put, sA, sZ, sS, i64_w, i32_w]; rfl
             refine done_ (done_of HT_.out (by kernel_rfl)) ?_
             try go_wp2
             go_meet
             case rel => exact ⟨_, (decide (((rd_T110 l0 x3_1).f1.f1) > ((rd_T110 l0 x3_1).f2.f1))), (by first | rfl | (simp; done) | (simp [*]; done)), H', ⟨by have := HK1.out; first | omega | exact Nat.le_refl _⟩, ⟨by (with_reducible repeat (first | refine blk_drewN ?_ _ | refine blk_drew ?_ | refine blk_alloc ?_ _)); exact BK102.out⟩, ⟨by repeat (first | (with_reducible first | exact HB.out | apply below_alloc | apply pw_below_drewN | apply below_drew1 | refine below_set ?_ GE102.out) | exact HB.out)⟩⟩
           ·replace c44 := Bool.eq_false_iff.mpr c44
            subst c44
            have H1 : (tallymanref07_Right.j1 k1 l0 x3_1 true ((rd_T110 l0 x3_1).f0) ((rd_T110 l0 x3_1).f1.f0) ((rd_T110 l0 x3_1).f1.f1) ((rd_T110 l0 x3_1).f2.f0) ((rd_T110 l0 x3_1).f2.f1)) = some r := by rw [if_neg (show ¬ (false = true) by decide)] at H; exact H
            clear H
            have H := H1
            clear H1
            have H' := Aside0.mk H
            clear H
            try go_wp2
            have n0_ : Aside0 ((((((w6.setCell ⟨gb102, 0, none⟩ (.int .i64 ((rd_T110 l0 x3_1).f0))).setCell ⟨gb102, 1, none⟩ (.int .i64 ((rd_T110 l0 x3_1).f1.f0))).setCell ⟨gb102, 2, none⟩ (.int .i64 ((rd_T110 l0 x3_1).f1.f1))).setCell ⟨gb102, 3, none⟩ (.int .i64 ((rd_T110 l0 x3_1).f2.f0))).setCell ⟨gb102, 4, none⟩ (.int .i64 ((rd_T110 l0 x3_1).f2.f1))).heap[gb102]? = some (.cells #[.int .i64 ((rd_T110 l0 x3_1).f0), .int .i64 ((rd_T110 l0 x3_1).f1.f0), .int .i64 ((rd_T110 l0 x3_1).f1.f1), .int .i64 ((rd_T110 l0 x3_1).f2.f0), .int .i64 ((rd_T110 l0 x3_1).f2.f1)] 110 (0, 0))) := ⟨by (with_reducible repeat (first | refine blk_drewN ?_ _ | refine blk_drew ?_ | refine blk_alloc ?_ _)); refine blk_put (cs := #[.int .i64 ((rd_T110 l0 x3_1).f0), .int .i64 ((rd_T110 l0 x3_1).f1.f0), .int .i64 ((rd_T110 l0 x3_1).f1.f1), .int .i64 ((rd_T110 l0 x3_1).f2.f0), .int .i64 0]) ?_ 4 _ rfl; (with_reducible repeat (first | refine blk_drewN ?_ _ | refine blk_drew ?_ | refine blk_alloc ?_ _)); refine blk_put (cs := #[.int .i64 ((rd_T110 l0 x3_1).f0), .int .i64 ((rd_T110 l0 x3_1).f1.f0), .int .i64 ((rd_T110 l0 x3_1).f1.f1), .int .i64 0, .int .i64 0]) ?_ 3 _ rfl; (with_reducible repeat (first | refine blk_drewN ?_ _ | refine blk_drew ?_ | refine blk_alloc ?_ _)); refine blk_put (cs := #[.int .i64 ((rd_T110 l0 x3_1).f0), .int .i64 ((rd_T110 l0 x3_1).f1.f0), .int .i64 0, .int .i64 0, .int .i64 0]) ?_ 2 _ rfl; (with_reducible repeat (first | refine blk_drewN ?_ _ | refine blk_drew ?_ | refine blk_alloc ?_ _)); refine blk_put (cs := #[.int .i64 ((rd_T110 l0 x3_1).f0), .int .i64 0, .int .i64 0, .int .i64 0, .int .i64 0]) ?_ 1 _ rfl; (with_reducible repeat (first | refine blk_drewN ?_ _ | refine blk_drew ?_ | refine blk_alloc ?_ _)); refine blk_put (cs := #[.int .i64 0, .int .i64 0, .int .i64 0, .int .i64 0, .int .i64 0]) ?_ 0 _ rfl; (with_reducible repeat (first | refine blk_drewN ?_ _ | refine blk_drew ?_ | refine blk_alloc ?_ _)); exact BK102.out⟩
            have n1_ : Aside0 (Below w.heap.size w (((((w6.setCell ⟨gb102, 0, none⟩ (.int .i64 ((rd_T110 l0 x3_1).f0))).setCell ⟨gb102, 1, none⟩ (.int .i64 ((rd_T110 l0 x3_1).f1.f0))).setCell ⟨gb102, 2, none⟩ (.int .i64 ((rd_T110 l0 x3_1).f1.f1))).setCell ⟨gb102, 3, none⟩ (.int .i64 ((rd_T110 l0 x3_1).f2.f0))).setCell ⟨gb102, 4, none⟩ (.int .i64 ((rd_T110 l0 x3_1).f2.f1)))) := ⟨by repeat (first | (with_reducible first | exact HB.out | apply below_alloc | apply pw_below_drewN | apply below_drew1 | refine below_set ?_ GE102.out) | exact HB.out)⟩
            (try clear BK102)
            (try clear HB)
            generalize (((((w6.setCell ⟨gb102, 0, none⟩ (.int .i64 ((rd_T110 l0 x3_1).f0))).setCell ⟨gb102, 1, none⟩ (.int .i64 ((rd_T110 l0 x3_1).f1.f0))).setCell ⟨gb102, 2, none⟩ (.int .i64 ((rd_T110 l0 x3_1).f1.f1))).setCell ⟨gb102, 3, none⟩ (.int .i64 ((rd_T110 l0 x3_1).f2.f0))).setCell ⟨gb102, 4, none⟩ (.int .i64 ((rd_T110 l0 x3_1).f2.f1))) = w54 at n0_ n1_ ⊢
            have BK102 := n0_
            have HB := n1_
            clear n0_ n1_
            have n0_ := Aside0.mk (blk_drew BK102.out)
            have n1_ := Aside0.mk (below_drew1 HB.out)
            clear BK102
            clear HB
            have BK102 := n0_
            have HB := n1_
            clear n0_ n1_
            refine start_ (n := 53) (S := fun w' => w'.cell? ⟨gb102, 0, none⟩ = some (.int .i64 ((rd_T110 l0 x3_1).f0)) ∧ w'.cell? ⟨gb102, 1, none⟩ = some (.int .i64 ((rd_T110 l0 x3_1).f1.f0)) ∧ w'.cell? ⟨gb102, 2, none⟩ = some (.int .i64 ((rd_T110 l0 x3_1).f1.f1)) ∧ w'.cell? ⟨gb102, 3, none⟩ = some (.int .i64 ((rd_T110 l0 x3_1).f2.f0)) ∧ w'.cell? ⟨gb102, 4, none⟩ = some (.int .i64 ((rd_T110 l0 x3_1).f2.f1))) (ds := []) (btB 53 0) (by kernel_rfl) rfl rfl ⟨(blk_cell BK102.out 0).trans rfl, (blk_cell BK102.out 1).trans rfl, (blk_cell BK102.out 2).trans rfl, (blk_cell BK102.out 3).trans rfl, (blk_cell BK102.out 4).trans rfl⟩ (fun hHeld => ?_); refine with_tabW tallymanref07_Right.tab7 tallymanref07_Right.bits7 (fun HT_ HW_ => ?_)
            generalize w54.drew = w55 at BK102 HB hHeld ⊢
            refine pt_ ?_ 0 (some 19) (btB 53 1) rfl rfl HT_.out (by kernel_rfl) qq_ (Or.inl ⟨by rfl, ?_⟩) ?_ ?_ ?_
            rotate_left; ·intro w'; go_simp; with_reducible rfl
            rotate_left; ·simp only [Act.put, sA, sZ, sS, i64_w, i32_w]; rfl
            refine take_ (i := 1) (N := some 20) (v := ?_) (a' := ?_) (btB 53 3) rfl rfl (take_ofW HT_.out HW_.out (by kernel_rfl)) (fun _ _ _ h => h) (Or.inl ⟨by rfl, ?_⟩) hHeld ?_ ?_
            rotate_left; ·rintro w' ⟨s0, s1, s2, s3, s4⟩; go_simp; with_reducible rfl
            rotate_left; ·simp only [Act.put, sA, sZ, sS, i64_w, i32_w]; rfl
            refine pt_ ?_ 2 (some 21) (btB 53 7) rfl rfl HT_.out (by kernel_rfl) qq_ (Or.inl ⟨by rfl, ?_⟩) ?_ ?_ ?_
            rotate_left; ·intro w'; go_simp; with_reducible rfl
            rotate_left; ·simp only [Act.put, sA, sZ, sS, i64_w, i32_w]; rfl
            refine pt_ ?_ 3 (some 22) (btB 53 15) rfl rfl HT_.out (by kernel_rfl) qq_ (Or.inl ⟨by rfl, ?_⟩) ?_ ?_ ?_
            rotate_left; ·intro w'; go_simp; with_reducible rfl
            rotate_left; ·simp only [Act.put, sA, sZ, sS, i64_w, i32_w]; rfl
            refine pt_ ?_ 4 (some 23) (btB 53 31) rfl rfl HT_.out (by kernel_rfl) qq_ (Or.inl ⟨by rfl, ?_⟩) ?_ ?_ ?_
            rotate_left; ·intro w'; go_simp; with_reducible rfl
            rotate_left; ·simp only [Act.put, sA, sZ, sS, i64_w, i32_w]; rfl
            refine take_ (i := 5) (N := some 24) (v := ?_) (a' := ?_) (btB 53 63) rfl rfl (take_ofW HT_.out HW_.out (by kernel_rfl)) (fun _ _ _ h => h) (Or.inl ⟨by rfl, ?_⟩) hHeld ?_ ?_
            rotate_left; ·rintro w' ⟨s0, s1, s2, s3, s4⟩; go_simp; with_reducible rfl
            rotate_left; ·simp only [Act.put, sA, sZ, sS, i64_w, i32_w]; rfl
            refine pt_ ?_ 6 (some 25) (btB 53 127) rfl rfl HT_.out (by kernel_rfl) qq_ (Or.inl ⟨by rfl, ?_⟩) ?_ ?_ ?_
            rotate_left; ·intro w'; go_simp; with_reducible rfl
            rotate_left; ·simp only [Act.put, sA, sZ, sS, i64_w, i32_w]; rfl
            refine pt_ ?_ 7 (some 26) (btB 53 255) rfl rfl HT_.out (by kernel_rfl) qq_ (Or.inl ⟨by rfl, ?_⟩) ?_ ?_ ?_
            rotate_left; ·intro w'; go_simp; with_reducible rfl
            rotate_left; ·simp only [Act.put, sA, sZ, sS, i64_w, i32_w]; rfl
            refine pt_ ?_ 8 (some 27) (btB 53 511) rfl rfl HT_.out (by kernel_rfl) qq_ (Or.inl ⟨by rfl, ?_⟩) ?_ ?_ ?_
            rotate_left; ·intro w'; go_simp; with_reducible rfl
            rotate_left; ·simp only [Act.put, sA, sZ, sS, i64_w, i32_w]; rfl
            refine pt_ ?_ 9 (some 28) (btB 53 1023) rfl rfl HT_.out (by kernel_rfl) qq_ (Or.inl ⟨by rfl, ?_⟩) ?_ ?_ ?_
            rotate_left; ·intro w'; go_simp; with_reducible rfl
            rotate_left; ·simp only [Act.put, sA, sZ, sS, i64_w, i32_w]; rfl
            refine pt_ ?_ 10 (some 29) (btB 53 2047) rfl rfl HT_.out (by kernel_rfl) qq_ (Or.inl ⟨by rfl, ?_⟩) ?_ ?_ ?_
            rotate_left; ·intro w'; go_simp; with_reducible rfl
            rotate_left; ·simp only [Act.put, sA, sZ, sS, i64_w, i32_w]; rfl
            refine pt_ ?_ 11 (some 30) (btB 53 4095) rfl rfl HT_.out (by kernel_rfl) qq_ (Or.inl ⟨by rfl, ?_⟩) ?_ ?_ ?_
            rotate_left; ·intro w'; go_simp; with_reducible rfl
            rotate_left; ·simp only [Act.put, sA, sZ, sS, i64_w, i32_w]; rfl
            refine pt_ undef 12 (some 31) (btB 53 8191) rfl rfl HT_.out (by kernel_rfl) qq_ (Or.inr ⟨by rfl, rfl⟩) ?_ ?_ ?_
            rotate_left; ·simp only [Act.put, sA, sZ, sS, i64_w, i32_w]; rfl
            refine pt_ undef 13 (some 32) (btB 53 16383) rfl rfl HT_.out (by kernel_rfl) qq_ (Or.inr ⟨by rfl, rfl⟩) ?_ ?_ ?_
            rotate_left; ·simp only [Act.put, sA, sZ, sS, i64_w, i32_w]; rfl
            refine pt_ undef 14 (some 33) (btB 53 32767) rfl rfl HT_.out (by kernel_rfl) qq_ (Or.inr ⟨by rfl, rfl⟩) ?_ ?_ ?_
            rotate_left; ·simp only [Act.put, sA, sZ, sS, i64_w, i32_w]; rfl
            refine pt_ undef 15 (some 34) (btB 53 65535) rfl rfl HT_.out (by kernel_rfl) qq_ (Or.inr ⟨by rfl, rfl⟩) ?_ ?_ ?_
            rotate_left; ·simp only [Act.put, sA, sZ, sS, i64_w, i32_w]; rfl
            refine pt_ undef 16 (some 35) (btB 53 131071) rfl rfl HT_.out (by kernel_rfl) qq_ (Or.inr ⟨by rfl, rfl⟩) ?_ ?_ ?_
            rotate_left; ·simp only [Act.put, sA, sZ, sS, i64_w, i32_w]; rfl
            refine pt_ undef 17 (some 36) (btB 53 262143) rfl rfl HT_.out (by kernel_rfl) qq_ (Or.inr ⟨by rfl, rfl⟩) ?_ ?_ ?_
            rotate_left; ·simp only [Act.put, sA, sZ, sS, i64_w, i32_w]; rfl
            refine pt_ undef 18 (some 37) (btB 53 524287) rfl rfl HT_.out (by kernel_rfl) qq_ (Or.inr ⟨by rfl, rfl⟩) ?_ ?_ ?_
            rotate_left; ·simp only [Act.put, sA, sZ, sS, i64_w, i32_w]; rfl
            refine pt_ undef 19 (some 38) (btB 53 1048575) rfl rfl HT_.out (by kernel_rfl) qq_ (Or.inr ⟨by rfl, rfl⟩) ?_ ?_ ?_
            rotate_left; ·simp only [Act.put, sA, sZ, sS, i64_w, i32_w]; rfl
            refine pt_ undef 20 (some 39) (btB 53 2097151) rfl rfl HT_.out (by kernel_rfl) qq_ (Or.inr ⟨by rfl, rfl⟩) ?_ ?_ ?_
            rotate_left; ·simp only [Act.put, sA, sZ, sS, i64_w, i32_w]; rfl
            refine pt_ ?_ 21 (some 40) (btB 53 4194303) rfl rfl HT_.out (by kernel_rfl) qq_ (Or.inl ⟨by rfl, ?_⟩) ?_ ?_ ?_
            rotate_left; ·intro w'; go_simp; with_reducible rfl
            rotate_left; ·simp only [Act.put, sA, sZ, sS, i64_w, i32_w]; rfl
            refine pt_ ?_ 22 (some 41) (btB 53 8388607) rfl rfl HT_.out (by kernel_rfl) qq_ (Or.inl ⟨by rfl, ?_⟩) ?_ ?_ ?_
            rotate_left; ·intro w'; go_simp; with_reducible rfl
            rotate_left; ·simp only [Act.put, sA, sZ, sS, i64_w, i32_w]; rfl
            refine pt_ ?_ 23 (some 42) (btB 53 16777215) rfl rfl HT_.out (by kernel_rfl) qq_ (Or.inl ⟨by rfl, ?_⟩) ?_ ?_ ?_
            rotate_left; ·intro w'; go_simp; with_reducible rfl
            rotate_left; ·simp only [Act.put, sA, sZ, sS, i64_w, i32_w]; rfl
            refine pt_ ?_ 24 (some 43) (btB 53 33554431) rfl rfl HT_.out (by kernel_rfl) qq_ (Or.inl ⟨by rfl, ?_⟩) ?_ ?_ ?_
            rotate_left; ·intro w'; go_simp; with_reducible rfl
            rotate_left; ·simp only [Act.put, sA, sZ, sS, i64_w, i32_w]; rfl
            refine take_ (i := 25) (N := some 44) (v := ?_) (a' := ?_) (btB 53 67108863) rfl rfl (take_ofW HT_.out HW_.out (by kernel_rfl)) (fun _ _ _ h => h) (Or.inl ⟨by rfl, ?_⟩) hHeld ?_ ?_
            rotate_left; ·rintro w' ⟨s0, s1, s2, s3, s4⟩; go_simp; with_reducible rfl
            rotate_left; ·simp only [Act.put, sA, sZ, sS, i64_w, i32_w]; rfl
            refine one_ (i := 26) (N := some 45) (btB 53 134217727) rfl rfl (one_of HT_.out (by kernel_rfl)) (by decide) (fun K hK => ?_)
            refine goes_ Try.func112 (by kernel_rfl) rfl #[.agg #[.int .i64 ((rd_T110 l0 x3_1).f1.f0), .int .i64 ((rd_T110 l0 x3_1).f1.f1)], .int .i64 1000] (by rfl) rfl rfl (by (try simp only [List.map_toArray, List.map_cons, List.map_nil]); first | done | rfl | (simp only [List.length_drop, List.length_take]; rfl)) ?_
            with_reducible refine (tallymanref03_Small.calls ((rd_T110 l0 x3_1).f1.f0) ((rd_T110 l0 x3_1).f1.f1) 1000 true _ A41.out).mono ?_
            rintro e w56 ⟨rfl, hb⟩
            refine ⟨_, rfl, ?_⟩
            have n0_ := Aside0.mk (blk_below (g := gb102) (o := .cells #[.int .i64 ((rd_T110 l0 x3_1).f0), .int .i64 ((rd_T110 l0 x3_1).f1.f0), .int .i64 ((rd_T110 l0 x3_1).f1.f1), .int .i64 ((rd_T110 l0 x3_1).f2.f0), .int .i64 ((rd_T110 l0 x3_1).f2.f1)] 110 (0, 0)) (by (with_reducible repeat (first | refine blk_drewN ?_ _ | refine blk_drew ?_ | refine blk_alloc ?_ _)); exact BK102.out) hb)
            have n1_ := Aside0.mk (below_step (by repeat (first | (with_reducible first | exact HB.out | apply below_alloc | apply pw_below_drewN | apply below_drew1 | refine below_set ?_ GE102.out) | exact HB.out)) hb)
            clear BK102
            clear HB
            have BK102 := n0_
            have HB := n1_
            clear n0_ n1_
            (try clear hb)
            (try clear hb2)
            (try clear hk)
            (try clear hi)
            refine hK.out _ _ ⟨(blk_cell BK102.out 0).trans rfl, (blk_cell BK102.out 1).trans rfl, (blk_cell BK102.out 2).trans rfl, (blk_cell BK102.out 3).trans rfl, (blk_cell BK102.out 4).trans rfl⟩ (fun hHeld => ?_)
            clear hK K
            refine norm_ (a' := ?_) ?_ ?_
            rotate_left; ·show Act.put _ (some 45) _ = _; simp only [Act.put, sA, sZ, sS, i64_w, i32_w]; rfl
            refine pt_ ?_ 27 (some 46) (btB 53 268435455) rfl rfl HT_.out (by kernel_rfl) qq_ (Or.inl ⟨by rfl, ?_⟩) ?_ ?_ ?_
            rotate_left; ·intro w'; go_simp; with_reducible rfl
            rotate_left; ·simp only [Act.put, sA, sZ, sS, i64_w, i32_w]; rfl
            refine pt_ ?_ 28 (some 47) (btB 53 536870911) rfl rfl HT_.out (by kernel_rfl) qq_ (Or.inl ⟨by rfl, ?_⟩) ?_ ?_ ?_
            rotate_left; ·intro w'; go_simp; with_reducible rfl
            rotate_left; ·simp only [Act.put, sA, sZ, sS, i64_w, i32_w]; rfl
            refine pt_ ?_ 29 (some 48) (btB 53 1073741823) rfl rfl HT_.out (by kernel_rfl) qq_ (Or.inl ⟨by rfl, ?_⟩) ?_ ?_ ?_
            rotate_left; ·intro w'; go_simp; with_reducible rfl
            rotate_left; ·simp only [Act.put, sA, sZ, sS, i64_w, i32_w]; rfl
            refine pt_ ?_ 30 (some 49) (btB 53 2147483647) rfl rfl HT_.out (by kernel_rfl) qq_ (Or.inl ⟨by rfl, ?_⟩) ?_ ?_ ?_
            rotate_left; ·intro w'; go_simp; with_reducible rfl
            rotate_left; ·simp only [Act.put, sA, sZ, sS, i64_w, i32_w]; rfl
            refine take_ (i := 31) (N := some 50) (v := ?_) (a' := ?_) (btB 53 4294967295) rfl rfl (take_ofW HT_.out HW_.out (by kernel_rfl)) (fun _ _ _ h => h) (Or.inl ⟨by rfl, ?_⟩) hHeld ?_ ?_
            rotate_left; ·rintro w' ⟨s0, s1, s2, s3, s4⟩; go_simp; with_reducible rfl
            rotate_left; ·simp only [Act.put, sA, sZ, sS, i64_w, i32_w]; rfl
            refine one_ (i := 32) (N := some 51) (btB 53 8589934591) rfl rfl (one_of HT_.out (by kernel_rfl)) (by decide) (fun K hK => ?_)
            refine goes_ Try.func112 (by kernel_rfl) rfl #[.agg #[.int .i64 ((rd_T110 l0 x3_1).f2.f0), .int .i64 ((rd_T110 l0 x3_1).f2.f1)], .int .i64 1000] (by rfl) rfl rfl (by (try simp only [List.map_toArray, List.map_cons, List.map_nil]); first | done | rfl | (simp only [List.length_drop, List.length_take]; rfl)) ?_
            with_reducible refine (tallymanref03_Small.calls ((rd_T110 l0 x3_1).f2.f0) ((rd_T110 l0 x3_1).f2.f1) 1000 false _ A43.out).mono ?_
            rintro e w57 ⟨rfl, hb⟩
            refine ⟨_, rfl, ?_⟩
            have n0_ := Aside0.mk (blk_below (g := gb102) (o := .cells #[.int .i64 ((rd_T110 l0 x3_1).f0), .int .i64 ((rd_T110 l0 x3_1).f1.f0), .int .i64 ((rd_T110 l0 x3_1).f1.f1), .int .i64 ((rd_T110 l0 x3_1).f2.f0), .int .i64 ((rd_T110 l0 x3_1).f2.f1)] 110 (0, 0)) (by (with_reducible repeat (first | refine blk_drewN ?_ _ | refine blk_drew ?_ | refine blk_alloc ?_ _)); exact BK102.out) hb)
            have n1_ := Aside0.mk (below_step (by repeat (first | (with_reducible first | exact HB.out | apply below_alloc | apply pw_below_drewN | apply below_drew1 | refine below_set ?_ GE102.out) | exact HB.out)) hb)
            clear BK102
            clear HB
            have BK102 := n0_
            have HB := n1_
            clear n0_ n1_
            (try clear hb)
            (try clear hb2)
            (try clear hk)
            (try clear hi)
            refine hK.out _ _ ⟨(blk_cell BK102.out 0).trans rfl, (blk_cell BK102.out 1).trans rfl, (blk_cell BK102.out 2).trans rfl, (blk_cell BK102.out 3).trans rfl, (blk_cell BK102.out 4).trans rfl⟩ (fun hHeld => ?_)
            clear hK K
            refine norm_ (a' := ?_) ?_ ?_
            rotate_left; ·show Act.put _ (some 51) _ = _; simp only [Act.put, sA, sZ, sS, i64_w, i32_w]; rfl
            refine pt_ ?_ 33 (some 52) (btB 53 17179869183) rfl rfl HT_.out (by kernel_rfl) qq_ (Or.inl ⟨by rfl, ?_⟩) ?_ ?_ ?_
            rotate_left; ·intro w'; go_simp; with_reducible rfl
            rotate_left; ·simp only [Act.put, sA, sZ, sS, i64_w, i32_w]; rfl
            refine pt_ ?_ 34 (some 53) (btB 53 34359738367) rfl rfl HT_.out (by kernel_rfl) qq_ (Or.inl ⟨by rfl, ?_⟩) ?_ ?_ ?_
            rotate_left; ·intro w'; go_simp; with_reducible rfl
            rotate_left; ·simp only [Act.put, sA, sZ, sS, i64_w, i32_w]; rfl
            refine pt_ ?_ 35 (some 54) (btB 53 68719476735) rfl rfl HT_.out (by kernel_rfl) qq_ (Or.inl ⟨by rfl, ?_⟩) ?_ ?_ ?_
            rotate_left; ·intro w'; go_simp; with_reducible rfl
            rotate_left; ·simp only [Act.put, sA, sZ, sS, i64_w, i32_w]; rfl
            refine pt_ undef 36 (some 55) (btB 53 137438953471) rfl rfl HT_.out (by kernel_rfl) qq_ (Or.inr ⟨by rfl, rfl⟩) ?_ ?_ ?_
            rotate_left; ·simp only [Act.put, sA, sZ, sS, i64_w, i32_w]; rfl
            refine pt_ undef 37 (some 56) (btB 53 274877906943) rfl rfl HT_.out (by kernel_rfl) qq_ (Or.inr ⟨by rfl, rfl⟩) ?_ ?_ ?_
            rotate_left; ·simp only [Act.put, sA, sZ, sS, i64_w, i32_w]; rfl
            refine pt_ undef 38 (some 57) (btB 53 549755813887) rfl rfl HT_.out (by kernel_rfl) qq_ (Or.inr ⟨by rfl, rfl⟩) ?_ ?_ ?_
            rotate_left; ·simp only [Act.put, sA, sZ, sS, i64_w, i32_w]; rfl
            refine pt_ undef 39 (some 58) (btB 53 1099511627775) rfl rfl HT_.out (by kernel_rfl) qq_ (Or.inr ⟨by rfl, rfl⟩) ?_ ?_ ?_
            rotate_left; ·simp only [Act.put, sA, sZ, sS, i64_w, i32_w]; rfl
            refine pt_ undef 40 (some 59) (btB 53 2199023255551) rfl rfl HT_.out (by kernel_rfl) qq_ (Or.inr ⟨by rfl, rfl⟩) ?_ ?_ ?_
            rotate_left; ·simp only [Act.put, sA, sZ, sS, i64_w, i32_w]; rfl
            refine pt_ undef 41 (some 60) (btB 53 4398046511103) rfl rfl HT_.out (by kernel_rfl) qq_ (Or.inr ⟨by rfl, rfl⟩) ?_ ?_ ?_
            rotate_left; ·simp only [Act.put, sA, sZ, sS, i64_w, i32_w]; rfl
            refine pt_ undef 42 (some 61) (btB 53 8796093022207) rfl rfl HT_.out (by kernel_rfl) qq_ (Or.inr ⟨by rfl, rfl⟩) ?_ ?_ ?_
            rotate_left; ·simp only [Act.put, sA, sZ, sS, i64_w, i32_w]; rfl
            refine pt_ ?_ 43 (some 62) (btB 53 17592186044415) rfl rfl HT_.out (by kernel_rfl) qq_ (Or.inl ⟨by rfl, ?_⟩) ?_ ?_ ?_
            rotate_left; ·intro w'; go_simp; with_reducible rfl
            rotate_left; ·simp only [Act.put, sA, sZ, sS, i64_w, i32_w]; rfl
            refine pt_ ?_ 44 (some 63) (btB 53 35184372088831) rfl rfl HT_.out (by kernel_rfl) qq_ (Or.inl ⟨by rfl, ?_⟩) ?_ ?_ ?_
            rotate_left; ·intro w'; go_simp; with_reducible rfl
            rotate_left; ·simp only [Act.put, sA, sZ, sS, i64_w, i32_w]; rfl
            refine pt_ undef 45 (some 64) (btB 53 70368744177663) rfl rfl HT_.out (by kernel_rfl) qq_ (Or.inr ⟨by rfl, rfl⟩) ?_ ?_ ?_
            rotate_left; ·simp only [Act.put, sA, sZ, sS, i64_w, i32_w]; rfl
            refine pt_ undef 46 (some 65) (btB 53 140737488355327) rfl rfl HT_.out (by kernel_rfl) qq_ (Or.inr ⟨by rfl, rfl⟩) ?_ ?_ ?_
            rotate_left; ·simp only [Act.put, sA, sZ, sS, i64_w, i32_w]; rfl
            refine pt_ undef 47 (some 66) (btB 53 281474976710655) rfl rfl HT_.out (by kernel_rfl) qq_ (Or.inr ⟨by rfl, rfl⟩) ?_ ?_ ?_
            rotate_left; ·simp only [Act.put, sA, sZ, sS, i64_w, i32_w]; rfl
            refine pt_ undef 48 (some 67) (btB 53 562949953421311) rfl rfl HT_.out (by kernel_rfl) qq_ (Or.inr ⟨by rfl, rfl⟩) ?_ ?_ ?_
            rotate_left; ·simp only [Act.put, sA, sZ, sS, i64_w, i32_w]; rfl
            refine pt_ undef 49 (some 68) (btB 53 1125899906842623) rfl rfl HT_.out (by kernel_rfl) qq_ (Or.inr ⟨by rfl, rfl⟩) ?_ ?_ ?_
            rotate_left; ·simp only [Act.put, sA, sZ, sS, i64_w, i32_w]; rfl
            refine pt_ undef 50 (some 69) (btB 53 2251799813685247) rfl rfl HT_.out (by kernel_rfl) qq_ (Or.inr ⟨by rfl, rfl⟩) ?_ ?_ ?_
            rotate_left; ·simp only [Act.put, sA, sZ, sS, i64_w, i32_w]; rfl
            refine pt_ undef 51 (some 70) (btB 53 4503599627370495) rfl rfl HT_.out (by kernel_rfl) qq_ (Or.inr ⟨by rfl, rfl⟩) ?_ ?_ ?_
            rotate_left; ·simp only [Act.put, sA, sZ, sS, i64_w, i32_w]; rfl
            refine pt_ ?_ 52 (some 71) (btB 53 9007199254740991) rfl rfl HT_.out (by kernel_rfl) qq_ (Or.inl ⟨by rfl, ?_⟩) ?_ ?_ ?_
            rotate_left; ·intro w'; go_simp; with_reducible rfl
            rotate_left; ·simp only [Act.put, sA, sZ, sS, i64_w, i32_w]; rfl
            refine done_ (done_of HT_.out (by kernel_rfl)) ?_
            try go_wp2
            go_meet
            case rel => exact ⟨_, (true), (by first | rfl | (simp; done) | (simp [*]; done)), H', ⟨by have := HK1.out; first | omega | exact Nat.le_refl _⟩, ⟨by (with_reducible repeat (first | refine blk_drewN ?_ _ | refine blk_drew ?_ | refine blk_alloc ?_ _)); exact BK102.out⟩, ⟨by repeat (first | (with_reducible first | exact HB.out | apply below_alloc | apply pw_below_drewN | apply below_drew1 | refine below_set ?_ GE102.out) | exact HB.out)⟩⟩
          ·replace c42 := Bool.eq_false_iff.mpr c42
           subst c42
           have H1 : (tallymanref07_Right.j1 k1 l0 x3_1 true ((rd_T110 l0 x3_1).f0) ((rd_T110 l0 x3_1).f1.f0) ((rd_T110 l0 x3_1).f1.f1) ((rd_T110 l0 x3_1).f2.f0) ((rd_T110 l0 x3_1).f2.f1)) = some r := by rw [if_neg (show ¬ (false = true) by decide)] at H; exact H
           clear H
           have H := H1
           clear H1
           have H' := Aside0.mk H
           clear H
           try go_wp2
           have n0_ : Aside0 ((((((w6.setCell ⟨gb102, 0, none⟩ (.int .i64 ((rd_T110 l0 x3_1).f0))).setCell ⟨gb102, 1, none⟩ (.int .i64 ((rd_T110 l0 x3_1).f1.f0))).setCell ⟨gb102, 2, none⟩ (.int .i64 ((rd_T110 l0 x3_1).f1.f1))).setCell ⟨gb102, 3, none⟩ (.int .i64 ((rd_T110 l0 x3_1).f2.f0))).setCell ⟨gb102, 4, none⟩ (.int .i64 ((rd_T110 l0 x3_1).f2.f1))).heap[gb102]? = some (.cells #[.int .i64 ((rd_T110 l0 x3_1).f0), .int .i64 ((rd_T110 l0 x3_1).f1.f0), .int .i64 ((rd_T110 l0 x3_1).f1.f1), .int .i64 ((rd_T110 l0 x3_1).f2.f0), .int .i64 ((rd_T110 l0 x3_1).f2.f1)] 110 (0, 0))) := ⟨by (with_reducible repeat (first | refine blk_drewN ?_ _ | refine blk_drew ?_ | refine blk_alloc ?_ _)); refine blk_put (cs := #[.int .i64 ((rd_T110 l0 x3_1).f0), .int .i64 ((rd_T110 l0 x3_1).f1.f0), .int .i64 ((rd_T110 l0 x3_1).f1.f1), .int .i64 ((rd_T110 l0 x3_1).f2.f0), .int .i64 0]) ?_ 4 _ rfl; (with_reducible repeat (first | refine blk_drewN ?_ _ | refine blk_drew ?_ | refine blk_alloc ?_ _)); refine blk_put (cs := #[.int .i64 ((rd_T110 l0 x3_1).f0), .int .i64 ((rd_T110 l0 x3_1).f1.f0), .int .i64 ((rd_T110 l0 x3_1).f1.f1), .int .i64 0, .int .i64 0]) ?_ 3 _ rfl; (with_reducible repeat (first | refine blk_drewN ?_ _ | refine blk_drew ?_ | refine blk_alloc ?_ _)); refine blk_put (cs := #[.int .i64 ((rd_T110 l0 x3_1).f0), .int .i64 ((rd_T110 l0 x3_1).f1.f0), .int .i64 0, .int .i64 0, .int .i64 0]) ?_ 2 _ rfl; (with_reducible repeat (first | refine blk_drewN ?_ _ | refine blk_drew ?_ | refine blk_alloc ?_ _)); refine blk_put (cs := #[.int .i64 ((rd_T110 l0 x3_1).f0), .int .i64 0, .int .i64 0, .int .i64 0, .int .i64 0]) ?_ 1 _ rfl; (with_reducible repeat (first | refine blk_drewN ?_ _ | refine blk_drew ?_ | refine blk_alloc ?_ _)); refine blk_put (cs := #[.int .i64 0, .int .i64 0, .int .i64 0, .int .i64 0, .int .i64 0]) ?_ 0 _ rfl; (with_reducible repeat (first | refine blk_drewN ?_ _ | refine blk_drew ?_ | refine blk_alloc ?_ _)); exact BK102.out⟩
           have n1_ : Aside0 (Below w.heap.size w (((((w6.setCell ⟨gb102, 0, none⟩ (.int .i64 ((rd_T110 l0 x3_1).f0))).setCell ⟨gb102, 1, none⟩ (.int .i64 ((rd_T110 l0 x3_1).f1.f0))).setCell ⟨gb102, 2, none⟩ (.int .i64 ((rd_T110 l0 x3_1).f1.f1))).setCell ⟨gb102, 3, none⟩ (.int .i64 ((rd_T110 l0 x3_1).f2.f0))).setCell ⟨gb102, 4, none⟩ (.int .i64 ((rd_T110 l0 x3_1).f2.f1)))) := ⟨by repeat (first | (with_reducible first | exact HB.out | apply below_alloc | apply pw_below_drewN | apply below_drew1 | refine below_set ?_ GE102.out) | exact HB.out)⟩
           (try clear BK102)
           (try clear HB)
           generalize (((((w6.setCell ⟨gb102, 0, none⟩ (.int .i64 ((rd_T110 l0 x3_1).f0))).setCell ⟨gb102, 1, none⟩ (.int .i64 ((rd_T110 l0 x3_1).f1.f0))).setCell ⟨gb102, 2, none⟩ (.int .i64 ((rd_T110 l0 x3_1).f1.f1))).setCell ⟨gb102, 3, none⟩ (.int .i64 ((rd_T110 l0 x3_1).f2.f0))).setCell ⟨gb102, 4, none⟩ (.int .i64 ((rd_T110 l0 x3_1).f2.f1))) = w58 at n0_ n1_ ⊢
           have BK102 := n0_
           have HB := n1_
           clear n0_ n1_
           have n0_ := Aside0.mk (blk_drew BK102.out)
           have n1_ := Aside0.mk (below_drew1 HB.out)
           clear BK102
           clear HB
           have BK102 := n0_
           have HB := n1_
           clear n0_ n1_
           refine start_ (n := 53) (S := fun w' => w'.cell? ⟨gb102, 0, none⟩ = some (.int .i64 ((rd_T110 l0 x3_1).f0)) ∧ w'.cell? ⟨gb102, 1, none⟩ = some (.int .i64 ((rd_T110 l0 x3_1).f1.f0)) ∧ w'.cell? ⟨gb102, 2, none⟩ = some (.int .i64 ((rd_T110 l0 x3_1).f1.f1)) ∧ w'.cell? ⟨gb102, 3, none⟩ = some (.int .i64 ((rd_T110 l0 x3_1).f2.f0)) ∧ w'.cell? ⟨gb102, 4, none⟩ = some (.int .i64 ((rd_T110 l0 x3_1).f2.f1))) (ds := []) (btB 53 0) (by kernel_rfl) rfl rfl ⟨(blk_cell BK102.out 0).trans rfl, (blk_cell BK102.out 1).trans rfl, (blk_cell BK102.out 2).trans rfl, (blk_cell BK102.out 3).trans rfl, (blk_cell BK102.out 4).trans rfl⟩ (fun hHeld => ?_); refine with_tabW tallymanref07_Right.tab7 tallymanref07_Right.bits7 (fun HT_ HW_ => ?_)
           generalize w58.drew = w59 at BK102 HB hHeld ⊢
           refine pt_ ?_ 0 (some 19) (btB 53 1) rfl rfl HT_.out (by kernel_rfl) qq_ (Or.inl ⟨by rfl, ?_⟩) ?_ ?_ ?_
           rotate_left; ·intro w'; go_simp; with_reducible rfl
           rotate_left; ·simp only [Act.put, sA, sZ, sS, i64_w, i32_w]; rfl
           refine take_ (i := 1) (N := some 20) (v := ?_) (a' := ?_) (btB 53 3) rfl rfl (take_ofW HT_.out HW_.out (by kernel_rfl)) (fun _ _ _ h => h) (Or.inl ⟨by rfl, ?_⟩) hHeld ?_ ?_
           rotate_left; ·rintro w' ⟨s0, s1, s2, s3, s4⟩; go_simp; with_reducible rfl
           rotate_left; ·simp only [Act.put, sA, sZ, sS, i64_w, i32_w]; rfl
           refine pt_ ?_ 2 (some 21) (btB 53 7) rfl rfl HT_.out (by kernel_rfl) qq_ (Or.inl ⟨by rfl, ?_⟩) ?_ ?_ ?_
           rotate_left; ·intro w'; go_simp; with_reducible rfl
           rotate_left; ·simp only [Act.put, sA, sZ, sS, i64_w, i32_w]; rfl
           refine pt_ ?_ 3 (some 22) (btB 53 15) rfl rfl HT_.out (by kernel_rfl) qq_ (Or.inl ⟨by rfl, ?_⟩) ?_ ?_ ?_
           rotate_left; ·intro w'; go_simp; with_reducible rfl
           rotate_left; ·simp only [Act.put, sA, sZ, sS, i64_w, i32_w]; rfl
           refine pt_ ?_ 4 (some 23) (btB 53 31) rfl rfl HT_.out (by kernel_rfl) qq_ (Or.inl ⟨by rfl, ?_⟩) ?_ ?_ ?_
           rotate_left; ·intro w'; go_simp; with_reducible rfl
           rotate_left; ·simp only [Act.put, sA, sZ, sS, i64_w, i32_w]; rfl
           refine take_ (i := 5) (N := some 24) (v := ?_) (a' := ?_) (btB 53 63) rfl rfl (take_ofW HT_.out HW_.out (by kernel_rfl)) (fun _ _ _ h => h) (Or.inl ⟨by rfl, ?_⟩) hHeld ?_ ?_
           rotate_left; ·rintro w' ⟨s0, s1, s2, s3, s4⟩; go_simp; with_reducible rfl
           rotate_left; ·simp only [Act.put, sA, sZ, sS, i64_w, i32_w]; rfl
           refine pt_ ?_ 6 (some 25) (btB 53 127) rfl rfl HT_.out (by kernel_rfl) qq_ (Or.inl ⟨by rfl, ?_⟩) ?_ ?_ ?_
           rotate_left; ·intro w'; go_simp; with_reducible rfl
           rotate_left; ·simp only [Act.put, sA, sZ, sS, i64_w, i32_w]; rfl
           refine pt_ ?_ 7 (some 26) (btB 53 255) rfl rfl HT_.out (by kernel_rfl) qq_ (Or.inl ⟨by rfl, ?_⟩) ?_ ?_ ?_
           rotate_left; ·intro w'; go_simp; with_reducible rfl
           rotate_left; ·simp only [Act.put, sA, sZ, sS, i64_w, i32_w]; rfl
           refine pt_ ?_ 8 (some 27) (btB 53 511) rfl rfl HT_.out (by kernel_rfl) qq_ (Or.inl ⟨by rfl, ?_⟩) ?_ ?_ ?_
           rotate_left; ·intro w'; go_simp; with_reducible rfl
           rotate_left; ·simp only [Act.put, sA, sZ, sS, i64_w, i32_w]; rfl
           refine pt_ ?_ 9 (some 28) (btB 53 1023) rfl rfl HT_.out (by kernel_rfl) qq_ (Or.inl ⟨by rfl, ?_⟩) ?_ ?_ ?_
           rotate_left; ·intro w'; go_simp; with_reducible rfl
           rotate_left; ·simp only [Act.put, sA, sZ, sS, i64_w, i32_w]; rfl
           refine pt_ ?_ 10 (some 29) (btB 53 2047) rfl rfl HT_.out (by kernel_rfl) qq_ (Or.inl ⟨by rfl, ?_⟩) ?_ ?_ ?_
           rotate_left; ·intro w'; go_simp; with_reducible rfl
           rotate_left; ·simp only [Act.put, sA, sZ, sS, i64_w, i32_w]; rfl
           refine pt_ ?_ 11 (some 30) (btB 53 4095) rfl rfl HT_.out (by kernel_rfl) qq_ (Or.inl ⟨by rfl, ?_⟩) ?_ ?_ ?_
           rotate_left; ·intro w'; go_simp; with_reducible rfl
           rotate_left; ·simp only [Act.put, sA, sZ, sS, i64_w, i32_w]; rfl
           refine pt_ undef 12 (some 31) (btB 53 8191) rfl rfl HT_.out (by kernel_rfl) qq_ (Or.inr ⟨by rfl, rfl⟩) ?_ ?_ ?_
           rotate_left; ·simp only [Act.put, sA, sZ, sS, i64_w, i32_w]; rfl
           refine pt_ undef 13 (some 32) (btB 53 16383) rfl rfl HT_.out (by kernel_rfl) qq_ (Or.inr ⟨by rfl, rfl⟩) ?_ ?_ ?_
           rotate_left; ·simp only [Act.put, sA, sZ, sS, i64_w, i32_w]; rfl
           refine pt_ undef 14 (some 33) (btB 53 32767) rfl rfl HT_.out (by kernel_rfl) qq_ (Or.inr ⟨by rfl, rfl⟩) ?_ ?_ ?_
           rotate_left; ·simp only [Act.put, sA, sZ, sS, i64_w, i32_w]; rfl
           refine pt_ undef 15 (some 34) (btB 53 65535) rfl rfl HT_.out (by kernel_rfl) qq_ (Or.inr ⟨by rfl, rfl⟩) ?_ ?_ ?_
           rotate_left; ·simp only [Act.put, sA, sZ, sS, i64_w, i32_w]; rfl
           refine pt_ undef 16 (some 35) (btB 53 131071) rfl rfl HT_.out (by kernel_rfl) qq_ (Or.inr ⟨by rfl, rfl⟩) ?_ ?_ ?_
           rotate_left; ·simp only [Act.put, sA, sZ, sS, i64_w, i32_w]; rfl
           refine pt_ undef 17 (some 36) (btB 53 262143) rfl rfl HT_.out (by kernel_rfl) qq_ (Or.inr ⟨by rfl, rfl⟩) ?_ ?_ ?_
           rotate_left; ·simp only [Act.put, sA, sZ, sS, i64_w, i32_w]; rfl
           refine pt_ undef 18 (some 37) (btB 53 524287) rfl rfl HT_.out (by kernel_rfl) qq_ (Or.inr ⟨by rfl, rfl⟩) ?_ ?_ ?_
           rotate_left; ·simp only [Act.put, sA, sZ, sS, i64_w, i32_w]; rfl
           refine pt_ undef 19 (some 38) (btB 53 1048575) rfl rfl HT_.out (by kernel_rfl) qq_ (Or.inr ⟨by rfl, rfl⟩) ?_ ?_ ?_
           rotate_left; ·simp only [Act.put, sA, sZ, sS, i64_w, i32_w]; rfl
           refine pt_ undef 20 (some 39) (btB 53 2097151) rfl rfl HT_.out (by kernel_rfl) qq_ (Or.inr ⟨by rfl, rfl⟩) ?_ ?_ ?_
           rotate_left; ·simp only [Act.put, sA, sZ, sS, i64_w, i32_w]; rfl
           refine pt_ ?_ 21 (some 40) (btB 53 4194303) rfl rfl HT_.out (by kernel_rfl) qq_ (Or.inl ⟨by rfl, ?_⟩) ?_ ?_ ?_
           rotate_left; ·intro w'; go_simp; with_reducible rfl
           rotate_left; ·simp only [Act.put, sA, sZ, sS, i64_w, i32_w]; rfl
           refine pt_ ?_ 22 (some 41) (btB 53 8388607) rfl rfl HT_.out (by kernel_rfl) qq_ (Or.inl ⟨by rfl, ?_⟩) ?_ ?_ ?_
           rotate_left; ·intro w'; go_simp; with_reducible rfl
           rotate_left; ·simp only [Act.put, sA, sZ, sS, i64_w, i32_w]; rfl
           refine pt_ ?_ 23 (some 42) (btB 53 16777215) rfl rfl HT_.out (by kernel_rfl) qq_ (Or.inl ⟨by rfl, ?_⟩) ?_ ?_ ?_
           rotate_left; ·intro w'; go_simp; with_reducible rfl
           rotate_left; ·simp only [Act.put, sA, sZ, sS, i64_w, i32_w]; rfl
           refine pt_ ?_ 24 (some 43) (btB 53 33554431) rfl rfl HT_.out (by kernel_rfl) qq_ (Or.inl ⟨by rfl, ?_⟩) ?_ ?_ ?_
           rotate_left; ·intro w'; go_simp; with_reducible rfl
           rotate_left; ·simp only [Act.put, sA, sZ, sS, i64_w, i32_w]; rfl
           refine take_ (i := 25) (N := some 44) (v := ?_) (a' := ?_) (btB 53 67108863) rfl rfl (take_ofW HT_.out HW_.out (by kernel_rfl)) (fun _ _ _ h => h) (Or.inl ⟨by rfl, ?_⟩) hHeld ?_ ?_
           rotate_left; ·rintro w' ⟨s0, s1, s2, s3, s4⟩; go_simp; with_reducible rfl
           rotate_left; ·simp only [Act.put, sA, sZ, sS, i64_w, i32_w]; rfl
           refine one_ (i := 26) (N := some 45) (btB 53 134217727) rfl rfl (one_of HT_.out (by kernel_rfl)) (by decide) (fun K hK => ?_)
           refine goes_ Try.func112 (by kernel_rfl) rfl #[.agg #[.int .i64 ((rd_T110 l0 x3_1).f1.f0), .int .i64 ((rd_T110 l0 x3_1).f1.f1)], .int .i64 1000] (by rfl) rfl rfl (by (try simp only [List.map_toArray, List.map_cons, List.map_nil]); first | done | rfl | (simp only [List.length_drop, List.length_take]; rfl)) ?_
           with_reducible refine (tallymanref03_Small.calls ((rd_T110 l0 x3_1).f1.f0) ((rd_T110 l0 x3_1).f1.f1) 1000 false _ A41.out).mono ?_
           rintro e w60 ⟨rfl, hb⟩
           refine ⟨_, rfl, ?_⟩
           have n0_ := Aside0.mk (blk_below (g := gb102) (o := .cells #[.int .i64 ((rd_T110 l0 x3_1).f0), .int .i64 ((rd_T110 l0 x3_1).f1.f0), .int .i64 ((rd_T110 l0 x3_1).f1.f1), .int .i64 ((rd_T110 l0 x3_1).f2.f0), .int .i64 ((rd_T110 l0 x3_1).f2.f1)] 110 (0, 0)) (by (with_reducible repeat (first | refine blk_drewN ?_ _ | refine blk_drew ?_ | refine blk_alloc ?_ _)); exact BK102.out) hb)
           have n1_ := Aside0.mk (below_step (by repeat (first | (with_reducible first | exact HB.out | apply below_alloc | apply pw_below_drewN | apply below_drew1 | refine below_set ?_ GE102.out) | exact HB.out)) hb)
           clear BK102
           clear HB
           have BK102 := n0_
           have HB := n1_
           clear n0_ n1_
           (try clear hb)
           (try clear hb2)
           (try clear hk)
           (try clear hi)
           refine hK.out _ _ ⟨(blk_cell BK102.out 0).trans rfl, (blk_cell BK102.out 1).trans rfl, (blk_cell BK102.out 2).trans rfl, (blk_cell BK102.out 3).trans rfl, (blk_cell BK102.out 4).trans rfl⟩ (fun hHeld => ?_)
           clear hK K
           refine norm_ (a' := ?_) ?_ ?_
           rotate_left; ·show Act.put _ (some 45) _ = _; simp only [Act.put, sA, sZ, sS, i64_w, i32_w]; rfl
           refine pt_ ?_ 27 (some 46) (btB 53 268435455) rfl rfl HT_.out (by kernel_rfl) qq_ (Or.inl ⟨by rfl, ?_⟩) ?_ ?_ ?_
           rotate_left; ·intro w'; go_simp; with_reducible rfl
           rotate_left; ·simp only [Act.put, sA, sZ, sS, i64_w, i32_w]; rfl
           refine pt_ ?_ 28 (some 47) (btB 53 536870911) rfl rfl HT_.out (by kernel_rfl) qq_ (Or.inl ⟨by rfl, ?_⟩) ?_ ?_ ?_
           rotate_left; ·intro w'; go_simp; with_reducible rfl
           rotate_left; ·simp only [Act.put, sA, sZ, sS, i64_w, i32_w]; rfl
           refine pt_ ?_ 29 (some 48) (btB 53 1073741823) rfl rfl HT_.out (by kernel_rfl) qq_ (Or.inl ⟨by rfl, ?_⟩) ?_ ?_ ?_
           rotate_left; ·intro w'; go_simp; with_reducible rfl
           rotate_left; ·simp only [Act.put, sA, sZ, sS, i64_w, i32_w]; rfl
           refine pt_ undef 30 (some 49) (btB 53 2147483647) rfl rfl HT_.out (by kernel_rfl) qq_ (Or.inr ⟨by rfl, rfl⟩) ?_ ?_ ?_
           rotate_left; ·simp only [Act.put, sA, sZ, sS, i64_w, i32_w]; rfl
           refine pt_ undef 31 (some 50) (btB 53 4294967295) rfl rfl HT_.out (by kernel_rfl) qq_ (Or.inr ⟨by rfl, rfl⟩) ?_ ?_ ?_
           rotate_left; ·simp only [Act.put, sA, sZ, sS, i64_w, i32_w]; rfl
           refine pt_ undef 32 (some 51) (btB 53 8589934591) rfl rfl HT_.out (by kernel_rfl) qq_ (Or.inr ⟨by rfl, rfl⟩) ?_ ?_ ?_
           rotate_left; ·simp only [Act.put, sA, sZ, sS, i64_w, i32_w]; rfl
           refine pt_ undef 33 (some 52) (btB 53 17179869183) rfl rfl HT_.out (by kernel_rfl) qq_ (Or.inr ⟨by rfl, rfl⟩) ?_ ?_ ?_
           rotate_left; ·simp only [Act.put, sA, sZ, sS, i64_w, i32_w]; rfl
           refine pt_ ?_ 34 (some 53) (btB 53 34359738367) rfl rfl HT_.out (by kernel_rfl) qq_ (Or.inl ⟨by rfl, ?_⟩) ?_ ?_ ?_
           rotate_left; ·intro w'; go_simp; with_reducible rfl
           rotate_left; ·simp only [Act.put, sA, sZ, sS, i64_w, i32_w]; rfl
           refine pt_ ?_ 35 (some 54) (btB 53 68719476735) rfl rfl HT_.out (by kernel_rfl) qq_ (Or.inl ⟨by rfl, ?_⟩) ?_ ?_ ?_
           rotate_left; ·intro w'; go_simp; with_reducible rfl
           rotate_left; ·simp only [Act.put, sA, sZ, sS, i64_w, i32_w]; rfl
           refine pt_ undef 36 (some 55) (btB 53 137438953471) rfl rfl HT_.out (by kernel_rfl) qq_ (Or.inr ⟨by rfl, rfl⟩) ?_ ?_ ?_
           rotate_left; ·simp only [Act.put, sA, sZ, sS, i64_w, i32_w]; rfl
           refine pt_ undef 37 (some 56) (btB 53 274877906943) rfl rfl HT_.out (by kernel_rfl) qq_ (Or.inr ⟨by rfl, rfl⟩) ?_ ?_ ?_
           rotate_left; ·simp only [Act.put, sA, sZ, sS, i64_w, i32_w]; rfl
           refine pt_ undef 38 (some 57) (btB 53 549755813887) rfl rfl HT_.out (by kernel_rfl) qq_ (Or.inr ⟨by rfl, rfl⟩) ?_ ?_ ?_
           rotate_left; ·simp only [Act.put, sA, sZ, sS, i64_w, i32_w]; rfl
           refine pt_ undef 39 (some 58) (btB 53 1099511627775) rfl rfl HT_.out (by kernel_rfl) qq_ (Or.inr ⟨by rfl, rfl⟩) ?_ ?_ ?_
           rotate_left; ·simp only [Act.put, sA, sZ, sS, i64_w, i32_w]; rfl
           refine pt_ undef 40 (some 59) (btB 53 2199023255551) rfl rfl HT_.out (by kernel_rfl) qq_ (Or.inr ⟨by rfl, rfl⟩) ?_ ?_ ?_
           rotate_left; ·simp only [Act.put, sA, sZ, sS, i64_w, i32_w]; rfl
           refine pt_ undef 41 (some 60) (btB 53 4398046511103) rfl rfl HT_.out (by kernel_rfl) qq_ (Or.inr ⟨by rfl, rfl⟩) ?_ ?_ ?_
           rotate_left; ·simp only [Act.put, sA, sZ, sS, i64_w, i32_w]; rfl
           refine pt_ undef 42 (some 61) (btB 53 8796093022207) rfl rfl HT_.out (by kernel_rfl) qq_ (Or.inr ⟨by rfl, rfl⟩) ?_ ?_ ?_
           rotate_left; ·simp only [Act.put, sA, sZ, sS, i64_w, i32_w]; rfl
           refine pt_ ?_ 43 (some 62) (btB 53 17592186044415) rfl rfl HT_.out (by kernel_rfl) qq_ (Or.inl ⟨by rfl, ?_⟩) ?_ ?_ ?_
           rotate_left; ·intro w'; go_simp; with_reducible rfl
           rotate_left; ·simp only [Act.put, sA, sZ, sS, i64_w, i32_w]; rfl
           refine pt_ ?_ 44 (some 63) (btB 53 35184372088831) rfl rfl HT_.out (by kernel_rfl) qq_ (Or.inl ⟨by rfl, ?_⟩) ?_ ?_ ?_
           rotate_left; ·intro w'; go_simp; with_reducible rfl
           rotate_left; ·simp only [Act.put, sA, sZ, sS, i64_w, i32_w]; rfl
           refine pt_ undef 45 (some 64) (btB 53 70368744177663) rfl rfl HT_.out (by kernel_rfl) qq_ (Or.inr ⟨by rfl, rfl⟩) ?_ ?_ ?_
           rotate_left; ·simp only [Act.put, sA, sZ, sS, i64_w, i32_w]; rfl
           refine pt_ undef 46 (some 65) (btB 53 140737488355327) rfl rfl HT_.out (by kernel_rfl) qq_ (Or.inr ⟨by rfl, rfl⟩) ?_ ?_ ?_
           rotate_left; ·simp only [Act.put, sA, sZ, sS, i64_w, i32_w]; rfl
           refine pt_ undef 47 (some 66) (btB 53 281474976710655) rfl rfl HT_.out (by kernel_rfl) qq_ (Or.inr ⟨by rfl, rfl⟩) ?_ ?_ ?_
           rotate_left; ·simp only [Act.put, sA, sZ, sS, i64_w, i32_w]; rfl
           refine pt_ undef 48 (some 67) (btB 53 562949953421311) rfl rfl HT_.out (by kernel_rfl) qq_ (Or.inr ⟨by rfl, rfl⟩) ?_ ?_ ?_
           rotate_left; ·simp only [Act.put, sA, sZ, sS, i64_w, i32_w]; rfl
           refine pt_ undef 49 (some 68) (btB 53 1125899906842623) rfl rfl HT_.out (by kernel_rfl) qq_ (Or.inr ⟨by rfl, rfl⟩) ?_ ?_ ?_
           rotate_left; ·simp only [Act.put, sA, sZ, sS, i64_w, i32_w]; rfl
           refine pt_ undef 50 (some 69) (btB 53 2251799813685247) rfl rfl HT_.out (by kernel_rfl) qq_ (Or.inr ⟨by rfl, rfl⟩) ?_ ?_ ?_
           rotate_left; ·simp only [Act.put, sA, sZ, sS, i64_w, i32_w]; rfl
           refine pt_ undef 51 (some 70) (btB 53 4503599627370495) rfl rfl HT_.out (by kernel_rfl) qq_ (Or.inr ⟨by rfl, rfl⟩) ?_ ?_ ?_
           rotate_left; ·simp only [Act.put, sA, sZ, sS, i64_w, i32_w]; rfl
           refine pt_ ?_ 52 (some 71) (btB 53 9007199254740991) rfl rfl HT_.out (by kernel_rfl) qq_ (Or.inl ⟨by rfl, ?_⟩) ?_ ?_ ?_
           rotate_left; ·intro w'; go_simp; with_reducible rfl
           rotate_left; ·simp only [Act.put, sA, sZ, sS, i64_w, i32_w]; rfl
           refine done_ (done_of HT_.out (by kernel_rfl)) ?_
           try go_wp2
           go_meet
           case rel => exact ⟨_, (true), (by first | rfl | (simp; done) | (simp [*]; done)), H', ⟨by have := HK1.out; first | omega | exact Nat.le_refl _⟩, ⟨by (with_reducible repeat (first | refine blk_drewN ?_ _ | refine blk_drew ?_ | refine blk_alloc ?_ _)); exact BK102.out⟩, ⟨by repeat (first | (with_reducible first | exact HB.out | apply below_alloc | apply pw_below_drewN | apply below_drew1 | refine below_set ?_ GE102.out) | exact HB.out)⟩⟩
      case rest =>
       clear HC5
       try clear c1
       try clear p2
       try clear c4
       try clear c11
       try clear c42
       obtain ⟨kq, x71_4, rfl, HA, HJ4, BK102, HB⟩ := hcut
       cases kq with
       | zero => exact absurd HA.out (by simp [tallymanref07_Right.j1])
       | succ kj4 =>
        have H := HA.out
        clear HA
        simp only [tallymanref07_Right.j1] at H
        by_cases c61 : x71_4 = true
        ·subst c61
         have H1 : (some false) = some r := by rw [if_pos rfl] at H; exact H
         clear H
         have H := H1
         clear H1
         obtain rfl := Option.some.inj H
         go_wp2
         go_ret
         exact ⟨by first | rfl | ((repeat first | rw [Int.tdiv_eq_ediv_of_nonneg (by omega)] | rw [Int.tmod_eq_emod_of_nonneg (by omega)]); rfl) | (simp [errW_none, errW_some] <;> rfl) | (simp [*, errW_none, errW_some] <;> rfl), by repeat (first | (with_reducible first | exact HB.out | apply below_alloc | apply pw_below_drewN | apply below_drew1 | refine below_set ?_ GE102.out) | exact HB.out)⟩
        ·replace c61 := Bool.eq_false_iff.mpr c61
         subst c61
         have H1 : (tallymanref07_Right.l1 kj4 l0 x3_1 0 ((rd_T110 l0 x3_1).f0) ((rd_T110 l0 x3_1).f1.f0) ((rd_T110 l0 x3_1).f1.f1) ((rd_T110 l0 x3_1).f2.f0) ((rd_T110 l0 x3_1).f2.f1)) = some r := by rw [if_neg (show ¬ (false = true) by decide)] at H; exact H
         clear H
         have H := H1
         clear H1
         have H' := Aside0.mk H
         clear H
         go_wp2
         go_loopg [5] kj4 (fun kq v5 w' => ∃ (x5_3 : Int), v5 = .int .i64 x5_3 ∧ Aside0 (tallymanref07_Right.l1 kq l0 x3_1 x5_3 ((rd_T110 l0 x3_1).f0) ((rd_T110 l0 x3_1).f1.f0) ((rd_T110 l0 x3_1).f1.f1) ((rd_T110 l0 x3_1).f2.f0) ((rd_T110 l0 x3_1).f2.f1) = some r) ∧ Aside0 (kq ≤ kj4) ∧ Aside0 (w'.heap[gb102]? = some (.cells #[.int .i64 ((rd_T110 l0 x3_1).f0), .int .i64 ((rd_T110 l0 x3_1).f1.f0), .int .i64 ((rd_T110 l0 x3_1).f1.f1), .int .i64 ((rd_T110 l0 x3_1).f2.f0), .int .i64 ((rd_T110 l0 x3_1).f2.f1)] 110 (0, 0))) ∧ Aside0 (Below w.heap.size w w'))
         case atStart => exact ⟨(0), (by first | rfl | (simp; done) | (simp [*]; done)), H', ⟨Nat.le_refl _⟩, ⟨by (with_reducible repeat (first | refine blk_drewN ?_ _ | refine blk_drew ?_ | refine blk_alloc ?_ _)); exact BK102.out⟩, ⟨by repeat (first | (with_reducible first | exact HB.out | apply below_alloc | apply pw_below_drewN | apply below_drew1 | refine below_set ?_ GE102.out) | exact HB.out)⟩⟩
         case round =>
          clear H'
          try clear c1
          try clear p2
          try clear c4
          try clear c6
          try clear c11
          try clear c42
          try clear c61
          try clear p2
          obtain ⟨x5_3, rfl, HA, HK3, BK102, HB⟩ := hrel
          cases gk with
          | zero => exact absurd HA.out (by simp [tallymanref07_Right.l1])
          | succ k3 =>
           have H := HA.out
           clear HA
           simp only [tallymanref07_Right.l1] at H
           by_cases c62 : x5_3 < x3_1
           ·rw [if_pos c62] at H
            have c62b0 : decide (x5_3 < x3_1) = true := decide_eq_true c62
            clear c62
            by_cases c63 : 0 ≤ x5_3
            ·rw [if_pos c63] at H
             have c63b0 : decide (0 ≤ x5_3) = true := decide_eq_true c63
             clear c63
             by_cases c64 : x5_3 < (l0.length : Int)
             ·rw [if_pos c64] at H
              have c64b0 : decide (x5_3 < (l0.length : Int)) = true := decide_eq_true c64
              clear c64
              replace H := Option.bind_eq_some_iff.mp H
              obtain ⟨t109, A650, H⟩ := H
              replace H : (if t109 = true then (some false) else (tallymanref07_Right.l1 k3 l0 x3_1 (wrap64 (x5_3 + 1)) ((rd_T110 l0 x3_1).f0) ((rd_T110 l0 x3_1).f1.f0) ((rd_T110 l0 x3_1).f1.f1) ((rd_T110 l0 x3_1).f2.f0) ((rd_T110 l0 x3_1).f2.f1))) = some r := H
              have A65 := Aside0.mk A650
              clear A650
              by_cases c66 : t109 = true
              ·subst c66
               have H1 : (some false) = some r := by rw [if_pos rfl] at H; exact H
               clear H
               have H := H1
               clear H1
               obtain rfl := Option.some.inj H
               try go_wp2
               have n0_ := Aside0.mk (blk_drew BK102.out)
               have n1_ := Aside0.mk (below_drew1 HB.out)
               clear BK102
               clear HB
               have BK102 := n0_
               have HB := n1_
               clear n0_ n1_
               have p108 : 0 ≤ (x5_3 : Int) := of_decide_eq_true (by first | (with_reducible assumption) | assumption)
               have q108 : x5_3 < (l0.length : Int) := of_decide_eq_true (by first | (with_reducible assumption) | assumption)
               obtain ⟨ad108, e108, hx108_0, hx108_1, hx108_2, hx108_3, hx108_4⟩ := at_T110 HR0.out x5_3 p108 q108
               have hw108_4 := hx108_4
               have hw108_3 := hx108_3
               have hw108_2 := hx108_2
               have hw108_1 := hx108_1
               have hw108_0 := hx108_0
               obtain rfl : ad101 = ad108 := (by injection e108)
               replace hx108_0 := (HB.out.cell (World.block_lt_of_cell? w _ hx108_0)).trans hx108_0
               replace hx108_1 := (HB.out.cell (World.block_lt_of_cell? w _ hx108_1)).trans hx108_1
               replace hx108_2 := (HB.out.cell (World.block_lt_of_cell? w _ hx108_2)).trans hx108_2
               replace hx108_3 := (HB.out.cell (World.block_lt_of_cell? w _ hx108_3)).trans hx108_3
               replace hx108_4 := (HB.out.cell (World.block_lt_of_cell? w _ hx108_4)).trans hx108_4
               replace p108 := eq_true p108
               replace q108 := eq_true q108
               refine start_ (n := 6) (S := fun w' => w'.cell? ⟨gb102, 0, none⟩ = some (.int .i64 ((rd_T110 l0 x3_1).f0)) ∧ w'.cell? ⟨gb102, 1, none⟩ = some (.int .i64 ((rd_T110 l0 x3_1).f1.f0)) ∧ w'.cell? ⟨gb102, 2, none⟩ = some (.int .i64 ((rd_T110 l0 x3_1).f1.f1)) ∧ w'.cell? ⟨gb102, 3, none⟩ = some (.int .i64 ((rd_T110 l0 x3_1).f2.f0)) ∧ w'.cell? ⟨gb102, 4, none⟩ = some (.int .i64 ((rd_T110 l0 x3_1).f2.f1)) ∧ w'.cell? (ad101.add ((x5_3).toNat * 5)) = some (.int .i64 ((rd_T110 l0 x5_3).f0)) ∧ w'.cell? ⟨(ad101.add ((x5_3).toNat * 5)).block, (ad101.add ((x5_3).toNat * 5)).off + 1, none⟩ = some (.int .i64 ((rd_T110 l0 x5_3).f1.f0)) ∧ w'.cell? ⟨(ad101.add ((x5_3).toNat * 5)).block, (ad101.add ((x5_3).toNat * 5)).off + 2, none⟩ = some (.int .i64 ((rd_T110 l0 x5_3).f1.f1)) ∧ w'.cell? ⟨(ad101.add ((x5_3).toNat * 5)).block, (ad101.add ((x5_3).toNat * 5)).off + 3, none⟩ = some (.int .i64 ((rd_T110 l0 x5_3).f2.f0)) ∧ w'.cell? ⟨(ad101.add ((x5_3).toNat * 5)).block, (ad101.add ((x5_3).toNat * 5)).off + 4, none⟩ = some (.int .i64 ((rd_T110 l0 x5_3).f2.f1))) (ds := []) (btB 6 0) (by kernel_rfl) rfl rfl ⟨(blk_cell BK102.out 0).trans rfl, (blk_cell BK102.out 1).trans rfl, (blk_cell BK102.out 2).trans rfl, (blk_cell BK102.out 3).trans rfl, (blk_cell BK102.out 4).trans rfl, ((HB.out.cell (World.block_lt_of_cell? w _ hw108_0)).trans hw108_0), ((HB.out.cell (World.block_lt_of_cell? w _ hw108_1)).trans hw108_1), ((HB.out.cell (World.block_lt_of_cell? w _ hw108_2)).trans hw108_2), ((HB.out.cell (World.block_lt_of_cell? w _ hw108_3)).trans hw108_3), ((HB.out.cell (World.block_lt_of_cell? w _ hw108_4)).trans hw108_4)⟩ (fun hHeld => ?_)
               generalize wr.drew = w67 at BK102 HB hx108_0 hx108_1 hx108_2 hx108_3 hx108_4 hHeld ⊢
               refine pw_ (v := ?_) (a' := ?_) 0 (some 77) (btB 6 1) rfl rfl (by kernel_rfl) (fun _ _ _ h => h) (Or.inl ⟨by rfl, ?_⟩) ?_ ?_
               rotate_left; ·intro w'; go_simp; with_reducible rfl
               rotate_left; ·simp only [Act.put, sA, sZ, sS, i64_w, i32_w]; rfl
               refine pw_ (v := ?_) (a' := ?_) 1 (some 78) (btB 6 3) rfl rfl (by kernel_rfl) (fun _ _ _ h => h) (Or.inl ⟨by rfl, ?_⟩) ?_ ?_
               rotate_left; ·intro w'; go_simp; with_reducible rfl
               rotate_left; ·simp only [Act.put, sA, sZ, sS, i64_w, i32_w]; rfl
               refine pw_ (v := ?_) (a' := ?_) 2 (some 79) (btB 6 7) rfl rfl (by kernel_rfl) (fun _ _ _ h => h) (Or.inl ⟨by rfl, ?_⟩) ?_ ?_
               rotate_left; ·intro w'; go_simp; with_reducible rfl
               rotate_left; ·simp only [Act.put, sA, sZ, sS, i64_w, i32_w]; rfl
               refine take_ (i := 3) (N := some 80) (v := ?_) (a' := ?_) (btB 6 15) rfl rfl (by kernel_rfl) (fun _ _ _ h => h) (Or.inl ⟨by rfl, ?_⟩) hHeld ?_ ?_
               rotate_left; ·rintro w' ⟨s0, s1, s2, s3, s4, s5, s6, s7, s8, s9⟩; go_simp; with_reducible rfl
               rotate_left; ·simp only [Act.put, sA, sZ, sS, i64_w, i32_w]; rfl
               refine take_ (i := 4) (N := some 81) (v := ?_) (a' := ?_) (btB 6 31) rfl rfl (by kernel_rfl) (fun _ _ _ h => h) (Or.inl ⟨by rfl, ?_⟩) hHeld ?_ ?_
               rotate_left; ·rintro w' ⟨s0, s1, s2, s3, s4, s5, s6, s7, s8, s9⟩; go_simp; with_reducible rfl
               rotate_left; ·simp only [Act.put, sA, sZ, sS, i64_w, i32_w]; rfl
               refine one_ (i := 5) (N := some 82) (btB 6 63) rfl rfl (by kernel_rfl) (by decide) (fun K hK => ?_)
               refine goes_ Try.func113 (by kernel_rfl) rfl #[.agg #[.int .i64 ((rd_T110 l0 x5_3).f0), .int .i64 ((rd_T110 l0 x5_3).f1.f0), .int .i64 ((rd_T110 l0 x5_3).f1.f1), .int .i64 ((rd_T110 l0 x5_3).f2.f0), .int .i64 ((rd_T110 l0 x5_3).f2.f1)], .agg #[.int .i64 ((rd_T110 l0 x3_1).f0), .int .i64 ((rd_T110 l0 x3_1).f1.f0), .int .i64 ((rd_T110 l0 x3_1).f1.f1), .int .i64 ((rd_T110 l0 x3_1).f2.f0), .int .i64 ((rd_T110 l0 x3_1).f2.f1)]] (by rfl) rfl rfl (by (try simp only [List.map_toArray, List.map_cons, List.map_nil]); first | done | rfl | (simp only [List.length_drop, List.length_take]; rfl)) ?_
               with_reducible refine (tallymanref07_Meet.calls ((rd_T110 l0 x5_3).f0) ((rd_T110 l0 x5_3).f1.f0) ((rd_T110 l0 x5_3).f1.f1) ((rd_T110 l0 x5_3).f2.f0) ((rd_T110 l0 x5_3).f2.f1) ((rd_T110 l0 x3_1).f0) ((rd_T110 l0 x3_1).f1.f0) ((rd_T110 l0 x3_1).f1.f1) ((rd_T110 l0 x3_1).f2.f0) ((rd_T110 l0 x3_1).f2.f1) true _ A65.out).mono ?_
               rintro e w68 ⟨rfl, hb⟩
               refine ⟨_, rfl, ?_⟩
               have n0_ := Aside0.mk (blk_below (g := gb102) (o := .cells #[.int .i64 ((rd_T110 l0 x3_1).f0), .int .i64 ((rd_T110 l0 x3_1).f1.f0), .int .i64 ((rd_T110 l0 x3_1).f1.f1), .int .i64 ((rd_T110 l0 x3_1).f2.f0), .int .i64 ((rd_T110 l0 x3_1).f2.f1)] 110 (0, 0)) (by (with_reducible repeat (first | refine blk_drewN ?_ _ | refine blk_drew ?_ | refine blk_alloc ?_ _)); exact BK102.out) hb)
               have n1_ := Aside0.mk (below_step (by repeat (first | (with_reducible first | exact HB.out | apply below_alloc | apply pw_below_drewN | apply below_drew1 | refine below_set ?_ GE102.out) | exact HB.out)) hb)
               clear BK102
               clear HB
               have BK102 := n0_
               have HB := n1_
               clear n0_ n1_
               (try clear hb)
               (try clear hb2)
               (try clear hk)
               (try clear hi)
               refine hK.out _ _ ⟨(blk_cell BK102.out 0).trans rfl, (blk_cell BK102.out 1).trans rfl, (blk_cell BK102.out 2).trans rfl, (blk_cell BK102.out 3).trans rfl, (blk_cell BK102.out 4).trans rfl, ((HB.out.cell (World.block_lt_of_cell? w _ hw108_0)).trans hw108_0), ((HB.out.cell (World.block_lt_of_cell? w _ hw108_1)).trans hw108_1), ((HB.out.cell (World.block_lt_of_cell? w _ hw108_2)).trans hw108_2), ((HB.out.cell (World.block_lt_of_cell? w _ hw108_3)).trans hw108_3), ((HB.out.cell (World.block_lt_of_cell? w _ hw108_4)).trans hw108_4)⟩ (fun hHeld => ?_)
               clear hK K
               refine norm_ (a' := ?_) ?_ ?_
               rotate_left; ·show Act.put _ (some 82) _ = _; simp only [Act.put, sA, sZ, sS, i64_w, i32_w]; rfl
               refine done_ (by kernel_rfl) ?_
               try go_wp2
               go_ret
               exact ⟨by first | rfl | ((repeat first | rw [Int.tdiv_eq_ediv_of_nonneg (by omega)] | rw [Int.tmod_eq_emod_of_nonneg (by omega)]); rfl) | (simp [errW_none, errW_some] <;> rfl) | (simp [*, errW_none, errW_some] <;> rfl), by repeat (first | (with_reducible first | exact HB.out | apply below_alloc | apply pw_below_drewN | apply below_drew1 | refine below_set ?_ GE102.out) | exact HB.out)⟩
              ·replace c66 := Bool.eq_false_iff.mpr c66
               subst c66
               have H1 : (tallymanref07_Right.l1 k3 l0 x3_1 (wrap64 (x5_3 + 1)) ((rd_T110 l0 x3_1).f0) ((rd_T110 l0 x3_1).f1.f0) ((rd_T110 l0 x3_1).f1.f1) ((rd_T110 l0 x3_1).f2.f0) ((rd_T110 l0 x3_1).f2.f1)) = some r := by rw [if_neg (show ¬ (false = true) by decide)] at H; exact H
               clear H
               have H := H1
               clear H1
               have H' := Aside0.mk H
               clear H
               try go_wp2
               have n0_ := Aside0.mk (blk_drew BK102.out)
               have n1_ := Aside0.mk (below_drew1 HB.out)
               clear BK102
               clear HB
               have BK102 := n0_
               have HB := n1_
               clear n0_ n1_
               have p108 : 0 ≤ (x5_3 : Int) := of_decide_eq_true (by first | (with_reducible assumption) | assumption)
               have q108 : x5_3 < (l0.length : Int) := of_decide_eq_true (by first | (with_reducible assumption) | assumption)
               obtain ⟨ad108, e108, hx108_0, hx108_1, hx108_2, hx108_3, hx108_4⟩ := at_T110 HR0.out x5_3 p108 q108
               have hw108_4 := hx108_4
               have hw108_3 := hx108_3
               have hw108_2 := hx108_2
               have hw108_1 := hx108_1
               have hw108_0 := hx108_0
               obtain rfl : ad101 = ad108 := (by injection e108)
               replace hx108_0 := (HB.out.cell (World.block_lt_of_cell? w _ hx108_0)).trans hx108_0
               replace hx108_1 := (HB.out.cell (World.block_lt_of_cell? w _ hx108_1)).trans hx108_1
               replace hx108_2 := (HB.out.cell (World.block_lt_of_cell? w _ hx108_2)).trans hx108_2
               replace hx108_3 := (HB.out.cell (World.block_lt_of_cell? w _ hx108_3)).trans hx108_3
               replace hx108_4 := (HB.out.cell (World.block_lt_of_cell? w _ hx108_4)).trans hx108_4
               replace p108 := eq_true p108
               replace q108 := eq_true q108
               refine start_ (n := 6) (S := fun w' => w'.cell? ⟨gb102, 0, none⟩ = some (.int .i64 ((rd_T110 l0 x3_1).f0)) ∧ w'.cell? ⟨gb102, 1, none⟩ = some (.int .i64 ((rd_T110 l0 x3_1).f1.f0)) ∧ w'.cell? ⟨gb102, 2, none⟩ = some (.int .i64 ((rd_T110 l0 x3_1).f1.f1)) ∧ w'.cell? ⟨gb102, 3, none⟩ = some (.int .i64 ((rd_T110 l0 x3_1).f2.f0)) ∧ w'.cell? ⟨gb102, 4, none⟩ = some (.int .i64 ((rd_T110 l0 x3_1).f2.f1)) ∧ w'.cell? (ad101.add ((x5_3).toNat * 5)) = some (.int .i64 ((rd_T110 l0 x5_3).f0)) ∧ w'.cell? ⟨(ad101.add ((x5_3).toNat * 5)).block, (ad101.add ((x5_3).toNat * 5)).off + 1, none⟩ = some (.int .i64 ((rd_T110 l0 x5_3).f1.f0)) ∧ w'.cell? ⟨(ad101.add ((x5_3).toNat * 5)).block, (ad101.add ((x5_3).toNat * 5)).off + 2, none⟩ = some (.int .i64 ((rd_T110 l0 x5_3).f1.f1)) ∧ w'.cell? ⟨(ad101.add ((x5_3).toNat * 5)).block, (ad101.add ((x5_3).toNat * 5)).off + 3, none⟩ = some (.int .i64 ((rd_T110 l0 x5_3).f2.f0)) ∧ w'.cell? ⟨(ad101.add ((x5_3).toNat * 5)).block, (ad101.add ((x5_3).toNat * 5)).off + 4, none⟩ = some (.int .i64 ((rd_T110 l0 x5_3).f2.f1))) (ds := []) (btB 6 0) (by kernel_rfl) rfl rfl ⟨(blk_cell BK102.out 0).trans rfl, (blk_cell BK102.out 1).trans rfl, (blk_cell BK102.out 2).trans rfl, (blk_cell BK102.out 3).trans rfl, (blk_cell BK102.out 4).trans rfl, ((HB.out.cell (World.block_lt_of_cell? w _ hw108_0)).trans hw108_0), ((HB.out.cell (World.block_lt_of_cell? w _ hw108_1)).trans hw108_1), ((HB.out.cell (World.block_lt_of_cell? w _ hw108_2)).trans hw108_2), ((HB.out.cell (World.block_lt_of_cell? w _ hw108_3)).trans hw108_3), ((HB.out.cell (World.block_lt_of_cell? w _ hw108_4)).trans hw108_4)⟩ (fun hHeld => ?_)
               generalize wr.drew = w69 at BK102 HB hx108_0 hx108_1 hx108_2 hx108_3 hx108_4 hHeld ⊢
               refine pw_ (v := ?_) (a' := ?_) 0 (some 77) (btB 6 1) rfl rfl (by kernel_rfl) (fun _ _ _ h => h) (Or.inl ⟨by rfl, ?_⟩) ?_ ?_
               rotate_left; ·intro w'; go_simp; with_reducible rfl
               rotate_left; ·simp only [Act.put, sA, sZ, sS, i64_w, i32_w]; rfl
               refine pw_ (v := ?_) (a' := ?_) 1 (some 78) (btB 6 3) rfl rfl (by kernel_rfl) (fun _ _ _ h => h) (Or.inl ⟨by rfl, ?_⟩) ?_ ?_
               rotate_left; ·intro w'; go_simp; with_reducible rfl
               rotate_left; ·simp only [Act.put, sA, sZ, sS, i64_w, i32_w]; rfl
               refine pw_ (v := ?_) (a' := ?_) 2 (some 79) (btB 6 7) rfl rfl (by kernel_rfl) (fun _ _ _ h => h) (Or.inl ⟨by rfl, ?_⟩) ?_ ?_
               rotate_left; ·intro w'; go_simp; with_reducible rfl
               rotate_left; ·simp only [Act.put, sA, sZ, sS, i64_w, i32_w]; rfl
               refine take_ (i := 3) (N := some 80) (v := ?_) (a' := ?_) (btB 6 15) rfl rfl (by kernel_rfl) (fun _ _ _ h => h) (Or.inl ⟨by rfl, ?_⟩) hHeld ?_ ?_
               rotate_left; ·rintro w' ⟨s0, s1, s2, s3, s4, s5, s6, s7, s8, s9⟩; go_simp; with_reducible rfl
               rotate_left; ·simp only [Act.put, sA, sZ, sS, i64_w, i32_w]; rfl
               refine take_ (i := 4) (N := some 81) (v := ?_) (a' := ?_) (btB 6 31) rfl rfl (by kernel_rfl) (fun _ _ _ h => h) (Or.inl ⟨by rfl, ?_⟩) hHeld ?_ ?_
               rotate_left; ·rintro w' ⟨s0, s1, s2, s3, s4, s5, s6, s7, s8, s9⟩; go_simp; with_reducible rfl
               rotate_left; ·simp only [Act.put, sA, sZ, sS, i64_w, i32_w]; rfl
               refine one_ (i := 5) (N := some 82) (btB 6 63) rfl rfl (by kernel_rfl) (by decide) (fun K hK => ?_)
               refine goes_ Try.func113 (by kernel_rfl) rfl #[.agg #[.int .i64 ((rd_T110 l0 x5_3).f0), .int .i64 ((rd_T110 l0 x5_3).f1.f0), .int .i64 ((rd_T110 l0 x5_3).f1.f1), .int .i64 ((rd_T110 l0 x5_3).f2.f0), .int .i64 ((rd_T110 l0 x5_3).f2.f1)], .agg #[.int .i64 ((rd_T110 l0 x3_1).f0), .int .i64 ((rd_T110 l0 x3_1).f1.f0), .int .i64 ((rd_T110 l0 x3_1).f1.f1), .int .i64 ((rd_T110 l0 x3_1).f2.f0), .int .i64 ((rd_T110 l0 x3_1).f2.f1)]] (by rfl) rfl rfl (by (try simp only [List.map_toArray, List.map_cons, List.map_nil]); first | done | rfl | (simp only [List.length_drop, List.length_take]; rfl)) ?_
               with_reducible refine (tallymanref07_Meet.calls ((rd_T110 l0 x5_3).f0) ((rd_T110 l0 x5_3).f1.f0) ((rd_T110 l0 x5_3).f1.f1) ((rd_T110 l0 x5_3).f2.f0) ((rd_T110 l0 x5_3).f2.f1) ((rd_T110 l0 x3_1).f0) ((rd_T110 l0 x3_1).f1.f0) ((rd_T110 l0 x3_1).f1.f1) ((rd_T110 l0 x3_1).f2.f0) ((rd_T110 l0 x3_1).f2.f1) false _ A65.out).mono ?_
               rintro e w70 ⟨rfl, hb⟩
               refine ⟨_, rfl, ?_⟩
               have n0_ := Aside0.mk (blk_below (g := gb102) (o := .cells #[.int .i64 ((rd_T110 l0 x3_1).f0), .int .i64 ((rd_T110 l0 x3_1).f1.f0), .int .i64 ((rd_T110 l0 x3_1).f1.f1), .int .i64 ((rd_T110 l0 x3_1).f2.f0), .int .i64 ((rd_T110 l0 x3_1).f2.f1)] 110 (0, 0)) (by (with_reducible repeat (first | refine blk_drewN ?_ _ | refine blk_drew ?_ | refine blk_alloc ?_ _)); exact BK102.out) hb)
               have n1_ := Aside0.mk (below_step (by repeat (first | (with_reducible first | exact HB.out | apply below_alloc | apply pw_below_drewN | apply below_drew1 | refine below_set ?_ GE102.out) | exact HB.out)) hb)
               clear BK102
               clear HB
               have BK102 := n0_
               have HB := n1_
               clear n0_ n1_
               (try clear hb)
               (try clear hb2)
               (try clear hk)
               (try clear hi)
               refine hK.out _ _ ⟨(blk_cell BK102.out 0).trans rfl, (blk_cell BK102.out 1).trans rfl, (blk_cell BK102.out 2).trans rfl, (blk_cell BK102.out 3).trans rfl, (blk_cell BK102.out 4).trans rfl, ((HB.out.cell (World.block_lt_of_cell? w _ hw108_0)).trans hw108_0), ((HB.out.cell (World.block_lt_of_cell? w _ hw108_1)).trans hw108_1), ((HB.out.cell (World.block_lt_of_cell? w _ hw108_2)).trans hw108_2), ((HB.out.cell (World.block_lt_of_cell? w _ hw108_3)).trans hw108_3), ((HB.out.cell (World.block_lt_of_cell? w _ hw108_4)).trans hw108_4)⟩ (fun hHeld => ?_)
               clear hK K
               refine norm_ (a' := ?_) ?_ ?_
               rotate_left; ·show Act.put _ (some 82) _ = _; simp only [Act.put, sA, sZ, sS, i64_w, i32_w]; rfl
               refine done_ (by kernel_rfl) ?_
               try go_wp2
               go_roundg k3
               case measure => have := HK1.out; have := HJ4.out; have := HK3.out; omega
               case rel => exact ⟨(wrap64 (x5_3 + 1)), (by first | rfl | (simp; done) | (simp [*]; done)), H', ⟨by have := HK1.out; have := HJ4.out; have := HK3.out; omega⟩, ⟨by (with_reducible repeat (first | refine blk_drewN ?_ _ | refine blk_drew ?_ | refine blk_alloc ?_ _)); exact BK102.out⟩, ⟨by repeat (first | (with_reducible first | exact HB.out | apply below_alloc | apply pw_below_drewN | apply below_drew1 | refine below_set ?_ GE102.out) | exact HB.out)⟩⟩
             ·rw [if_neg c64] at H
              exact absurd H (by simp)
            ·rw [if_neg c63] at H
             exact absurd H (by simp)
           ·rw [if_neg c62] at H
            have c62b0 : decide (x5_3 < x3_1) = false := decide_eq_false c62
            clear c62
            have H' := Aside0.mk H
            clear H
            go_wp2
            go_roundg k3
            case measure => have := HK1.out; have := HJ4.out; have := HK3.out; omega
            case rel => exact ⟨(wrap64 (x3_1 + 1)), (by first | rfl | (simp; done) | (simp [*]; done)), H', ⟨by have := HK1.out; have := HJ4.out; have := HK3.out; omega⟩, ⟨by repeat (first | (with_reducible first | exact HB.out | apply below_alloc | apply pw_below_drewN | apply below_drew1 | refine below_set ?_ GE102.out) | exact HB.out)⟩⟩
     ·rw [if_neg c4] at H
      exact absurd H (by simp)
    ·rw [if_neg c3] at H
     have c3b0 : decide (x3_1 < (l0.length : Int)) = false := decide_eq_false c3
     clear c3
     obtain rfl := Option.some.inj H
     go_wp2
     go_ret
     exact ⟨by first | rfl | ((repeat first | rw [Int.tdiv_eq_ediv_of_nonneg (by omega)] | rw [Int.tmod_eq_emod_of_nonneg (by omega)]); rfl) | (simp [errW_none, errW_some] <;> rfl) | (simp [*, errW_none, errW_some] <;> rfl), by repeat (first | (with_reducible first | exact HB.out | apply below_alloc | apply pw_below_drewN | apply below_drew1) | exact HB.out)⟩
end Go.Proofs.Ytopblnecdabcgaa.P
end
