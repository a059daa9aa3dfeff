/- Several texts of this proof in one: what the law's functions come to, and the lemmas (some as the kit's print.sh printed them, what is not used struck). -/
import Derived.Test.YtpoghhcpoimepaaM2
import Derived.Test.YtpoghhcpoimepaaM4
import Derived.Test.YtpoghhcpoimepaaM3
import Derived.Deep.RegionHeld3
import Derived.Deep.Slices
import Derived.ChangeArms
section
-- printed by the session's own call of print.py. Not trusted: Lean checks it.
namespace Go.Proofs.Ytpoghhcpoimepaa.P
open Go.RowKit Go.Proofs.YtpoghhcpoimepaaW.PrintWords Go.Proofs.YtpoghhcpoimepaaW.PrintLast Go.Proofs.YtpoghhcpoimepaaW.PrintMore
attribute [local go_sem] max2_int min2_int max_two min_two max_three min_three max_four min_four
set_option linter.unusedVariables false
set_option linter.unusedSimpArgs false
/-! ### tallymanref05_count: function 65 -/
def tallymanref05_count.f (a0_0 : Int) (a0_1 : Int) : Option (Int) := if a0_0 < 1 then (some 0) else (if a0_0 > 4 then (some 0) else ((tallymanref02_Clip.f a0_1 0 1048576).bind fun t102 => (some t102)))
set_option maxHeartbeats 8000000 in
set_option maxRecDepth 100000 in
theorem tallymanref05_count.calls (a0_0 : Int) (a0_1 : Int) (r : Int) (w : World) (h : tallymanref05_count.f a0_0 a0_1 = some r) :
    Calls Try.prog 65 #[.agg #[.int .i64 a0_0, .int .i64 a0_1]] w fun e w' => e = .returned (.int .i64 r) ∧ Below w.heap.size w w' := by
  have hu56 := Try.underlying56
  have HB := Aside0.mk (Below.refl w.heap.size w)
  have H : (if a0_0 < 1 then (some 0) else (if a0_0 > 4 then (some 0) else ((tallymanref02_Clip.f a0_1 0 1048576).bind fun t102 => (some t102)))) = some r := h
  clear h
  by_cases c2 : a0_0 < 1
  · rw [if_pos c2] at H
    have c2b0 : decide (a0_0 < 1) = true := decide_eq_true c2
    clear c2
    obtain rfl := Option.some.inj H
    go_enter Try.func65, Try.ntmps65
    go_wp2_with (first | ((with_reducible refine gate_dst (N := 1) rfl ?_); refine box_event ?hg (N := 1) ?hd (cs := #[.int .i64 a0_0, .int .i64 a0_1]) (t := 56) ?hr ?_; (case hd => rfl); (case hg => rfl); (case hr => first | (go_simp; done) | (go_simp; rfl)); intro gb101 hg w3 hbox hb; have n0_ := Aside0.mk (below_step (by repeat (first | (with_reducible first | exact HB.out | apply below_alloc | apply pw_below_drewN | apply below_drew1) | exact HB.out)) hb); have n1_ := Aside0.mk (hbox); have n2_ := Aside0.mk ((by rw [hg]; exact (below_size (by repeat (first | (with_reducible first | exact HB.out | apply below_alloc | apply pw_below_drewN | apply below_drew1) | exact HB.out))) : w.heap.size ≤ gb101)); have n3_ := Aside0.mk ((by rw [hg]; exact (below_size (by repeat (first | (with_reducible first | exact HB.out | apply below_alloc | apply pw_below_drewN | apply below_drew1) | exact HB.out))) : w.heap.size ≤ gb101)); clear HB; have HB := n0_; have BK101 := n1_; have GW101 := n2_; have GE101 := n3_; clear n0_ n1_ n2_ n3_; clear hb hbox hg; have hcz4_0 : w3.cell? ⟨gb101, 0, none⟩ = some (.int .i64 a0_0) := (blk_cell BK101.out 0).trans rfl; have hcz4_1 : w3.cell? ⟨gb101, 1, none⟩ = some (.int .i64 a0_1) := (blk_cell BK101.out 1).trans rfl; have hfz4_0 := blk_frozen BK101.out 0; have hfz4_1 := blk_frozen BK101.out 1))
    go_ret
    exact ⟨by first | rfl | ((repeat first | rw [Int.tdiv_eq_ediv_of_nonneg (by omega)] | rw [Int.tmod_eq_emod_of_nonneg (by omega)]); rfl) | (simp [errW_none, errW_some] <;> rfl) | (simp [*, errW_none, errW_some] <;> rfl), by repeat (first | (with_reducible first | exact HB.out | apply below_alloc | apply pw_below_drewN | apply below_drew1 | refine below_set ?_ GE101.out) | exact HB.out)⟩
  · rw [if_neg c2] at H
    have c2b0 : decide (a0_0 < 1) = false := decide_eq_false c2
    clear c2
    by_cases c5 : a0_0 > 4
    · rw [if_pos c5] at H
      have c5b0 : decide (4 < a0_0) = true := decide_eq_true c5
      clear c5
      obtain rfl := Option.some.inj H
      go_enter Try.func65, Try.ntmps65
      go_wp2_with (first | ((with_reducible refine gate_dst (N := 1) rfl ?_); refine box_event ?hg (N := 1) ?hd (cs := #[.int .i64 a0_0, .int .i64 a0_1]) (t := 56) ?hr ?_; (case hd => rfl); (case hg => rfl); (case hr => first | (go_simp; done) | (go_simp; rfl)); intro gb101 hg w6 hbox hb; have n0_ := Aside0.mk (below_step (by repeat (first | (with_reducible first | exact HB.out | apply below_alloc | apply pw_below_drewN | apply below_drew1) | exact HB.out)) hb); have n1_ := Aside0.mk (hbox); have n2_ := Aside0.mk ((by rw [hg]; exact (below_size (by repeat (first | (with_reducible first | exact HB.out | apply below_alloc | apply pw_below_drewN | apply below_drew1) | exact HB.out))) : w.heap.size ≤ gb101)); have n3_ := Aside0.mk ((by rw [hg]; exact (below_size (by repeat (first | (with_reducible first | exact HB.out | apply below_alloc | apply pw_below_drewN | apply below_drew1) | exact HB.out))) : w.heap.size ≤ gb101)); clear HB; have HB := n0_; have BK101 := n1_; have GW101 := n2_; have GE101 := n3_; clear n0_ n1_ n2_ n3_; clear hb hbox hg; have hcz7_0 : w6.cell? ⟨gb101, 0, none⟩ = some (.int .i64 a0_0) := (blk_cell BK101.out 0).trans rfl; have hcz7_1 : w6.cell? ⟨gb101, 1, none⟩ = some (.int .i64 a0_1) := (blk_cell BK101.out 1).trans rfl; have hfz7_0 := blk_frozen BK101.out 0; have hfz7_1 := blk_frozen BK101.out 1))
      go_ret
      exact ⟨by first | rfl | ((repeat first | rw [Int.tdiv_eq_ediv_of_nonneg (by omega)] | rw [Int.tmod_eq_emod_of_nonneg (by omega)]); rfl) | (simp [errW_none, errW_some] <;> rfl) | (simp [*, errW_none, errW_some] <;> rfl), by repeat (first | (with_reducible first | exact HB.out | apply below_alloc | apply pw_below_drewN | apply below_drew1 | refine below_set ?_ GE101.out) | exact HB.out)⟩
    · rw [if_neg c5] at H
      have c5b0 : decide (4 < a0_0) = false := decide_eq_false c5
      clear c5
      replace H := Option.bind_eq_some_iff.mp H
      obtain ⟨t102, A80, H⟩ := H
      replace H : (some t102) = some r := H
      have A8 := Aside0.mk A80
      clear A80
      obtain rfl := Option.some.inj H
      go_enter Try.func65, Try.ntmps65
      go_wp2_with (first | ((with_reducible refine gate_dst (N := 1) rfl ?_); refine box_event ?hg (N := 1) ?hd (cs := #[.int .i64 a0_0, .int .i64 a0_1]) (t := 56) ?hr ?_; (case hd => rfl); (case hg => rfl); (case hr => first | (go_simp; done) | (go_simp; rfl)); intro gb101 hg w9 hbox hb; have n0_ := Aside0.mk (below_step (by repeat (first | (with_reducible first | exact HB.out | apply below_alloc | apply pw_below_drewN | apply below_drew1) | exact HB.out)) hb); have n1_ := Aside0.mk (hbox); have n2_ := Aside0.mk ((by rw [hg]; exact (below_size (by repeat (first | (with_reducible first | exact HB.out | apply below_alloc | apply pw_below_drewN | apply below_drew1) | exact HB.out))) : w.heap.size ≤ gb101)); have n3_ := Aside0.mk ((by rw [hg]; exact (below_size (by repeat (first | (with_reducible first | exact HB.out | apply below_alloc | apply pw_below_drewN | apply below_drew1) | exact HB.out))) : w.heap.size ≤ gb101)); clear HB; have HB := n0_; have BK101 := n1_; have GW101 := n2_; have GE101 := n3_; clear n0_ n1_ n2_ n3_; clear hb hbox hg; have hcz10_0 : w9.cell? ⟨gb101, 0, none⟩ = some (.int .i64 a0_0) := (blk_cell BK101.out 0).trans rfl; have hcz10_1 : w9.cell? ⟨gb101, 1, none⟩ = some (.int .i64 a0_1) := (blk_cell BK101.out 1).trans rfl; have hfz10_0 := blk_frozen BK101.out 0; have hfz10_1 := blk_frozen BK101.out 1) | ((with_reducible refine gate_callee (f := 92) rfl ?_); refine goesL_ (some 13) rfl rfl Try.func92 (by kernel_rfl) rfl #[.int .i64 a0_1, .int .i64 0, .int .i64 1048576] rfl (by (try simp only [List.map_toArray, List.map_cons, List.map_nil]); first | done | rfl | (simp only [List.length_drop, List.length_take]; rfl)) ?_; (with_reducible refine (tallymanref02_Clip.calls a0_1 0 1048576 t102 _ A8.out).mono ?_); rintro e w' ⟨rfl, ⟨nd, rfl⟩⟩; refine ⟨_, rfl, ?_⟩) | (go_at_call 92; (with_reducible refine (tallymanref02_Clip.calls a0_1 0 1048576 t102 _ A8.out).mono ?_); rintro e w' ⟨rfl, ⟨nd, rfl⟩⟩))
      go_ret
      exact ⟨by first | rfl | ((repeat first | rw [Int.tdiv_eq_ediv_of_nonneg (by omega)] | rw [Int.tmod_eq_emod_of_nonneg (by omega)]); rfl) | (simp [errW_none, errW_some] <;> rfl) | (simp [*, errW_none, errW_some] <;> rfl), by repeat (first | (with_reducible first | exact HB.out | apply below_alloc | apply pw_below_drewN | apply below_drew1 | refine below_set ?_ GE101.out) | exact HB.out)⟩
end Go.Proofs.Ytpoghhcpoimepaa.P
end
section
-- printed by the session's own call of print.py. Not trusted: Lean checks it.
namespace Go.Proofs.Ytpoghhcpoimepaa.P
open Go.RowKit Go.Proofs.YtpoghhcpoimepaaW.PrintWords Go.Proofs.YtpoghhcpoimepaaW.PrintLast Go.Proofs.YtpoghhcpoimepaaW.PrintMore
attribute [local go_sem] max2_int min2_int max_two min_two max_three min_three max_four min_four
set_option linter.unusedVariables false
set_option linter.unusedSimpArgs false
/-! ### tallymanref05_Text: function 32 -/
def tallymanref05_Text.l0 : Nat → List (S56) → ByteArray → Int → Option (ByteArray)
  | 0, _, _, _ => none
  | k + 1, x0, x3, x4 => if x4 < (x0.length : Int) then (if 0 ≤ x4 then ((tallymanref05_count.f ((rd_T56 x0 x4).f0) ((rd_T56 x0 x4).f1)).bind fun t102 => (if t102 = 0 then (tallymanref05_Text.l0 k x0 x3 (wrap64 (x4 + 1))) else (if 0 ≤ (wrap64 (((rd_T56 x0 x4).f0) - 1)) then (if (wrap64 (((rd_T56 x0 x4).f0) - 1)) ≤ ((rd_T56 x0 x4).f0) then (if ((rd_T56 x0 x4).f0) ≤ 4 then (if x3.size + ((⟨#[70, 66, 76, 82]⟩ : ByteArray).extract ((wrap64 (((rd_T56 x0 x4).f0) - 1)) : Int).toNat (((rd_T56 x0 x4).f0) : Int).toNat).size ≤ 9223372036854775807 then (if t102 > 1 then ((tallymanref01_Print.f k t102).bind fun t105 => (if (x3 ++ ((⟨#[70, 66, 76, 82]⟩ : ByteArray).extract ((wrap64 (((rd_T56 x0 x4).f0) - 1)) : Int).toNat (((rd_T56 x0 x4).f0) : Int).toNat)).size + t105.size ≤ 9223372036854775807 then (tallymanref05_Text.l0 k x0 ((x3 ++ ((⟨#[70, 66, 76, 82]⟩ : ByteArray).extract ((wrap64 (((rd_T56 x0 x4).f0) - 1)) : Int).toNat (((rd_T56 x0 x4).f0) : Int).toNat)) ++ t105) (wrap64 (x4 + 1))) else (none))) else (tallymanref05_Text.l0 k x0 (x3 ++ ((⟨#[70, 66, 76, 82]⟩ : ByteArray).extract ((wrap64 (((rd_T56 x0 x4).f0) - 1)) : Int).toNat (((rd_T56 x0 x4).f0) : Int).toNat)) (wrap64 (x4 + 1)))) else (none)) else (none)) else (none)) else (none)))) else (none)) else (some x3)
def tallymanref05_Text.f (k : Nat) (l0 : List (S56)) : Option (ByteArray) := tallymanref05_Text.l0 k l0 (⟨#[]⟩ : ByteArray) 0
theorem tallymanref05_Text.mono_l : ∀ k, (∀ y0 y1 y2, LeO (tallymanref05_Text.l0 k y0 y1 y2) (tallymanref05_Text.l0 (k + 1) y0 y1 y2))
  | 0 => fun _ _ _ r h => by simp [tallymanref05_Text.l0] at h
  | k + 1 => by
    have ih0 := tallymanref05_Text.mono_l k
    · intro y0 y1 y2
      unfold tallymanref05_Text.l0
      repeat' first
      | (with_reducible exact ih0 _ _ _)
      | (with_reducible exact tallymanref01_Print.mono _ _)
      | (with_reducible exact LeO.refl _)
      | (with_reducible exact LeO.none _)
      | (with_reducible refine LeO.ite ?_ ?_)
      | (with_reducible refine LeO.bind ?_ (fun _ => ?_))
      | exact ih0 _ _ _
      | exact tallymanref01_Print.mono _ _
      | exact LeO.none _
      | refine LeO.ite ?_ ?_
      | refine LeO.bind ?_ (fun _ => ?_)
theorem tallymanref05_Text.mono : ∀ a0 k, LeO (tallymanref05_Text.f k a0) (tallymanref05_Text.f (k + 1) a0) := by
  intro a0 k
  have ih0 := tallymanref05_Text.mono_l k
  unfold tallymanref05_Text.f
  repeat' first
      | (with_reducible exact ih0 _ _ _)
      | (with_reducible exact tallymanref01_Print.mono _ _)
      | (with_reducible exact LeO.refl _)
      | (with_reducible exact LeO.none _)
      | (with_reducible refine LeO.ite ?_ ?_)
      | (with_reducible refine LeO.bind ?_ (fun _ => ?_))
      | exact ih0 _ _ _
      | exact tallymanref01_Print.mono _ _
      | exact LeO.none _
      | refine LeO.ite ?_ ?_
      | refine LeO.bind ?_ (fun _ => ?_)
end Go.Proofs.Ytpoghhcpoimepaa.P
end
section
-- printed by the session's own call of print.py. Not trusted: Lean checks it.
namespace Go.Proofs.Ytpoghhcpoimepaa.P
open Go.RowKit Go.Proofs.YtpoghhcpoimepaaW.PrintWords Go.Proofs.YtpoghhcpoimepaaW.PrintLast Go.Proofs.YtpoghhcpoimepaaW.PrintMore
attribute [local go_sem] max2_int min2_int max_two min_two max_three min_three max_four min_four
set_option linter.unusedVariables false
set_option linter.unusedSimpArgs false
attribute [local go_sem high] eqA56
/-! ### tallymanref05_Same: function 33 -/
def tallymanref05_Same.l0 : Nat → List (S56) → List (S56) → Int → Option (Bool)
  | 0, _, _, _ => none
  | k + 1, x0, x1, x5 => if x5 < (x0.length : Int) then (if 0 ≤ x5 then (if x5 < (x1.length : Int) then (if (!(((rd_T56 x0 x5).f0) == ((rd_T56 x1 x5).f0)) || (!(((rd_T56 x0 x5).f1) == ((rd_T56 x1 x5).f1)))) = true then (some false) else (tallymanref05_Same.l0 k x0 x1 (wrap64 (x5 + 1)))) else (none)) else (none)) else (some true)
def tallymanref05_Same.f (k : Nat) (l0 : List (S56)) (l1 : List (S56)) : Option (Bool) := if (l0.length : Int) = (l1.length : Int) then (tallymanref05_Same.l0 k l0 l1 0) else (some false)
theorem tallymanref05_Same.mono_l : ∀ k, (∀ y0 y1 y2, LeO (tallymanref05_Same.l0 k y0 y1 y2) (tallymanref05_Same.l0 (k + 1) y0 y1 y2))
  | 0 => fun _ _ _ r h => by simp [tallymanref05_Same.l0] at h
  | k + 1 => by
    have ih0 := tallymanref05_Same.mono_l k
    · intro y0 y1 y2
      unfold tallymanref05_Same.l0
      repeat' first
      | (with_reducible exact ih0 _ _ _)
      | (with_reducible exact LeO.refl _)
      | (with_reducible exact LeO.none _)
      | (with_reducible refine LeO.ite ?_ ?_)
      | (with_reducible refine LeO.bind ?_ (fun _ => ?_))
      | exact ih0 _ _ _
      | exact LeO.none _
      | refine LeO.ite ?_ ?_
      | refine LeO.bind ?_ (fun _ => ?_)
theorem tallymanref05_Same.mono : ∀ a0 a1 k, LeO (tallymanref05_Same.f k a0 a1) (tallymanref05_Same.f (k + 1) a0 a1) := by
  intro a0 a1 k
  have ih0 := tallymanref05_Same.mono_l k
  unfold tallymanref05_Same.f
  repeat' first
      | (with_reducible exact ih0 _ _ _)
      | (with_reducible exact LeO.refl _)
      | (with_reducible exact LeO.none _)
      | (with_reducible refine LeO.ite ?_ ?_)
      | (with_reducible refine LeO.bind ?_ (fun _ => ?_))
      | exact ih0 _ _ _
      | exact LeO.none _
      | refine LeO.ite ?_ ?_
      | refine LeO.bind ?_ (fun _ => ?_)
set_option maxHeartbeats 8000000 in
set_option maxRecDepth 100000 in
theorem tallymanref05_Same.calls (k : Nat) (A0 : Option Addr) (c0 : Nat) (l0 : List (S56)) (A1 : Option Addr) (c1 : Nat) (l1 : List (S56)) (r : Bool) (w : World) (hr0 : Kd.C k56 w A0 l0.length l0) (hc0 : l0.length ≤ c0) (hr1 : Kd.C k56 w A1 l1.length l1) (hc1 : l1.length ≤ c1) (h : tallymanref05_Same.f k l0 l1 = some r) :
    Calls Try.prog 33 #[.slice A0 l0.length c0, .slice A1 l1.length c1] w fun e w' => e = .returned (.bool r) ∧ Drawn0 w w' := by
  have hu56 := Try.underlying56
  have HR0 := Aside0.mk hr0
  have HC0 := Aside0.mk hc0
  clear hr0 hc0
  have HR1 := Aside0.mk hr1
  have HC1 := Aside0.mk hc1
  clear hr1 hc1
  have H : (if (l0.length : Int) = (l1.length : Int) then (tallymanref05_Same.l0 k l0 l1 0) else (some false)) = some r := h
  clear h
  by_cases c3 : (l0.length : Int) = (l1.length : Int)
  · rw [if_pos c3] at H
    have c3b0 : ((l0.length : Int) == (l1.length : Int)) = true := beq_iff_eq.mpr c3
    have c3b1 : ((l0.length : Int) != (l1.length : Int)) = false := bne_eq_false_iff_eq.mpr c3
    have c3b2 : (l0.length == l1.length) = true := by first | simpa using c3 | (simp at c3 ⊢; omega)
    clear c3
    have H' := Aside0.mk H
    clear H
    go_enter Try.func33, Try.ntmps33
    go_wp2
    repeat (go_quiet (fail); try go_wp2)
    go_loopg [5] k (fun kq v5 w' => ∃ (x5_1 : Int), v5 = .int .i64 x5_1 ∧ Aside0 (tallymanref05_Same.l0 kq l0 l1 x5_1 = some r) ∧ Aside0 (kq ≤ k) ∧ Drawn0 w w')
    case atStart => exact ⟨(0), (by first | rfl | (simp; done) | (simp [*]; done)), H', ⟨Nat.le_refl _⟩, by repeat (first | exact Drawn0.refl _ | apply Drawn0.step)⟩
    case round =>
      clear H'
      try clear c1
      try clear p2
      try clear c3
      try clear c3b0
      try clear c3b1
      try clear c3b2
      obtain ⟨x5_1, rfl, HA, HK1, ⟨m1, rfl⟩⟩ := hrel
      cases gk with
      | zero => exact absurd HA.out (by simp [tallymanref05_Same.l0])
      | succ k1 =>
        have H := HA.out
        clear HA
        simp only [tallymanref05_Same.l0] at H
        by_cases c4 : x5_1 < (l0.length : Int)
        · rw [if_pos c4] at H
          have c4b0 : decide (x5_1 < (l0.length : Int)) = true := decide_eq_true c4
          clear c4
          by_cases c5 : 0 ≤ x5_1
          · rw [if_pos c5] at H
            have c5b0 : decide (0 ≤ x5_1) = true := decide_eq_true c5
            clear c5
            by_cases c6 : x5_1 < (l1.length : Int)
            · rw [if_pos c6] at H
              have c6b0 : decide (x5_1 < (l1.length : Int)) = true := decide_eq_true c6
              clear c6
              by_cases c7 : (!(((rd_T56 l0 x5_1).f0) == ((rd_T56 l1 x5_1).f0)) || (!(((rd_T56 l0 x5_1).f1) == ((rd_T56 l1 x5_1).f1)))) = true
              · rw [if_pos c7] at H
                have c7b0 : (!(((rd_T56 l0 x5_1).f0) == ((rd_T56 l1 x5_1).f0)) || (!(((rd_T56 l0 x5_1).f1) == ((rd_T56 l1 x5_1).f1)))) = true := c7
                clear c7
                obtain rfl := Option.some.inj H
                have p101 : 0 ≤ (x5_1 : Int) := of_decide_eq_true (by first | (with_reducible assumption) | assumption)
                have q101 : x5_1 < (l0.length : Int) := of_decide_eq_true (by first | (with_reducible assumption) | assumption)
                obtain ⟨ad101, e101, hx101_0, hx101_1⟩ := at_T56 HR0.out x5_1 p101 q101
                cases e101
                replace p101 := eq_true p101
                replace q101 := eq_true q101
                have p102 : 0 ≤ (x5_1 : Int) := of_decide_eq_true (by first | (with_reducible assumption) | assumption)
                have q102 : x5_1 < (l1.length : Int) := of_decide_eq_true (by first | (with_reducible assumption) | assumption)
                obtain ⟨ad102, e102, hx102_0, hx102_1⟩ := at_T56 HR1.out x5_1 p102 q102
                cases e102
                replace p102 := eq_true p102
                replace q102 := eq_true q102
                go_wp2
                repeat (go_quiet (fail); try go_wp2)
                go_ret
                exact ⟨by first | rfl | ((repeat first | rw [Int.tdiv_eq_ediv_of_nonneg (by omega)] | rw [Int.tmod_eq_emod_of_nonneg (by omega)]); rfl) | (simp; done) | (simp [*]; done), by repeat (first | exact Drawn0.refl _ | apply Drawn0.step)⟩
              · rw [if_neg c7] at H
                have c7b0 : (!(((rd_T56 l0 x5_1).f0) == ((rd_T56 l1 x5_1).f0)) || (!(((rd_T56 l0 x5_1).f1) == ((rd_T56 l1 x5_1).f1)))) = false := by simpa using c7
                clear c7
                have H' := Aside0.mk H
                clear H
                have p101 : 0 ≤ (x5_1 : Int) := of_decide_eq_true (by first | (with_reducible assumption) | assumption)
                have q101 : x5_1 < (l0.length : Int) := of_decide_eq_true (by first | (with_reducible assumption) | assumption)
                obtain ⟨ad101, e101, hx101_0, hx101_1⟩ := at_T56 HR0.out x5_1 p101 q101
                cases e101
                replace p101 := eq_true p101
                replace q101 := eq_true q101
                have p102 : 0 ≤ (x5_1 : Int) := of_decide_eq_true (by first | (with_reducible assumption) | assumption)
                have q102 : x5_1 < (l1.length : Int) := of_decide_eq_true (by first | (with_reducible assumption) | assumption)
                obtain ⟨ad102, e102, hx102_0, hx102_1⟩ := at_T56 HR1.out x5_1 p102 q102
                cases e102
                replace p102 := eq_true p102
                replace q102 := eq_true q102
                go_wp2
                repeat (go_quiet (fail); try go_wp2)
                go_roundg k1
                case measure => have := HK1.out; omega
                case rel => exact ⟨(wrap64 (x5_1 + 1)), (by first | rfl | (simp; done) | (simp [*]; done)), H', ⟨by have := HK1.out; omega⟩, by repeat (first | exact Drawn0.refl _ | apply Drawn0.step)⟩
            · rw [if_neg c6] at H
              exact absurd H (by simp)
          · rw [if_neg c5] at H
            exact absurd H (by simp)
        · rw [if_neg c4] at H
          have c4b0 : decide (x5_1 < (l0.length : Int)) = false := decide_eq_false c4
          clear c4
          obtain rfl := Option.some.inj H
          go_wp2
          repeat (go_quiet (fail); try go_wp2)
          go_ret
          exact ⟨by first | rfl | ((repeat first | rw [Int.tdiv_eq_ediv_of_nonneg (by omega)] | rw [Int.tmod_eq_emod_of_nonneg (by omega)]); rfl) | (simp; done) | (simp [*]; done), by repeat (first | exact Drawn0.refl _ | apply Drawn0.step)⟩
  · rw [if_neg c3] at H
    have c3b0 : ((l0.length : Int) == (l1.length : Int)) = false := beq_eq_false_iff_ne.mpr c3
    have c3b1 : ((l0.length : Int) != (l1.length : Int)) = true := bne_iff_ne.mpr c3
    have c3b2 : (l0.length == l1.length) = false := by first | simpa using c3 | (simp at c3 ⊢; omega)
    obtain rfl := Option.some.inj H
    go_enter Try.func33, Try.ntmps33
    go_wp2
    repeat (go_quiet (fail); try go_wp2)
    go_ret
    exact ⟨by first | rfl | ((repeat first | rw [Int.tdiv_eq_ediv_of_nonneg (by omega)] | rw [Int.tmod_eq_emod_of_nonneg (by omega)]); rfl) | (simp; done) | (simp [*]; done), by repeat (first | exact Drawn0.refl _ | apply Drawn0.step)⟩
end Go.Proofs.Ytpoghhcpoimepaa.P
end
section
/- Walks: the document's texts (plain). -/
namespace Go.Proofs.Ytpoghhcpoimepaa.P
open Go.Proofs.Ytpoghhcpoimepaa.B Go.RowKit Go.Proofs.YtpoghhcpoimepaaW.PrintWords Go.Proofs.YtpoghhcpoimepaaW.PrintLast Go.Proofs.YtpoghhcpoimepaaW.PrintMore
set_option linter.unusedVariables false
set_option linter.unusedSimpArgs false
theorem toList_loop (bs : ByteArray) : ∀ (k i : Nat) (r : List UInt8), bs.size - i = k → ByteArray.toList.loop bs i r = r.reverse ++ bs.data.toList.drop i := by
  intro k
  induction k with
  | zero =>
    intro i r h
    unfold ByteArray.toList.loop
    have : ¬ i < bs.size := by omega
    rw [if_neg this, List.drop_eq_nil_of_le (by rw [Array.length_toList]; exact Nat.le_of_not_lt this), List.append_nil]
  | succ k ih =>
    intro i r h
    unfold ByteArray.toList.loop
    have hi : i < bs.size := by omega
    rw [if_pos hi, ih (i + 1) _ (by omega), List.reverse_cons, List.append_assoc]
    have hi2 : i < bs.data.toList.length := by rw [Array.length_toList]; exact hi
    rw [List.drop_eq_getElem_cons hi2]
    congr 2
    show [bs.data[i]!] ++ _ = _
    rw [getElem!_pos bs.data i (by exact hi)]
    rfl
theorem toList_data (bs : ByteArray) : bs.toList = bs.data.toList := by
  rw [ByteArray.toList, toList_loop bs bs.size 0 [] (by omega)]; rfl
theorem count_v (k n : Int) : tallymanref05_count.f k n = some (ofV k n : Int) := by
  unfold tallymanref05_count.f tallymanref02_Clip.f ofV
  split
  · rfl
  · split
    · rfl
    · by_cases h1 : n < 0
      · rw [if_pos h1, if_pos h1]; rfl
      · rw [if_neg h1, if_neg h1]
        by_cases h2 : n > 1048576
        · rw [if_pos h2, if_pos h2]; rfl
        · rw [if_neg h2, if_neg h2, Option.bind_some]; congr 1; omega
theorem same_loop (l : List S56) (hl : l.length ≤ 100000) : ∀ (d i : Nat), i + d = l.length → Ev (fun k => tallymanref05_Same.l0 k l l (i : Int)) true := by
  intro d
  induction d with
  | zero =>
    intro i hi
    refine Ev.step (fun k => ?_) (Ev.now _)
    rw [tallymanref05_Same.l0, if_neg (by omega)]
  | succ d ih =>
    intro i hi
    refine Ev.step (fun k => ?_) (ih (i + 1) (by omega))
    rw [tallymanref05_Same.l0, if_pos (by omega), if_pos (by omega), if_pos (by omega), if_neg (by simp), w64_id (by omega) (by omega)]
    rfl
theorem same_ev (l : List S56) (hl : l.length ≤ 100000) : Ev (fun k => tallymanref05_Same.f k l l) true := by
  unfold tallymanref05_Same.f
  exact Ev.congr (fun k => if_pos rfl) (same_loop l hl l.length 0 (by omega))
end Go.Proofs.Ytpoghhcpoimepaa.P
end
section
/- A row that is only read lies in no block that it may not lead to. -/
namespace Go.Proofs.Ytpoghhcpoimepaa.P
open Go.RowKit Go.Proofs.YtpoghhcpoimepaaW.PrintWords Go.Proofs.YtpoghhcpoimepaaW.PrintLast Go.Proofs.YtpoghhcpoimepaaW.PrintMore
set_option linter.unusedVariables false
end Go.Proofs.Ytpoghhcpoimepaa.P
end
section
-- printed by the session's own call of print.py. Not trusted: Lean checks it.
namespace Go.Proofs.Ytpoghhcpoimepaa.P
open Go.RowKit Go.Proofs.YtpoghhcpoimepaaW.PrintWords Go.Proofs.YtpoghhcpoimepaaW.PrintLast Go.Proofs.YtpoghhcpoimepaaW.PrintMore
attribute [local go_sem] max2_int min2_int max_two min_two max_three min_three max_four min_four
set_option linter.unusedVariables false
set_option linter.unusedSimpArgs false
attribute [local go_sem high] eqA95
/-! ### tallymanref05_merged: function 71 -/
def tallymanref05_merged.l0 : Nat → List (S95) → Int → Option ((List (S95)) × Bool)
  | 0, _, _ => none
  | k + 1, x0, x4 => if x4 < (x0.length : Int) then (if 0 ≤ x4 then (if (((rd_T95 x0 x4).f0) == 0 && (((rd_T95 x0 x4).f1) == 0)) = true then ((some (([] : List (S95)) : List (S95))).bind fun y102 => (if x4 ≤ (x0.length : Int) then ((some (x0.take (x4 : Int).toNat : List (S95))).bind fun y105 => (if y102.length + y105.length < 8796093022208 then ((some (y102 ++ y105 : List (S95))).bind fun y110 => (if 0 ≤ (wrap64 (x4 + 1)) then (if (wrap64 (x4 + 1)) ≤ (x0.length : Int) then ((some (x0.drop ((wrap64 (x4 + 1)) : Int).toNat : List (S95))).bind fun y113 => (if y110.length + y113.length < 8796093022208 then (some ((y110 ++ y113), true)) else (none))) else (none)) else (none))) else (none))) else (none))) else (if (wrap64 (x4 + 1)) < (x0.length : Int) then (if 0 ≤ (wrap64 (x4 + 1)) then (if ((((rd_T95 x0 x4).f0) != 0) == (((rd_T95 x0 (wrap64 (x4 + 1))).f0) != 0)) = true then (if (!(((rd_T95 x0 (wrap64 (x4 + 1))).f0) == 0) || (!(((rd_T95 x0 (wrap64 (x4 + 1))).f1) == 0))) = true then ((some (([] : List (S95)) : List (S95))).bind fun y129 => (if x4 ≤ (x0.length : Int) then ((some (x0.take (x4 : Int).toNat : List (S95))).bind fun y132 => (if y129.length + y132.length < 8796093022208 then ((some (y129 ++ y132 : List (S95))).bind fun y137 => ((some (([(⟨wrap64 (((rd_T95 x0 x4).f0) + ((rd_T95 x0 (wrap64 (x4 + 1))).f0)), Int.tmod (wrap64 (((rd_T95 x0 x4).f1) + ((rd_T95 x0 (wrap64 (x4 + 1))).f1))) 4⟩ : S95)] : List (S95)) : List (S95))).bind fun y140 => (if y137.length + y140.length < 8796093022208 then ((some (y137 ++ y140 : List (S95))).bind fun y143 => (if 0 ≤ (wrap64 (x4 + 2)) then (if (wrap64 (x4 + 2)) ≤ (x0.length : Int) then ((some (x0.drop ((wrap64 (x4 + 2)) : Int).toNat : List (S95))).bind fun y146 => (if y143.length + y146.length < 8796093022208 then (some ((y143 ++ y146), true)) else (none))) else (none)) else (none))) else (none)))) else (none))) else (none))) else (tallymanref05_merged.l0 k x0 (wrap64 (x4 + 1)))) else (tallymanref05_merged.l0 k x0 (wrap64 (x4 + 1)))) else (none)) else (tallymanref05_merged.l0 k x0 (wrap64 (x4 + 1))))) else (none)) else (some (x0, false))
def tallymanref05_merged.f (k : Nat) (l0 : List (S95)) : Option ((List (S95)) × Bool) := tallymanref05_merged.l0 k l0 0
theorem tallymanref05_merged.mono_l : ∀ k, (∀ y0 y1, LeO (tallymanref05_merged.l0 k y0 y1) (tallymanref05_merged.l0 (k + 1) y0 y1))
  | 0 => fun _ _ r h => by simp [tallymanref05_merged.l0] at h
  | k + 1 => by
    have ih0 := tallymanref05_merged.mono_l k
    · intro y0 y1
      unfold tallymanref05_merged.l0
      repeat' first
      | (with_reducible exact ih0 _ _)
      | (with_reducible exact LeO.refl _)
      | (with_reducible exact LeO.none _)
      | (with_reducible refine LeO.ite ?_ ?_)
      | (with_reducible refine LeO.bind ?_ (fun _ => ?_))
      | exact ih0 _ _
      | exact LeO.none _
      | refine LeO.ite ?_ ?_
      | refine LeO.bind ?_ (fun _ => ?_)
theorem tallymanref05_merged.mono : ∀ a0 k, LeO (tallymanref05_merged.f k a0) (tallymanref05_merged.f (k + 1) a0) := by
  intro a0 k
  have ih0 := tallymanref05_merged.mono_l k
  unfold tallymanref05_merged.f
  repeat' first
      | (with_reducible exact ih0 _ _)
      | (with_reducible exact LeO.refl _)
      | (with_reducible exact LeO.none _)
      | (with_reducible refine LeO.ite ?_ ?_)
      | (with_reducible refine LeO.bind ?_ (fun _ => ?_))
      | exact ih0 _ _
      | exact LeO.none _
      | refine LeO.ite ?_ ?_
      | refine LeO.bind ?_ (fun _ => ?_)
end Go.Proofs.Ytpoghhcpoimepaa.P
end
section
/- Walks: what moves do, put together (plain). -/
namespace Go.Proofs.Ytpoghhcpoimepaa.P
open Go.Proofs.Ytpoghhcpoimepaa.B Go.RowKit Go.Proofs.YtpoghhcpoimepaaW.PrintWords Go.Proofs.YtpoghhcpoimepaaW.PrintLast Go.Proofs.YtpoghhcpoimepaaW.PrintMore
set_option linter.unusedVariables false
set_option linter.unusedSimpArgs false
/-- What a move does, as the document tells it. -/
def plainV (k n : Int) : S95 := if k = 1 then ⟨ofV k n, 0⟩ else if k = 2 then ⟨-(ofV k n : Int), 0⟩ else if k = 3 then ⟨0, (ofV k n : Int) % 4⟩ else if k = 4 then ⟨0, (3 * (ofV k n : Int)) % 4⟩ else ⟨0, 0⟩
def mrg : List S95 → Option (List S95)
  | [] => none
  | x :: t => if x.f0 = 0 ∧ x.f1 = 0 then some t else match t with
    | [] => none
    | y :: t' => if (x.f0 ≠ 0 ↔ y.f0 ≠ 0) ∧ ¬ (y.f0 = 0 ∧ y.f1 = 0) then some (⟨x.f0 + y.f0, (x.f1 + y.f1) % 4⟩ :: t') else (mrg (y :: t')).map (x :: ·)
theorem mrg_cons (x : S95) (t : List S95) : mrg (x :: t) = if x.f0 = 0 ∧ x.f1 = 0 then some t else match t with
    | [] => none
    | y :: t' => if (x.f0 ≠ 0 ↔ y.f0 ≠ 0) ∧ ¬ (y.f0 = 0 ∧ y.f1 = 0) then some (⟨x.f0 + y.f0, (x.f1 + y.f1) % 4⟩ :: t') else (mrg (y :: t')).map (x :: ·) := by
  rw [mrg.eq_def]
def tot : List S95 → Nat
  | [] => 0
  | x :: t => x.f0.natAbs + tot t
def quart (l : List S95) : Prop := ∀ p ∈ l, 0 ≤ p.f1 ∧ p.f1 ≤ 3
theorem mrg_props : ∀ (l l' : List S95), mrg l = some l' → l'.length + 1 = l.length ∧ tot l' ≤ tot l ∧ (quart l → quart l') := by
  intro l
  induction l with
  | nil => intro l' h; cases h
  | cons x t ih =>
    intro l' h
    rw [mrg_cons] at h
    split at h
    · obtain rfl := Option.some.inj h
      exact ⟨rfl, by rw [tot]; omega, fun hq p hp => hq p (List.mem_cons_of_mem _ hp)⟩
    · cases t with
      | nil => cases h
      | cons y t' =>
        simp only [] at h
        split at h
        · obtain rfl := Option.some.inj h
          refine ⟨rfl, by simp only [tot]; omega, fun hq p hp => ?_⟩
          rcases List.mem_cons.1 hp with rfl | hp
          · simp only []; omega
          · exact hq p (List.mem_cons_of_mem _ (List.mem_cons_of_mem _ hp))
        · obtain ⟨l2, h2, rfl⟩ := Option.map_eq_some_iff.1 h
          obtain ⟨a, b, c⟩ := ih l2 h2
          refine ⟨by simp only [List.length_cons] at *; omega, by simp only [tot] at *; omega, fun hq p hp => ?_⟩
          rcases List.mem_cons.1 hp with rfl | hp
          · exact hq p (List.mem_cons_self ..)
          · exact c (fun p hp => hq p (List.mem_cons_of_mem _ hp)) p hp
def itr : Nat → List S95 → List S95
  | 0, l => l
  | n + 1, l => match mrg l with
    | some l' => itr n l'
    | none => l
end Go.Proofs.Ytpoghhcpoimepaa.P
end
section
-- printed by the session's own call of print.py. Not trusted: Lean checks it.
namespace Go.Proofs.Ytpoghhcpoimepaa.P
open Go.RowKit Go.Proofs.YtpoghhcpoimepaaW.PrintWords Go.Proofs.YtpoghhcpoimepaaW.PrintLast Go.Proofs.YtpoghhcpoimepaaW.PrintMore
attribute [local go_sem] max2_int min2_int max_two min_two max_three min_three max_four min_four
set_option linter.unusedVariables false
set_option linter.unusedSimpArgs false
/-! ### tallymanref05_plain: function 70 -/
end Go.Proofs.Ytpoghhcpoimepaa.P
end
section
-- printed by the session's own call of print.py. Not trusted: Lean checks it.
namespace Go.Proofs.Ytpoghhcpoimepaa.P
open Go.RowKit Go.Proofs.YtpoghhcpoimepaaW.PrintWords Go.Proofs.YtpoghhcpoimepaaW.PrintLast Go.Proofs.YtpoghhcpoimepaaW.PrintMore
attribute [local go_sem] max2_int min2_int max_two min_two max_three min_three max_four min_four
set_option linter.unusedVariables false
set_option linter.unusedSimpArgs false
/-! ### tallymanref05_one: function 72 -/
end Go.Proofs.Ytpoghhcpoimepaa.P
end
section
/- The document's Short. -/
namespace Go.Proofs.Ytpoghhcpoimepaa.P
open Go.Proofs.Ytpoghhcpoimepaa.B Go.RowKit Go.Proofs.YtpoghhcpoimepaaW.PrintWords Go.Proofs.YtpoghhcpoimepaaW.PrintLast Go.Proofs.YtpoghhcpoimepaaW.PrintMore
set_option linter.unusedVariables false
set_option linter.unusedSimpArgs false
def plainL (l : List S56) : List S95 := l.map (fun m => plainV m.f0 m.f1)
def oneV (p : S95) : List S56 := if p.f0 > 0 then [⟨1, p.f0⟩] else if p.f0 < 0 then [⟨2, -p.f0⟩] else if p.f1 = 3 then [⟨4, 1⟩] else if p.f1 > 0 then [⟨3, p.f1⟩] else []
def outV : List S95 → List S56
  | [] => []
  | p :: t => oneV p ++ outV t
theorem outV_snoc (p : S95) : ∀ l : List S95, outV (l ++ [p]) = outV l ++ oneV p
  | [] => by simp [outV]
  | x :: l => by simp only [List.cons_append, outV, outV_snoc p l, List.append_assoc]
theorem oneV_len (p : S95) : (oneV p).length ≤ 1 := by unfold oneV; (repeat' split) <;> simp
theorem outV_len : ∀ l : List S95, (outV l).length ≤ l.length
  | [] => by simp [outV]
  | p :: l => by have := outV_len l; have := oneV_len p; simp only [outV, List.length_append, List.length_cons]; omega
def far (p : S95) : Prop := p.f0 > 1048576 ∨ p.f0 < -1048576
instance (p : S95) : Decidable (far p) := by unfold far; infer_instance
/-- What comes of what is put together. -/
def shutV (l : List S95) : List S56 × Int := if ∃ p ∈ l, far p then ([], 15) else (outV l, 0)
theorem tot_mem {l : List S95} {p : S95} (h : p ∈ l) : p.f0.natAbs ≤ tot l := by
  induction l with
  | nil => cases h
  | cons x t ih =>
    rw [tot]
    rcases List.mem_cons.1 h with rfl | h
    · omega
    · have := ih h; omega
theorem plainV_props (k n : Int) : (plainV k n).f0.natAbs ≤ 1048576 ∧ 0 ≤ (plainV k n).f1 ∧ (plainV k n).f1 ≤ 3 := by
  have hm := ofV_le k n
  unfold plainV
  (repeat' split) <;> simp only [] <;> omega
theorem plainL_props : ∀ l : List S56, tot (plainL l) ≤ 1048576 * l.length ∧ quart (plainL l)
  | [] => ⟨by simp [plainL, tot], fun p hp => by cases hp⟩
  | m :: l => by
    have ih := plainL_props l
    have h := plainV_props m.f0 m.f1
    refine ⟨?_, fun p hp => ?_⟩
    · show (plainV m.f0 m.f1).f0.natAbs + tot (plainL l) ≤ _
      rw [List.length_cons]; omega
    · rcases List.mem_cons.1 hp with rfl | hp
      · exact h.2
      · exact ih.2 p hp
end Go.Proofs.Ytpoghhcpoimepaa.P
end
section
/- Walks: short ones (plain). -/
namespace Go.Proofs.Ytpoghhcpoimepaa.P
open Go.Proofs.Ytpoghhcpoimepaa.B Go.RowKit Go.Proofs.YtpoghhcpoimepaaW.PrintWords Go.Proofs.YtpoghhcpoimepaaW.PrintLast Go.Proofs.YtpoghhcpoimepaaW.PrintMore
set_option linter.unusedVariables false
set_option linter.unusedSimpArgs false
/-- Quarters count by four. -/
def fitV (g : Bool) (n : Int) : Int := if g = true then n else n % 4
/-- A move more on a row of such that are put together (the last one first). -/
def psh : List S87 → Bool → Int → List S87
  | [], g, n => if fitV g n = 0 then [] else [⟨g, fitV g n⟩]
  | x :: t, g, n => if x.f0 = g then (if fitV g (x.f1 + n) = 0 then t else ⟨g, fitV g (x.f1 + n)⟩ :: t) else (if fitV g n = 0 then x :: t else ⟨g, fitV g n⟩ :: x :: t)
/-- Going and turning in turn, none of nothing. -/
def alt : List S87 → Prop
  | [] => True
  | x :: t => (fitV x.f0 x.f1 = x.f1 ∧ x.f1 ≠ 0) ∧ (∀ y ∈ t.head?, y.f0 ≠ x.f0) ∧ alt t
theorem fit_fit (g : Bool) (n : Int) : fitV g (fitV g n) = fitV g n := by
  unfold fitV; split
  · rfl
  · omega
theorem fit_add (g : Bool) (m n : Int) : fitV g (fitV g m + n) = fitV g (m + n) := by
  unfold fitV; split
  · rfl
  · omega
theorem fit_zero (g : Bool) : fitV g 0 = 0 := by unfold fitV; split <;> rfl
theorem alt_psh : ∀ (st : List S87) (g : Bool) (n : Int), alt st → alt (psh st g n)
  | [], g, n, _ => by
    rw [psh]
    split
    · trivial
    · exact ⟨⟨fit_fit _ _, by assumption⟩, by simp, trivial⟩
  | x :: t, g, n, h => by
    rw [psh]
    obtain ⟨h1, h2, h3⟩ := h
    split
    · rename_i hg
      split
      · exact h3
      · exact ⟨⟨fit_fit _ _, by assumption⟩, by rw [← hg]; exact h2, h3⟩
    · rename_i hg
      split
      · exact ⟨h1, h2, h3⟩
      · exact ⟨⟨fit_fit _ _, by assumption⟩, by simp; exact hg, h1, h2, h3⟩
theorem psh_zero (st : List S87) (g : Bool) (h : alt st) : psh st g 0 = st := by
  cases st with
  | nil => rw [psh, if_pos (fit_zero g)]
  | cons x t =>
    obtain ⟨⟨h1, h1'⟩, h2, h3⟩ := h
    rw [psh]
    by_cases hg : x.f0 = g
    · rw [if_pos hg, Int.add_zero, ← hg, h1, if_neg h1']
    · rw [if_neg hg, if_pos (fit_zero g)]
theorem psh_psh (st : List S87) (g : Bool) (m n : Int) (h : alt st) : psh (psh st g m) g n = psh st g (m + n) := by
  have other : ∀ t : List S87, (∀ y ∈ t.head?, y.f0 ≠ g) → psh t g n = if fitV g n = 0 then t else ⟨g, fitV g n⟩ :: t := by
    intro t ht
    cases t with
    | nil => rw [psh]
    | cons y t => rw [psh, if_neg (ht y rfl)]
  have top : ∀ (t : List S87) (v : Int), (∀ y ∈ t.head?, y.f0 ≠ g) → psh (if fitV g v = 0 then t else ⟨g, fitV g v⟩ :: t) g n = if fitV g (v + n) = 0 then t else ⟨g, fitV g (v + n)⟩ :: t := by
    intro t v ht
    by_cases hv : fitV g v = 0
    · rw [if_pos hv, other t ht]
      have e : fitV g (v + n) = fitV g n := by rw [← fit_add, hv, Int.zero_add]
      rw [e]
    · rw [if_neg hv, psh, if_pos rfl]
      simp only []
      rw [fit_add]
  cases st with
  | nil => rw [psh, top [] m (by simp), psh]
  | cons x t =>
    obtain ⟨⟨h1, h1'⟩, h2, h3⟩ := h
    by_cases hg : x.f0 = g
    · rw [psh, if_pos hg, top t (x.f1 + m) (by rw [← hg]; exact h2), psh, if_pos hg, Int.add_assoc]
    · rw [psh, if_neg hg, top (x :: t) m (by simp; exact hg), psh, if_neg hg]
/-- What the document's pair is, as the code puts it. -/
def toB (p : S95) : S87 := if p.f0 ≠ 0 then ⟨true, p.f0⟩ else ⟨false, p.f1⟩
def nfl : List S95 → List S87 → List S87
  | [], st => st
  | p :: l, st => nfl l (psh st (toB p).f0 (toB p).f1)
def zq (l : List S95) : Prop := ∀ p ∈ l, (p.f0 ≠ 0 → p.f1 = 0) ∧ 0 ≤ p.f1 ∧ p.f1 ≤ 3
theorem nfl_mrg : ∀ (l l' : List S95) (st : List S87), zq l → alt st → mrg l = some l' → nfl l st = nfl l' st ∧ zq l' := by
  intro l
  induction l with
  | nil => intro l' st _ _ h; cases h
  | cons x t ih =>
    intro l' st hz ha h
    have hzt : zq t := fun p hp => hz p (List.mem_cons_of_mem _ hp)
    have hx := hz x (List.mem_cons_self ..)
    rw [mrg_cons] at h
    split at h
    · rename_i h0
      obtain rfl := Option.some.inj h
      refine ⟨?_, hzt⟩
      rw [nfl, toB, if_neg (by simp [h0.1]), h0.2, psh_zero st false ha]
    · rename_i h0
      cases t with
      | nil => cases h
      | cons y t' =>
        have hy := hz y (List.mem_cons_of_mem _ (List.mem_cons_self ..))
        simp only [] at h
        split at h
        · rename_i h1
          obtain rfl := Option.some.inj h
          obtain ⟨h1, h2⟩ := h1
          refine ⟨?_, fun p hp => ?_⟩
          · rw [nfl, nfl, nfl]
            congr 1
            by_cases hs : x.f0 ≠ 0
            · have hs2 := h1.1 hs
              rw [toB, if_pos hs, toB, if_pos hs2, psh_psh st true _ _ ha]
              simp only [toB]
              by_cases h3 : x.f0 + y.f0 ≠ 0
              · rw [if_pos h3]
              · rw [if_neg h3, hx.1 hs, hy.1 hs2, Int.add_zero, Int.zero_emod, psh_zero st false ha, show x.f0 + y.f0 = 0 by omega, psh_zero st true ha]
            · have hs2 : ¬ y.f0 ≠ 0 := fun h => hs (h1.2 h)
              rw [toB, if_neg hs, toB, if_neg hs2, psh_psh st false _ _ ha]
              simp only [toB]
              rw [if_neg (show ¬ (x.f0 + y.f0 ≠ 0) by omega)]
              have e : ∀ n : Int, psh st false (n % 4) = psh st false n := by
                intro n
                have hf : fitV false (n % 4) = fitV false n := by unfold fitV; simp
                have hf2 : ∀ m : Int, fitV false (m + n % 4) = fitV false (m + n) := by intro m; unfold fitV; simp
                cases st with
                | nil => rw [psh, psh, hf]
                | cons z t => rw [psh, psh, hf, hf2]
              rw [e]
          · rcases List.mem_cons.1 hp with rfl | hp
            · simp only []
              refine ⟨fun hn => ?_, by omega, by omega⟩
              by_cases hs : x.f0 ≠ 0
              · rw [hx.1 hs, hy.1 (h1.1 hs)]; rfl
              · have hs2 : ¬ y.f0 ≠ 0 := fun h => hs (h1.2 h)
                omega
            · exact hz p (List.mem_cons_of_mem _ (List.mem_cons_of_mem _ hp))
        · obtain ⟨l2, h2, rfl⟩ := Option.map_eq_some_iff.1 h
          obtain ⟨a, b⟩ := ih l2 (psh st (toB x).f0 (toB x).f1) hzt (alt_psh _ _ _ ha) h2
          refine ⟨a, fun p hp => ?_⟩
          rcases List.mem_cons.1 hp with rfl | hp
          · exact hx
          · exact b p hp
/-- What cannot be put together further is its own short form. -/
theorem nfl_none : ∀ (l : List S95) (st : List S87), zq l → alt st → mrg l = none → (∀ p ∈ l.head?, ∀ y ∈ st.head?, y.f0 ≠ (toB p).f0) → nfl l st = (l.map toB).reverse ++ st := by
  intro l
  induction l with
  | nil => intro st _ _ _ _; rfl
  | cons x t ih =>
    intro st hz ha h hh
    have hzt : zq t := fun p hp => hz p (List.mem_cons_of_mem _ hp)
    have hx := hz x (List.mem_cons_self ..)
    rw [mrg_cons] at h
    split at h
    · cases h
    · rename_i h0
      have hfit : fitV (toB x).f0 (toB x).f1 = (toB x).f1 ∧ (toB x).f1 ≠ 0 := by
        unfold toB
        by_cases hs : x.f0 ≠ 0
        · rw [if_pos hs]; exact ⟨by unfold fitV; rfl, hs⟩
        · rw [if_neg hs]
          simp only [fitV, if_neg Bool.false_ne_true]
          omega
      have hp : psh st (toB x).f0 (toB x).f1 = toB x :: st := by
        cases st with
        | nil => rw [psh, hfit.1, if_neg hfit.2]
        | cons y t => rw [psh, if_neg (hh x rfl y rfl), hfit.1, if_neg hfit.2]
      rw [nfl, hp]
      have hat : alt (toB x :: st) := ⟨hfit, fun y hy => hh x rfl y hy, ha⟩
      cases t with
      | nil => rw [nfl]; simp
      | cons y t' =>
        simp only [] at h
        split at h
        · cases h
        · rename_i h1
          have hm : mrg (y :: t') = none := by
            cases hq : mrg (y :: t') with
            | none => rfl
            | some r => rw [hq] at h; cases h
          have hy0 : ¬ (y.f0 = 0 ∧ y.f1 = 0) := by
            intro hy0
            rw [mrg_cons, if_pos hy0] at hm
            cases hm
          have hne : ¬ (x.f0 ≠ 0 ↔ y.f0 ≠ 0) := fun hi => h1 ⟨hi, hy0⟩
          rw [ih (toB x :: st) hzt hat hm (fun p hp z hz' => by
            simp only [List.head?_cons, Option.mem_def, Option.some.injEq] at hp hz'
            subst hp hz'
            unfold toB
            by_cases ha : x.f0 ≠ 0 <;> by_cases hb : y.f0 ≠ 0
            · exact absurd (iff_of_true ha hb) hne
            · rw [if_pos ha, if_neg hb]; simp
            · rw [if_neg ha, if_pos hb]; simp
            · exact absurd (iff_of_false ha hb) hne)]
          simp
theorem itr_none : ∀ (n : Nat) (l : List S95), l.length ≤ n → mrg (itr n l) = none
  | 0, l, h => by
    obtain rfl : l = [] := List.eq_nil_of_length_eq_zero (by omega)
    rfl
  | n + 1, l, h => by
    rw [itr]
    cases hm : mrg l with
    | none => simp only []; exact hm
    | some l' =>
      simp only []
      exact itr_none n l' (by have := (mrg_props l l' hm).1; omega)
theorem itr_nfl : ∀ (n : Nat) (l : List S95), zq l → nfl (itr n l) [] = nfl l [] ∧ zq (itr n l)
  | 0, l, h => ⟨rfl, h⟩
  | n + 1, l, h => by
    rw [itr]
    cases hm : mrg l with
    | none => exact ⟨rfl, h⟩
    | some l' =>
      simp only []
      obtain ⟨a, b⟩ := nfl_mrg l l' [] h trivial hm
      obtain ⟨c, d⟩ := itr_nfl n l' b
      exact ⟨c.trans a.symm, d⟩
theorem none_nz : ∀ (l : List S95), mrg l = none → ∀ p ∈ l, ¬ (p.f0 = 0 ∧ p.f1 = 0) := by
  intro l
  induction l with
  | nil => intro _ p hp; cases hp
  | cons x t ih =>
    intro h p hp
    rw [mrg_cons] at h
    split at h
    · cases h
    · rename_i h0
      rcases List.mem_cons.1 hp with rfl | hp
      · exact h0
      · cases t with
        | nil => cases hp
        | cons y t' =>
          simp only [] at h
          split at h
          · cases h
          · refine ih ?_ p hp
            cases hq : mrg (y :: t') with
            | none => rfl
            | some r => rw [hq] at h; cases h
theorem norm_is (n : Nat) (l : List S95) (hl : l.length ≤ n) (hz : zq l) : (itr n l).map toB = (nfl l []).reverse := by
  obtain ⟨a, b⟩ := itr_nfl n l hz
  rw [← a, nfl_none _ [] b trivial (itr_none n l hl) (by simp), List.append_nil, List.reverse_reverse]
theorem nfl_snoc (p : S95) : ∀ (l : List S95) (st : List S87), nfl (l ++ [p]) st = psh (nfl l st) (toB p).f0 (toB p).f1
  | [], st => rfl
  | x :: l, st => by rw [List.cons_append, nfl, nfl_snoc p l, nfl]
/-- A move as the code's part: does it go, and how often. -/
def partB (k n : Int) : Bool × Int := (decide (k = 1 ∨ k = 2), fitV (decide (k = 1 ∨ k = 2)) (if k = 2 ∨ k = 4 then -(ofV k n : Int) else (ofV k n : Int)))
theorem psh_fit (st : List S87) (g : Bool) (n : Int) : psh st g (fitV g n) = psh st g n := by
  have h2 : ∀ m : Int, fitV g (m + fitV g n) = fitV g (m + n) := by intro m; unfold fitV; split; rfl; omega
  cases st with
  | nil => rw [psh, psh, fit_fit]
  | cons x t => rw [psh, psh, fit_fit, h2]
theorem psh_part (st : List S87) (k n : Int) (h : alt st) : psh st (toB (plainV k n)).f0 (toB (plainV k n)).f1 = psh st (partB k n).1 (partB k n).2 := by
  unfold partB
  rw [psh_fit]
  unfold plainV
  by_cases c1 : k = 1
  · subst c1
    rw [if_pos rfl, show decide ((1 : Int) = 1 ∨ (1 : Int) = 2) = true from rfl, if_neg (by omega)]
    by_cases h0 : (ofV 1 n : Int) = 0
    · rw [toB, if_neg (by simp only []; omega)]
      simp only []
      rw [h0, psh_zero st false h, psh_zero st true h]
    · rw [toB, if_pos (by simp only []; omega)]
  rw [if_neg c1]
  by_cases c2 : k = 2
  · subst c2
    rw [if_pos rfl, show decide ((2 : Int) = 1 ∨ (2 : Int) = 2) = true from rfl, if_pos (by omega)]
    by_cases h0 : (ofV 2 n : Int) = 0
    · rw [toB, if_neg (by simp only []; omega)]
      simp only []
      rw [h0, Int.neg_zero, psh_zero st false h, psh_zero st true h]
    · rw [toB, if_pos (by simp only []; omega)]
  have hg : decide (k = 1 ∨ k = 2) = false := decide_eq_false (by omega)
  have hm : ∀ a b : Int, a % 4 = b % 4 → psh st false a = psh st false b := by
    intro a b hab
    rw [← psh_fit st false a, ← psh_fit st false b]
    congr 1
  rw [if_neg c2, hg]
  by_cases c3 : k = 3
  · subst c3
    rw [if_pos rfl, if_neg (by omega), toB, if_neg (by simp)]
    exact hm _ _ (by simp only []; omega)
  rw [if_neg c3]
  by_cases c4 : k = 4
  · subst c4
    rw [if_pos rfl, if_pos (by omega), toB, if_neg (by simp)]
    exact hm _ _ (by simp only []; omega)
  have h0 : ofV k n = 0 := by
    cases h : ofV k n with
    | zero => rfl
    | succ m => have := ofV_kind (k := k) (n := n) (by omega); omega
  rw [if_neg c4, if_neg (by omega), toB, if_neg (by simp), h0]
  rfl
theorem fit_code (g : Bool) (n : Int) : walk_bend_fit.f g n = some (g, fitV g n) := by
  unfold walk_bend_fit.f fitV
  split
  · rfl
  · rw [and_three]
theorem part_code (k n : Int) : Ev (fun q => walk_part.f q k n) (partB k n) := by
  have hm := ofV_le k n
  unfold walk_part.f partB
  rw [often_v]
  refine Ev.congr (fun q => Option.bind_some _ _) ?_
  have hgo : (if k = 1 then (some true) else (some (k == 2)) : Option Bool) = some (decide (k = 1 ∨ k = 2)) := by
    by_cases c1 : k = 1
    · rw [if_pos c1, decide_eq_true (.inl c1)]
    · rw [if_neg c1]
      congr 1
      rw [Bool.eq_iff_iff, beq_iff_eq, decide_eq_true_iff]
      omega
  have fin : ∀ b : Bool, (b = true ↔ k = 2 ∨ k = 4) → Ev (fun q => walk_part.j0 q (ofV k n : Int) b k n) (decide (k = 1 ∨ k = 2), fitV (decide (k = 1 ∨ k = 2)) (if k = 2 ∨ k = 4 then -(ofV k n : Int) else (ofV k n : Int))) := by
    intro b hb
    refine Ev.step (fun q => by rw [walk_part.j0]) ?_
    unfold walk_goes.f
    rw [hgo]
    by_cases h : k = 2 ∨ k = 4
    · rw [hb.2 h, if_pos h, w64_id (by omega) (by omega)]
      refine Ev.congr (fun q => if_pos rfl) (Ev.congr (fun q => Option.bind_some _ _) ?_)
      rw [fit_code]
      exact Ev.now _
    · have hbf : b = false := by cases b; rfl; exact absurd (hb.1 rfl) h
      rw [hbf, if_neg h]
      refine Ev.congr (fun q => if_neg Bool.false_ne_true) (Ev.congr (fun q => Option.bind_some _ _) ?_)
      rw [fit_code]
      exact Ev.now _
  by_cases c2 : k = 2
  · refine Ev.congr (fun q => if_pos c2) (fin _ ?_)
    rw [beq_iff_eq]; omega
  · refine Ev.congr (fun q => if_neg c2) (fin _ ?_)
    rw [beq_iff_eq]; omega
theorem rd87 (l : List S87) (i : Nat) (h : i < l.length) : rd_T87 l (i : Int) = l[i] := by
  rw [rd_T87, List.getD_eq_getElem?_getD, Int.toNat_natCast, List.getElem?_eq_getElem h]; rfl
def bigB (B : Nat) (st : List S87) : Prop := ∀ y ∈ st, y.f1.natAbs ≤ B
theorem fit_big (g : Bool) (n : Int) (B : Nat) (h3 : 3 ≤ B) (h : n.natAbs ≤ B) : (fitV g n).natAbs ≤ B := by
  unfold fitV; split
  · exact h
  · omega
theorem psh_big (B C : Nat) (h3 : 3 ≤ B) (st : List S87) (g : Bool) (n : Int) (h : bigB B st) (hn : n.natAbs ≤ C) : bigB (B + C) (psh st g n) := by
  cases st with
  | nil =>
    rw [psh]
    split
    · intro y hy; cases hy
    · intro y hy
      rw [List.mem_singleton.1 hy]
      exact fit_big g n _ (by omega) (by omega)
  | cons x t =>
    have hx := h x (List.mem_cons_self ..)
    have ht : ∀ y ∈ t, y.f1.natAbs ≤ B + C := fun y hy => Nat.le_trans (h y (List.mem_cons_of_mem _ hy)) (by omega)
    rw [psh]
    split
    · split
      · exact ht
      · intro y hy
        rcases List.mem_cons.1 hy with rfl | hy
        · exact fit_big g _ _ (by omega) (by omega)
        · exact ht y hy
    · split
      · intro y hy; exact Nat.le_trans (h y hy) (by omega)
      · intro y hy
        rcases List.mem_cons.1 hy with rfl | hy
        · exact fit_big g n _ (by omega) (by omega)
        · exact Nat.le_trans (h y hy) (by omega)
theorem psh_len (st : List S87) (g : Bool) (n : Int) : (psh st g n).length ≤ st.length + 1 := by
  cases st with
  | nil => rw [psh]; split <;> simp
  | cons x t => rw [psh]; (repeat' split) <;> simp <;> omega
theorem partB_le (k n : Int) : (partB k n).2.natAbs ≤ 1048576 := by
  have hm := ofV_le k n
  unfold partB
  exact fit_big _ _ _ (by omega) (by split <;> omega)
theorem short_l0 (l : List S56) (hl : l.length ≤ 1000) (R : List S56 × Int) (hfin : Ev (fun k => walk_Short.l1 k [] (nfl (plainL l) []).reverse ((nfl (plainL l) []).reverse.length : Int) 0) R) : ∀ (d i : Nat) (st : List S87), i + d = l.length → st = nfl (plainL (l.take i)) [] → alt st → st.length ≤ i → bigB (3 + 1048576 * i) st → Ev (fun k => walk_Short.l0 k st.reverse l (l.length : Int) (i : Int)) R := by
  intro d
  induction d with
  | zero =>
    intro i st hi hst ha hlen hbig
    obtain rfl : i = l.length := by omega
    rw [List.take_length] at hst
    subst hst
    refine Ev.step (fun k => ?_) hfin
    rw [walk_Short.l0, if_neg (by omega)]
  | succ d ih =>
    intro i st hi hst ha hlen hbig
    have hlt : i < l.length := by omega
    have w1 : wrap64 ((i : Int) + 1) = ((i + 1 : Nat) : Int) := by rw [w64_id (by omega) (by omega)]; rfl
    have hr := rd56 l i hlt
    have hsn : nfl (plainL (l.take (i + 1))) [] = psh st (partB l[i].f0 l[i].f1).1 (partB l[i].f0 l[i].f1).2 := by
      rw [take_more l i hlt]
      unfold plainL
      rw [List.map_append, List.map_cons, List.map_nil, nfl_snoc, ← psh_part st _ _ ha, hst]
      rfl
    have hple := partB_le l[i].f0 l[i].f1
    have hpl1 : (psh st (partB l[i].f0 l[i].f1).1 (partB l[i].f0 l[i].f1).2).length ≤ i + 1 := Nat.le_trans (psh_len _ _ _) (by omega)
    have hpb1 := psh_big (3 + 1048576 * i) 1048576 (by omega) st (partB l[i].f0 l[i].f1).1 _ hbig hple
    rw [show 3 + 1048576 * i + 1048576 = 3 + 1048576 * (i + 1) by omega] at hpb1
    have ih' := ih (i + 1) (psh st (partB l[i].f0 l[i].f1).1 (partB l[i].f0 l[i].f1).2) (by omega) hsn.symm (alt_psh _ _ _ ha) hpl1 hpb1
    refine Ev.step (fun k => by rw [walk_Short.l0, if_pos (by omega), if_pos (by omega), if_pos (by omega), hr]) (Ev.bind (part_code l[i].f0 l[i].f1) ?_)
    obtain ⟨⟨g, n⟩, hgn⟩ : ∃ p, partB l[i].f0 l[i].f1 = p := ⟨_, rfl⟩
    rw [hgn] at ih' hple ⊢
    simp only [] at ih' hple ⊢
    have push : ∀ (t : List S87) (v : Int), t.length ≤ i → Ev (fun k => walk_Short.l0 k (if fitV g v = 0 then t else ⟨g, fitV g v⟩ :: t).reverse l (l.length : Int) ((i + 1 : Nat) : Int)) R → Ev (fun k => (walk_bend_fit.f g v).bind fun bt => (if bt.2 = 0 then (walk_Short.l0 k t.reverse l (l.length : Int) ((i + 1 : Nat) : Int)) else (if t.reverse.length < 8796093022208 then (walk_Short.l0 k (t.reverse ++ [(⟨bt.1, bt.2⟩ : S87)]) l (l.length : Int) ((i + 1 : Nat) : Int)) else (none)))) R := by
      intro t v ht h
      rw [fit_code]
      refine Ev.congr (fun k => Option.bind_some _ _) ?_
      simp only []
      by_cases hv : fitV g v = 0
      · rw [if_pos hv] at h
        exact Ev.congr (fun k => if_pos hv) h
      · rw [if_neg hv, List.reverse_cons] at h
        exact Ev.congr (fun k => if_neg hv) (Ev.congr (fun k => if_pos (by rw [List.length_reverse]; omega)) h)
    have hfn : fitV g n = n := by
      have : (partB l[i].f0 l[i].f1).2 = fitV (partB l[i].f0 l[i].f1).1 (partB l[i].f0 l[i].f1).2 := by unfold partB; simp only []; rw [fit_fit]
      rw [hgn] at this
      exact this.symm
    cases hst2 : st with
    | nil =>
      subst hst2
      have hneg : ¬ (wrap64 ((([] : List S87).reverse.length : Int) - 1) ≥ 0) := by show ¬ (wrap64 (((0 : Nat) : Int) - 1) ≥ 0); unfold wrap64; omega
      refine Ev.congr (fun k => if_neg hneg) (Ev.step (fun k => by rw [walk_Short.j1, if_neg Bool.false_ne_true]) ?_)
      rw [w1]
      rw [psh] at ih'
      exact push [] n (by simp) ih'
    | cons x t =>
      rw [hst2] at ih' hlen hbig
      rw [psh] at ih'
      have hlr : ((x :: t).reverse.length : Int) = (t.length : Int) + 1 := by rw [List.length_reverse, List.length_cons]; rfl
      have hlen2 : t.length + 1 ≤ i := by rw [List.length_cons] at hlen; exact hlen
      have wl : wrap64 (((x :: t).reverse.length : Int) - 1) = (t.length : Int) := by rw [hlr, w64_id (by omega) (by omega)]; omega
      have hrd : rd_T87 (x :: t).reverse (t.length : Int) = x := by
        rw [rd87 _ _ (by rw [List.length_reverse, List.length_cons]; omega)]
        rw [List.getElem_reverse]
        simp
      have htk : (x :: t).reverse.take t.length = t.reverse := by
        rw [List.reverse_cons, List.take_append_of_le_length (by rw [List.length_reverse]; exact Nat.le_refl _), List.take_of_length_le (by rw [List.length_reverse]; exact Nat.le_refl _)]
      have hxb := hbig x (List.mem_cons_self ..)
      rw [wl, hrd]
      refine Ev.congr (fun k => if_pos (by omega)) (Ev.congr (fun k => if_pos (by omega)) (Ev.congr (fun k => if_pos (by rw [hlr]; omega)) ?_))
      by_cases hxg : x.f0 = g
      · rw [if_pos hxg] at ih'
        have hbe : (x.f0 == g) = true := by rw [hxg]; simp
        rw [hbe]
        refine Ev.step (fun k => by rw [walk_Short.j1, if_pos rfl, if_pos (by omega), if_pos (by rw [hlr]; omega), if_pos (by rw [hlr]; omega), Option.bind_some, Int.toNat_natCast, htk, hrd, w1]) ?_
        rw [w64_id (x := n + x.f1) (by omega) (by omega), Int.add_comm n x.f1]
        exact push t (x.f1 + n) (by omega) ih'
      · rw [if_neg hxg] at ih'
        have hbe : (x.f0 == g) = false := by rw [beq_eq_false_iff_ne]; exact hxg
        rw [hbe]
        refine Ev.step (fun k => by rw [walk_Short.j1, if_neg Bool.false_ne_true, w1]) ?_
        exact push (x :: t) n (by rw [List.length_cons]; omega) ih'
def moveV (b : S87) : S56 := if b.f0 = true then (if b.f1 < 0 then ⟨2, -b.f1⟩ else ⟨1, b.f1⟩) else if b.f1 = 3 then ⟨4, 1⟩ else ⟨3, b.f1⟩
theorem move_code (b : S87) (h : b.f1.natAbs ≤ 1000000000000) : Ev (fun k => walk_bend_move.f k b.f0 b.f1) ((moveV b).f0, (moveV b).f1) := by
  obtain ⟨g, n⟩ := b
  unfold walk_bend_move.f moveV
  simp only [] at h ⊢
  cases g
  · refine Ev.congr (fun k => if_neg Bool.false_ne_true) (Ev.step (fun k => by rw [walk_bend_move.j0, if_neg Bool.false_ne_true, if_neg Bool.false_ne_true]) ?_)
    rw [if_neg Bool.false_ne_true]
    by_cases h3 : n = 3
    · simp only [if_pos h3]; exact Ev.now _
    · simp only [if_neg h3]; exact Ev.now _
  · refine Ev.congr (fun k => if_pos rfl) (Ev.step (fun k => by rw [walk_bend_move.j0]) ?_)
    rw [if_pos rfl]
    by_cases h0 : n < 0
    · rw [w64_id (by omega) (by omega)]
      simp only [decide_eq_true h0, if_pos h0, if_true]
      exact Ev.now _
    · simp only [decide_eq_false h0, if_neg h0, if_true, if_neg Bool.false_ne_true]
      exact Ev.now _
theorem one_move (p : S95) (hz : (p.f0 ≠ 0 → p.f1 = 0) ∧ 0 ≤ p.f1 ∧ p.f1 ≤ 3) (hn : ¬ (p.f0 = 0 ∧ p.f1 = 0)) : oneV p = [moveV (toB p)] := by
  unfold oneV moveV toB
  by_cases h1 : p.f0 > 0
  · simp only [if_pos h1, if_pos (show p.f0 ≠ 0 by omega), if_neg (show ¬ p.f0 < 0 by omega), if_true]
  · by_cases h2 : p.f0 < 0
    · simp only [if_neg h1, if_pos h2, if_pos (show p.f0 ≠ 0 by omega), if_true]
    · have h0 : p.f0 = 0 := by omega
      by_cases h3 : p.f1 = 3
      · simp only [if_neg h1, if_neg h2, if_neg (show ¬ p.f0 ≠ 0 by omega), if_pos h3, if_neg Bool.false_ne_true]
      · simp only [if_neg h1, if_neg h2, if_neg (show ¬ p.f0 ≠ 0 by omega), if_neg h3, if_pos (show p.f1 > 0 by omega), if_neg Bool.false_ne_true]
theorem short_l1 (xs : List S95) (hxl : xs.length ≤ 1000) (ht : tot xs ≤ 1000000000000) (hz : zq xs) (hn : ∀ p ∈ xs, ¬ (p.f0 = 0 ∧ p.f1 = 0)) : ∀ (d i : Nat), i + d = xs.length → (∀ p ∈ xs.take i, ¬ far p) → Ev (fun k => walk_Short.l1 k (outV (xs.take i)) (xs.map toB) (xs.length : Int) (i : Int)) (shutV xs) := by
  intro d
  induction d with
  | zero =>
    intro i hi hf
    obtain rfl : i = xs.length := by omega
    rw [List.take_length] at hf ⊢
    rw [shutV, if_neg (by rintro ⟨p, hp, h⟩; exact hf p hp h)]
    refine Ev.step (fun k => ?_) (Ev.now _)
    rw [walk_Short.l1, if_neg (by omega)]
  | succ d ih =>
    intro i hi hf
    have hlt : i < xs.length := by omega
    have hlt2 : i < (xs.map toB).length := by rw [List.length_map]; exact hlt
    have hr : rd_T87 (xs.map toB) (i : Int) = toB xs[i] := by rw [rd87 _ _ hlt2, List.getElem_map]
    have w1 : wrap64 ((i : Int) + 1) = ((i + 1 : Nat) : Int) := by rw [w64_id (by omega) (by omega)]; rfl
    have hmem : xs[i] ∈ xs := List.getElem_mem hlt
    have hb : (toB xs[i]).f1.natAbs ≤ 1000000000000 := by
      have h1 := Nat.le_trans (tot_mem hmem) ht
      have h2 := hz _ hmem
      unfold toB
      split
      · exact h1
      · simp only []; omega
    have hfr : mx ((toB xs[i]).f1) (wrap64 (-(toB xs[i]).f1)) > 1048576 ↔ far xs[i] := by
      have h2 := hz _ hmem
      rw [w64_id (by omega) (by omega)]
      unfold far toB mx
      by_cases h0 : xs[i].f0 ≠ 0
      · rw [if_pos h0]; simp only []; split <;> omega
      · rw [if_neg h0]; simp only []; split <;> omega
    refine Ev.step (fun k => by rw [walk_Short.l1, if_pos (by omega), if_pos (by omega), if_pos (by omega), hr, w1]) ?_
    by_cases hfar : far xs[i]
    · rw [shutV, if_pos ⟨_, hmem, hfar⟩]
      exact Ev.congr (fun k => if_pos (hfr.2 hfar)) (Ev.now _)
    · refine Ev.congr (fun k => if_neg (fun h => hfar (hfr.1 h))) (Ev.bind (move_code _ hb) ?_)
      have hol := outV_len (xs.take i)
      rw [List.length_take] at hol
      refine Ev.congr (fun k => if_pos (by omega)) ?_
      have := ih (i + 1) (by omega) (by rw [take_more xs i hlt]; intro q hq; rcases List.mem_append.1 hq with hq | hq; exact hf q hq; rw [List.mem_singleton.1 hq]; exact hfar)
      rw [take_more xs i hlt, outV_snoc, one_move _ (hz _ hmem) (hn _ hmem)] at this
      exact this
theorem zq_plain (l : List S56) : zq (plainL l) := by
  intro p hp
  obtain ⟨m, hm, rfl⟩ := List.mem_map.1 hp
  have h := plainV_props m.f0 m.f1
  refine ⟨fun hn => ?_, h.2⟩
  unfold plainV at hn ⊢
  by_cases c1 : m.f0 = 1
  · rw [if_pos c1]
  · by_cases c2 : m.f0 = 2
    · rw [if_neg c1, if_pos c2]
    · rw [if_neg c1, if_neg c2] at hn
      exfalso
      apply hn
      split
      · rfl
      · split <;> rfl
theorem itr_props : ∀ (n : Nat) (l : List S95), (itr n l).length ≤ l.length ∧ tot (itr n l) ≤ tot l
  | 0, l => ⟨Nat.le_refl _, Nat.le_refl _⟩
  | n + 1, l => by
    rw [itr]
    cases hm : mrg l with
    | none => exact ⟨Nat.le_refl _, Nat.le_refl _⟩
    | some l' =>
      simp only []
      obtain ⟨a, b⟩ := itr_props n l'
      obtain ⟨c, d, _⟩ := mrg_props l l' hm
      exact ⟨by omega, by omega⟩
theorem short_code (l : List S56) (hl : l.length ≤ 1000) : Ev (fun k => walk_Short.f k l) (shutV (itr l.length (plainL l))) := by
  have hpl : (plainL l).length = l.length := by unfold plainL; rw [List.length_map]
  have hz := zq_plain l
  have hp := plainL_props l
  obtain ⟨a, b⟩ := itr_props l.length (plainL l)
  have hnz := none_nz _ (itr_none l.length (plainL l) (by omega))
  have hzq := (itr_nfl l.length (plainL l) hz).2
  have hni := norm_is l.length (plainL l) (by omega) hz
  have hfin := short_l1 (itr l.length (plainL l)) (by omega) (by omega) hzq hnz (itr l.length (plainL l)).length 0 (by omega) (by simp)
  rw [hni] at hfin
  have hlen : ((itr l.length (plainL l)).length : Int) = ((nfl (plainL l) []).reverse.length : Int) := by rw [← hni, List.length_map]
  rw [hlen] at hfin
  exact short_l0 l hl _ hfin l.length 0 [] (by omega) rfl trivial (Nat.le_refl _) (fun y hy => by cases hy)
end Go.Proofs.Ytpoghhcpoimepaa.P
end
section
-- printed by the session's own call of print.py. Not trusted: Lean checks it.
namespace Go.Proofs.Ytpoghhcpoimepaa.P
open Go.RowKit Go.Proofs.YtpoghhcpoimepaaW.PrintWords Go.Proofs.YtpoghhcpoimepaaW.PrintLast Go.Proofs.YtpoghhcpoimepaaW.PrintMore
attribute [local go_sem] max2_int min2_int max_two min_two max_three min_three max_four min_four
set_option linter.unusedVariables false
set_option linter.unusedSimpArgs false
/-! ### walk_Reverse: function 36 -/
def walk_Reverse.l0 : Nat → List (S56) → List (S56) → Int → Int → Option ((List (S56)))
  | 0, _, _, _, _ => none
  | k + 1, x0, x3, x7, x8 => if x8 < x7 then (if 0 ≤ (wrap64 ((wrap64 ((x0.length : Int) - 1)) - x8)) then (if (wrap64 ((wrap64 ((x0.length : Int) - 1)) - x8)) < (x0.length : Int) then (if ((rd_T56 x0 (wrap64 ((wrap64 ((x0.length : Int) - 1)) - x8))).f0) ≥ 1 then (if ((rd_T56 x0 (wrap64 ((wrap64 ((x0.length : Int) - 1)) - x8))).f0) ≤ 4 then (if x3.length < 8796093022208 then (walk_Reverse.l0 k x0 (x3 ++ [(⟨wrap64 ((Go.bits .xor .i64 (wrap64 (((rd_T56 x0 (wrap64 ((wrap64 ((x0.length : Int) - 1)) - x8))).f0) - 1)) 1) + 1), (rd_T56 x0 (wrap64 ((wrap64 ((x0.length : Int) - 1)) - x8))).f1⟩ : S56)]) x7 (wrap64 (x8 + 1))) else (none)) else (if x3.length < 8796093022208 then (walk_Reverse.l0 k x0 (x3 ++ [(⟨(rd_T56 x0 (wrap64 ((wrap64 ((x0.length : Int) - 1)) - x8))).f0, (rd_T56 x0 (wrap64 ((wrap64 ((x0.length : Int) - 1)) - x8))).f1⟩ : S56)]) x7 (wrap64 (x8 + 1))) else (none))) else (if x3.length < 8796093022208 then (walk_Reverse.l0 k x0 (x3 ++ [(⟨(rd_T56 x0 (wrap64 ((wrap64 ((x0.length : Int) - 1)) - x8))).f0, (rd_T56 x0 (wrap64 ((wrap64 ((x0.length : Int) - 1)) - x8))).f1⟩ : S56)]) x7 (wrap64 (x8 + 1))) else (none))) else (none)) else (none)) else (some x3)
def walk_Reverse.f (k : Nat) (l0 : List (S56)) : Option ((List (S56))) := walk_Reverse.l0 k l0 ([] : List (S56)) (l0.length : Int) 0
theorem walk_Reverse.mono_l : ∀ k, (∀ y0 y1 y2 y3, LeO (walk_Reverse.l0 k y0 y1 y2 y3) (walk_Reverse.l0 (k + 1) y0 y1 y2 y3))
  | 0 => fun _ _ _ _ r h => by simp [walk_Reverse.l0] at h
  | k + 1 => by
    have ih0 := walk_Reverse.mono_l k
    · intro y0 y1 y2 y3
      unfold walk_Reverse.l0
      repeat' first
      | (with_reducible exact ih0 _ _ _ _)
      | (with_reducible exact LeO.refl _)
      | (with_reducible exact LeO.none _)
      | (with_reducible refine LeO.ite ?_ ?_)
      | (with_reducible refine LeO.bind ?_ (fun _ => ?_))
      | exact ih0 _ _ _ _
      | exact LeO.none _
      | refine LeO.ite ?_ ?_
      | refine LeO.bind ?_ (fun _ => ?_)
theorem walk_Reverse.mono : ∀ a0 k, LeO (walk_Reverse.f k a0) (walk_Reverse.f (k + 1) a0) := by
  intro a0 k
  have ih0 := walk_Reverse.mono_l k
  unfold walk_Reverse.f
  repeat' first
      | (with_reducible exact ih0 _ _ _ _)
      | (with_reducible exact LeO.refl _)
      | (with_reducible exact LeO.none _)
      | (with_reducible refine LeO.ite ?_ ?_)
      | (with_reducible refine LeO.bind ?_ (fun _ => ?_))
      | exact ih0 _ _ _ _
      | exact LeO.none _
      | refine LeO.ite ?_ ?_
      | refine LeO.bind ?_ (fun _ => ?_)
set_option maxHeartbeats 8000000 in
set_option maxRecDepth 100000 in
theorem walk_Reverse.calls (k : Nat) (A0 : Option Addr) (c0 : Nat) (l0 : List (S56)) (r : List (S56)) (w : World) (hr0 : Kd.C k56 w A0 l0.length l0) (hc0 : l0.length ≤ c0) (h : walk_Reverse.f k l0 = some r) :
    Calls Try.prog 36 #[.slice A0 l0.length c0] w fun e w' => ∃ v0_ : Value, e = .returned (v0_) ∧ Kd.R k56 56 w' w.heap.size (fun _ => True) v0_ r ∧ Below w.heap.size w w' := by
  have hu56 := Try.underlying56
  have HR0 := Aside0.mk hr0
  have HC0 := Aside0.mk hc0
  clear hr0 hc0
  have HB := Aside0.mk (Below.refl w.heap.size w)
  have H : (walk_Reverse.l0 k l0 ([] : List (S56)) (l0.length : Int) 0) = some r := h
  clear h
  have H' := Aside0.mk H
  clear H
  go_enter Try.func36, Try.ntmps36
  go_wp2
  go_loopg [3, 8] k (fun kq v3 v8 w' => ∃ (x3_1 : List (S56)) (x8_1 : Int), v8 = .int .i64 x8_1 ∧ Aside0 (walk_Reverse.l0 kq l0 x3_1 (l0.length : Int) x8_1 = some r) ∧ Aside0 (kq ≤ k) ∧ Aside0 (Kd.R k56 56 w' w.heap.size (fun _ => True) v3 x3_1) ∧ Aside0 (Below w.heap.size w w'))
  case atStart => exact ⟨(([] : List (S56))), (0), (by first | rfl | (simp; done) | (simp [*]; done)), H', ⟨Nat.le_refl _⟩, ⟨by first | exact Kd.R_nil _ _ _ _ _ | exact Kd.N_nil _ _ _ _ _ | exact Kd.V_nil _ _ _ _ _ | exact Kd.Q_nil _ _ _ _ _ | exact Kd.S_nil _ _ _ _ _⟩, ⟨by repeat (first | (with_reducible first | exact HB.out | apply below_alloc | apply pw_below_drewN | apply below_drew1) | exact HB.out)⟩⟩
  case round =>
    clear H'
    obtain ⟨x3_1, x8_1, rfl, HA, HK1, HO_3, HB⟩ := hrel
    cases gk with
    | zero => exact absurd HA.out (by simp [walk_Reverse.l0])
    | succ k1 =>
      have H := HA.out
      clear HA
      simp only [walk_Reverse.l0] at H
      by_cases c2 : x8_1 < (l0.length : Int)
      · rw [if_pos c2] at H
        have c2b0 : decide (x8_1 < (l0.length : Int)) = true := decide_eq_true c2
        clear c2
        obtain ⟨ji3, hji3⟩ : ∃ j_ : Int, (wrap64 ((wrap64 ((l0.length : Int) - 1)) - x8_1)) = j_ := ⟨_, rfl⟩
        replace H : (if 0 ≤ (ji3) then (if (ji3) < (l0.length : Int) then (if ((rd_T56 l0 (ji3)).f0) ≥ 1 then (if ((rd_T56 l0 (ji3)).f0) ≤ 4 then (if x3_1.length < 8796093022208 then (walk_Reverse.l0 k1 l0 (x3_1 ++ [(⟨wrap64 ((Go.bits .xor .i64 (wrap64 (((rd_T56 l0 (ji3)).f0) - 1)) 1) + 1), (rd_T56 l0 (ji3)).f1⟩ : S56)]) (l0.length : Int) (wrap64 (x8_1 + 1))) else (none)) else (if x3_1.length < 8796093022208 then (walk_Reverse.l0 k1 l0 (x3_1 ++ [(⟨(rd_T56 l0 (ji3)).f0, (rd_T56 l0 (ji3)).f1⟩ : S56)]) (l0.length : Int) (wrap64 (x8_1 + 1))) else (none))) else (if x3_1.length < 8796093022208 then (walk_Reverse.l0 k1 l0 (x3_1 ++ [(⟨(rd_T56 l0 (ji3)).f0, (rd_T56 l0 (ji3)).f1⟩ : S56)]) (l0.length : Int) (wrap64 (x8_1 + 1))) else (none))) else (none)) else (none)) = some r := by first | (rw [hji3] at H; exact H) | (simp only [hji3] at H ⊢; exact H)
        have hji3w : (IntKind.i64.wrap ((wrap64 ((l0.length : Int) - 1)) - x8_1)) = ji3 := (i64_w _).trans hji3
        by_cases c4 : 0 ≤ (ji3)
        · rw [if_pos c4] at H
          have c4b0 : decide (0 ≤ (ji3)) = true := decide_eq_true c4
          clear c4
          by_cases c5 : (ji3) < (l0.length : Int)
          · rw [if_pos c5] at H
            have c5b0 : decide ((ji3) < (l0.length : Int)) = true := decide_eq_true c5
            clear c5
            by_cases c6 : ((rd_T56 l0 (ji3)).f0) ≥ 1
            · rw [if_pos c6] at H
              have c6b0 : decide (1 ≤ ((rd_T56 l0 (ji3)).f0)) = true := decide_eq_true c6
              clear c6
              by_cases c7 : ((rd_T56 l0 (ji3)).f0) ≤ 4
              · rw [if_pos c7] at H
                have c7b0 : decide (((rd_T56 l0 (ji3)).f0) ≤ 4) = true := decide_eq_true c7
                clear c7
                by_cases c8 : x3_1.length < 8796093022208
                · rw [if_pos c8] at H
                  have LMc8 := Aside0.mk c8
                  clear c8
                  obtain ⟨y103, hy103⟩ : ∃ y_ : List (S56), y_ = (x3_1 ++ [(⟨wrap64 ((Go.bits .xor .i64 (wrap64 (((rd_T56 l0 (ji3)).f0) - 1)) 1) + 1), (rd_T56 l0 (ji3)).f1⟩ : S56)]) := ⟨_, rfl⟩
                  replace H : (walk_Reverse.l0 k1 l0 y103 (l0.length : Int) (wrap64 (x8_1 + 1))) = some r := by first | (rw [hy103]; with_reducible exact H) | (have H2_ := (Option.bind_some _ _).symm.trans H; rw [hy103]; with_reducible exact H2_) | (have H2_ := (Option.bind_some _ _).symm.trans H; with_reducible exact H2_) | with_reducible exact H | (rw [hy103]; exact H) | exact H
                  have Ny103 := Aside0.mk hy103
                  clear hy103
                  have H' := Aside0.mk H
                  clear H
                  have p101 : 0 ≤ ((ji3) : Int) := of_decide_eq_true (by first | (with_reducible assumption) | assumption)
                  have q101 : (ji3) < (l0.length : Int) := of_decide_eq_true (by first | (with_reducible assumption) | assumption)
                  obtain ⟨ad101, e101, hx101_0, hx101_1⟩ := at_T56 HR0.out (ji3) p101 q101
                  cases e101
                  replace hx101_0 := (HB.out.cell (World.block_lt_of_cell? w _ hx101_0)).trans hx101_0
                  replace hx101_1 := (HB.out.cell (World.block_lt_of_cell? w _ hx101_1)).trans hx101_1
                  replace p101 := eq_true p101
                  replace q101 := eq_true q101
                  go_wp2_with (first | ((with_reducible refine gate_dst (N := 5) rfl ?_); refine box_event ?hg (N := 5) ?hd (cs := #[.int .i64 0, .int .i64 0]) (t := 56) ?hr ?_; (case hd => rfl); (case hg => rfl); (case hr => first | (go_simp; done) | (go_simp; rfl)); intro gb102 hg w9 hbox hb; have n0_ := Aside0.mk (Kd.R_below (Kd.R_elderB (by (with_reducible repeat (first | apply Kd.R_alloc | apply Kd.R_drewN | apply Kd.R_drew)); exact HO_3.out) gb102 (Nat.le_of_eq hg.symm)) hb); have n1_ := Aside0.mk (below_step (by repeat (first | (with_reducible first | exact HB.out | apply below_alloc | apply pw_below_drewN | apply below_drew1) | exact HB.out)) hb); have n2_ := Aside0.mk (hbox); have n3_ := Aside0.mk ((by rw [hg]; exact (below_size (by repeat (first | (with_reducible first | exact HB.out | apply below_alloc | apply pw_below_drewN | apply below_drew1) | exact HB.out))) : w.heap.size ≤ gb102)); have n4_ := Aside0.mk ((by rw [hg]; exact (below_size (by repeat (first | (with_reducible first | exact HB.out | apply below_alloc | apply pw_below_drewN | apply below_drew1) | exact HB.out))) : w.heap.size ≤ gb102)); clear HO_3; clear HB; have HO_3 := n0_; have HB := n1_; have BK102 := n2_; have GW102 := n3_; have GE102 := n4_; clear n0_ n1_ n2_ n3_ n4_; clear hb hbox hg; have hcz10_0 : w9.cell? ⟨gb102, 0, none⟩ = some (.int .i64 0) := (blk_cell BK102.out 0).trans rfl; have hcz10_1 : w9.cell? ⟨gb102, 1, none⟩ = some (.int .i64 0) := (blk_cell BK102.out 1).trans rfl; have hfz10_0 := blk_frozen BK102.out 0; have hfz10_1 := blk_frozen BK102.out 1) | ((with_reducible refine gate_builtin (b := .append) (xs := #[.tmp 33, .tmp 35]) rfl ?_); at_builtin; refine Kd.R_append k56 (w0 := w) w.heap.size rfl (.tmp 33) (.tmp 35) 41 56 (.agg #[(.int .i64 0), (.int .i64 0)]) 16 rfl Try.underlying41 info56 rfl (by decide) (by omega) u3 x3_1 (⟨wrap64 ((Go.bits .xor .i64 (wrap64 (((rd_T56 l0 (ji3)).f0) - 1)) 1) + 1), (rd_T56 l0 (ji3)).f1⟩ : S56) [.int .i64 (wrap64 ((Go.bits .xor .i64 (wrap64 (((rd_T56 l0 (ji3)).f0) - 1)) 1) + 1)), .int .i64 ((rd_T56 l0 (ji3)).f1)] (fun k_ => k_ ≠ gb102) (fun _ => False) rfl (by first | (go_simp; done) | (go_simp; rfl)) ?aP (fun _ hk => hk.elim) ?aF ?aO ?aB ?aS ?aL ?_; (case aP => exact k56_mkM _ _ _ (⟨wrap64 ((Go.bits .xor .i64 (wrap64 (((rd_T56 l0 (ji3)).f0) - 1)) 1) + 1), (rd_T56 l0 (ji3)).f1⟩ : S56)); (case aB => exact (by repeat (first | (with_reducible first | exact HB.out | apply below_alloc | apply pw_below_drewN | apply below_drew1 | refine below_set ?_ GE102.out) | exact HB.out))); (case aF => exact (fun k_ hk => Kd.freshB (g := gb102) (o := .cells #[.int .i64 (wrap64 ((Go.bits .xor .i64 (wrap64 (((rd_T56 l0 (ji3)).f0) - 1)) 1) + 1)), .int .i64 ((rd_T56 l0 (ji3)).f1)] 56 (0, 0)) (by (with_reducible repeat (first | refine blk_drewN ?_ _ | refine blk_drew ?_ | refine blk_alloc ?_ _)); refine blk_put (cs := #[.int .i64 ((rd_T56 l0 (ji3)).f0), .int .i64 ((rd_T56 l0 (ji3)).f1)]) ?_ 0 _ rfl; (with_reducible repeat (first | refine blk_drewN ?_ _ | refine blk_drew ?_ | refine blk_alloc ?_ _)); refine blk_put (cs := #[.int .i64 ((rd_T56 l0 (ji3)).f0), .int .i64 0]) ?_ 1 _ rfl; (with_reducible repeat (first | refine blk_drewN ?_ _ | refine blk_drew ?_ | refine blk_alloc ?_ _)); refine blk_put (cs := #[.int .i64 0, .int .i64 0]) ?_ 0 _ rfl; (with_reducible repeat (first | refine blk_drewN ?_ _ | refine blk_drew ?_ | refine blk_alloc ?_ _)); exact BK102.out) k_ hk)); (case aO => exact (by (with_reducible repeat (first | apply Kd.R_alloc | apply Kd.R_drewN | apply Kd.R_drew)); exact Kd.R_mono (Kd.R_far (p := ⟨gb102, 0, none⟩) (Kd.R_far (p := ⟨gb102, 1, none⟩) (Kd.R_far (p := ⟨gb102, 0, none⟩) (Kd.R_mono HO_3.out (fun k_ hk => (⟨hk, hk.2⟩ : _ ∧ k_ ≠ gb102))) (fun _ hk => hk.2) (.int .i64 ((rd_T56 l0 (ji3)).f0))) (fun _ hk => hk.2) (.int .i64 ((rd_T56 l0 (ji3)).f1))) (fun _ hk => hk.2) (.int .i64 (wrap64 ((Go.bits .xor .i64 (wrap64 (((rd_T56 l0 (ji3)).f0) - 1)) 1) + 1)))) (fun _ hk => hk.1.2))); (case aS => exact (below_size (by repeat (first | (with_reducible first | exact HB.out | apply below_alloc | apply pw_below_drewN | apply below_drew1 | refine below_set ?_ GE102.out) | exact HB.out)))); (case aL => have := LMc8.out; omega); intro v104 w11 ho hb hg hat; rw [← Ny103.out] at ho; have n0_ := Aside0.mk (blk_grown (g := gb102) (o := .cells #[.int .i64 (wrap64 ((Go.bits .xor .i64 (wrap64 (((rd_T56 l0 (ji3)).f0) - 1)) 1) + 1)), .int .i64 ((rd_T56 l0 (ji3)).f1)] 56 (0, 0)) (by (with_reducible repeat (first | refine blk_drewN ?_ _ | refine blk_drew ?_ | refine blk_alloc ?_ _)); refine blk_put (cs := #[.int .i64 ((rd_T56 l0 (ji3)).f0), .int .i64 ((rd_T56 l0 (ji3)).f1)]) ?_ 0 _ rfl; (with_reducible repeat (first | refine blk_drewN ?_ _ | refine blk_drew ?_ | refine blk_alloc ?_ _)); refine blk_put (cs := #[.int .i64 ((rd_T56 l0 (ji3)).f0), .int .i64 0]) ?_ 1 _ rfl; (with_reducible repeat (first | refine blk_drewN ?_ _ | refine blk_drew ?_ | refine blk_alloc ?_ _)); refine blk_put (cs := #[.int .i64 0, .int .i64 0]) ?_ 0 _ rfl; (with_reducible repeat (first | refine blk_drewN ?_ _ | refine blk_drew ?_ | refine blk_alloc ?_ _)); exact BK102.out) hg (Kd.R_away HO_3.out (fun _ hk => hk.2))); have n1_ := Aside0.mk (hb); have n2_ := Aside0.mk (ho); clear BK102; clear HB; clear HO_3; have BK102 := n0_; have HB := n1_; have HO105 := n2_; clear n0_ n1_ n2_; clear ho hb hg hat))
                  go_roundg k1
                  case measure => have := HK1.out; omega
                  case rel => exact ⟨(y103), (wrap64 (x8_1 + 1)), (by first | rfl | (simp; done) | (simp [*]; done)), H', ⟨by have := HK1.out; omega⟩, ⟨by (with_reducible repeat (first | apply Kd.R_alloc | apply Kd.R_drewN | apply Kd.R_drew)); exact Kd.R_mono HO105.out (fun _ hk => trivial)⟩, ⟨by repeat (first | (with_reducible first | exact HB.out | apply below_alloc | apply pw_below_drewN | apply below_drew1 | refine below_set ?_ GE102.out) | exact HB.out)⟩⟩
                · rw [if_neg c8] at H
                  exact absurd H (by simp)
              · rw [if_neg c7] at H
                have c7b0 : decide (((rd_T56 l0 (ji3)).f0) ≤ 4) = false := decide_eq_false c7
                clear c7
                by_cases c12 : x3_1.length < 8796093022208
                · rw [if_pos c12] at H
                  have LMc12 := Aside0.mk c12
                  clear c12
                  obtain ⟨y106, hy106⟩ : ∃ y_ : List (S56), y_ = (x3_1 ++ [(⟨(rd_T56 l0 (ji3)).f0, (rd_T56 l0 (ji3)).f1⟩ : S56)]) := ⟨_, rfl⟩
                  replace H : (walk_Reverse.l0 k1 l0 y106 (l0.length : Int) (wrap64 (x8_1 + 1))) = some r := by first | (rw [hy106]; with_reducible exact H) | (have H2_ := (Option.bind_some _ _).symm.trans H; rw [hy106]; with_reducible exact H2_) | (have H2_ := (Option.bind_some _ _).symm.trans H; with_reducible exact H2_) | with_reducible exact H | (rw [hy106]; exact H) | exact H
                  have Ny106 := Aside0.mk hy106
                  clear hy106
                  have H' := Aside0.mk H
                  clear H
                  have p101 : 0 ≤ ((ji3) : Int) := of_decide_eq_true (by first | (with_reducible assumption) | assumption)
                  have q101 : (ji3) < (l0.length : Int) := of_decide_eq_true (by first | (with_reducible assumption) | assumption)
                  obtain ⟨ad101, e101, hx101_0, hx101_1⟩ := at_T56 HR0.out (ji3) p101 q101
                  cases e101
                  replace hx101_0 := (HB.out.cell (World.block_lt_of_cell? w _ hx101_0)).trans hx101_0
                  replace hx101_1 := (HB.out.cell (World.block_lt_of_cell? w _ hx101_1)).trans hx101_1
                  replace p101 := eq_true p101
                  replace q101 := eq_true q101
                  go_wp2_with (first | ((with_reducible refine gate_dst (N := 5) rfl ?_); refine box_event ?hg (N := 5) ?hd (cs := #[.int .i64 0, .int .i64 0]) (t := 56) ?hr ?_; (case hd => rfl); (case hg => rfl); (case hr => first | (go_simp; done) | (go_simp; rfl)); intro gb102 hg w13 hbox hb; have n0_ := Aside0.mk (Kd.R_below (Kd.R_elderB (by (with_reducible repeat (first | apply Kd.R_alloc | apply Kd.R_drewN | apply Kd.R_drew)); exact HO_3.out) gb102 (Nat.le_of_eq hg.symm)) hb); have n1_ := Aside0.mk (below_step (by repeat (first | (with_reducible first | exact HB.out | apply below_alloc | apply pw_below_drewN | apply below_drew1) | exact HB.out)) hb); have n2_ := Aside0.mk (hbox); have n3_ := Aside0.mk ((by rw [hg]; exact (below_size (by repeat (first | (with_reducible first | exact HB.out | apply below_alloc | apply pw_below_drewN | apply below_drew1) | exact HB.out))) : w.heap.size ≤ gb102)); have n4_ := Aside0.mk ((by rw [hg]; exact (below_size (by repeat (first | (with_reducible first | exact HB.out | apply below_alloc | apply pw_below_drewN | apply below_drew1) | exact HB.out))) : w.heap.size ≤ gb102)); clear HO_3; clear HB; have HO_3 := n0_; have HB := n1_; have BK102 := n2_; have GW102 := n3_; have GE102 := n4_; clear n0_ n1_ n2_ n3_ n4_; clear hb hbox hg; have hcz14_0 : w13.cell? ⟨gb102, 0, none⟩ = some (.int .i64 0) := (blk_cell BK102.out 0).trans rfl; have hcz14_1 : w13.cell? ⟨gb102, 1, none⟩ = some (.int .i64 0) := (blk_cell BK102.out 1).trans rfl; have hfz14_0 := blk_frozen BK102.out 0; have hfz14_1 := blk_frozen BK102.out 1) | ((with_reducible refine gate_builtin (b := .append) (xs := #[.tmp 33, .tmp 35]) rfl ?_); at_builtin; refine Kd.R_append k56 (w0 := w) w.heap.size rfl (.tmp 33) (.tmp 35) 41 56 (.agg #[(.int .i64 0), (.int .i64 0)]) 16 rfl Try.underlying41 info56 rfl (by decide) (by omega) u3 x3_1 (⟨(rd_T56 l0 (ji3)).f0, (rd_T56 l0 (ji3)).f1⟩ : S56) [.int .i64 ((rd_T56 l0 (ji3)).f0), .int .i64 ((rd_T56 l0 (ji3)).f1)] (fun k_ => k_ ≠ gb102) (fun _ => False) rfl (by first | (go_simp; done) | (go_simp; rfl)) ?aP (fun _ hk => hk.elim) ?aF ?aO ?aB ?aS ?aL ?_; (case aP => exact k56_mkM _ _ _ (⟨(rd_T56 l0 (ji3)).f0, (rd_T56 l0 (ji3)).f1⟩ : S56)); (case aB => exact (by repeat (first | (with_reducible first | exact HB.out | apply below_alloc | apply pw_below_drewN | apply below_drew1 | refine below_set ?_ GE102.out) | exact HB.out))); (case aF => exact (fun k_ hk => Kd.freshB (g := gb102) (o := .cells #[.int .i64 ((rd_T56 l0 (ji3)).f0), .int .i64 ((rd_T56 l0 (ji3)).f1)] 56 (0, 0)) (by (with_reducible repeat (first | refine blk_drewN ?_ _ | refine blk_drew ?_ | refine blk_alloc ?_ _)); refine blk_put (cs := #[.int .i64 ((rd_T56 l0 (ji3)).f0), .int .i64 0]) ?_ 1 _ rfl; (with_reducible repeat (first | refine blk_drewN ?_ _ | refine blk_drew ?_ | refine blk_alloc ?_ _)); refine blk_put (cs := #[.int .i64 0, .int .i64 0]) ?_ 0 _ rfl; (with_reducible repeat (first | refine blk_drewN ?_ _ | refine blk_drew ?_ | refine blk_alloc ?_ _)); exact BK102.out) k_ hk)); (case aO => exact (by (with_reducible repeat (first | apply Kd.R_alloc | apply Kd.R_drewN | apply Kd.R_drew)); exact Kd.R_mono (Kd.R_far (p := ⟨gb102, 1, none⟩) (Kd.R_far (p := ⟨gb102, 0, none⟩) (Kd.R_mono HO_3.out (fun k_ hk => (⟨hk, hk.2⟩ : _ ∧ k_ ≠ gb102))) (fun _ hk => hk.2) (.int .i64 ((rd_T56 l0 (ji3)).f0))) (fun _ hk => hk.2) (.int .i64 ((rd_T56 l0 (ji3)).f1))) (fun _ hk => hk.1.2))); (case aS => exact (below_size (by repeat (first | (with_reducible first | exact HB.out | apply below_alloc | apply pw_below_drewN | apply below_drew1 | refine below_set ?_ GE102.out) | exact HB.out)))); (case aL => have := LMc12.out; omega); intro v107 w15 ho hb hg hat; rw [← Ny106.out] at ho; have n0_ := Aside0.mk (blk_grown (g := gb102) (o := .cells #[.int .i64 ((rd_T56 l0 (ji3)).f0), .int .i64 ((rd_T56 l0 (ji3)).f1)] 56 (0, 0)) (by (with_reducible repeat (first | refine blk_drewN ?_ _ | refine blk_drew ?_ | refine blk_alloc ?_ _)); refine blk_put (cs := #[.int .i64 ((rd_T56 l0 (ji3)).f0), .int .i64 0]) ?_ 1 _ rfl; (with_reducible repeat (first | refine blk_drewN ?_ _ | refine blk_drew ?_ | refine blk_alloc ?_ _)); refine blk_put (cs := #[.int .i64 0, .int .i64 0]) ?_ 0 _ rfl; (with_reducible repeat (first | refine blk_drewN ?_ _ | refine blk_drew ?_ | refine blk_alloc ?_ _)); exact BK102.out) hg (Kd.R_away HO_3.out (fun _ hk => hk.2))); have n1_ := Aside0.mk (hb); have n2_ := Aside0.mk (ho); clear BK102; clear HB; clear HO_3; have BK102 := n0_; have HB := n1_; have HO108 := n2_; clear n0_ n1_ n2_; clear ho hb hg hat))
                  go_roundg k1
                  case measure => have := HK1.out; omega
                  case rel => exact ⟨(y106), (wrap64 (x8_1 + 1)), (by first | rfl | (simp; done) | (simp [*]; done)), H', ⟨by have := HK1.out; omega⟩, ⟨by (with_reducible repeat (first | apply Kd.R_alloc | apply Kd.R_drewN | apply Kd.R_drew)); exact Kd.R_mono HO108.out (fun _ hk => trivial)⟩, ⟨by repeat (first | (with_reducible first | exact HB.out | apply below_alloc | apply pw_below_drewN | apply below_drew1 | refine below_set ?_ GE102.out) | exact HB.out)⟩⟩
                · rw [if_neg c12] at H
                  exact absurd H (by simp)
            · rw [if_neg c6] at H
              have c6b0 : decide (1 ≤ ((rd_T56 l0 (ji3)).f0)) = false := decide_eq_false c6
              clear c6
              by_cases c16 : x3_1.length < 8796093022208
              · rw [if_pos c16] at H
                have LMc16 := Aside0.mk c16
                clear c16
                obtain ⟨y109, hy109⟩ : ∃ y_ : List (S56), y_ = (x3_1 ++ [(⟨(rd_T56 l0 (ji3)).f0, (rd_T56 l0 (ji3)).f1⟩ : S56)]) := ⟨_, rfl⟩
                replace H : (walk_Reverse.l0 k1 l0 y109 (l0.length : Int) (wrap64 (x8_1 + 1))) = some r := by first | (rw [hy109]; with_reducible exact H) | (have H2_ := (Option.bind_some _ _).symm.trans H; rw [hy109]; with_reducible exact H2_) | (have H2_ := (Option.bind_some _ _).symm.trans H; with_reducible exact H2_) | with_reducible exact H | (rw [hy109]; exact H) | exact H
                have Ny109 := Aside0.mk hy109
                clear hy109
                have H' := Aside0.mk H
                clear H
                have p101 : 0 ≤ ((ji3) : Int) := of_decide_eq_true (by first | (with_reducible assumption) | assumption)
                have q101 : (ji3) < (l0.length : Int) := of_decide_eq_true (by first | (with_reducible assumption) | assumption)
                obtain ⟨ad101, e101, hx101_0, hx101_1⟩ := at_T56 HR0.out (ji3) p101 q101
                cases e101
                replace hx101_0 := (HB.out.cell (World.block_lt_of_cell? w _ hx101_0)).trans hx101_0
                replace hx101_1 := (HB.out.cell (World.block_lt_of_cell? w _ hx101_1)).trans hx101_1
                replace p101 := eq_true p101
                replace q101 := eq_true q101
                go_wp2_with (first | ((with_reducible refine gate_dst (N := 5) rfl ?_); refine box_event ?hg (N := 5) ?hd (cs := #[.int .i64 0, .int .i64 0]) (t := 56) ?hr ?_; (case hd => rfl); (case hg => rfl); (case hr => first | (go_simp; done) | (go_simp; rfl)); intro gb102 hg w17 hbox hb; have n0_ := Aside0.mk (Kd.R_below (Kd.R_elderB (by (with_reducible repeat (first | apply Kd.R_alloc | apply Kd.R_drewN | apply Kd.R_drew)); exact HO_3.out) gb102 (Nat.le_of_eq hg.symm)) hb); have n1_ := Aside0.mk (below_step (by repeat (first | (with_reducible first | exact HB.out | apply below_alloc | apply pw_below_drewN | apply below_drew1) | exact HB.out)) hb); have n2_ := Aside0.mk (hbox); have n3_ := Aside0.mk ((by rw [hg]; exact (below_size (by repeat (first | (with_reducible first | exact HB.out | apply below_alloc | apply pw_below_drewN | apply below_drew1) | exact HB.out))) : w.heap.size ≤ gb102)); have n4_ := Aside0.mk ((by rw [hg]; exact (below_size (by repeat (first | (with_reducible first | exact HB.out | apply below_alloc | apply pw_below_drewN | apply below_drew1) | exact HB.out))) : w.heap.size ≤ gb102)); clear HO_3; clear HB; have HO_3 := n0_; have HB := n1_; have BK102 := n2_; have GW102 := n3_; have GE102 := n4_; clear n0_ n1_ n2_ n3_ n4_; clear hb hbox hg; have hcz18_0 : w17.cell? ⟨gb102, 0, none⟩ = some (.int .i64 0) := (blk_cell BK102.out 0).trans rfl; have hcz18_1 : w17.cell? ⟨gb102, 1, none⟩ = some (.int .i64 0) := (blk_cell BK102.out 1).trans rfl; have hfz18_0 := blk_frozen BK102.out 0; have hfz18_1 := blk_frozen BK102.out 1) | ((with_reducible refine gate_builtin (b := .append) (xs := #[.tmp 33, .tmp 35]) rfl ?_); at_builtin; refine Kd.R_append k56 (w0 := w) w.heap.size rfl (.tmp 33) (.tmp 35) 41 56 (.agg #[(.int .i64 0), (.int .i64 0)]) 16 rfl Try.underlying41 info56 rfl (by decide) (by omega) u3 x3_1 (⟨(rd_T56 l0 (ji3)).f0, (rd_T56 l0 (ji3)).f1⟩ : S56) [.int .i64 ((rd_T56 l0 (ji3)).f0), .int .i64 ((rd_T56 l0 (ji3)).f1)] (fun k_ => k_ ≠ gb102) (fun _ => False) rfl (by first | (go_simp; done) | (go_simp; rfl)) ?aP (fun _ hk => hk.elim) ?aF ?aO ?aB ?aS ?aL ?_; (case aP => exact k56_mkM _ _ _ (⟨(rd_T56 l0 (ji3)).f0, (rd_T56 l0 (ji3)).f1⟩ : S56)); (case aB => exact (by repeat (first | (with_reducible first | exact HB.out | apply below_alloc | apply pw_below_drewN | apply below_drew1 | refine below_set ?_ GE102.out) | exact HB.out))); (case aF => exact (fun k_ hk => Kd.freshB (g := gb102) (o := .cells #[.int .i64 ((rd_T56 l0 (ji3)).f0), .int .i64 ((rd_T56 l0 (ji3)).f1)] 56 (0, 0)) (by (with_reducible repeat (first | refine blk_drewN ?_ _ | refine blk_drew ?_ | refine blk_alloc ?_ _)); refine blk_put (cs := #[.int .i64 ((rd_T56 l0 (ji3)).f0), .int .i64 0]) ?_ 1 _ rfl; (with_reducible repeat (first | refine blk_drewN ?_ _ | refine blk_drew ?_ | refine blk_alloc ?_ _)); refine blk_put (cs := #[.int .i64 0, .int .i64 0]) ?_ 0 _ rfl; (with_reducible repeat (first | refine blk_drewN ?_ _ | refine blk_drew ?_ | refine blk_alloc ?_ _)); exact BK102.out) k_ hk)); (case aO => exact (by (with_reducible repeat (first | apply Kd.R_alloc | apply Kd.R_drewN | apply Kd.R_drew)); exact Kd.R_mono (Kd.R_far (p := ⟨gb102, 1, none⟩) (Kd.R_far (p := ⟨gb102, 0, none⟩) (Kd.R_mono HO_3.out (fun k_ hk => (⟨hk, hk.2⟩ : _ ∧ k_ ≠ gb102))) (fun _ hk => hk.2) (.int .i64 ((rd_T56 l0 (ji3)).f0))) (fun _ hk => hk.2) (.int .i64 ((rd_T56 l0 (ji3)).f1))) (fun _ hk => hk.1.2))); (case aS => exact (below_size (by repeat (first | (with_reducible first | exact HB.out | apply below_alloc | apply pw_below_drewN | apply below_drew1 | refine below_set ?_ GE102.out) | exact HB.out)))); (case aL => have := LMc16.out; omega); intro v110 w19 ho hb hg hat; rw [← Ny109.out] at ho; have n0_ := Aside0.mk (blk_grown (g := gb102) (o := .cells #[.int .i64 ((rd_T56 l0 (ji3)).f0), .int .i64 ((rd_T56 l0 (ji3)).f1)] 56 (0, 0)) (by (with_reducible repeat (first | refine blk_drewN ?_ _ | refine blk_drew ?_ | refine blk_alloc ?_ _)); refine blk_put (cs := #[.int .i64 ((rd_T56 l0 (ji3)).f0), .int .i64 0]) ?_ 1 _ rfl; (with_reducible repeat (first | refine blk_drewN ?_ _ | refine blk_drew ?_ | refine blk_alloc ?_ _)); refine blk_put (cs := #[.int .i64 0, .int .i64 0]) ?_ 0 _ rfl; (with_reducible repeat (first | refine blk_drewN ?_ _ | refine blk_drew ?_ | refine blk_alloc ?_ _)); exact BK102.out) hg (Kd.R_away HO_3.out (fun _ hk => hk.2))); have n1_ := Aside0.mk (hb); have n2_ := Aside0.mk (ho); clear BK102; clear HB; clear HO_3; have BK102 := n0_; have HB := n1_; have HO111 := n2_; clear n0_ n1_ n2_; clear ho hb hg hat))
                go_roundg k1
                case measure => have := HK1.out; omega
                case rel => exact ⟨(y109), (wrap64 (x8_1 + 1)), (by first | rfl | (simp; done) | (simp [*]; done)), H', ⟨by have := HK1.out; omega⟩, ⟨by (with_reducible repeat (first | apply Kd.R_alloc | apply Kd.R_drewN | apply Kd.R_drew)); exact Kd.R_mono HO111.out (fun _ hk => trivial)⟩, ⟨by repeat (first | (with_reducible first | exact HB.out | apply below_alloc | apply pw_below_drewN | apply below_drew1 | refine below_set ?_ GE102.out) | exact HB.out)⟩⟩
              · rw [if_neg c16] at H
                exact absurd H (by simp)
          · rw [if_neg c5] at H
            exact absurd H (by simp)
        · rw [if_neg c4] at H
          exact absurd H (by simp)
      · rw [if_neg c2] at H
        have c2b0 : decide (x8_1 < (l0.length : Int)) = false := decide_eq_false c2
        clear c2
        obtain rfl := Option.some.inj H
        go_wp2
        go_ret
        exact ⟨_, by first | rfl | (simp [errW_none, errW_some] <;> rfl) | (simp [*, errW_none, errW_some] <;> rfl), by (with_reducible repeat (first | apply Kd.R_alloc | apply Kd.R_drewN | apply Kd.R_drew)); exact HO_3.out, by repeat (first | (with_reducible first | exact HB.out | apply below_alloc | apply pw_below_drewN | apply below_drew1) | exact HB.out)⟩
end Go.Proofs.Ytpoghhcpoimepaa.P
end
section
-- printed by the session's own call of print.py. Not trusted: Lean checks it.
namespace Go.Proofs.Ytpoghhcpoimepaa.P
open Go.RowKit Go.Proofs.YtpoghhcpoimepaaW.PrintWords Go.Proofs.YtpoghhcpoimepaaW.PrintLast Go.Proofs.YtpoghhcpoimepaaW.PrintMore
attribute [local go_sem] max2_int min2_int max_two min_two max_three min_three max_four min_four
set_option linter.unusedVariables false
set_option linter.unusedSimpArgs false
/-! ### tallymanref05_Reverse: function 37 -/
def tallymanref05_Reverse.l0 : Nat → List (S56) → List (S56) → Int → Option ((List (S56)))
  | 0, _, _, _ => none
  | k + 1, x0, x3, x4 => if x4 ≥ 0 then (if 0 ≤ x4 then (if x4 < (x0.length : Int) then (if ((rd_T56 x0 x4).f0) = 1 then (if x3.length < 8796093022208 then (tallymanref05_Reverse.l0 k x0 (x3 ++ [(⟨2, (rd_T56 x0 x4).f1⟩ : S56)]) (wrap64 (x4 - 1))) else (none)) else (if ((rd_T56 x0 x4).f0) = 2 then (if x3.length < 8796093022208 then (tallymanref05_Reverse.l0 k x0 (x3 ++ [(⟨1, (rd_T56 x0 x4).f1⟩ : S56)]) (wrap64 (x4 - 1))) else (none)) else (if ((rd_T56 x0 x4).f0) = 3 then (if x3.length < 8796093022208 then (tallymanref05_Reverse.l0 k x0 (x3 ++ [(⟨4, (rd_T56 x0 x4).f1⟩ : S56)]) (wrap64 (x4 - 1))) else (none)) else (if ((rd_T56 x0 x4).f0) = 4 then (if x3.length < 8796093022208 then (tallymanref05_Reverse.l0 k x0 (x3 ++ [(⟨3, (rd_T56 x0 x4).f1⟩ : S56)]) (wrap64 (x4 - 1))) else (none)) else (if x3.length < 8796093022208 then (tallymanref05_Reverse.l0 k x0 (x3 ++ [(⟨(rd_T56 x0 x4).f0, (rd_T56 x0 x4).f1⟩ : S56)]) (wrap64 (x4 - 1))) else (none)))))) else (none)) else (none)) else (some x3)
def tallymanref05_Reverse.f (k : Nat) (l0 : List (S56)) : Option ((List (S56))) := tallymanref05_Reverse.l0 k l0 ([] : List (S56)) (wrap64 ((l0.length : Int) - 1))
theorem tallymanref05_Reverse.mono_l : ∀ k, (∀ y0 y1 y2, LeO (tallymanref05_Reverse.l0 k y0 y1 y2) (tallymanref05_Reverse.l0 (k + 1) y0 y1 y2))
  | 0 => fun _ _ _ r h => by simp [tallymanref05_Reverse.l0] at h
  | k + 1 => by
    have ih0 := tallymanref05_Reverse.mono_l k
    · intro y0 y1 y2
      unfold tallymanref05_Reverse.l0
      repeat' first
      | (with_reducible exact ih0 _ _ _)
      | (with_reducible exact LeO.refl _)
      | (with_reducible exact LeO.none _)
      | (with_reducible refine LeO.ite ?_ ?_)
      | (with_reducible refine LeO.bind ?_ (fun _ => ?_))
      | exact ih0 _ _ _
      | exact LeO.none _
      | refine LeO.ite ?_ ?_
      | refine LeO.bind ?_ (fun _ => ?_)
theorem tallymanref05_Reverse.mono : ∀ a0 k, LeO (tallymanref05_Reverse.f k a0) (tallymanref05_Reverse.f (k + 1) a0) := by
  intro a0 k
  have ih0 := tallymanref05_Reverse.mono_l k
  unfold tallymanref05_Reverse.f
  repeat' first
      | (with_reducible exact ih0 _ _ _)
      | (with_reducible exact LeO.refl _)
      | (with_reducible exact LeO.none _)
      | (with_reducible refine LeO.ite ?_ ?_)
      | (with_reducible refine LeO.bind ?_ (fun _ => ?_))
      | exact ih0 _ _ _
      | exact LeO.none _
      | refine LeO.ite ?_ ?_
      | refine LeO.bind ?_ (fun _ => ?_)
end Go.Proofs.Ytpoghhcpoimepaa.P
end
section
/- Walks: the other way round (plain). -/
namespace Go.Proofs.Ytpoghhcpoimepaa.P
open Go.Proofs.Ytpoghhcpoimepaa.B Go.RowKit Go.Proofs.YtpoghhcpoimepaaW.PrintWords Go.Proofs.YtpoghhcpoimepaaW.PrintLast Go.Proofs.YtpoghhcpoimepaaW.PrintMore
set_option linter.unusedVariables false
set_option linter.unusedSimpArgs false
def flipV (m : S56) : S56 := if m.f0 = 1 then ⟨2, m.f1⟩ else if m.f0 = 2 then ⟨1, m.f1⟩ else if m.f0 = 3 then ⟨4, m.f1⟩ else if m.f0 = 4 then ⟨3, m.f1⟩ else m
def revV (l : List S56) : List S56 := l.reverse.map flipV
theorem flip_code (k : Int) (h1 : k ≥ 1) (h4 : k ≤ 4) : wrap64 (Go.bits .xor .i64 (wrap64 (k - 1)) 1 + 1) = (flipV ⟨k, 0⟩).f0 := by
  have hk : k = 1 ∨ k = 2 ∨ k = 3 ∨ k = 4 := by omega
  rcases hk with h | h | h | h <;> subst h <;> decide +kernel
theorem flip_eta (m : S56) (k : Int) (h : (flipV ⟨m.f0, 0⟩).f0 = k) : flipV m = ⟨k, m.f1⟩ := by
  obtain ⟨a, b⟩ := m
  subst h
  unfold flipV
  simp only []
  (repeat' split) <;> rfl
theorem rev_loop (l : List S56) (hl : l.length ≤ 1000) : ∀ (d i : Nat) (acc : List S56), i + d = l.length → acc.length = i → acc ++ (revV l).drop i = revV l → Ev (fun k => walk_Reverse.l0 k l acc (l.length : Int) (i : Int)) (revV l) := by
  have hrl : (revV l).length = l.length := by unfold revV; rw [List.length_map, List.length_reverse]
  intro d
  induction d with
  | zero =>
    intro i acc hi ha he
    rw [List.drop_eq_nil_of_le (by omega), List.append_nil] at he
    rw [he]
    refine Ev.step (fun k => ?_) (Ev.now _)
    rw [walk_Reverse.l0, if_neg (by omega)]
  | succ d ih =>
    intro i acc hi ha he
    have hlt : i < (revV l).length := by omega
    have hlt2 : l.length - 1 - i < l.length := by omega
    rw [List.drop_eq_getElem_cons hlt] at he
    have hgi : (revV l)[i] = flipV l[l.length - 1 - i] := by simp only [revV, List.getElem_map, List.getElem_reverse]
    have ih' := ih (i + 1) (acc ++ [(revV l)[i]]) (by omega) (by rw [List.length_append, ha]; rfl) (by rw [List.append_assoc]; exact he)
    rw [hgi] at ih'
    have e1 : wrap64 (wrap64 ((l.length : Int) - 1) - (i : Int)) = ((l.length - 1 - i : Nat) : Int) := by
      rw [w64_id (x := (l.length : Int) - 1) (by omega) (by omega), w64_id (by omega) (by omega)]
      omega
    have w1 : wrap64 ((i : Int) + 1) = ((i + 1 : Nat) : Int) := by rw [w64_id (by omega) (by omega)]; rfl
    have hr := rd56 l (l.length - 1 - i) hlt2
    refine Ev.step (fun k => by rw [walk_Reverse.l0, if_pos (by omega), e1, if_pos (by omega), if_pos (by omega), hr, w1]) ?_
    generalize l[l.length - 1 - i] = m at *
    by_cases h1 : m.f0 ≥ 1
    · refine Ev.congr (fun k => if_pos h1) ?_
      by_cases h4 : m.f0 ≤ 4
      · refine Ev.congr (fun k => if_pos h4) (Ev.congr (fun k => if_pos (by omega)) ?_)
        rw [flip_code m.f0 h1 h4, ← flip_eta m _ rfl]
        exact ih'
      · refine Ev.congr (fun k => if_neg h4) (Ev.congr (fun k => if_pos (by omega)) ?_)
        rw [show flipV m = m from by unfold flipV; rw [if_neg (by omega), if_neg (by omega), if_neg (by omega), if_neg (by omega)]] at ih'
        exact ih'
    · refine Ev.congr (fun k => if_neg h1) (Ev.congr (fun k => if_pos (by omega)) ?_)
      rw [show flipV m = m from by unfold flipV; rw [if_neg (by omega), if_neg (by omega), if_neg (by omega), if_neg (by omega)]] at ih'
      exact ih'
theorem rev_code (l : List S56) (hl : l.length ≤ 1000) : Ev (fun k => walk_Reverse.f k l) (revV l) := rev_loop l hl l.length 0 [] (by omega) rfl (by rw [List.drop_zero, List.nil_append])
end Go.Proofs.Ytpoghhcpoimepaa.P
end
section
-- printed by the session's own call of print.py. Not trusted: Lean checks it.
namespace Go.Proofs.Ytpoghhcpoimepaa.P
open Go.RowKit Go.Proofs.YtpoghhcpoimepaaW.PrintWords Go.Proofs.YtpoghhcpoimepaaW.PrintLast Go.Proofs.YtpoghhcpoimepaaW.PrintMore
attribute [local go_sem] max2_int min2_int max_two min_two max_three min_three max_four min_four
set_option linter.unusedVariables false
set_option linter.unusedSimpArgs false
/-! ### tallymanref05_Near: function 38 -/
mutual
def tallymanref05_Near.l0 : Nat → List (S56) → Int → Int → Int → Option (Bool)
  | 0, _, _, _, _ => none
  | k + 1, x0, x1, x5, x6 => if x6 < (x0.length : Int) then (if 0 ≤ x6 then (if ((rd_T56 x0 x6).f0) = 1 then (tallymanref05_Near.j1 k x0 x1 x5 x6 true) else (tallymanref05_Near.j1 k x0 x1 x5 x6 (((rd_T56 x0 x6).f0) == 2))) else (none)) else (some true)
def tallymanref05_Near.j1 : Nat → List (S56) → Int → Int → Int → Bool → Option (Bool)
  | 0, _, _, _, _, _ => none
  | k + 1, x0, x1, x5, x6, x26 => if x26 = true then (if 0 ≤ x6 then (if x6 < (x0.length : Int) then ((tallymanref05_count.f ((rd_T56 x0 x6).f0) ((rd_T56 x0 x6).f1)).bind fun t104 => (if (wrap64 (x5 + t104)) > x1 then (some false) else (tallymanref05_Near.l0 k x0 x1 (wrap64 (x5 + t104)) (wrap64 (x6 + 1))))) else (none)) else (none)) else (if x5 > x1 then (some false) else (tallymanref05_Near.l0 k x0 x1 x5 (wrap64 (x6 + 1))))
end
def tallymanref05_Near.f (k : Nat) (l0 : List (S56)) (a1 : Int) : Option (Bool) := tallymanref05_Near.l0 k l0 a1 0 0
theorem tallymanref05_Near.mono_l : ∀ k, (∀ y0 y1 y2 y3, LeO (tallymanref05_Near.l0 k y0 y1 y2 y3) (tallymanref05_Near.l0 (k + 1) y0 y1 y2 y3)) ∧ (∀ y0 y1 y2 y3 y4, LeO (tallymanref05_Near.j1 k y0 y1 y2 y3 y4) (tallymanref05_Near.j1 (k + 1) y0 y1 y2 y3 y4))
  | 0 => ⟨fun _ _ _ _ r h => by simp [tallymanref05_Near.l0] at h, fun _ _ _ _ _ r h => by simp [tallymanref05_Near.j1] at h⟩
  | k + 1 => by
    obtain ⟨ih0, ih1⟩ := tallymanref05_Near.mono_l k
    refine ⟨?_, ?_⟩
    · intro y0 y1 y2 y3
      unfold tallymanref05_Near.l0
      repeat' first
      | (with_reducible exact ih0 _ _ _ _)
      | (with_reducible exact ih1 _ _ _ _ _)
      | (with_reducible exact LeO.refl _)
      | (with_reducible exact LeO.none _)
      | (with_reducible refine LeO.ite ?_ ?_)
      | (with_reducible refine LeO.bind ?_ (fun _ => ?_))
      | exact ih0 _ _ _ _
      | exact ih1 _ _ _ _ _
      | exact LeO.none _
      | refine LeO.ite ?_ ?_
      | refine LeO.bind ?_ (fun _ => ?_)
    · intro y0 y1 y2 y3 y4
      unfold tallymanref05_Near.j1
      repeat' first
      | (with_reducible exact ih0 _ _ _ _)
      | (with_reducible exact ih1 _ _ _ _ _)
      | (with_reducible exact LeO.refl _)
      | (with_reducible exact LeO.none _)
      | (with_reducible refine LeO.ite ?_ ?_)
      | (with_reducible refine LeO.bind ?_ (fun _ => ?_))
      | exact ih0 _ _ _ _
      | exact ih1 _ _ _ _ _
      | exact LeO.none _
      | refine LeO.ite ?_ ?_
      | refine LeO.bind ?_ (fun _ => ?_)
theorem tallymanref05_Near.mono : ∀ a0 a1 k, LeO (tallymanref05_Near.f k a0 a1) (tallymanref05_Near.f (k + 1) a0 a1) := by
  intro a0 a1 k
  obtain ⟨ih0, ih1⟩ := tallymanref05_Near.mono_l k
  unfold tallymanref05_Near.f
  repeat' first
      | (with_reducible exact ih0 _ _ _ _)
      | (with_reducible exact ih1 _ _ _ _ _)
      | (with_reducible exact LeO.refl _)
      | (with_reducible exact LeO.none _)
      | (with_reducible refine LeO.ite ?_ ?_)
      | (with_reducible refine LeO.bind ?_ (fun _ => ?_))
      | exact ih0 _ _ _ _
      | exact ih1 _ _ _ _ _
      | exact LeO.none _
      | refine LeO.ite ?_ ?_
      | refine LeO.bind ?_ (fun _ => ?_)
set_option maxHeartbeats 8000000 in
set_option maxRecDepth 100000 in
theorem tallymanref05_Near.calls (k : Nat) (A0 : Option Addr) (c0 : Nat) (l0 : List (S56)) (a1 : Int) (r : Bool) (w : World) (hr0 : Kd.C k56 w A0 l0.length l0) (hc0 : l0.length ≤ c0) (h : tallymanref05_Near.f k l0 a1 = some r) :
    Calls Try.prog 38 #[.slice A0 l0.length c0, .int .i64 a1] w fun e w' => e = .returned (.bool r) ∧ Below w.heap.size w w' := by
  have hu56 := Try.underlying56
  have HR0 := Aside0.mk hr0
  have HC0 := Aside0.mk hc0
  clear hr0 hc0
  have HB := Aside0.mk (Below.refl w.heap.size w)
  have H : (tallymanref05_Near.l0 k l0 a1 0 0) = some r := h
  clear h
  have H' := Aside0.mk H
  clear H
  go_enter Try.func38, Try.ntmps38
  go_wp2
  go_loopg [5, 6] k (fun kq v5 v6 w' => ∃ (x5_1 : Int) (x6_1 : Int), v5 = .int .i64 x5_1 ∧ v6 = .int .i64 x6_1 ∧ Aside0 (tallymanref05_Near.l0 kq l0 a1 x5_1 x6_1 = some r) ∧ Aside0 (kq ≤ k) ∧ Aside0 (Below w.heap.size w w'))
  case atStart => exact ⟨(0), (0), (by first | rfl | (simp; done) | (simp [*]; done)), (by first | rfl | (simp; done) | (simp [*]; done)), H', ⟨Nat.le_refl _⟩, ⟨by repeat (first | (with_reducible first | exact HB.out | apply below_alloc | apply pw_below_drewN | apply below_drew1) | exact HB.out)⟩⟩
  case round =>
    clear H'
    try clear p2
    obtain ⟨x5_1, x6_1, rfl, rfl, HA, HK1, HB⟩ := hrel
    cases gk with
    | zero => exact absurd HA.out (by simp [tallymanref05_Near.l0])
    | succ k1 =>
      have H := HA.out
      clear HA
      simp only [tallymanref05_Near.l0] at H
      by_cases c3 : x6_1 < (l0.length : Int)
      · rw [if_pos c3] at H
        have c3b0 : decide (x6_1 < (l0.length : Int)) = true := decide_eq_true c3
        clear c3
        have HC4 := Aside0.mk H
        clear H
        go_upto_region 5 with (fail)
        go_cut [26] (fun v26 wc => ∃ (kq : Nat) (x26_3 : Bool), v26 = .bool x26_3 ∧ Aside0 (tallymanref05_Near.j1 kq l0 a1 x5_1 x6_1 x26_3 = some r) ∧ Aside0 (kq ≤ k1) ∧ Aside0 (Below w.heap.size w wc))
        case first =>
          have H := HC4.out
          clear HC4
          by_cases c5 : 0 ≤ x6_1
          · rw [if_pos c5] at H
            have c5b0 : decide (0 ≤ x6_1) = true := decide_eq_true c5
            clear c5
            (first | rw [c5b0] | (simp only [i64_w, i32_w]; rw [c5b0]) | skip)
            by_cases c6 : ((rd_T56 l0 x6_1).f0) = 1
            · rw [if_pos c6] at H
              have c6b0 : (((rd_T56 l0 x6_1).f0) == 1) = true := beq_iff_eq.mpr c6
              have c6b1 : (((rd_T56 l0 x6_1).f0) != 1) = false := bne_eq_false_iff_eq.mpr c6
              clear c6
              have H' := Aside0.mk H
              clear H
              have p101 : 0 ≤ (x6_1 : Int) := of_decide_eq_true (by first | (with_reducible assumption) | assumption)
              have q101 : x6_1 < (l0.length : Int) := of_decide_eq_true (by first | (with_reducible assumption) | assumption)
              obtain ⟨ad101, e101, hx101_0, hx101_1⟩ := at_T56 HR0.out x6_1 p101 q101
              cases e101
              replace hx101_0 := (HB.out.cell (World.block_lt_of_cell? w _ hx101_0)).trans hx101_0
              replace hx101_1 := (HB.out.cell (World.block_lt_of_cell? w _ hx101_1)).trans hx101_1
              replace p101 := eq_true p101
              replace q101 := eq_true q101
              go_wp2
              go_meet
              case rel => exact ⟨_, (true), (by first | rfl | (simp; done) | (simp [*]; done)), H', ⟨by have := HK1.out; first | omega | exact Nat.le_refl _⟩, ⟨by repeat (first | (with_reducible first | exact HB.out | apply below_alloc | apply pw_below_drewN | apply below_drew1) | exact HB.out)⟩⟩
            · rw [if_neg c6] at H
              have c6b0 : (((rd_T56 l0 x6_1).f0) == 1) = false := beq_eq_false_iff_ne.mpr c6
              have c6b1 : (((rd_T56 l0 x6_1).f0) != 1) = true := bne_iff_ne.mpr c6
              have H' := Aside0.mk H
              clear H
              have p101 : 0 ≤ (x6_1 : Int) := of_decide_eq_true (by first | (with_reducible assumption) | assumption)
              have q101 : x6_1 < (l0.length : Int) := of_decide_eq_true (by first | (with_reducible assumption) | assumption)
              obtain ⟨ad101, e101, hx101_0, hx101_1⟩ := at_T56 HR0.out x6_1 p101 q101
              cases e101
              replace hx101_0 := (HB.out.cell (World.block_lt_of_cell? w _ hx101_0)).trans hx101_0
              replace hx101_1 := (HB.out.cell (World.block_lt_of_cell? w _ hx101_1)).trans hx101_1
              replace p101 := eq_true p101
              replace q101 := eq_true q101
              have p102 : 0 ≤ (x6_1 : Int) := of_decide_eq_true (by first | (with_reducible assumption) | assumption)
              have q102 : x6_1 < (l0.length : Int) := of_decide_eq_true (by first | (with_reducible assumption) | assumption)
              obtain ⟨ad102, e102, hx102_0, hx102_1⟩ := at_T56 HR0.out x6_1 p102 q102
              obtain rfl : ad101 = ad102 := (by injection e102)
              replace hx102_0 := (HB.out.cell (World.block_lt_of_cell? w _ hx102_0)).trans hx102_0
              replace hx102_1 := (HB.out.cell (World.block_lt_of_cell? w _ hx102_1)).trans hx102_1
              replace p102 := eq_true p102
              replace q102 := eq_true q102
              go_wp2
              go_meet
              case rel => exact ⟨_, ((((rd_T56 l0 x6_1).f0) == 2)), (by first | rfl | (simp; done) | (simp [*]; done)), H', ⟨by have := HK1.out; first | omega | exact Nat.le_refl _⟩, ⟨by repeat (first | (with_reducible first | exact HB.out | apply below_alloc | apply pw_below_drewN | apply below_drew1) | exact HB.out)⟩⟩
          · rw [if_neg c5] at H
            exact absurd H (by simp)
        case rest =>
          clear HC4
          try clear p1
          try clear q1
          try clear hx1
          try clear p2
          try clear c3
          try clear c3b0
          try clear c5
          try clear c5b0
          try clear c6
          try clear c6b0
          try clear c6b1
          try clear hx101_0
          try clear hx101_1
          try clear hx102_0
          try clear hx102_1
          try clear p101
          try clear p102
          try clear p2
          try clear q101
          try clear q102
          obtain ⟨kq, x26_3, rfl, HA, HJ3, HB⟩ := hcut
          cases kq with
          | zero => exact absurd HA.out (by simp [tallymanref05_Near.j1])
          | succ kj3 =>
            have H := HA.out
            clear HA
            simp only [tallymanref05_Near.j1] at H
            by_cases c7 : x26_3 = true
            · subst c7
              have H1 : (if 0 ≤ x6_1 then (if x6_1 < (l0.length : Int) then ((tallymanref05_count.f ((rd_T56 l0 x6_1).f0) ((rd_T56 l0 x6_1).f1)).bind fun t104 => (if (wrap64 (x5_1 + t104)) > a1 then (some false) else (tallymanref05_Near.l0 kj3 l0 a1 (wrap64 (x5_1 + t104)) (wrap64 (x6_1 + 1))))) else (none)) else (none)) = some r := by rw [if_pos rfl] at H; exact H
              clear H
              have H := H1
              clear H1
              by_cases c8 : 0 ≤ x6_1
              · rw [if_pos c8] at H
                have c8b0 : decide (0 ≤ x6_1) = true := decide_eq_true c8
                clear c8
                by_cases c9 : x6_1 < (l0.length : Int)
                · rw [if_pos c9] at H
                  have c9b0 : decide (x6_1 < (l0.length : Int)) = true := decide_eq_true c9
                  clear c9
                  replace H := Option.bind_eq_some_iff.mp H
                  obtain ⟨t104, A100, H⟩ := H
                  replace H : (if (wrap64 (x5_1 + t104)) > a1 then (some false) else (tallymanref05_Near.l0 kj3 l0 a1 (wrap64 (x5_1 + t104)) (wrap64 (x6_1 + 1)))) = some r := H
                  have A10 := Aside0.mk A100
                  clear A100
                  by_cases c11 : (wrap64 (x5_1 + t104)) > a1
                  · rw [if_pos c11] at H
                    have c11b0 : decide (a1 < (wrap64 (x5_1 + t104))) = true := decide_eq_true c11
                    clear c11
                    obtain rfl := Option.some.inj H
                    have p103 : 0 ≤ (x6_1 : Int) := of_decide_eq_true (by first | (with_reducible assumption) | assumption)
                    have q103 : x6_1 < (l0.length : Int) := of_decide_eq_true (by first | (with_reducible assumption) | assumption)
                    obtain ⟨ad103, e103, hx103_0, hx103_1⟩ := at_T56 HR0.out x6_1 p103 q103
                    cases e103
                    replace hx103_0 := (HB.out.cell (World.block_lt_of_cell? w _ hx103_0)).trans hx103_0
                    replace hx103_1 := (HB.out.cell (World.block_lt_of_cell? w _ hx103_1)).trans hx103_1
                    replace p103 := eq_true p103
                    replace q103 := eq_true q103
                    go_wp2_with (first | ((with_reducible refine gate_callee (f := 65) rfl ?_); refine goesL_ (some 32) rfl rfl Try.func65 (by kernel_rfl) rfl #[.agg #[.int .i64 ((rd_T56 l0 x6_1).f0), .int .i64 ((rd_T56 l0 x6_1).f1)]] rfl (by (try simp only [List.map_toArray, List.map_cons, List.map_nil]); first | done | rfl | (simp only [List.length_drop, List.length_take]; rfl)) ?_; (with_reducible refine (tallymanref05_count.calls ((rd_T56 l0 x6_1).f0) ((rd_T56 l0 x6_1).f1) t104 _ A10.out).mono ?_); rintro e w12 ⟨rfl, hb⟩; refine ⟨_, rfl, ?_⟩; have n0_ := Aside0.mk (below_step (by repeat (first | (with_reducible first | exact HB.out | apply below_alloc | apply pw_below_drewN | apply below_drew1) | exact HB.out)) hb); clear HB; have HB := n0_; clear n0_; (try clear hb); (try clear hb2); (try clear hk); (try clear hi)))
                    go_ret
                    exact ⟨by first | rfl | ((repeat first | rw [Int.tdiv_eq_ediv_of_nonneg (by omega)] | rw [Int.tmod_eq_emod_of_nonneg (by omega)]); rfl) | (simp [errW_none, errW_some] <;> rfl) | (simp [*, errW_none, errW_some] <;> rfl), by repeat (first | (with_reducible first | exact HB.out | apply below_alloc | apply pw_below_drewN | apply below_drew1) | exact HB.out)⟩
                  · rw [if_neg c11] at H
                    have c11b0 : decide (a1 < (wrap64 (x5_1 + t104))) = false := decide_eq_false c11
                    clear c11
                    have H' := Aside0.mk H
                    clear H
                    have p103 : 0 ≤ (x6_1 : Int) := of_decide_eq_true (by first | (with_reducible assumption) | assumption)
                    have q103 : x6_1 < (l0.length : Int) := of_decide_eq_true (by first | (with_reducible assumption) | assumption)
                    obtain ⟨ad103, e103, hx103_0, hx103_1⟩ := at_T56 HR0.out x6_1 p103 q103
                    cases e103
                    replace hx103_0 := (HB.out.cell (World.block_lt_of_cell? w _ hx103_0)).trans hx103_0
                    replace hx103_1 := (HB.out.cell (World.block_lt_of_cell? w _ hx103_1)).trans hx103_1
                    replace p103 := eq_true p103
                    replace q103 := eq_true q103
                    go_wp2_with (first | ((with_reducible refine gate_callee (f := 65) rfl ?_); refine goesL_ (some 32) rfl rfl Try.func65 (by kernel_rfl) rfl #[.agg #[.int .i64 ((rd_T56 l0 x6_1).f0), .int .i64 ((rd_T56 l0 x6_1).f1)]] rfl (by (try simp only [List.map_toArray, List.map_cons, List.map_nil]); first | done | rfl | (simp only [List.length_drop, List.length_take]; rfl)) ?_; (with_reducible refine (tallymanref05_count.calls ((rd_T56 l0 x6_1).f0) ((rd_T56 l0 x6_1).f1) t104 _ A10.out).mono ?_); rintro e w13 ⟨rfl, hb⟩; refine ⟨_, rfl, ?_⟩; have n0_ := Aside0.mk (below_step (by repeat (first | (with_reducible first | exact HB.out | apply below_alloc | apply pw_below_drewN | apply below_drew1) | exact HB.out)) hb); clear HB; have HB := n0_; clear n0_; (try clear hb); (try clear hb2); (try clear hk); (try clear hi)))
                    go_roundg kj3
                    case measure => have := HK1.out; have := HJ3.out; omega
                    case rel => exact ⟨(wrap64 (x5_1 + t104)), (wrap64 (x6_1 + 1)), (by first | rfl | (simp; done) | (simp [*]; done)), (by first | rfl | (simp; done) | (simp [*]; done)), H', ⟨by have := HK1.out; have := HJ3.out; omega⟩, ⟨by repeat (first | (with_reducible first | exact HB.out | apply below_alloc | apply pw_below_drewN | apply below_drew1) | exact HB.out)⟩⟩
                · rw [if_neg c9] at H
                  exact absurd H (by simp)
              · rw [if_neg c8] at H
                exact absurd H (by simp)
            · replace c7 := Bool.eq_false_iff.mpr c7
              subst c7
              have H1 : (if x5_1 > a1 then (some false) else (tallymanref05_Near.l0 kj3 l0 a1 x5_1 (wrap64 (x6_1 + 1)))) = some r := by rw [if_neg (show ¬ (false = true) by decide)] at H; exact H
              clear H
              have H := H1
              clear H1
              by_cases c14 : x5_1 > a1
              · rw [if_pos c14] at H
                have c14b0 : decide (a1 < x5_1) = true := decide_eq_true c14
                clear c14
                obtain rfl := Option.some.inj H
                go_wp2
                go_ret
                exact ⟨by first | rfl | ((repeat first | rw [Int.tdiv_eq_ediv_of_nonneg (by omega)] | rw [Int.tmod_eq_emod_of_nonneg (by omega)]); rfl) | (simp [errW_none, errW_some] <;> rfl) | (simp [*, errW_none, errW_some] <;> rfl), by repeat (first | (with_reducible first | exact HB.out | apply below_alloc | apply pw_below_drewN | apply below_drew1) | exact HB.out)⟩
              · rw [if_neg c14] at H
                have c14b0 : decide (a1 < x5_1) = false := decide_eq_false c14
                clear c14
                have H' := Aside0.mk H
                clear H
                go_wp2
                go_roundg kj3
                case measure => have := HK1.out; have := HJ3.out; omega
                case rel => exact ⟨(x5_1), (wrap64 (x6_1 + 1)), (by first | rfl | (simp; done) | (simp [*]; done)), (by first | rfl | (simp; done) | (simp [*]; done)), H', ⟨by have := HK1.out; have := HJ3.out; omega⟩, ⟨by repeat (first | (with_reducible first | exact HB.out | apply below_alloc | apply pw_below_drewN | apply below_drew1) | exact HB.out)⟩⟩
      · rw [if_neg c3] at H
        have c3b0 : decide (x6_1 < (l0.length : Int)) = false := decide_eq_false c3
        clear c3
        obtain rfl := Option.some.inj H
        go_wp2
        go_ret
        exact ⟨by first | rfl | ((repeat first | rw [Int.tdiv_eq_ediv_of_nonneg (by omega)] | rw [Int.tmod_eq_emod_of_nonneg (by omega)]); rfl) | (simp [errW_none, errW_some] <;> rfl) | (simp [*, errW_none, errW_some] <;> rfl), by repeat (first | (with_reducible first | exact HB.out | apply below_alloc | apply pw_below_drewN | apply below_drew1) | exact HB.out)⟩
end Go.Proofs.Ytpoghhcpoimepaa.P
end
section
/- Walks: what a short walk is (plain). -/
namespace Go.Proofs.Ytpoghhcpoimepaa.P
open Go.Proofs.Ytpoghhcpoimepaa.B Go.RowKit Go.Proofs.YtpoghhcpoimepaaW.PrintWords Go.Proofs.YtpoghhcpoimepaaW.PrintLast Go.Proofs.YtpoghhcpoimepaaW.PrintMore
set_option linter.unusedVariables false
set_option linter.unusedSimpArgs false
theorem tot_app : ∀ a b : List S95, tot (a ++ b) = tot a + tot b
  | [], b => by simp [tot]
  | x :: a, b => by rw [List.cons_append, tot, tot, tot_app a b]; omega
theorem plainL_snoc (l : List S56) (m : S56) : plainL (l ++ [m]) = plainL l ++ [plainV m.f0 m.f1] := by unfold plainL; rw [List.map_append]; rfl
theorem tot_take (l : List S56) (i : Nat) : tot (plainL (l.take i)) ≤ tot (plainL l) := by
  have : plainL l = plainL (l.take i) ++ plainL (l.drop i) := by unfold plainL; rw [← List.map_append, List.take_append_drop]
  rw [this, tot_app]; omega
theorem plain_abs (k n : Int) : (plainV k n).f0.natAbs = if k = 1 ∨ k = 2 then ofV k n else 0 := by
  unfold plainV
  by_cases c1 : k = 1
  · rw [if_pos c1, if_pos (.inl c1)]; simp
  · by_cases c2 : k = 2
    · rw [if_neg c1, if_pos c2, if_pos (.inr c2)]; simp
    · rw [if_neg c1, if_neg c2]
      rw [show (if k = 1 ∨ k = 2 then ofV k n else 0) = 0 from if_neg (by omega)]
      split
      · rfl
      · split <;> rfl
theorem near_loop (l : List S56) (hl : l.length ≤ 1000) : ∀ (d i : Nat), i + d = l.length → tot (plainL (l.take i)) ≤ 250 → Ev (fun k => tallymanref05_Near.l0 k l 250 (tot (plainL (l.take i)) : Int) (i : Int)) (decide (tot (plainL l) ≤ 250)) := by
  intro d
  induction d with
  | zero =>
    intro i hi ht
    obtain rfl : i = l.length := by omega
    rw [List.take_length] at ht ⊢
    rw [decide_eq_true ht]
    refine Ev.step (fun k => ?_) (Ev.now _)
    rw [tallymanref05_Near.l0, if_neg (by omega)]
  | succ d ih =>
    intro i hi ht
    have hlt : i < l.length := by omega
    have w1 : wrap64 ((i : Int) + 1) = ((i + 1 : Nat) : Int) := by rw [w64_id (by omega) (by omega)]; rfl
    have hr := rd56 l i hlt
    have hsn : tot (plainL (l.take (i + 1))) = tot (plainL (l.take i)) + (if l[i].f0 = 1 ∨ l[i].f0 = 2 then ofV l[i].f0 l[i].f1 else 0) := by
      rw [take_more l i hlt, plainL_snoc, tot_app, tot, tot, plain_abs]; omega
    have htk := tot_take l (i + 1)
    have ih' := ih (i + 1) (by omega)
    rw [hsn] at ih' htk
    have hle := ofV_le l[i].f0 l[i].f1
    have go : ∀ b : Bool, (b = true ↔ l[i].f0 = 1 ∨ l[i].f0 = 2) → Ev (fun k => tallymanref05_Near.j1 k l 250 (tot (plainL (l.take i)) : Int) (i : Int) b) (decide (tot (plainL l) ≤ 250)) := by
      intro b hb
      by_cases h : l[i].f0 = 1 ∨ l[i].f0 = 2
      · rw [hb.2 h]
        rw [if_pos h] at ih' htk
        refine Ev.step (fun k => by rw [tallymanref05_Near.j1, if_pos rfl, if_pos (by omega), if_pos (by omega), hr, count_v, Option.bind_some, w1, w64_id (x := (tot (plainL (l.take i)) : Int) + (ofV l[i].f0 l[i].f1 : Int)) (by omega) (by omega)]) ?_
        by_cases h2 : tot (plainL (l.take i)) + ofV l[i].f0 l[i].f1 ≤ 250
        · exact Ev.congr (fun k => if_neg (by omega)) (ih' h2)
        · rw [decide_eq_false (show ¬ tot (plainL l) ≤ 250 by omega)]
          exact Ev.congr (fun k => if_pos (by omega)) (Ev.now _)
      · have hbf : b = false := by cases b; rfl; exact absurd (hb.1 rfl) h
        rw [hbf]
        rw [if_neg h] at ih'
        refine Ev.step (fun k => by rw [tallymanref05_Near.j1, if_neg Bool.false_ne_true, if_neg (by omega), w1]) ?_
        exact ih' (by omega)
    refine Ev.step (fun k => by rw [tallymanref05_Near.l0, if_pos (by omega), if_pos (by omega), hr]) ?_
    by_cases c1 : l[i].f0 = 1
    · exact Ev.congr (fun k => if_pos c1) (go true (by simp [c1]))
    · refine Ev.congr (fun k => if_neg c1) (go _ ?_)
      rw [beq_iff_eq]; omega
theorem near_ev (l : List S56) (hl : l.length ≤ 1000) : Ev (fun k => tallymanref05_Near.f k l 250) (decide (tot (plainL l) ≤ 250)) := near_loop l hl l.length 0 (by omega) (by simp [plainL, tot])
/-- Where a pair brings a walker. -/
def effP (s : Nat × Int × Int) (p : S95) : Nat × Int × Int := ((s.1 + p.f1.toNat) % 4, s.2.1 + p.f0 * (ip s.1).1, s.2.2 + p.f0 * (ip s.1).2)
theorem step_eff (s : Nat × Int × Int) (k n : Int) (hs : s.1 < 4) : stepW s k n = effP s (plainV k n) := by
  obtain ⟨q, x, y⟩ := s
  simp only [] at hs
  unfold stepW effP plainV
  by_cases c3 : k = 3
  · subst c3
    rw [if_pos rfl, if_neg (by decide), if_neg (by decide), if_pos rfl]
    simp only [Prod.mk.injEq, Int.zero_mul, Int.add_zero, and_true]
    omega
  by_cases c4 : k = 4
  · subst c4
    rw [if_neg (by decide), if_pos rfl, if_neg (by decide), if_neg (by decide), if_neg (by decide), if_pos rfl]
    simp only [Prod.mk.injEq, Int.zero_mul, Int.add_zero, and_true]
    omega
  by_cases c2 : k = 2
  · subst c2
    rw [if_neg (by decide), if_neg (by decide), if_pos rfl, if_neg (by decide), if_pos rfl]
    simp only [Prod.mk.injEq, Int.neg_mul, Int.sub_eq_add_neg, and_true]
    omega
  by_cases c1 : k = 1
  · subst c1
    rw [if_neg (by decide), if_neg (by decide), if_neg (by decide), if_pos rfl]
    simp only [Prod.mk.injEq, and_true]
    omega
  have h0 : ofV k n = 0 := by
    cases h : ofV k n with
    | zero => rfl
    | succ m => have := ofV_kind (k := k) (n := n) (by omega); omega
  rw [if_neg c3, if_neg c4, if_neg c2, if_neg c1, if_neg c2, if_neg c3, if_neg c4, h0, show ((0 : Nat) : Int) = 0 from rfl]
  simp only [Prod.mk.injEq, Int.zero_mul, Int.add_zero, and_true]
  omega
def foldP (s : Nat × Int × Int) (l : List S95) : Nat × Int × Int := l.foldl effP s
theorem eff_lt (s : Nat × Int × Int) (p : S95) : (effP s p).1 < 4 := Nat.mod_lt _ (by omega)
theorem foldW_plain : ∀ (l : List S56) (s : Nat × Int × Int), s.1 < 4 → l.foldl (fun s m => stepW s m.f0 m.f1) s = foldP s (plainL l)
  | [], s, _ => rfl
  | m :: l, s, hs => by
    rw [List.foldl_cons, foldW_plain l _ (stepW_lt _ _ _ hs), step_eff s _ _ hs]
    rfl
theorem foldP_mrg : ∀ (l l' : List S95) (s : Nat × Int × Int), s.1 < 4 → zq l → mrg l = some l' → foldP s l' = foldP s l := by
  intro l
  induction l with
  | nil => intro l' s _ _ h; cases h
  | cons x t ih =>
    intro l' s hs hz h
    have hzt : zq t := fun p hp => hz p (List.mem_cons_of_mem _ hp)
    have hx := hz x (List.mem_cons_self ..)
    rw [mrg_cons] at h
    split at h
    · rename_i h0
      obtain rfl := Option.some.inj h
      show foldP s t = foldP (effP s x) t
      congr 1
      unfold effP
      obtain ⟨q, a, b⟩ := s
      simp only [] at hs
      rw [h0.1, h0.2]
      simp only [Prod.mk.injEq, Int.zero_mul, Int.add_zero, and_true, Int.toNat_zero]
      omega
    · cases t with
      | nil => cases h
      | cons y t' =>
        have hy := hz y (List.mem_cons_of_mem _ (List.mem_cons_self ..))
        simp only [] at h
        split at h
        · rename_i h1
          obtain rfl := Option.some.inj h
          show foldP (effP s ⟨x.f0 + y.f0, (x.f1 + y.f1) % 4⟩) t' = foldP (effP (effP s x) y) t'
          congr 1
          obtain ⟨q, a, b⟩ := s
          simp only [] at hs
          unfold effP
          simp only []
          by_cases hsx : x.f0 ≠ 0
          · have e1 := hx.1 hsx
            have e2 := hy.1 (h1.1.1 hsx)
            rw [e1, e2]
            simp only [Int.add_zero, Int.toNat_zero, Nat.add_zero, Int.zero_emod, Nat.mod_eq_of_lt hs, Int.add_mul, Int.add_assoc]
          · have hsy : ¬ y.f0 ≠ 0 := fun h => hsx (h1.1.2 h)
            rw [show x.f0 = 0 by omega, show y.f0 = 0 by omega]
            simp only [Int.zero_mul, Int.add_zero, Prod.mk.injEq, and_true]
            omega
        · obtain ⟨l2, h2, rfl⟩ := Option.map_eq_some_iff.1 h
          exact ih l2 (effP s x) (eff_lt _ _) hzt h2
theorem foldP_itr : ∀ (n : Nat) (l : List S95) (s : Nat × Int × Int), s.1 < 4 → zq l → foldP s (itr n l) = foldP s l
  | 0, l, s, _, _ => rfl
  | n + 1, l, s, hs, hz => by
    rw [itr]
    cases hm : mrg l with
    | none => rfl
    | some l' =>
      simp only []
      rw [foldP_itr n l' s hs (nfl_mrg l l' [] hz trivial hm).2, foldP_mrg l l' s hs hz hm]
theorem plain_one (p : S95) (hz : (p.f0 ≠ 0 → p.f1 = 0) ∧ 0 ≤ p.f1 ∧ p.f1 ≤ 3) (hn : ¬ (p.f0 = 0 ∧ p.f1 = 0)) (hb : p.f0.natAbs ≤ 1048576) : plainL (oneV p) = [p] := by
  obtain ⟨a, b⟩ := p
  simp only [] at hz hn hb
  unfold oneV
  simp only []
  by_cases h1 : a > 0
  · rw [if_pos h1]
    have hof : ofV 1 a = a.toNat := by unfold ofV; rw [if_neg (by decide), if_neg (by decide), if_neg (by omega), if_neg (by omega)]
    simp only [plainL, List.map_cons, List.map_nil, plainV, if_true, hof, List.cons.injEq, and_true, S95.mk.injEq]
    exact ⟨by omega, (hz.1 (by omega)).symm⟩
  by_cases h2 : a < 0
  · rw [if_neg h1, if_pos h2]
    have hof : ofV 2 (-a) = (-a).toNat := by unfold ofV; rw [if_neg (by decide), if_neg (by decide), if_neg (by omega), if_neg (by omega)]
    simp only [plainL, List.map_cons, List.map_nil, plainV, if_neg (show ¬ (2 : Int) = 1 by decide), if_true, hof, List.cons.injEq, and_true, S95.mk.injEq]
    exact ⟨by omega, (hz.1 (by omega)).symm⟩
  have h0 : a = 0 := by omega
  subst h0
  have hb3 : b = 1 ∨ b = 2 ∨ b = 3 := by omega
  rcases hb3 with h | h | h <;> subst h <;> rfl
theorem plain_out : ∀ l : List S95, zq l → (∀ p ∈ l, ¬ (p.f0 = 0 ∧ p.f1 = 0)) → (∀ p ∈ l, p.f0.natAbs ≤ 1048576) → plainL (outV l) = l
  | [], _, _, _ => rfl
  | p :: l, hz, hn, hb => by
    have ih := plain_out l (fun q hq => hz q (List.mem_cons_of_mem _ hq)) (fun q hq => hn q (List.mem_cons_of_mem _ hq)) (fun q hq => hb q (List.mem_cons_of_mem _ hq))
    have h1 := plain_one p (hz p (List.mem_cons_self ..)) (hn p (List.mem_cons_self ..)) (hb p (List.mem_cons_self ..))
    rw [outV]
    unfold plainL at *
    rw [List.map_append, h1, ih]
    rfl
theorem itr_stop (n : Nat) (l : List S95) (h : mrg l = none) : itr n l = l := by
  cases n with
  | zero => rfl
  | succ n => rw [itr, h]
theorem flip_part (m : S56) : (partB (flipV m).f0 (flipV m).f1).1 = (partB m.f0 m.f1).1 ∧ fitV (partB m.f0 m.f1).1 ((partB m.f0 m.f1).2 + (partB (flipV m).f0 (flipV m).f1).2) = 0 := by
  obtain ⟨k, n⟩ := m
  unfold flipV partB
  simp only []
  have hof : ∀ a b : Int, 1 ≤ a → a ≤ 4 → 1 ≤ b → b ≤ 4 → ofV a n = ofV b n := by
    intro a b h1 h2 h3 h4
    unfold ofV
    simp only [if_neg (show ¬ a < 1 by omega), if_neg (show ¬ a > 4 by omega), if_neg (show ¬ b < 1 by omega), if_neg (show ¬ b > 4 by omega)]
  by_cases c1 : k = 1
  · subst c1
    simp only [if_true, hof 2 1 (by omega) (by omega) (by omega) (by omega)]
    exact ⟨rfl, by simp [fitV]; omega⟩
  by_cases c2 : k = 2
  · subst c2
    simp only [if_true, if_neg (show ¬ (2 : Int) = 1 by decide), hof 1 2 (by omega) (by omega) (by omega) (by omega)]
    exact ⟨rfl, by simp [fitV]; omega⟩
  by_cases c3 : k = 3
  · subst c3
    simp only [if_true, if_neg (show ¬ (3 : Int) = 1 by decide), if_neg (show ¬ (3 : Int) = 2 by decide), hof 4 3 (by omega) (by omega) (by omega) (by omega)]
    refine ⟨rfl, ?_⟩
    simp only [show decide ((3 : Int) = 1 ∨ (3 : Int) = 2) = false from rfl, show decide ((4 : Int) = 1 ∨ (4 : Int) = 2) = false from rfl, fitV, if_neg Bool.false_ne_true, if_neg (show ¬ ((3 : Int) = 2 ∨ (3 : Int) = 4) by decide), or_true, if_true]
    omega
  by_cases c4 : k = 4
  · subst c4
    simp only [if_true, if_neg (show ¬ (4 : Int) = 1 by decide), if_neg (show ¬ (4 : Int) = 2 by decide), if_neg (show ¬ (4 : Int) = 3 by decide), hof 3 4 (by omega) (by omega) (by omega) (by omega)]
    refine ⟨rfl, ?_⟩
    simp only [show decide ((3 : Int) = 1 ∨ (3 : Int) = 2) = false from rfl, show decide ((4 : Int) = 1 ∨ (4 : Int) = 2) = false from rfl, fitV, if_neg Bool.false_ne_true, if_neg (show ¬ ((3 : Int) = 2 ∨ (3 : Int) = 4) by decide), or_true, if_true]
    omega
  have h0 : ofV k n = 0 := by
    cases h : ofV k n with
    | zero => rfl
    | succ m => have := ofV_kind (k := k) (n := n) (by omega); omega
  simp only [if_neg c1, if_neg c2, if_neg c3, if_neg c4, h0]
  refine ⟨trivial, ?_⟩
  rw [if_neg (by omega)]
  unfold fitV
  (repeat' split) <;> rfl
theorem nfl_app : ∀ (a b : List S95) (st : List S87), nfl (a ++ b) st = nfl b (nfl a st)
  | [], b, st => rfl
  | x :: a, b, st => by rw [List.cons_append, nfl, nfl_app a b, nfl]
theorem nfl_back : ∀ (l : List S56) (st : List S87), alt st → nfl (plainL (revV l)) (nfl (plainL l) st) = st
  | [], st, _ => rfl
  | m :: l, st, ha => by
    have e : revV (m :: l) = revV l ++ [flipV m] := by unfold revV; rw [List.reverse_cons, List.map_append]; rfl
    rw [e, plainL_snoc, nfl_app]
    have ha2 := alt_psh st (toB (plainV m.f0 m.f1)).f0 (toB (plainV m.f0 m.f1)).f1 ha
    have e2 : nfl (plainL (m :: l)) st = nfl (plainL l) (psh st (toB (plainV m.f0 m.f1)).f0 (toB (plainV m.f0 m.f1)).f1) := rfl
    rw [e2, nfl_back l _ ha2]
    rw [nfl, nfl, psh_part st _ _ ha]
    rw [psh_part st _ _ ha] at ha2
    rw [psh_part _ _ _ ha2]
    obtain ⟨f1, f2⟩ := flip_part m
    rw [f1, psh_psh st _ _ _ ha, ← psh_fit, f2, psh_zero st _ ha]
theorem none_alt : ∀ (l : List S95), mrg l = none → ∀ (i : Nat) (h : i + 1 < l.length), ¬ (l[i].f0 ≠ 0 ↔ l[i + 1].f0 ≠ 0) := by
  intro l
  induction l with
  | nil => intro _ i h; simp at h
  | cons x t ih =>
    intro h i hi
    have hnz := none_nz _ h
    rw [mrg_cons] at h
    split at h
    · cases h
    · cases t with
      | nil => simp at hi
      | cons y t' =>
        simp only [] at h
        split at h
        · cases h
        · rename_i h1
          cases i with
          | zero =>
            intro hc
            exact h1 ⟨hc, hnz y (List.mem_cons_of_mem _ (List.mem_cons_self ..))⟩
          | succ i =>
            refine ih ?_ i (by simp only [List.length_cons] at *; omega)
            cases hq : mrg (y :: t') with
            | none => rfl
            | some r => rw [hq] at h; cases h
theorem digB_nat (d : Nat) (h : d ≤ 9) : (digB d).toNat = 48 + d := by
  have : ∀ d : Fin 10, (digB d.1).toNat = 48 + d.1 := by decide
  exact this ⟨d, by omega⟩
theorem prs_digit (d : Nat) (h : d ≤ 9) (t : List UInt8) (i : Nat) (out : List S56) (k : Int) (m : Nat) (hm : m < 100) (h0 : ¬ (m = 0 ∧ d = 0)) : prs (digB d :: t) i out (some (k, (m : Int))) = prs t (i + 1) out (some (k, ((10 * m + d : Nat) : Int))) := by
  have hd := digB_nat d h
  rw [prs, if_pos (by omega), if_neg (by omega), if_neg (by omega), hd]
  congr 3
  omega
theorem toD_small (n : Nat) (h2 : n ≤ 999) : toD 10 64 n = if n < 10 then [digB n] else if n < 100 then [digB (n / 10), digB (n % 10)] else [digB (n / 100), digB (n / 10 % 10), digB (n % 10)] := by
  rw [show (64 : Nat) = 61 + 1 + 1 + 1 from rfl, toD]
  by_cases h : n < 10
  · rw [if_pos (by omega), if_pos h, Nat.mod_eq_of_lt h]
  · rw [if_neg (by omega), if_neg h, toD]
    by_cases h3 : n < 100
    · rw [if_pos (by omega), if_pos h3, Nat.mod_eq_of_lt (by omega)]; rfl
    · rw [if_neg (by omega), if_neg h3, toD, if_pos (by omega), Nat.mod_eq_of_lt (a := n / 10 / 10) (by omega), Nat.div_div_eq_div_mul]; rfl
theorem prs_num (n : Nat) (h1 : 1 ≤ n) (h2 : n ≤ 999) (t : List UInt8) (i : Nat) (out : List S56) (k : Int) : ∃ j, prs (printS (n : Int) ++ t) i out (some (k, 0)) = prs t j out (some (k, (n : Int))) := by
  have e : printS (n : Int) = toD 10 64 n := by unfold printS; rw [if_neg (by omega)]; rfl
  rw [e, toD_small n h2]
  by_cases h : n < 10
  · rw [if_pos h]
    refine ⟨i + 1, ?_⟩
    have := prs_digit n (by omega) t i out k 0 (by omega) (by omega)
    rw [show 10 * 0 + n = n by omega] at this
    exact this
  · rw [if_neg h]
    by_cases h3 : n < 100
    · rw [if_pos h3]
      refine ⟨i + 1 + 1, ?_⟩
      have a1 := prs_digit (n / 10) (by omega) (digB (n % 10) :: t) i out k 0 (by omega) (by omega)
      have a2 := prs_digit (n % 10) (by omega) t (i + 1) out k (10 * 0 + n / 10) (by omega) (by omega)
      rw [show 10 * (10 * 0 + n / 10) + n % 10 = n by omega] at a2
      exact a1.trans a2
    · rw [if_neg h3]
      refine ⟨i + 1 + 1 + 1, ?_⟩
      have a1 := prs_digit (n / 100) (by omega) (digB (n / 10 % 10) :: digB (n % 10) :: t) i out k 0 (by omega) (by omega)
      have a2 := prs_digit (n / 10 % 10) (by omega) (digB (n % 10) :: t) (i + 1) out k (10 * 0 + n / 100) (by omega) (by omega)
      have a3 := prs_digit (n % 10) (by omega) t (i + 1 + 1) out k (10 * (10 * 0 + n / 100) + n / 10 % 10) (by omega) (by omega)
      rw [show 10 * (10 * (10 * 0 + n / 100) + n / 10 % 10) + n % 10 = n by omega] at a3
      exact a1.trans (a2.trans a3)
/-- A move as a text tells it. -/
def tellable (m : S56) : Prop := (1 ≤ m.f0 ∧ m.f0 ≤ 4) ∧ 1 ≤ m.f1 ∧ m.f1 ≤ 999
theorem ltr_idx (k : Int) (h1 : 1 ≤ k) (h4 : k ≤ 4) : idxL (ltr k) = k ∧ ¬ (48 ≤ (ltr k).toNat ∧ (ltr k).toNat ≤ 57) := by
  have hk : k = 1 ∨ k = 2 ∨ k = 3 ∨ k = 4 := by omega
  rcases hk with h | h | h | h <;> subst h <;> decide +kernel
theorem text_head (s : List S56) (hs : ∀ m ∈ s, tellable m) (c : UInt8) (t : List UInt8) (h : textS s = c :: t) : ¬ (48 ≤ c.toNat ∧ c.toNat ≤ 57) := by
  cases s with
  | nil => cases h
  | cons m s =>
    have hm := hs m (List.mem_cons_self ..)
    unfold tellable at hm
    have hof : ofV m.f0 m.f1 ≠ 0 := by unfold ofV; rw [if_neg (by omega), if_neg (by omega), if_neg (by omega), if_neg (by omega)]; omega
    rw [textS, mvS, if_neg hof, List.cons_append] at h
    injection h with h1 h2
    rw [← h1]
    exact (ltr_idx m.f0 hm.1.1 hm.1.2).2
theorem prs_text : ∀ (s : List S56), (∀ m ∈ s, tellable m) → ∀ (i : Nat) (out : List S56), prs (textS s) i out none = (out ++ s, 0, 0)
  | [], _, i, out => by rw [textS, prs, List.append_nil]
  | m :: s, hs, i, out => by
    have hm := hs m (List.mem_cons_self ..)
    have hs2 : ∀ q ∈ s, tellable q := fun q hq => hs q (List.mem_cons_of_mem _ hq)
    obtain ⟨k, n⟩ := m
    unfold tellable at hm
    simp only [] at hm
    have hof : ofV k n = n.toNat := by unfold ofV; rw [if_neg (by omega), if_neg (by omega), if_neg (by omega), if_neg (by omega)]
    have hl := ltr_idx k hm.1.1 hm.1.2
    have pend : ∀ (j : Nat) (v : Int), mx v 1 = n → prs (textS s) j out (some (k, v)) = (out ++ ⟨k, n⟩ :: s, 0, 0) := by
      intro j v hv
      rw [prs_none _ _ _ _ _ (fun c t h => text_head s hs2 c t h), prs_text s hs2, hv, List.append_assoc]
      rfl
    rw [textS, mvS]
    simp only []
    rw [if_neg (by omega), List.cons_append, prs, hl.1, if_neg (by omega)]
    by_cases h1 : ofV k n = 1
    · rw [if_pos h1, List.nil_append]
      exact pend _ 0 (by unfold mx; split <;> omega)
    · rw [if_neg h1]
      obtain ⟨j, hj⟩ := prs_num (ofV k n) (by omega) (by omega) (textS s) (i + 1) out k
      rw [hj]
      exact pend j _ (by rw [hof]; unfold mx; split <;> omega)
theorem outV_tell (l : List S95) (hz : zq l) (hn : ∀ p ∈ l, ¬ (p.f0 = 0 ∧ p.f1 = 0)) (hb : ∀ p ∈ l, p.f0.natAbs ≤ 250) : outV l = l.map (fun p => moveV (toB p)) ∧ ∀ m ∈ outV l, tellable m := by
  have e : outV l = l.map (fun p => moveV (toB p)) := by
    induction l with
    | nil => rfl
    | cons p l ih =>
      rw [outV, one_move p (hz p (List.mem_cons_self ..)) (hn p (List.mem_cons_self ..)), ih (fun q hq => hz q (List.mem_cons_of_mem _ hq)) (fun q hq => hn q (List.mem_cons_of_mem _ hq)) (fun q hq => hb q (List.mem_cons_of_mem _ hq))]
      rfl
  refine ⟨e, fun m hm => ?_⟩
  rw [e] at hm
  obtain ⟨p, hp, rfl⟩ := List.mem_map.1 hm
  have h1 := hz p hp
  have h2 := hn p hp
  have h3 := hb p hp
  unfold tellable moveV toB
  by_cases h0 : p.f0 ≠ 0
  · simp only [if_pos h0, if_true]
    split
    · simp only []; omega
    · simp only []; omega
  · simp only [if_neg h0, if_neg Bool.false_ne_true]
    split
    · simp only []; omega
    · simp only []; omega
theorem move_kind (p : S95) : (moveV (toB p)).f0 ≤ 2 ↔ p.f0 ≠ 0 := by
  unfold moveV toB
  by_cases h0 : p.f0 ≠ 0
  · simp only [if_pos h0, if_true]
    split <;> simp [h0]
  · simp only [if_neg h0, if_neg Bool.false_ne_true]
    split <;> simp [h0]
end Go.Proofs.Ytpoghhcpoimepaa.P
end
section
-- printed by the session's own call of print.py. Not trusted: Lean checks it.
namespace Go.Proofs.Ytpoghhcpoimepaa.P
open Go.RowKit Go.Proofs.YtpoghhcpoimepaaW.PrintWords Go.Proofs.YtpoghhcpoimepaaW.PrintLast Go.Proofs.YtpoghhcpoimepaaW.PrintMore
attribute [local go_sem] max2_int min2_int max_two min_two max_three min_three max_four min_four
set_option linter.unusedVariables false
set_option linter.unusedSimpArgs false
/-! ### tallymanlaw05_WalkTexts: function 7 -/
def tallymanlaw05_WalkTexts.j0 : Nat → List (S56) → ByteArray → Bool → Option (Bool)
  | 0, _, _, _ => none
  | k + 1, x0, x1, x18 => if x18 = true then ((tallymanlaw05_alive.f k).bind fun t101 => (some t101)) else ((walk_Parse.f x1).bind fun bt102 => ((tallymanref05_Parse.f k x1).bind fun bt107 => ((walk_Text.f x0).bind fun t112 => ((tallymanref05_Text.f k x0).bind fun t113 => (if t112.toList = t113.toList then ((tallymanref05_Same.f k bt102.1 bt107.1).bind fun t114 => (if t114 = true then (if bt102.2.1 = bt107.2.1 then (if bt102.2.2 = bt107.2.2 then ((tallymanlaw05_alive.f k).bind fun t115 => (some t115)) else (some false)) else (some false)) else (some false))) else (some false))))))
def tallymanlaw05_WalkTexts.f (k : Nat) (l0 : List (S56)) (a1 : ByteArray) : Option (Bool) := if (l0.length : Int) > 100 then (tallymanlaw05_WalkTexts.j0 k l0 a1 true) else (tallymanlaw05_WalkTexts.j0 k l0 a1 (decide ((a1.size : Int) > 300)))
theorem tallymanlaw05_WalkTexts.mono_l : ∀ k, (∀ y0 y1 y2, LeO (tallymanlaw05_WalkTexts.j0 k y0 y1 y2) (tallymanlaw05_WalkTexts.j0 (k + 1) y0 y1 y2))
  | 0 => fun _ _ _ r h => by simp [tallymanlaw05_WalkTexts.j0] at h
  | k + 1 => by
    have ih0 := tallymanlaw05_WalkTexts.mono_l k
    · intro y0 y1 y2
      unfold tallymanlaw05_WalkTexts.j0
      repeat' first
      | (with_reducible exact ih0 _ _ _)
      | (with_reducible exact tallymanlaw05_alive.mono _)
      | (with_reducible exact tallymanref05_Parse.mono _ _)
      | (with_reducible exact tallymanref05_Same.mono _ _ _)
      | (with_reducible exact tallymanref05_Text.mono _ _)
      | (with_reducible exact LeO.refl _)
      | (with_reducible exact LeO.none _)
      | (with_reducible refine LeO.ite ?_ ?_)
      | (with_reducible refine LeO.bind ?_ (fun _ => ?_))
      | exact ih0 _ _ _
      | exact tallymanlaw05_alive.mono _
      | exact tallymanref05_Parse.mono _ _
      | exact tallymanref05_Same.mono _ _ _
      | exact tallymanref05_Text.mono _ _
      | exact LeO.none _
      | refine LeO.ite ?_ ?_
      | refine LeO.bind ?_ (fun _ => ?_)
theorem tallymanlaw05_WalkTexts.mono : ∀ a0 a1 k, LeO (tallymanlaw05_WalkTexts.f k a0 a1) (tallymanlaw05_WalkTexts.f (k + 1) a0 a1) := by
  intro a0 a1 k
  have ih0 := tallymanlaw05_WalkTexts.mono_l k
  unfold tallymanlaw05_WalkTexts.f
  repeat' first
      | (with_reducible exact ih0 _ _ _)
      | (with_reducible exact tallymanlaw05_alive.mono _)
      | (with_reducible exact tallymanref05_Parse.mono _ _)
      | (with_reducible exact tallymanref05_Same.mono _ _ _)
      | (with_reducible exact tallymanref05_Text.mono _ _)
      | (with_reducible exact LeO.refl _)
      | (with_reducible exact LeO.none _)
      | (with_reducible refine LeO.ite ?_ ?_)
      | (with_reducible refine LeO.bind ?_ (fun _ => ?_))
      | exact ih0 _ _ _
      | exact tallymanlaw05_alive.mono _
      | exact tallymanref05_Parse.mono _ _
      | exact tallymanref05_Same.mono _ _ _
      | exact tallymanref05_Text.mono _ _
      | exact LeO.none _
      | refine LeO.ite ?_ ?_
      | refine LeO.bind ?_ (fun _ => ?_)
end Go.Proofs.Ytpoghhcpoimepaa.P
end
section
/- What came in, of any type that is made of numbers, texts, slices and structs: its value, and how it reads. -/
namespace Go.Proofs.Ytpoghhcpoimepaa.TR
open Go.RowKit Go.ChangeShapes Go.WideShapes Go.Deep Go.Proofs.YtpoghhcpoimepaaW.PrintWords Go.Proofs.YtpoghhcpoimepaaW.PrintLast Go.Proofs.YtpoghhcpoimepaaW.PrintMore
set_option linter.unusedVariables false
set_option linter.unusedSimpArgs false
/-- What the cells of type t hold, where they are well formed, is of the kind d. -/
def Tr {α : Type} (P : Program) (t : TypeId) (d : Kd α) (Wf : α → Prop) : Prop :=
  ∀ (H : Type) (enc : TypeId × Value → H) (w : World) (n : Nat) (cs : List Value) (x : DataW H × List MemPlace), DataW.trod enc P w 0 (fun _ => true) true n t cs = some x → ∃ a, d.K w a cs ∧ Wf a
theorem Tr_int {P : Program} {t : TypeId} {k : IntKind} (ht : P.underlying t = some (.int k)) : Tr P t (Kd.int k) (fun z => (Lit.int k z).wf = true) := by
  intro H enc w n cs x h
  obtain ⟨z, rfl, _, hw⟩ := DataW.trod_int ht h
  exact ⟨z, rfl, hw⟩
theorem Tr_iso {α β : Type} {P : Program} {t : TypeId} {d : Kd α} {Wf : α → Prop} (f : β → α) (g : α → β) (hg : ∀ a, f (g a) = a) (h : Tr P t d Wf) : Tr P t (Kd.iso d f) (fun b => Wf (f b)) := by
  intro H enc w n cs x hx
  obtain ⟨a, hK, hW⟩ := h H enc w n cs x hx
  exact ⟨g a, by show d.K w (f (g a)) cs; rw [hg]; exact hK, by show Wf (f (g a)); rw [hg]; exact hW⟩
theorem build {α : Type} (p : Nat → α → Prop) : ∀ n, (∀ i, i < n → ∃ a, p i a) → ∃ l : List α, l.length = n ∧ ∀ j a, l[j]? = some a → p j a := by
  intro n
  induction n with
  | zero => intro _; exact ⟨[], rfl, fun j a h => by simp at h⟩
  | succ n ih =>
    intro h
    obtain ⟨l, hl, hp⟩ := ih (fun i hi => h i (by omega))
    obtain ⟨a, ha⟩ := h n (by omega)
    refine ⟨l ++ [a], by simp [hl], fun j b hb => ?_⟩
    by_cases hj : j < l.length
    · rw [List.getElem?_append_left hj] at hb
      exact hp j b hb
    · rw [List.getElem?_append_right (by omega)] at hb
      have : j - l.length = 0 := by
        have := (List.getElem?_eq_some_iff.1 hb).1
        simp at this
        omega
      rw [this] at hb
      simp only [List.getElem?_cons_zero, Option.some.injEq] at hb
      subst hb
      rw [show j = n by omega]
      exact ha
theorem Tr_slice {α : Type} {P : Program} {t e : TypeId} {d : Kd α} {Wf : α → Prop} (ht : P.underlying t = some (.slice e)) (hc : P.cellsOf e = d.sz) (h : Tr P e d Wf) : Tr P t (Kd.slice e d) (fun l => ∀ a ∈ l, Wf a) := by
  intro H enc w n cs x hx
  rcases open_slice ht hx with ⟨rfl, _⟩ | ⟨a, len, cap, m, n', D, Pl, rfl, _, hle, hm, hmm, _, hel⟩
  · exact ⟨[], ⟨none, 0, rfl, Nat.le_refl _, Kd.C_nil d w⟩, fun a ha => by simp at ha⟩
  · have hmc : m = cap := by simpa using hmm
    obtain ⟨l, hl, hp⟩ := build (fun i (b : α) => (∃ cs', cs'.length = d.sz ∧ d.K w b cs' ∧ ∀ j u, cs'[j]? = some u → w.cell? (a.add (i * d.sz + j)) = some u) ∧ Wf b) len (fun i hi => by
      obtain ⟨cs', h1, h2⟩ := hel i (by omega)
      obtain ⟨_, h3, h4⟩ := World.cells?_some h1
      obtain ⟨b, hK, hW⟩ := h H enc w n' cs' _ h2
      refine ⟨b, ⟨cs', by rw [h3, hc], hK, fun j u hu => ?_⟩, hW⟩
      have hj := (List.getElem?_eq_some_iff.1 hu).1
      rw [← hc, ← Go.Deep.add_add, h4 j (by omega), hu])
    refine ⟨l, ⟨some a, cap, by rw [hl], by omega, ⟨rfl, ?_, fun _ => ⟨a, rfl, fun j b hb => (hp j b hb).1⟩⟩⟩, fun b hb => ?_⟩
    · unfold maxLen at hm; omega
    · obtain ⟨j, hj⟩ := List.getElem?_of_mem hb
      exact (hp j b hj).2
/-- The fields from one on, one behind the other. -/
theorem seg (cs : List Value) (o a b : Nat) : (cs.drop o).take (a + b) = (cs.drop o).take a ++ (cs.drop (o + a)).take b := by
  rw [List.take_add, List.drop_drop]
theorem pair_K {α β : Type} {d : Kd α} {e : Kd β} {w : World} {cs : List Value} {o : Nat} {a : α} {b : β} {s r : Nat} (h1 : d.K w a ((cs.drop o).take s)) (h2 : e.K w b ((cs.drop (o + s)).take r)) : (Kd.pair d e).K w (a, b) ((cs.drop o).take (s + r)) :=
  ⟨_, _, seg cs o s r, h1, h2⟩
/-- A struct's fields from one offset on, of the kinds of a pair of pairs. -/
def Fs {α : Type} (P : Program) (fs : List Field) (o : Nat) (d : Kd α) (Wf : α → Prop) (sz : Nat) : Prop :=
  ∀ (H : Type) (enc : TypeId × Value → H) (w : World) (n : Nat) (cs : List Value), (∀ f ∈ fs, ∃ y, DataW.trod enc P w 0 (fun _ => true) true n f.type ((cs.drop f.offset).take (P.cellsOf f.type)) = some y) → ∃ a, d.K w a ((cs.drop o).take sz) ∧ Wf a
theorem Fs_one {α : Type} {P : Program} {f : Field} {d : Kd α} {Wf : α → Prop} {o s : Nat} (ho : f.offset = o) (hs : P.cellsOf f.type = s) (h : Tr P f.type d Wf) : Fs P [f] o d Wf s := by
  intro H enc w n cs hf
  obtain ⟨y, hy⟩ := hf f (by simp)
  rw [ho, hs] at hy
  exact h H enc w n _ y hy
theorem Fs_cons {α β : Type} {P : Program} {f : Field} {fs : List Field} {d : Kd α} {e : Kd β} {Wf : α → Prop} {Wg : β → Prop} {o s r : Nat} (ho : f.offset = o) (hs : P.cellsOf f.type = s) (h : Tr P f.type d Wf) (hr : Fs P fs (o + s) e Wg r) : Fs P (f :: fs) o (Kd.pair d e) (fun x => Wf x.1 ∧ Wg x.2) (s + r) := by
  intro H enc w n cs hf
  obtain ⟨y, hy⟩ := hf f (by simp)
  rw [ho, hs] at hy
  obtain ⟨a, ha, hwa⟩ := h H enc w n _ y hy
  obtain ⟨b, hb, hwb⟩ := hr H enc w n cs (fun g hg => hf g (by simp [hg]))
  exact ⟨(a, b), pair_K ha hb, hwa, hwb⟩
theorem Tr_struct {α : Type} {P : Program} {t : TypeId} {fs : List Field} {d : Kd α} {Wf : α → Prop} {s : Nat} (ht : P.underlying t = some (.struct fs.toArray)) (hs : P.cellsOf t = s) (h : Fs P fs 0 d Wf s) : Tr P t d Wf := by
  intro H enc w n cs x hx
  obtain ⟨xs, n', _, _, hl, hlen, hf⟩ := DataW.trod_struct ht hx
  obtain ⟨a, hK, hW⟩ := h H enc w n' cs (fun f hfm => by
    obtain ⟨i, hi⟩ := List.getElem?_of_mem hfm
    have h1 := hf i f (by simpa using hi)
    have hil : i < fs.length := (List.getElem?_eq_some_iff.1 hi).1
    have h2 : i < xs.length := by rw [hlen]; simpa using hil
    exact ⟨xs[i], by rw [h1]; exact List.getElem?_eq_getElem h2⟩)
  rw [List.drop_zero, List.take_of_length_le (by omega)] at hK
  exact ⟨a, hK, hW⟩
end Go.Proofs.Ytpoghhcpoimepaa.TR
end
section
/- The law WalkTexts. -/
namespace Go.Proofs.Ytpoghhcpoimepaa.P
open Go.Proofs.Ytpoghhcpoimepaa.B Go.RowKit Go.Proofs.YtpoghhcpoimepaaW.PrintWords Go.Proofs.YtpoghhcpoimepaaW.PrintLast Go.Proofs.YtpoghhcpoimepaaW.PrintMore
set_option linter.unusedVariables false
set_option linter.unusedSimpArgs false
theorem alive05 : Ev (fun k => tallymanlaw05_alive.f k) true := by
  refine Ev.of tallymanlaw05_alive.mono (k := 30) ?_
  have h1 : walk_Parse.f (⟨#[70, 50, 76, 70, 51]⟩ : ByteArray) = some ([⟨1, 2⟩, ⟨3, 1⟩, ⟨1, 3⟩], 0, 0) := by kernel_rfl
  have h2 : walk_Short.f 30 (([(⟨1, 2⟩ : S56), (⟨3, 4⟩ : S56), (⟨1, 3⟩ : S56)] : List (S56))) = some ([⟨1, 5⟩], 0) := by kernel_rfl
  have h3 : walk_End.f [⟨1, 2⟩, ⟨3, 1⟩, ⟨1, 3⟩] = some (1, 2, 3) := by kernel_rfl
  have h4 : walk_Text.f [⟨1, 5⟩] = some ⟨#[70, 53]⟩ := by kernel_rfl
  have h5 : (⟨#[70, 53]⟩ : ByteArray).toList = [70, 53] := toList_data _
  unfold tallymanlaw05_alive.f
  rw [h1, Option.bind_some, h2, Option.bind_some]
  simp only []
  rw [h3, h4]
  simp [h5]
set_option maxRecDepth 100000 in
theorem Tr41 : TR.Tr Try.prog 41 (Kd.slice 56 k56) (fun l => True) := by
  have h := TR.Tr_slice (P := Try.prog) Try.underlying41 (by kernel_rfl) (TR.Tr_iso (fun x : S56 => (x.f0, x.f1)) (fun p => ⟨p.1, p.2⟩) (fun _ => rfl) (TR.Tr_struct (s := 2) Try.underlying56 (by kernel_rfl) (TR.Fs_cons (s := 1) rfl (by kernel_rfl) (TR.Tr_int Try.underlying3) (TR.Fs_one (s := 1) rfl (by kernel_rfl) (TR.Tr_int Try.underlying3)))))
  intro H enc w n cs x hv
  obtain ⟨l, h1, h2⟩ := h _ _ _ _ _ _ hv
  exact ⟨l, h1, trivial⟩
end Go.Proofs.Ytpoghhcpoimepaa.P
end
