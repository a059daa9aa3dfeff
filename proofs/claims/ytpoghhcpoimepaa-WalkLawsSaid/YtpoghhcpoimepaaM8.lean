/- Several texts of this proof in one: what the law's functions come to, and the lemmas (some as the kit's print.sh printed them, what is not used struck). -/
import Derived.Test.YtpoghhcpoimepaaM2
import Derived.Test.YtpoghhcpoimepaaM7
import Derived.Test.YtpoghhcpoimepaaM6
import Derived.Test.YtpoghhcpoimepaaM3
import Derived.Test.YtpoghhcpoimepaaM4
section
-- printed by the session's own call of print.py. Not trusted: Lean checks it.
namespace Go.Proofs.Ytpoghhcpoimepaa.P
open Go.RowKit Go.Proofs.YtpoghhcpoimepaaW.PrintWords Go.Proofs.YtpoghhcpoimepaaW.PrintLast Go.Proofs.YtpoghhcpoimepaaW.PrintMore
attribute [local go_sem] max2_int min2_int max_two min_two max_three min_three max_four min_four
set_option linter.unusedVariables false
set_option linter.unusedSimpArgs false
attribute [local go_sem high] eqA24 eqA34
/-! ### tallymanlaw05_WalkLaws: function 11 -/
mutual
def tallymanlaw05_WalkLaws.j0 : Nat → List (S56) → List (S56) → Bool → Option (Bool)
 | 0, _, _, _ => none
 | k + 1, x0, x1, x28 => if x28 = true then ((tallymanlaw05_alive.f k).bind fun t103 => (some t103)) else ((walk_End.f x0).bind fun bt104 => ((walk_End.f x1).bind fun bt107 => ((tallymanlaw05_both.f x0 x1).bind fun t112 => ((walk_End.f t112).bind fun bt115 => ((motion_Then.f bt107.1 bt107.2.1 bt107.2.2 bt104.1 bt104.2.1 bt104.2.2).bind fun bt118 => (if (!(bt115.1 == bt118.1) || ((!(bt115.2.1 == bt118.2.1) || (!(bt115.2.2 == bt118.2.2))))) = true then (tallymanlaw05_WalkLaws.j1 k x0 true bt104.1 bt104.2.1 bt104.2.2) else ((walk_Reverse.f k x0).bind fun t121 => ((walk_End.f t121).bind fun bt124 => ((motion_Back.f bt104.1 bt104.2.1 bt104.2.2).bind fun bt127 => (if (!(bt124.1 == bt127.1) || ((!(bt124.2.1 == bt127.2.1) || (!(bt124.2.2 == bt127.2.2))))) = true then (tallymanlaw05_WalkLaws.j1 k x0 true bt104.1 bt104.2.1 bt104.2.2) else ((walk_Reverse.f k x0).bind fun t130 => ((tallymanlaw05_both.f x0 t130).bind fun t133 => ((walk_End.f t133).bind fun bt136 => (tallymanlaw05_WalkLaws.j1 k x0 (!(bt136.1 == 0) || ((!(bt136.2.1 == 0) || (!(bt136.2.2 == 0))))) bt104.1 bt104.2.1 bt104.2.2))))))))))))))
def tallymanlaw05_WalkLaws.j1 : Nat → List (S56) → Bool → Int → Int → Int → Option (Bool)
 | 0, _, _, _, _, _ => none
 | k + 1, x0, x58, x111000, x111001, x111002 => if x58 = true then (some false) else ((walk_Trace.f x0).bind fun bt139 => (if bt139.2 = 0 then (if (bt139.1.length : Int) = 0 then (tallymanlaw05_WalkLaws.j2 k bt139.1 true) else (if 0 < (bt139.1.length : Int) then (if (!(((rd_T24 bt139.1 0).f0) == 0) || (!(((rd_T24 bt139.1 0).f1) == 0))) = true then (tallymanlaw05_WalkLaws.j2 k bt139.1 true) else (if 0 ≤ (wrap64 ((bt139.1.length : Int) - 1)) then (if (wrap64 ((bt139.1.length : Int) - 1)) < (bt139.1.length : Int) then (tallymanlaw05_WalkLaws.j2 k bt139.1 (!(((rd_T24 bt139.1 (wrap64 ((bt139.1.length : Int) - 1))).f0) == x111001) || (!(((rd_T24 bt139.1 (wrap64 ((bt139.1.length : Int) - 1))).f1) == x111002)))) else (none)) else (none))) else (none))) else (tallymanlaw05_WalkLaws.j2 k bt139.1 true)))
def tallymanlaw05_WalkLaws.j2 : Nat → List (S24) → Bool → Option (Bool)
 | 0, _, _ => none
 | k + 1, x7, x88 => if x88 = true then (some false) else (tallymanlaw05_WalkLaws.l0 k x7 1)
def tallymanlaw05_WalkLaws.l0 : Nat → List (S24) → Int → Option (Bool)
 | 0, _, _ => none
 | k + 1, x7, x9 => if x9 < (x7.length : Int) then (if 0 ≤ x9 then (if 0 ≤ (wrap64 (x9 - 1)) then (if (wrap64 (x9 - 1)) < (x7.length : Int) then (if (wrap64 ((wrap64 ((wrap64 (((rd_T24 x7 x9).f0) - ((rd_T24 x7 (wrap64 (x9 - 1))).f0))) * (wrap64 (((rd_T24 x7 x9).f0) - ((rd_T24 x7 (wrap64 (x9 - 1))).f0))))) + (wrap64 ((wrap64 (((rd_T24 x7 x9).f1) - ((rd_T24 x7 (wrap64 (x9 - 1))).f1))) * (wrap64 (((rd_T24 x7 x9).f1) - ((rd_T24 x7 (wrap64 (x9 - 1))).f1))))))) = 1 then (tallymanlaw05_WalkLaws.l0 k x7 (wrap64 (x9 + 1))) else (some false)) else (none)) else (none)) else (none)) else ((tallymanlaw05_alive.f k).bind fun t150 => (some t150))
end
def tallymanlaw05_WalkLaws.f (k : Nat) (l0 : List (S56)) (l1 : List (S56)) : Option (Bool) := if (l0.length : Int) > 60 then (tallymanlaw05_WalkLaws.j0 k l0 l1 true) else (if (l1.length : Int) > 60 then (tallymanlaw05_WalkLaws.j0 k l0 l1 true) else ((tallymanref05_Near.f k l0 250).bind fun t101 => (if t101 = true then ((tallymanref05_Near.f k l1 250).bind fun t102 => (tallymanlaw05_WalkLaws.j0 k l0 l1 (!t102))) else (tallymanlaw05_WalkLaws.j0 k l0 l1 true))))
theorem tallymanlaw05_WalkLaws.mono_l : ∀ k, (∀ y0 y1 y2, LeO (tallymanlaw05_WalkLaws.j0 k y0 y1 y2) (tallymanlaw05_WalkLaws.j0 (k + 1) y0 y1 y2)) ∧ (∀ y0 y1 y2 y3 y4, LeO (tallymanlaw05_WalkLaws.j1 k y0 y1 y2 y3 y4) (tallymanlaw05_WalkLaws.j1 (k + 1) y0 y1 y2 y3 y4)) ∧ (∀ y0 y1, LeO (tallymanlaw05_WalkLaws.j2 k y0 y1) (tallymanlaw05_WalkLaws.j2 (k + 1) y0 y1)) ∧ (∀ y0 y1, LeO (tallymanlaw05_WalkLaws.l0 k y0 y1) (tallymanlaw05_WalkLaws.l0 (k + 1) y0 y1))
 | 0 => ⟨fun _ _ _ r h => by simp [tallymanlaw05_WalkLaws.j0] at h, fun _ _ _ _ _ r h => by simp [tallymanlaw05_WalkLaws.j1] at h, fun _ _ r h => by simp [tallymanlaw05_WalkLaws.j2] at h, fun _ _ r h => by simp [tallymanlaw05_WalkLaws.l0] at h⟩
 | k + 1 => by
  obtain ⟨ih0, ih1, ih2, ih3⟩ := tallymanlaw05_WalkLaws.mono_l k
  refine ⟨?_, ?_, ?_, ?_⟩
  ·intro y0 y1 y2
   unfold tallymanlaw05_WalkLaws.j0
   repeat' first
   | (with_reducible exact ih0 _ _ _)
   | (with_reducible exact ih1 _ _ _ _ _)
   | (with_reducible exact ih2 _ _)
   | (with_reducible exact ih3 _ _)
   | (with_reducible exact tallymanlaw05_alive.mono _)
   | (with_reducible exact tallymanref05_Near.mono _ _ _)
   | (with_reducible exact walk_Reverse.mono _ _)
   | (with_reducible exact LeO.refl _)
   | (with_reducible exact LeO.none _)
   | (with_reducible refine LeO.ite ?_ ?_)
   | (with_reducible refine LeO.bind ?_ (fun _ => ?_))
   | exact ih0 _ _ _
   | exact ih1 _ _ _ _ _
   | exact ih2 _ _
   | exact ih3 _ _
   | exact tallymanlaw05_alive.mono _
   | exact tallymanref05_Near.mono _ _ _
   | exact walk_Reverse.mono _ _
   | exact LeO.none _
   | refine LeO.ite ?_ ?_
   | refine LeO.bind ?_ (fun _ => ?_)
  ·intro y0 y1 y2 y3 y4
   unfold tallymanlaw05_WalkLaws.j1
   repeat' first
   | (with_reducible exact ih0 _ _ _)
   | (with_reducible exact ih1 _ _ _ _ _)
   | (with_reducible exact ih2 _ _)
   | (with_reducible exact ih3 _ _)
   | (with_reducible exact tallymanlaw05_alive.mono _)
   | (with_reducible exact tallymanref05_Near.mono _ _ _)
   | (with_reducible exact walk_Reverse.mono _ _)
   | (with_reducible exact LeO.refl _)
   | (with_reducible exact LeO.none _)
   | (with_reducible refine LeO.ite ?_ ?_)
   | (with_reducible refine LeO.bind ?_ (fun _ => ?_))
   | exact ih0 _ _ _
   | exact ih1 _ _ _ _ _
   | exact ih2 _ _
   | exact ih3 _ _
   | exact tallymanlaw05_alive.mono _
   | exact tallymanref05_Near.mono _ _ _
   | exact walk_Reverse.mono _ _
   | exact LeO.none _
   | refine LeO.ite ?_ ?_
   | refine LeO.bind ?_ (fun _ => ?_)
  ·intro y0 y1
   unfold tallymanlaw05_WalkLaws.j2
   repeat' first
   | (with_reducible exact ih0 _ _ _)
   | (with_reducible exact ih1 _ _ _ _ _)
   | (with_reducible exact ih2 _ _)
   | (with_reducible exact ih3 _ _)
   | (with_reducible exact tallymanlaw05_alive.mono _)
   | (with_reducible exact tallymanref05_Near.mono _ _ _)
   | (with_reducible exact walk_Reverse.mono _ _)
   | (with_reducible exact LeO.refl _)
   | (with_reducible exact LeO.none _)
   | (with_reducible refine LeO.ite ?_ ?_)
   | (with_reducible refine LeO.bind ?_ (fun _ => ?_))
   | exact ih0 _ _ _
   | exact ih1 _ _ _ _ _
   | exact ih2 _ _
   | exact ih3 _ _
   | exact tallymanlaw05_alive.mono _
   | exact tallymanref05_Near.mono _ _ _
   | exact walk_Reverse.mono _ _
   | exact LeO.none _
   | refine LeO.ite ?_ ?_
   | refine LeO.bind ?_ (fun _ => ?_)
  ·intro y0 y1
   unfold tallymanlaw05_WalkLaws.l0
   repeat' first
   | (with_reducible exact ih0 _ _ _)
   | (with_reducible exact ih1 _ _ _ _ _)
   | (with_reducible exact ih2 _ _)
   | (with_reducible exact ih3 _ _)
   | (with_reducible exact tallymanlaw05_alive.mono _)
   | (with_reducible exact tallymanref05_Near.mono _ _ _)
   | (with_reducible exact walk_Reverse.mono _ _)
   | (with_reducible exact LeO.refl _)
   | (with_reducible exact LeO.none _)
   | (with_reducible refine LeO.ite ?_ ?_)
   | (with_reducible refine LeO.bind ?_ (fun _ => ?_))
   | exact ih0 _ _ _
   | exact ih1 _ _ _ _ _
   | exact ih2 _ _
   | exact ih3 _ _
   | exact tallymanlaw05_alive.mono _
   | exact tallymanref05_Near.mono _ _ _
   | exact walk_Reverse.mono _ _
   | exact LeO.none _
   | refine LeO.ite ?_ ?_
   | refine LeO.bind ?_ (fun _ => ?_)
theorem tallymanlaw05_WalkLaws.mono : ∀ a0 a1 k, LeO (tallymanlaw05_WalkLaws.f k a0 a1) (tallymanlaw05_WalkLaws.f (k + 1) a0 a1) := by
 intro a0 a1 k
 obtain ⟨ih0, ih1, ih2, ih3⟩ := tallymanlaw05_WalkLaws.mono_l k
 unfold tallymanlaw05_WalkLaws.f
 repeat' first
   | (with_reducible exact ih0 _ _ _)
   | (with_reducible exact ih1 _ _ _ _ _)
   | (with_reducible exact ih2 _ _)
   | (with_reducible exact ih3 _ _)
   | (with_reducible exact tallymanlaw05_alive.mono _)
   | (with_reducible exact tallymanref05_Near.mono _ _ _)
   | (with_reducible exact walk_Reverse.mono _ _)
   | (with_reducible exact LeO.refl _)
   | (with_reducible exact LeO.none _)
   | (with_reducible refine LeO.ite ?_ ?_)
   | (with_reducible refine LeO.bind ?_ (fun _ => ?_))
   | exact ih0 _ _ _
   | exact ih1 _ _ _ _ _
   | exact ih2 _ _
   | exact ih3 _ _
   | exact tallymanlaw05_alive.mono _
   | exact tallymanref05_Near.mono _ _ _
   | exact walk_Reverse.mono _ _
   | exact LeO.none _
   | refine LeO.ite ?_ ?_
   | refine LeO.bind ?_ (fun _ => ?_)
def tallymanlaw05_WalkLaws.T4 : Bool × List (List Nat × List Nat) := (true, [([], []), ([], []), ([0, 1], [0, 1]), ([2, 2], [2]), ([], []), ([], []), ([4, 5, 3], [4, 5]), ([3, 6], [3, 6]), ([7, 6], [7]), ([8], [8]), ([9, 8, 8], [8, 9]), ([10, 10, 8], [8, 10]), ([8], [8]), ([12, 11, 8], [8, 12]), ([11, 13, 8], [8, 11, 13]), ([8, 14], [8, 14]), ([15, 13], [15]), ([16], [16]), ([16], [16]), ([18, 16, 16], [16, 18]), ([17, 19, 19, 16], [16, 17, 19]), ([20, 20, 16], [16, 20]), ([16], [16]), ([21, 22, 16], [16, 21, 22]), ([16, 23], [16, 23])])
def tallymanlaw05_WalkLaws.B4 : List Nat := [0, 0, 3, 7, 0, 0, 63, 127, 255, 511, 1023, 2047, 511, 8191, 16383, 32767, 65535, 131071, 131071, 393215, 1048575, 2097151, 131071, 8388607, 16777215]
theorem tallymanlaw05_WalkLaws.tab4 : rtab .any (opsOf Try.f11 4) = tallymanlaw05_WalkLaws.T4 := by kernel_rfl
theorem tallymanlaw05_WalkLaws.bits4 : waitsOk tallymanlaw05_WalkLaws.T4.2 tallymanlaw05_WalkLaws.B4 = true := by kernel_rfl
def tallymanlaw05_WalkLaws.T7 : Bool × List (List Nat × List Nat) := (true, [([], []), ([0], [0]), ([1], [1]), ([2], [2]), ([3, 2], [2, 3]), ([4, 2], [2, 4]), ([2, 5], [2, 5]), ([6, 2], [6]), ([7], [7]), ([8, 7], [7, 8]), ([9, 7], [7, 9]), ([7], [7]), ([10, 11, 7], [7, 10, 11]), ([7, 12], [7, 12]), ([13, 7], [13]), ([14], [14]), ([14], [14]), ([16, 14], [14, 16]), ([17, 14], [14, 17]), ([15, 18, 14], [14, 15, 18]), ([19, 14], [14, 19]), ([14], [14]), ([21, 14], [14, 21]), ([20, 22, 14], [14, 20, 22]), ([14, 23], [14, 23])])
def tallymanlaw05_WalkLaws.B7 : List Nat := [0, 1, 3, 7, 15, 31, 63, 127, 255, 511, 1023, 255, 4095, 8191, 16383, 32767, 32767, 98303, 229375, 524287, 1048575, 32767, 2129919, 8388607, 16777215]
theorem tallymanlaw05_WalkLaws.tab7 : rtab .any (opsOf Try.f11 7) = tallymanlaw05_WalkLaws.T7 := by kernel_rfl
theorem tallymanlaw05_WalkLaws.bits7 : waitsOk tallymanlaw05_WalkLaws.T7.2 tallymanlaw05_WalkLaws.B7 = true := by kernel_rfl
def tallymanlaw05_WalkLaws.T12 : Bool × List (List Nat × List Nat) := (true, [([], []), ([], []), ([0, 1], [0, 1]), ([2], [2]), ([3], [3]), ([], []), ([], []), ([6], [6]), ([5, 7], [5, 7]), ([8], [8]), ([9], [9]), ([4, 10], [4, 10]), ([], []), ([], []), ([12, 13], [12, 13]), ([14], [14]), ([15], [15]), ([], []), ([], []), ([18], [18]), ([17, 19], [17, 19]), ([20], [20]), ([21], [21]), ([16, 22], [16, 22]), ([11, 23], [11, 23]), ([], []), ([25, 24, 0, 1, 2, 3, 4, 5, 6, 7, 8, 9, 10, 11, 12, 13, 14, 15, 16, 17, 18, 19, 20, 21, 22, 23, 24, 25], [24, 25])])
def tallymanlaw05_WalkLaws.B12 : List Nat := [0, 0, 3, 7, 15, 0, 0, 64, 224, 480, 992, 2047, 0, 0, 12288, 28672, 61440, 0, 0, 262144, 917504, 1966080, 4063232, 8384512, 16777215, 0, 67108863]
theorem tallymanlaw05_WalkLaws.tab12 : rtab .any (opsOf Try.f11 12) = tallymanlaw05_WalkLaws.T12 := by kernel_rfl
theorem tallymanlaw05_WalkLaws.bits12 : waitsOk tallymanlaw05_WalkLaws.T12.2 tallymanlaw05_WalkLaws.B12 = true := by kernel_rfl
set_option maxHeartbeats 8000000 in
set_option maxRecDepth 100000 in
theorem tallymanlaw05_WalkLaws.calls (k : Nat) (A0 : Option Addr) (c0 : Nat) (l0 : List (S56)) (A1 : Option Addr) (c1 : Nat) (l1 : List (S56)) (r : Bool) (w : World) (hr0 : Kd.C k56 w A0 l0.length l0) (hc0 : l0.length ≤ c0) (hr1 : Kd.C k56 w A1 l1.length l1) (hc1 : l1.length ≤ c1) (h : tallymanlaw05_WalkLaws.f k l0 l1 = some r) (htr : r = true) :
  Calls Try.prog 11 #[.slice A0 l0.length c0, .slice A1 l1.length c1] w fun e w' => e = .returned (.bool r) ∧ Below w.heap.size w w' := by
 have HTR := Aside0.mk htr
 clear htr
 have hu34 := Try.underlying34
 have hu24 := Try.underlying24
 have HR0 := Aside0.mk hr0
 have HC0 := Aside0.mk hc0
 clear hr0 hc0
 have HR1 := Aside0.mk hr1
 have HC1 := Aside0.mk hc1
 clear hr1 hc1
 have HB := Aside0.mk (Below.refl w.heap.size w)
 have H : (if (l0.length : Int) > 60 then (tallymanlaw05_WalkLaws.j0 k l0 l1 true) else (if (l1.length : Int) > 60 then (tallymanlaw05_WalkLaws.j0 k l0 l1 true) else ((tallymanref05_Near.f k l0 250).bind fun t101 => (if t101 = true then ((tallymanref05_Near.f k l1 250).bind fun t102 => (tallymanlaw05_WalkLaws.j0 k l0 l1 (!t102))) else (tallymanlaw05_WalkLaws.j0 k l0 l1 true))))) = some r := h
 clear h
 have HC3 := Aside0.mk H
 clear H
 go_enter Try.func11, Try.ntmps11
 go_upto_region 1 with (fail)
 go_cut [28] (fun v28 wc => ∃ (kq : Nat) (x28_2 : Bool), v28 = .bool x28_2 ∧ Aside0 (tallymanlaw05_WalkLaws.j0 kq l0 l1 x28_2 = some r) ∧ Aside0 (kq ≤ k) ∧ Aside0 (Below w.heap.size w wc))
 case first =>
  have H := HC3.out
  clear HC3
  by_cases c4 : (l0.length : Int) > 60
  ·rw [if_pos c4] at H
   have c4b0 : decide (60 < (l0.length : Int)) = true := decide_eq_true c4
   have c4b1 : decide (60 < l0.length) = true := decide_eq_true (by omega)
   clear c4
   (first | rw [c4b0] | (simp only [i64_w, i32_w]; rw [c4b0]) | skip)
   have H' := Aside0.mk H
   clear H
   go_wp2
   go_meet
   case rel => exact ⟨_, (true), (by first | rfl | (simp; done) | (simp [*]; done)), H', ⟨by first | omega | exact Nat.le_refl _⟩, ⟨by repeat (first | (with_reducible first | exact HB.out | apply below_alloc | apply pw_below_drewN | apply below_drew1) | exact HB.out)⟩⟩
  ·rw [if_neg c4] at H
   have c4b0 : decide (60 < (l0.length : Int)) = false := decide_eq_false c4
   have c4b1 : decide (60 < l0.length) = false := decide_eq_false (by omega)
   clear c4
   (first | rw [c4b0] | (simp only [i64_w, i32_w]; rw [c4b0]) | skip)
   by_cases c5 : (l1.length : Int) > 60
   ·rw [if_pos c5] at H
    have c5b0 : decide (60 < (l1.length : Int)) = true := decide_eq_true c5
    have c5b1 : decide (60 < l1.length) = true := decide_eq_true (by omega)
    clear c5
    have H' := Aside0.mk H
    clear H
    go_wp2
    go_meet
    case rel => exact ⟨_, (true), (by first | rfl | (simp; done) | (simp [*]; done)), H', ⟨by first | omega | exact Nat.le_refl _⟩, ⟨by repeat (first | (with_reducible first | exact HB.out | apply below_alloc | apply pw_below_drewN | apply below_drew1) | exact HB.out)⟩⟩
   ·rw [if_neg c5] at H
    have c5b0 : decide (60 < (l1.length : Int)) = false := decide_eq_false c5
    have c5b1 : decide (60 < l1.length) = false := decide_eq_false (by omega)
    clear c5
    replace H := Option.bind_eq_some_iff.mp H
    obtain ⟨t101, A60, H⟩ := H
    replace H : (if t101 = true then ((tallymanref05_Near.f k l1 250).bind fun t102 => (tallymanlaw05_WalkLaws.j0 k l0 l1 (!t102))) else (tallymanlaw05_WalkLaws.j0 k l0 l1 true)) = some r := H
    have A6 := Aside0.mk A60
    clear A60
    by_cases c7 : t101 = true
    ·subst c7
     have H1 : ((tallymanref05_Near.f k l1 250).bind fun t102 => (tallymanlaw05_WalkLaws.j0 k l0 l1 (!t102))) = some r := by rw [if_pos rfl] at H; exact H
     clear H
     have H := H1
     clear H1
     replace H := Option.bind_eq_some_iff.mp H
     obtain ⟨t102, A80, H⟩ := H
     replace H : (tallymanlaw05_WalkLaws.j0 k l0 l1 (!t102)) = some r := H
     have A8 := Aside0.mk A80
     clear A80
     have H' := Aside0.mk H
     clear H
     go_wp2_with (first | (go_at_call 38; (with_reducible refine (tallymanref05_Near.calls k _ _ l0 250 true _ ?side1 ?side2 A6.out).mono ?_); (case side1 => repeat (first | exact (Kd.C_below HR0.out HB.out) | (with_reducible refine Kd.C_alloc ?_ _) | (with_reducible refine Kd.C_drewN ?_ _) | (with_reducible refine Kd.C_drew ?_))); (case side2 => exact HC0.out); rintro e w9 ⟨rfl, hb⟩; have n0_ := Aside0.mk (below_step (by repeat (first | (with_reducible first | exact HB.out | apply below_alloc | apply pw_below_drewN | apply below_drew1) | exact HB.out)) hb); clear HB; have HB := n0_; clear n0_; (try clear hb); (try clear hb2); (try clear hk); (try clear hi)) | (go_at_call 38; (with_reducible refine (tallymanref05_Near.calls k _ _ l1 250 t102 _ ?side1 ?side2 A8.out).mono ?_); (case side1 => repeat (first | exact (Kd.C_below HR1.out HB.out) | (with_reducible refine Kd.C_alloc ?_ _) | (with_reducible refine Kd.C_drewN ?_ _) | (with_reducible refine Kd.C_drew ?_))); (case side2 => exact HC1.out); rintro e w10 ⟨rfl, hb⟩; have n0_ := Aside0.mk (below_step (by repeat (first | (with_reducible first | exact HB.out | apply below_alloc | apply pw_below_drewN | apply below_drew1) | exact HB.out)) hb); clear HB; have HB := n0_; clear n0_; (try clear hb); (try clear hb2); (try clear hk); (try clear hi)))
     go_meet
     case rel => exact ⟨_, (!t102), (by first | rfl | (simp; done) | (simp [*]; done)), H', ⟨by first | omega | exact Nat.le_refl _⟩, ⟨by repeat (first | (with_reducible first | exact HB.out | apply below_alloc | apply pw_below_drewN | apply below_drew1) | exact HB.out)⟩⟩
    ·replace c7 := Bool.eq_false_iff.mpr c7
     subst c7
     have H1 : (tallymanlaw05_WalkLaws.j0 k l0 l1 true) = some r := by rw [if_neg (show ¬ (false = true) by decide)] at H; exact H
     clear H
     have H := H1
     clear H1
     have H' := Aside0.mk H
     clear H
     go_wp2_with (first | (go_at_call 38; (with_reducible refine (tallymanref05_Near.calls k _ _ l0 250 false _ ?side1 ?side2 A6.out).mono ?_); (case side1 => repeat (first | exact (Kd.C_below HR0.out HB.out) | (with_reducible refine Kd.C_alloc ?_ _) | (with_reducible refine Kd.C_drewN ?_ _) | (with_reducible refine Kd.C_drew ?_))); (case side2 => exact HC0.out); rintro e w11 ⟨rfl, hb⟩; have n0_ := Aside0.mk (below_step (by repeat (first | (with_reducible first | exact HB.out | apply below_alloc | apply pw_below_drewN | apply below_drew1) | exact HB.out)) hb); clear HB; have HB := n0_; clear n0_; (try clear hb); (try clear hb2); (try clear hk); (try clear hi)))
     go_meet
     case rel => exact ⟨_, (true), (by first | rfl | (simp; done) | (simp [*]; done)), H', ⟨by first | omega | exact Nat.le_refl _⟩, ⟨by repeat (first | (with_reducible first | exact HB.out | apply below_alloc | apply pw_below_drewN | apply below_drew1) | exact HB.out)⟩⟩
 case rest =>
  clear HC3
  try clear c1
  try clear p2
  try clear c4
  try clear c4b0
  try clear c4b1
  try clear c5
  try clear c5b0
  try clear c5b1
  try clear c7
  try clear c11
  obtain ⟨kq, x28_2, rfl, HA, HJ2, HB⟩ := hcut
  cases kq with
  | zero => exact absurd HA.out (by simp [tallymanlaw05_WalkLaws.j0])
  | succ kj2 =>
   have H := HA.out
   clear HA
   simp only [tallymanlaw05_WalkLaws.j0] at H
   by_cases c12 : x28_2 = true
   ·subst c12
    have H1 : ((tallymanlaw05_alive.f kj2).bind fun t103 => (some t103)) = some r := by rw [if_pos rfl] at H; exact H
    clear H
    have H := H1
    clear H1
    replace H := Option.bind_eq_some_iff.mp H
    obtain ⟨t103, A130, H⟩ := H
    replace H : (some t103) = some r := H
    have A13 := Aside0.mk A130
    clear A130
    obtain rfl := Option.some.inj H
    go_wp2_with (first | ((with_reducible refine gate_callee (f := 28) rfl ?_); refine goesL_ (some 29) rfl rfl Try.func28 (by kernel_rfl) rfl #[] rfl (by (try simp only [List.map_toArray, List.map_cons, List.map_nil]); first | done | rfl | (simp only [List.length_drop, List.length_take]; rfl)) ?_; (with_reducible refine (tallymanlaw05_alive.calls kj2  t103 _ A13.out).mono ?_); rintro e w14 ⟨rfl, hb⟩; refine ⟨_, rfl, ?_⟩; have n0_ := Aside0.mk (below_step (by repeat (first | (with_reducible first | exact HB.out | apply below_alloc | apply pw_below_drewN | apply below_drew1) | exact HB.out)) hb); clear HB; have HB := n0_; clear n0_; (try clear hb); (try clear hb2); (try clear hk); (try clear hi)))
    go_ret
    exact ⟨by first | rfl | ((repeat first | rw [Int.tdiv_eq_ediv_of_nonneg (by omega)] | rw [Int.tmod_eq_emod_of_nonneg (by omega)]); rfl) | (simp [errW_none, errW_some] <;> rfl) | (simp [*, errW_none, errW_some] <;> rfl), by repeat (first | (with_reducible first | exact HB.out | apply below_alloc | apply pw_below_drewN | apply below_drew1) | exact HB.out)⟩
   ·replace c12 := Bool.eq_false_iff.mpr c12
    subst c12
    have H1 : ((walk_End.f l0).bind fun bt104 => ((walk_End.f l1).bind fun bt107 => ((tallymanlaw05_both.f l0 l1).bind fun t112 => ((walk_End.f t112).bind fun bt115 => ((motion_Then.f bt107.1 bt107.2.1 bt107.2.2 bt104.1 bt104.2.1 bt104.2.2).bind fun bt118 => (if (!(bt115.1 == bt118.1) || ((!(bt115.2.1 == bt118.2.1) || (!(bt115.2.2 == bt118.2.2))))) = true then (tallymanlaw05_WalkLaws.j1 kj2 l0 true bt104.1 bt104.2.1 bt104.2.2) else ((walk_Reverse.f kj2 l0).bind fun t121 => ((walk_End.f t121).bind fun bt124 => ((motion_Back.f bt104.1 bt104.2.1 bt104.2.2).bind fun bt127 => (if (!(bt124.1 == bt127.1) || ((!(bt124.2.1 == bt127.2.1) || (!(bt124.2.2 == bt127.2.2))))) = true then (tallymanlaw05_WalkLaws.j1 kj2 l0 true bt104.1 bt104.2.1 bt104.2.2) else ((walk_Reverse.f kj2 l0).bind fun t130 => ((tallymanlaw05_both.f l0 t130).bind fun t133 => ((walk_End.f t133).bind fun bt136 => (tallymanlaw05_WalkLaws.j1 kj2 l0 (!(bt136.1 == 0) || ((!(bt136.2.1 == 0) || (!(bt136.2.2 == 0))))) bt104.1 bt104.2.1 bt104.2.2)))))))))))))) = some r := by rw [if_neg (show ¬ (false = true) by decide)] at H; exact H
    clear H
    have H := H1
    clear H1
    replace H := Option.bind_eq_some_iff.mp H
    obtain ⟨⟨t104, t105, t106⟩, A150, H⟩ := H
    replace H : ((walk_End.f l1).bind fun bt107 => ((tallymanlaw05_both.f l0 l1).bind fun t112 => ((walk_End.f t112).bind fun bt115 => ((motion_Then.f bt107.1 bt107.2.1 bt107.2.2 t104 t105 t106).bind fun bt118 => (if (!(bt115.1 == bt118.1) || ((!(bt115.2.1 == bt118.2.1) || (!(bt115.2.2 == bt118.2.2))))) = true then (tallymanlaw05_WalkLaws.j1 kj2 l0 true t104 t105 t106) else ((walk_Reverse.f kj2 l0).bind fun t121 => ((walk_End.f t121).bind fun bt124 => ((motion_Back.f t104 t105 t106).bind fun bt127 => (if (!(bt124.1 == bt127.1) || ((!(bt124.2.1 == bt127.2.1) || (!(bt124.2.2 == bt127.2.2))))) = true then (tallymanlaw05_WalkLaws.j1 kj2 l0 true t104 t105 t106) else ((walk_Reverse.f kj2 l0).bind fun t130 => ((tallymanlaw05_both.f l0 t130).bind fun t133 => ((walk_End.f t133).bind fun bt136 => (tallymanlaw05_WalkLaws.j1 kj2 l0 (!(bt136.1 == 0) || ((!(bt136.2.1 == 0) || (!(bt136.2.2 == 0))))) t104 t105 t106))))))))))))) = some r := H
    have A15 := Aside0.mk A150
    clear A150
    replace H := Option.bind_eq_some_iff.mp H
    obtain ⟨⟨t107, t108, t109⟩, A160, H⟩ := H
    replace H : ((tallymanlaw05_both.f l0 l1).bind fun t112 => ((walk_End.f t112).bind fun bt115 => ((motion_Then.f t107 t108 t109 t104 t105 t106).bind fun bt118 => (if (!(bt115.1 == bt118.1) || ((!(bt115.2.1 == bt118.2.1) || (!(bt115.2.2 == bt118.2.2))))) = true then (tallymanlaw05_WalkLaws.j1 kj2 l0 true t104 t105 t106) else ((walk_Reverse.f kj2 l0).bind fun t121 => ((walk_End.f t121).bind fun bt124 => ((motion_Back.f t104 t105 t106).bind fun bt127 => (if (!(bt124.1 == bt127.1) || ((!(bt124.2.1 == bt127.2.1) || (!(bt124.2.2 == bt127.2.2))))) = true then (tallymanlaw05_WalkLaws.j1 kj2 l0 true t104 t105 t106) else ((walk_Reverse.f kj2 l0).bind fun t130 => ((tallymanlaw05_both.f l0 t130).bind fun t133 => ((walk_End.f t133).bind fun bt136 => (tallymanlaw05_WalkLaws.j1 kj2 l0 (!(bt136.1 == 0) || ((!(bt136.2.1 == 0) || (!(bt136.2.2 == 0))))) t104 t105 t106)))))))))))) = some r := H
    have A16 := Aside0.mk A160
    clear A160
    have HC17 := Aside0.mk H
    clear H
    go_upto_region 4 with (first | ((with_reducible refine gate_callee (f := 40) rfl ?_); refine goesL_ (some 31) rfl rfl Try.func40 (by kernel_rfl) rfl #[.slice A0 l0.length c0] rfl (by (try simp only [List.map_toArray, List.map_cons, List.map_nil]); first | done | rfl | (simp only [List.length_drop, List.length_take]; rfl)) ?_; (with_reducible refine (walk_End.calls _ _ l0 t104 t105 t106 _ ?side1 ?side2 A15.out).mono ?_); (case side1 => repeat (first | exact (Kd.C_below HR0.out HB.out) | (with_reducible refine Kd.C_alloc ?_ _) | (with_reducible refine Kd.C_drewN ?_ _) | (with_reducible refine Kd.C_drew ?_))); (case side2 => exact HC0.out); rintro e w18 ⟨rfl, hb⟩; refine ⟨_, rfl, ?_⟩; have n0_ := Aside0.mk (below_step (by repeat (first | (with_reducible first | exact HB.out | apply below_alloc | apply pw_below_drewN | apply below_drew1) | exact HB.out)) hb); clear HB; have HB := n0_; clear n0_; (try clear hb); (try clear hb2); (try clear hk); (try clear hi)) | ((with_reducible refine gate_callee (f := 40) rfl ?_); refine goesL_ (some 33) rfl rfl Try.func40 (by kernel_rfl) rfl #[.slice A1 l1.length c1] rfl (by (try simp only [List.map_toArray, List.map_cons, List.map_nil]); first | done | rfl | (simp only [List.length_drop, List.length_take]; rfl)) ?_; (with_reducible refine (walk_End.calls _ _ l1 t107 t108 t109 _ ?side1 ?side2 A16.out).mono ?_); (case side1 => repeat (first | exact (Kd.C_below HR1.out HB.out) | (with_reducible refine Kd.C_alloc ?_ _) | (with_reducible refine Kd.C_drewN ?_ _) | (with_reducible refine Kd.C_drew ?_))); (case side2 => exact HC1.out); rintro e w19 ⟨rfl, hb⟩; refine ⟨_, rfl, ?_⟩; have n0_ := Aside0.mk (below_step (by repeat (first | (with_reducible first | exact HB.out | apply below_alloc | apply pw_below_drewN | apply below_drew1) | exact HB.out)) hb); clear HB; have HB := n0_; clear n0_; (try clear hb); (try clear hb2); (try clear hk); (try clear hi)) | ((with_reducible refine gate_dst (N := 5) rfl ?_); (try (refine gate_guard (by rfl) ?_; dsimp only)); refine box_event ?hg (N := 5) ?hd (cs := #[.int .i64 0, .int .i64 0, .int .i64 0]) (t := 34) ?hr ?_; (case hd => rfl); (case hg => rfl); (case hr => first | (go_simp; done) | (go_simp; rfl)); intro gb110 hg w20 hbox hb; have n0_ := Aside0.mk (below_step (by repeat (first | (with_reducible first | exact HB.out | apply below_alloc | apply pw_below_drewN | apply below_drew1) | exact HB.out)) hb); have n1_ := Aside0.mk (hbox); have n2_ := Aside0.mk ((by rw [hg]; exact (below_size (by repeat (first | (with_reducible first | exact HB.out | apply below_alloc | apply pw_below_drewN | apply below_drew1) | exact HB.out))) : w.heap.size ≤ gb110)); have n3_ := Aside0.mk ((by rw [hg]; exact (below_size (by repeat (first | (with_reducible first | exact HB.out | apply below_alloc | apply pw_below_drewN | apply below_drew1) | exact HB.out))) : w.heap.size ≤ gb110)); clear HB; have HB := n0_; have BK110 := n1_; have GW110 := n2_; have GE110 := n3_; clear n0_ n1_ n2_ n3_; clear hb hbox hg) | ((with_reducible refine gate_dst (N := 6) rfl ?_); (try (refine gate_guard (by rfl) ?_; dsimp only)); refine box_event ?hg (N := 6) ?hd (cs := #[.int .i64 0, .int .i64 0, .int .i64 0]) (t := 34) ?hr ?_; (case hd => rfl); (case hg => rfl); (case hr => first | (go_simp; done) | (go_simp; rfl)); intro gb111 hg w21 hbox hb; have n0_ := Aside0.mk (blk_below (g := gb110) (o := .cells #[.int .i64 0, .int .i64 0, .int .i64 0] 34 (0, 0)) (by (with_reducible repeat (first | refine blk_drewN ?_ _ | refine blk_drew ?_ | refine blk_alloc ?_ _)); exact BK110.out) hb); have n1_ := Aside0.mk (below_step (by repeat (first | (with_reducible first | exact HB.out | apply below_alloc | apply pw_below_drewN | apply below_drew1 | refine below_set ?_ GE110.out) | exact HB.out)) hb); have n2_ := Aside0.mk (hbox); have n3_ := Aside0.mk ((by rw [hg]; exact (below_size (by repeat (first | (with_reducible first | exact HB.out | apply below_alloc | apply pw_below_drewN | apply below_drew1 | refine below_set ?_ GE110.out) | exact HB.out))) : w.heap.size ≤ gb111)); have n4_ := Aside0.mk ((by rw [hg]; exact (below_size (by repeat (first | (with_reducible first | exact HB.out | apply below_alloc | apply pw_below_drewN | apply below_drew1 | refine below_set ?_ GE110.out) | exact HB.out))) : w.heap.size ≤ gb111)); have n5_ := Aside0.mk ((by rw [hg]; exact Nat.ne_of_lt (blk_lt (g := gb110) (o := .cells #[.int .i64 0, .int .i64 0, .int .i64 0] 34 (0, 0)) (by (with_reducible repeat (first | refine blk_drewN ?_ _ | refine blk_drew ?_ | refine blk_alloc ?_ _)); exact BK110.out)) : gb110 ≠ gb111)); have n6_ := Aside0.mk ((by rw [hg]; exact Nat.ne_of_gt (blk_lt (g := gb110) (o := .cells #[.int .i64 0, .int .i64 0, .int .i64 0] 34 (0, 0)) (by (with_reducible repeat (first | refine blk_drewN ?_ _ | refine blk_drew ?_ | refine blk_alloc ?_ _)); exact BK110.out)) : gb111 ≠ gb110)); clear BK110; clear HB; have BK110 := n0_; have HB := n1_; have BK111 := n2_; have GW111 := n3_; have GE111 := n4_; have NB110_111 := n5_; have NB111_110 := n6_; clear n0_ n1_ n2_ n3_ n4_ n5_ n6_; clear hb hbox hg; have hnb22 := NB110_111.out; have hnc22 := NB111_110.out; have hcz23_0 : w21.cell? ⟨gb110, 0, none⟩ = some (.int .i64 0) := (blk_cell BK110.out 0).trans rfl; have hcz23_1 : w21.cell? ⟨gb110, 1, none⟩ = some (.int .i64 0) := (blk_cell BK110.out 1).trans rfl; have hcz23_2 : w21.cell? ⟨gb110, 2, none⟩ = some (.int .i64 0) := (blk_cell BK110.out 2).trans rfl; have hfz23_0 := blk_frozen BK110.out 0; have hfz23_1 := blk_frozen BK110.out 1; have hfz23_2 := blk_frozen BK110.out 2; have hcz24_0 : w21.cell? ⟨gb111, 0, none⟩ = some (.int .i64 0) := (blk_cell BK111.out 0).trans rfl; have hcz24_1 : w21.cell? ⟨gb111, 1, none⟩ = some (.int .i64 0) := (blk_cell BK111.out 1).trans rfl; have hcz24_2 : w21.cell? ⟨gb111, 2, none⟩ = some (.int .i64 0) := (blk_cell BK111.out 2).trans rfl; have hfz24_0 := blk_frozen BK111.out 0; have hfz24_1 := blk_frozen BK111.out 1; have hfz24_2 := blk_frozen BK111.out 2))
    (try simp only [Act.put, sA, sZ, sS])
    go_cut [58] (fun v58 wc => ∃ (kq : Nat) (x58_16 : Bool), v58 = .bool x58_16 ∧ Aside0 (tallymanlaw05_WalkLaws.j1 kq l0 x58_16 t104 t105 t106 = some r) ∧ Aside0 (kq ≤ kj2) ∧ Aside0 (wc.heap[gb110]? = some (.cells #[.int .i64 t104, .int .i64 t105, .int .i64 t106] 34 (0, 0))) ∧ Aside0 (wc.heap[gb111]? = some (.cells #[.int .i64 t107, .int .i64 t108, .int .i64 t109] 34 (0, 0))) ∧ Aside0 (Below w.heap.size w wc))
    case first =>
     have H := HC17.out
     clear HC17
     replace H := Option.bind_eq_some_iff.mp H
     obtain ⟨t112, A250, H⟩ := H
     replace H : ((walk_End.f t112).bind fun bt115 => ((motion_Then.f t107 t108 t109 t104 t105 t106).bind fun bt118 => (if (!(bt115.1 == bt118.1) || ((!(bt115.2.1 == bt118.2.1) || (!(bt115.2.2 == bt118.2.2))))) = true then (tallymanlaw05_WalkLaws.j1 kj2 l0 true t104 t105 t106) else ((walk_Reverse.f kj2 l0).bind fun t121 => ((walk_End.f t121).bind fun bt124 => ((motion_Back.f t104 t105 t106).bind fun bt127 => (if (!(bt124.1 == bt127.1) || ((!(bt124.2.1 == bt127.2.1) || (!(bt124.2.2 == bt127.2.2))))) = true then (tallymanlaw05_WalkLaws.j1 kj2 l0 true t104 t105 t106) else ((walk_Reverse.f kj2 l0).bind fun t130 => ((tallymanlaw05_both.f l0 t130).bind fun t133 => ((walk_End.f t133).bind fun bt136 => (tallymanlaw05_WalkLaws.j1 kj2 l0 (!(bt136.1 == 0) || ((!(bt136.2.1 == 0) || (!(bt136.2.2 == 0))))) t104 t105 t106))))))))))) = some r := H
     have A25 := Aside0.mk A250
     clear A250
     replace H := Option.bind_eq_some_iff.mp H
     obtain ⟨⟨t115, t116, t117⟩, A260, H⟩ := H
     replace H : ((motion_Then.f t107 t108 t109 t104 t105 t106).bind fun bt118 => (if (!(t115 == bt118.1) || ((!(t116 == bt118.2.1) || (!(t117 == bt118.2.2))))) = true then (tallymanlaw05_WalkLaws.j1 kj2 l0 true t104 t105 t106) else ((walk_Reverse.f kj2 l0).bind fun t121 => ((walk_End.f t121).bind fun bt124 => ((motion_Back.f t104 t105 t106).bind fun bt127 => (if (!(bt124.1 == bt127.1) || ((!(bt124.2.1 == bt127.2.1) || (!(bt124.2.2 == bt127.2.2))))) = true then (tallymanlaw05_WalkLaws.j1 kj2 l0 true t104 t105 t106) else ((walk_Reverse.f kj2 l0).bind fun t130 => ((tallymanlaw05_both.f l0 t130).bind fun t133 => ((walk_End.f t133).bind fun bt136 => (tallymanlaw05_WalkLaws.j1 kj2 l0 (!(bt136.1 == 0) || ((!(bt136.2.1 == 0) || (!(bt136.2.2 == 0))))) t104 t105 t106)))))))))) = some r := H
     have A26 := Aside0.mk A260
     clear A260
     replace H := Option.bind_eq_some_iff.mp H
     obtain ⟨⟨t118, t119, t120⟩, A270, H⟩ := H
     replace H : (if (!(t115 == t118) || ((!(t116 == t119) || (!(t117 == t120))))) = true then (tallymanlaw05_WalkLaws.j1 kj2 l0 true t104 t105 t106) else ((walk_Reverse.f kj2 l0).bind fun t121 => ((walk_End.f t121).bind fun bt124 => ((motion_Back.f t104 t105 t106).bind fun bt127 => (if (!(bt124.1 == bt127.1) || ((!(bt124.2.1 == bt127.2.1) || (!(bt124.2.2 == bt127.2.2))))) = true then (tallymanlaw05_WalkLaws.j1 kj2 l0 true t104 t105 t106) else ((walk_Reverse.f kj2 l0).bind fun t130 => ((tallymanlaw05_both.f l0 t130).bind fun t133 => ((walk_End.f t133).bind fun bt136 => (tallymanlaw05_WalkLaws.j1 kj2 l0 (!(bt136.1 == 0) || ((!(bt136.2.1 == 0) || (!(bt136.2.2 == 0))))) t104 t105 t106))))))))) = some r := H
     have A27 := Aside0.mk A270
     clear A270
     by_cases c28 : (!(t115 == t118) || ((!(t116 == t119) || (!(t117 == t120))))) = true
     ·rw [if_pos c28] at H
      have c28b0 : (!(t115 == t118) || ((!(t116 == t119) || (!(t117 == t120))))) = true := c28
      clear c28
      (first | rw [c28b0] | (simp only [i64_w, i32_w]; rw [c28b0]) | skip)
      have H' := Aside0.mk H
      clear H
      try go_wp2
      have n0_ : Aside0 (((((((w21.setCell ⟨gb110, 0, none⟩ (.int .i64 t104)).setCell ⟨gb110, 1, none⟩ (.int .i64 t105)).setCell ⟨gb110, 2, none⟩ (.int .i64 t106)).setCell ⟨gb111, 0, none⟩ (.int .i64 t107)).setCell ⟨gb111, 1, none⟩ (.int .i64 t108)).setCell ⟨gb111, 2, none⟩ (.int .i64 t109)).heap[gb110]? = some (.cells #[.int .i64 t104, .int .i64 t105, .int .i64 t106] 34 (0, 0))) := ⟨by (with_reducible repeat (first | refine blk_drewN ?_ _ | refine blk_drew ?_ | refine blk_alloc ?_ _)); refine blk_far ?_ NB110_111.out _; (with_reducible repeat (first | refine blk_drewN ?_ _ | refine blk_drew ?_ | refine blk_alloc ?_ _)); refine blk_far ?_ NB110_111.out _; (with_reducible repeat (first | refine blk_drewN ?_ _ | refine blk_drew ?_ | refine blk_alloc ?_ _)); refine blk_far ?_ NB110_111.out _; (with_reducible repeat (first | refine blk_drewN ?_ _ | refine blk_drew ?_ | refine blk_alloc ?_ _)); refine blk_put (cs := #[.int .i64 t104, .int .i64 t105, .int .i64 0]) ?_ 2 _ rfl; (with_reducible repeat (first | refine blk_drewN ?_ _ | refine blk_drew ?_ | refine blk_alloc ?_ _)); refine blk_put (cs := #[.int .i64 t104, .int .i64 0, .int .i64 0]) ?_ 1 _ rfl; (with_reducible repeat (first | refine blk_drewN ?_ _ | refine blk_drew ?_ | refine blk_alloc ?_ _)); refine blk_put (cs := #[.int .i64 0, .int .i64 0, .int .i64 0]) ?_ 0 _ rfl; (with_reducible repeat (first | refine blk_drewN ?_ _ | refine blk_drew ?_ | refine blk_alloc ?_ _)); exact BK110.out⟩
      have n1_ : Aside0 (((((((w21.setCell ⟨gb110, 0, none⟩ (.int .i64 t104)).setCell ⟨gb110, 1, none⟩ (.int .i64 t105)).setCell ⟨gb110, 2, none⟩ (.int .i64 t106)).setCell ⟨gb111, 0, none⟩ (.int .i64 t107)).setCell ⟨gb111, 1, none⟩ (.int .i64 t108)).setCell ⟨gb111, 2, none⟩ (.int .i64 t109)).heap[gb111]? = some (.cells #[.int .i64 t107, .int .i64 t108, .int .i64 t109] 34 (0, 0))) := ⟨by (with_reducible repeat (first | refine blk_drewN ?_ _ | refine blk_drew ?_ | refine blk_alloc ?_ _)); refine blk_put (cs := #[.int .i64 t107, .int .i64 t108, .int .i64 0]) ?_ 2 _ rfl; (with_reducible repeat (first | refine blk_drewN ?_ _ | refine blk_drew ?_ | refine blk_alloc ?_ _)); refine blk_put (cs := #[.int .i64 t107, .int .i64 0, .int .i64 0]) ?_ 1 _ rfl; (with_reducible repeat (first | refine blk_drewN ?_ _ | refine blk_drew ?_ | refine blk_alloc ?_ _)); refine blk_put (cs := #[.int .i64 0, .int .i64 0, .int .i64 0]) ?_ 0 _ rfl; (with_reducible repeat (first | refine blk_drewN ?_ _ | refine blk_drew ?_ | refine blk_alloc ?_ _)); refine blk_far ?_ NB111_110.out _; (with_reducible repeat (first | refine blk_drewN ?_ _ | refine blk_drew ?_ | refine blk_alloc ?_ _)); refine blk_far ?_ NB111_110.out _; (with_reducible repeat (first | refine blk_drewN ?_ _ | refine blk_drew ?_ | refine blk_alloc ?_ _)); refine blk_far ?_ NB111_110.out _; (with_reducible repeat (first | refine blk_drewN ?_ _ | refine blk_drew ?_ | refine blk_alloc ?_ _)); exact BK111.out⟩
      have n2_ : Aside0 (Below w.heap.size w ((((((w21.setCell ⟨gb110, 0, none⟩ (.int .i64 t104)).setCell ⟨gb110, 1, none⟩ (.int .i64 t105)).setCell ⟨gb110, 2, none⟩ (.int .i64 t106)).setCell ⟨gb111, 0, none⟩ (.int .i64 t107)).setCell ⟨gb111, 1, none⟩ (.int .i64 t108)).setCell ⟨gb111, 2, none⟩ (.int .i64 t109))) := ⟨by repeat (first | (with_reducible first | exact HB.out | apply below_alloc | apply pw_below_drewN | apply below_drew1 | refine below_set ?_ GE110.out | refine below_set ?_ GE111.out) | exact HB.out)⟩
      (try clear BK110)
      (try clear BK111)
      (try clear HB)
      generalize ((((((w21.setCell ⟨gb110, 0, none⟩ (.int .i64 t104)).setCell ⟨gb110, 1, none⟩ (.int .i64 t105)).setCell ⟨gb110, 2, none⟩ (.int .i64 t106)).setCell ⟨gb111, 0, none⟩ (.int .i64 t107)).setCell ⟨gb111, 1, none⟩ (.int .i64 t108)).setCell ⟨gb111, 2, none⟩ (.int .i64 t109)) = w29 at n0_ n1_ n2_ ⊢
      have BK110 := n0_
      have BK111 := n1_
      have HB := n2_
      clear n0_ n1_ n2_
      have n0_ := Aside0.mk (blk_drew BK110.out)
      have n1_ := Aside0.mk (blk_drew BK111.out)
      have n2_ := Aside0.mk (below_drew1 HB.out)
      clear BK110
      clear BK111
      clear HB
      have BK110 := n0_
      have BK111 := n1_
      have HB := n2_
      clear n0_ n1_ n2_
      refine start_ (n := 25) (S := fun w' => w'.cell? ⟨gb111, 0, none⟩ = some (.int .i64 t107) ∧ w'.cell? ⟨gb111, 1, none⟩ = some (.int .i64 t108) ∧ w'.cell? ⟨gb111, 2, none⟩ = some (.int .i64 t109) ∧ w'.cell? ⟨gb110, 0, none⟩ = some (.int .i64 t104) ∧ w'.cell? ⟨gb110, 1, none⟩ = some (.int .i64 t105) ∧ w'.cell? ⟨gb110, 2, none⟩ = some (.int .i64 t106)) (ds := []) (btB 25 0) (by kernel_rfl) rfl rfl ⟨(blk_cell BK111.out 0).trans rfl, (blk_cell BK111.out 1).trans rfl, (blk_cell BK111.out 2).trans rfl, (blk_cell BK110.out 0).trans rfl, (blk_cell BK110.out 1).trans rfl, (blk_cell BK110.out 2).trans rfl⟩ (fun hHeld => ?_); refine with_tabW tallymanlaw05_WalkLaws.tab4 tallymanlaw05_WalkLaws.bits4 (fun HT_ HW_ => ?_)
      generalize w29.drew = w30 at BK110 BK111 HB hHeld ⊢
      refine pt_ ?_ 0 (some 34) (btB 25 1) rfl rfl HT_.out (by kernel_rfl) qq_ (Or.inl ⟨by rfl, ?_⟩) ?_ ?_ ?_
      rotate_left; ·intro w'; go_simp; with_reducible rfl
      rotate_left; ·simp only [Act.put, sA, sZ, sS, i64_w, i32_w]; rfl
      refine pt_ ?_ 1 (some 35) (btB 25 3) rfl rfl HT_.out (by kernel_rfl) qq_ (Or.inl ⟨by rfl, ?_⟩) ?_ ?_ ?_
      rotate_left; ·intro w'; go_simp; with_reducible rfl
      rotate_left; ·simp only [Act.put, sA, sZ, sS, i64_w, i32_w]; rfl
      refine take_ (i := 4) (N := some 38) (v := ?_) (a' := ?_) (btB 25 19) rfl rfl (take_ofW HT_.out HW_.out (by kernel_rfl)) (fun _ _ _ h => h) (Or.inl ⟨by rfl, ?_⟩) hHeld ?_ ?_
      rotate_left; ·rintro w' ⟨s0, s1, s2, s3, s4, s5⟩; go_simp; with_reducible rfl
      rotate_left; ·simp only [Act.put, sA, sZ, sS, i64_w, i32_w]; rfl
      refine take_ (i := 5) (N := some 39) (v := ?_) (a' := ?_) (btB 25 51) rfl rfl (take_ofW HT_.out HW_.out (by kernel_rfl)) (fun _ _ _ h => h) (Or.inl ⟨by rfl, ?_⟩) hHeld ?_ ?_
      rotate_left; ·rintro w' ⟨s0, s1, s2, s3, s4, s5⟩; go_simp; with_reducible rfl
      rotate_left; ·simp only [Act.put, sA, sZ, sS, i64_w, i32_w]; rfl
      refine one_ (i := 2) (N := some 36) (btB 25 55) rfl rfl (one_of HT_.out (by kernel_rfl)) (by decide) (fun K hK => ?_)
      refine goes_ Try.func39 (by kernel_rfl) rfl #[.slice A0 l0.length c0, .slice A1 l1.length c1] (by rfl) rfl rfl (by (try simp only [List.map_toArray, List.map_cons, List.map_nil]); first | done | rfl | (simp only [List.length_drop, List.length_take]; rfl)) ?_
      with_reducible refine (tallymanlaw05_both.calls _ _ l0 _ _ l1 t112 _ ?side1 ?side2 ?side3 ?side4 A25.out).mono ?_
      (case side1 => repeat (first | exact (Kd.C_below HR0.out HB.out) | (with_reducible refine Kd.C_alloc ?_ _) | (with_reducible refine Kd.C_drewN ?_ _) | (with_reducible refine Kd.C_drew ?_)))
      (case side2 => exact HC0.out)
      (case side3 => repeat (first | exact (Kd.C_below HR1.out HB.out) | (with_reducible refine Kd.C_alloc ?_ _) | (with_reducible refine Kd.C_drewN ?_ _) | (with_reducible refine Kd.C_drew ?_)))
      (case side4 => exact HC1.out)
      rintro e w31 ⟨v113, rfl, ho0, hb⟩
      refine ⟨_, rfl, ?_⟩
      have n0_ := Aside0.mk (Kd.R_lower ho0 (below_size (by repeat (first | (with_reducible first | exact HB.out | apply below_alloc | apply pw_below_drewN | apply below_drew1 | refine below_set ?_ GE110.out | refine below_set ?_ GE111.out) | exact HB.out))))
      have n1_ := Aside0.mk (blk_below (g := gb110) (o := .cells #[.int .i64 t104, .int .i64 t105, .int .i64 t106] 34 (0, 0)) (by (with_reducible repeat (first | refine blk_drewN ?_ _ | refine blk_drew ?_ | refine blk_alloc ?_ _)); exact BK110.out) hb)
      have n2_ := Aside0.mk (blk_below (g := gb111) (o := .cells #[.int .i64 t107, .int .i64 t108, .int .i64 t109] 34 (0, 0)) (by (with_reducible repeat (first | refine blk_drewN ?_ _ | refine blk_drew ?_ | refine blk_alloc ?_ _)); exact BK111.out) hb)
      have n3_ := Aside0.mk (below_step (by repeat (first | (with_reducible first | exact HB.out | apply below_alloc | apply pw_below_drewN | apply below_drew1 | refine below_set ?_ GE110.out | refine below_set ?_ GE111.out) | exact HB.out)) hb)
      clear BK110
      clear BK111
      clear HB
      have HO114 := n0_
      have BK110 := n1_
      have BK111 := n2_
      have HB := n3_
      clear n0_ n1_ n2_ n3_
      (try clear hb)
      (try clear hb2)
      (try clear hk)
      (try clear hi)
      (try clear ho0)
      obtain ⟨Ao32, co32, eo32⟩ := Kd.R_slice HO114.out
      (first | subst eo32 | (injection eo32 with f1_ f2_ f3_; have f4_ := f1_.symm; have f5_ := f3_.symm; clear f1_ f2_ f3_; subst f4_; subst f5_))
      refine hK.out _ _ ⟨(blk_cell BK111.out 0).trans rfl, (blk_cell BK111.out 1).trans rfl, (blk_cell BK111.out 2).trans rfl, (blk_cell BK110.out 0).trans rfl, (blk_cell BK110.out 1).trans rfl, (blk_cell BK110.out 2).trans rfl⟩ (fun hHeld => ?_)
      clear hK K
      refine norm_ (a' := ?_) ?_ ?_
      rotate_left; ·show Act.put _ (some 36) _ = _; simp only [Act.put, sA, sZ, sS, i64_w, i32_w]; rfl
      refine one_ (i := 3) (N := some 37) (btB 25 63) rfl rfl (one_of HT_.out (by kernel_rfl)) (by decide) (fun K hK => ?_)
      refine goes_ Try.func40 (by kernel_rfl) rfl #[.slice Ao32 t112.length co32] (by rfl) rfl rfl (by (try simp only [List.map_toArray, List.map_cons, List.map_nil]); first | done | rfl | (simp only [List.length_drop, List.length_take]; rfl)) ?_
      with_reducible refine (walk_End.calls _ _ t112 t115 t116 t117 _ ?side1 ?side2 A26.out).mono ?_
      (case side1 => repeat (first | exact (Kd.R_reads' HO114.out).2.2 | (with_reducible refine Kd.C_alloc ?_ _) | (with_reducible refine Kd.C_drewN ?_ _) | (with_reducible refine Kd.C_drew ?_)))
      (case side2 => exact (Kd.R_reads' HO114.out).2.1)
      rintro e w33 ⟨rfl, hb⟩
      refine ⟨_, rfl, ?_⟩
      have n0_ := Aside0.mk (Kd.R_below (by (with_reducible repeat (first | apply Kd.R_alloc | apply Kd.R_drewN | apply Kd.R_drew)); exact HO114.out) hb)
      have n1_ := Aside0.mk (blk_below (g := gb110) (o := .cells #[.int .i64 t104, .int .i64 t105, .int .i64 t106] 34 (0, 0)) (by (with_reducible repeat (first | refine blk_drewN ?_ _ | refine blk_drew ?_ | refine blk_alloc ?_ _)); exact BK110.out) hb)
      have n2_ := Aside0.mk (blk_below (g := gb111) (o := .cells #[.int .i64 t107, .int .i64 t108, .int .i64 t109] 34 (0, 0)) (by (with_reducible repeat (first | refine blk_drewN ?_ _ | refine blk_drew ?_ | refine blk_alloc ?_ _)); exact BK111.out) hb)
      have n3_ := Aside0.mk (below_step (by repeat (first | (with_reducible first | exact HB.out | apply below_alloc | apply pw_below_drewN | apply below_drew1 | refine below_set ?_ GE110.out | refine below_set ?_ GE111.out) | exact HB.out)) hb)
      clear HO114
      clear BK110
      clear BK111
      clear HB
      have HO114 := n0_
      have BK110 := n1_
      have BK111 := n2_
      have HB := n3_
      clear n0_ n1_ n2_ n3_
      (try clear hb)
      (try clear hb2)
      (try clear hk)
      (try clear hi)
      refine hK.out _ _ ⟨(blk_cell BK111.out 0).trans rfl, (blk_cell BK111.out 1).trans rfl, (blk_cell BK111.out 2).trans rfl, (blk_cell BK110.out 0).trans rfl, (blk_cell BK110.out 1).trans rfl, (blk_cell BK110.out 2).trans rfl⟩ (fun hHeld => ?_)
      clear hK K
      refine norm_ (a' := ?_) ?_ ?_
      rotate_left; ·show Act.put _ (some 37) _ = _; simp only [Act.put, sA, sZ, sS, i64_w, i32_w]; rfl
      refine one_ (i := 6) (N := some 40) (btB 25 127) rfl rfl (one_of HT_.out (by kernel_rfl)) (by decide) (fun K hK => ?_)
      refine goes_ Try.func44 (by kernel_rfl) rfl #[.agg #[.int .i64 t107, .int .i64 t108, .int .i64 t109], .agg #[.int .i64 t104, .int .i64 t105, .int .i64 t106]] (by rfl) rfl rfl (by (try simp only [List.map_toArray, List.map_cons, List.map_nil]); first | done | rfl | (simp only [List.length_drop, List.length_take]; rfl)) ?_
      with_reducible refine (motion_Then.calls t107 t108 t109 t104 t105 t106 t118 t119 t120 _ A27.out).mono ?_
      rintro e w34 ⟨rfl, hb⟩
      refine ⟨_, rfl, ?_⟩
      have n0_ := Aside0.mk (Kd.R_below (by (with_reducible repeat (first | apply Kd.R_alloc | apply Kd.R_drewN | apply Kd.R_drew)); exact HO114.out) hb)
      have n1_ := Aside0.mk (blk_below (g := gb110) (o := .cells #[.int .i64 t104, .int .i64 t105, .int .i64 t106] 34 (0, 0)) (by (with_reducible repeat (first | refine blk_drewN ?_ _ | refine blk_drew ?_ | refine blk_alloc ?_ _)); exact BK110.out) hb)
      have n2_ := Aside0.mk (blk_below (g := gb111) (o := .cells #[.int .i64 t107, .int .i64 t108, .int .i64 t109] 34 (0, 0)) (by (with_reducible repeat (first | refine blk_drewN ?_ _ | refine blk_drew ?_ | refine blk_alloc ?_ _)); exact BK111.out) hb)
      have n3_ := Aside0.mk (below_step (by repeat (first | (with_reducible first | exact HB.out | apply below_alloc | apply pw_below_drewN | apply below_drew1 | refine below_set ?_ GE110.out | refine below_set ?_ GE111.out) | exact HB.out)) hb)
      clear HO114
      clear BK110
      clear BK111
      clear HB
      have HO114 := n0_
      have BK110 := n1_
      have BK111 := n2_
      have HB := n3_
      clear n0_ n1_ n2_ n3_
      (try clear hb)
      (try clear hb2)
      (try clear hk)
      (try clear hi)
      refine hK.out _ _ ⟨(blk_cell BK111.out 0).trans rfl, (blk_cell BK111.out 1).trans rfl, (blk_cell BK111.out 2).trans rfl, (blk_cell BK110.out 0).trans rfl, (blk_cell BK110.out 1).trans rfl, (blk_cell BK110.out 2).trans rfl⟩ (fun hHeld => ?_)
      clear hK K
      refine norm_ (a' := ?_) ?_ ?_
      rotate_left; ·show Act.put _ (some 40) _ = _; simp only [Act.put, sA, sZ, sS, i64_w, i32_w]; rfl
      refine pt_ ?_ 7 (some 41) (btB 25 255) rfl rfl HT_.out (by kernel_rfl) qq_ (Or.inl ⟨by rfl, ?_⟩) ?_ ?_ ?_
      rotate_left; ·intro w'; go_simp; with_reducible rfl
      rotate_left; ·simp only [Act.put, sA, sZ, sS, i64_w, i32_w]; rfl
      refine pt_ ?_ 8 (some 42) (btB 25 511) rfl rfl HT_.out (by kernel_rfl) qq_ (Or.inl ⟨by rfl, ?_⟩) ?_ ?_ ?_
      rotate_left; ·intro w'; go_simp; with_reducible rfl
      rotate_left; ·simp only [Act.put, sA, sZ, sS, i64_w, i32_w]; rfl
      refine pt_ undef 9 (some 43) (btB 25 1023) rfl rfl HT_.out (by kernel_rfl) qq_ (Or.inr ⟨by rfl, rfl⟩) ?_ ?_ ?_
      rotate_left; ·simp only [Act.put, sA, sZ, sS, i64_w, i32_w]; rfl
      refine pt_ undef 10 (some 44) (btB 25 2047) rfl rfl HT_.out (by kernel_rfl) qq_ (Or.inr ⟨by rfl, rfl⟩) ?_ ?_ ?_
      rotate_left; ·simp only [Act.put, sA, sZ, sS, i64_w, i32_w]; rfl
      refine pt_ undef 11 (some 45) (btB 25 4095) rfl rfl HT_.out (by kernel_rfl) qq_ (Or.inr ⟨by rfl, rfl⟩) ?_ ?_ ?_
      rotate_left; ·simp only [Act.put, sA, sZ, sS, i64_w, i32_w]; rfl
      refine pt_ undef 12 (some 46) (btB 25 8191) rfl rfl HT_.out (by kernel_rfl) qq_ (Or.inr ⟨by rfl, rfl⟩) ?_ ?_ ?_
      rotate_left; ·simp only [Act.put, sA, sZ, sS, i64_w, i32_w]; rfl
      refine pt_ undef 13 (some 47) (btB 25 16383) rfl rfl HT_.out (by kernel_rfl) qq_ (Or.inr ⟨by rfl, rfl⟩) ?_ ?_ ?_
      rotate_left; ·simp only [Act.put, sA, sZ, sS, i64_w, i32_w]; rfl
      refine pt_ undef 14 (some 48) (btB 25 32767) rfl rfl HT_.out (by kernel_rfl) qq_ (Or.inr ⟨by rfl, rfl⟩) ?_ ?_ ?_
      rotate_left; ·simp only [Act.put, sA, sZ, sS, i64_w, i32_w]; rfl
      refine pt_ ?_ 15 (some 49) (btB 25 65535) rfl rfl HT_.out (by kernel_rfl) qq_ (Or.inl ⟨by rfl, ?_⟩) ?_ ?_ ?_
      rotate_left; ·intro w'; go_simp; with_reducible rfl
      rotate_left; ·simp only [Act.put, sA, sZ, sS, i64_w, i32_w]; rfl
      refine pt_ ?_ 16 (some 50) (btB 25 131071) rfl rfl HT_.out (by kernel_rfl) qq_ (Or.inl ⟨by rfl, ?_⟩) ?_ ?_ ?_
      rotate_left; ·intro w'; go_simp; with_reducible rfl
      rotate_left; ·simp only [Act.put, sA, sZ, sS, i64_w, i32_w]; rfl
      refine pt_ undef 17 (some 51) (btB 25 262143) rfl rfl HT_.out (by kernel_rfl) qq_ (Or.inr ⟨by rfl, rfl⟩) ?_ ?_ ?_
      rotate_left; ·simp only [Act.put, sA, sZ, sS, i64_w, i32_w]; rfl
      refine pt_ undef 18 (some 52) (btB 25 524287) rfl rfl HT_.out (by kernel_rfl) qq_ (Or.inr ⟨by rfl, rfl⟩) ?_ ?_ ?_
      rotate_left; ·simp only [Act.put, sA, sZ, sS, i64_w, i32_w]; rfl
      refine pt_ undef 19 (some 53) (btB 25 1048575) rfl rfl HT_.out (by kernel_rfl) qq_ (Or.inr ⟨by rfl, rfl⟩) ?_ ?_ ?_
      rotate_left; ·simp only [Act.put, sA, sZ, sS, i64_w, i32_w]; rfl
      refine pt_ undef 20 (some 54) (btB 25 2097151) rfl rfl HT_.out (by kernel_rfl) qq_ (Or.inr ⟨by rfl, rfl⟩) ?_ ?_ ?_
      rotate_left; ·simp only [Act.put, sA, sZ, sS, i64_w, i32_w]; rfl
      refine pt_ undef 21 (some 55) (btB 25 4194303) rfl rfl HT_.out (by kernel_rfl) qq_ (Or.inr ⟨by rfl, rfl⟩) ?_ ?_ ?_
      rotate_left; ·simp only [Act.put, sA, sZ, sS, i64_w, i32_w]; rfl
      refine pt_ undef 22 (some 56) (btB 25 8388607) rfl rfl HT_.out (by kernel_rfl) qq_ (Or.inr ⟨by rfl, rfl⟩) ?_ ?_ ?_
      rotate_left; ·simp only [Act.put, sA, sZ, sS, i64_w, i32_w]; rfl
      refine pt_ undef 23 (some 57) (btB 25 16777215) rfl rfl HT_.out (by kernel_rfl) qq_ (Or.inr ⟨by rfl, rfl⟩) ?_ ?_ ?_
      rotate_left; ·simp only [Act.put, sA, sZ, sS, i64_w, i32_w]; rfl
      refine pt_ ?_ 24 (some 58) (btB 25 33554431) rfl rfl HT_.out (by kernel_rfl) qq_ (Or.inl ⟨by rfl, ?_⟩) ?_ ?_ ?_
      rotate_left; ·intro w'; go_simp; with_reducible rfl
      rotate_left; ·simp only [Act.put, sA, sZ, sS, i64_w, i32_w]; rfl
      refine done_ (done_of HT_.out (by kernel_rfl)) ?_
      try go_wp2
      go_meet
      case rel => exact ⟨_, (true), (by first | rfl | (simp; done) | (simp [*]; done)), H', ⟨by have := HJ2.out; first | omega | exact Nat.le_refl _⟩, ⟨by (with_reducible repeat (first | refine blk_drewN ?_ _ | refine blk_drew ?_ | refine blk_alloc ?_ _)); exact BK110.out⟩, ⟨by (with_reducible repeat (first | refine blk_drewN ?_ _ | refine blk_drew ?_ | refine blk_alloc ?_ _)); exact BK111.out⟩, ⟨by repeat (first | (with_reducible first | exact HB.out | apply below_alloc | apply pw_below_drewN | apply below_drew1 | refine below_set ?_ GE110.out | refine below_set ?_ GE111.out) | exact HB.out)⟩⟩
     ·rw [if_neg c28] at H
      have c28b0 : (!(t115 == t118) || ((!(t116 == t119) || (!(t117 == t120))))) = false := by simpa using c28
      clear c28
      (first | rw [c28b0] | (simp only [i64_w, i32_w]; rw [c28b0]) | skip)
      replace H := Option.bind_eq_some_iff.mp H
      obtain ⟨t121, A350, H⟩ := H
      replace H : ((walk_End.f t121).bind fun bt124 => ((motion_Back.f t104 t105 t106).bind fun bt127 => (if (!(bt124.1 == bt127.1) || ((!(bt124.2.1 == bt127.2.1) || (!(bt124.2.2 == bt127.2.2))))) = true then (tallymanlaw05_WalkLaws.j1 kj2 l0 true t104 t105 t106) else ((walk_Reverse.f kj2 l0).bind fun t130 => ((tallymanlaw05_both.f l0 t130).bind fun t133 => ((walk_End.f t133).bind fun bt136 => (tallymanlaw05_WalkLaws.j1 kj2 l0 (!(bt136.1 == 0) || ((!(bt136.2.1 == 0) || (!(bt136.2.2 == 0))))) t104 t105 t106))))))) = some r := H
      have A35 := Aside0.mk A350
      clear A350
      replace H := Option.bind_eq_some_iff.mp H
      obtain ⟨⟨t124, t125, t126⟩, A360, H⟩ := H
      replace H : ((motion_Back.f t104 t105 t106).bind fun bt127 => (if (!(t124 == bt127.1) || ((!(t125 == bt127.2.1) || (!(t126 == bt127.2.2))))) = true then (tallymanlaw05_WalkLaws.j1 kj2 l0 true t104 t105 t106) else ((walk_Reverse.f kj2 l0).bind fun t130 => ((tallymanlaw05_both.f l0 t130).bind fun t133 => ((walk_End.f t133).bind fun bt136 => (tallymanlaw05_WalkLaws.j1 kj2 l0 (!(bt136.1 == 0) || ((!(bt136.2.1 == 0) || (!(bt136.2.2 == 0))))) t104 t105 t106)))))) = some r := H
      have A36 := Aside0.mk A360
      clear A360
      replace H := Option.bind_eq_some_iff.mp H
      obtain ⟨⟨t127, t128, t129⟩, A370, H⟩ := H
      replace H : (if (!(t124 == t127) || ((!(t125 == t128) || (!(t126 == t129))))) = true then (tallymanlaw05_WalkLaws.j1 kj2 l0 true t104 t105 t106) else ((walk_Reverse.f kj2 l0).bind fun t130 => ((tallymanlaw05_both.f l0 t130).bind fun t133 => ((walk_End.f t133).bind fun bt136 => (tallymanlaw05_WalkLaws.j1 kj2 l0 (!(bt136.1 == 0) || ((!(bt136.2.1 == 0) || (!(bt136.2.2 == 0))))) t104 t105 t106))))) = some r := H
      have A37 := Aside0.mk A370
      clear A370
      by_cases c38 : (!(t124 == t127) || ((!(t125 == t128) || (!(t126 == t129))))) = true
      ·rw [if_pos c38] at H
       have c38b0 : (!(t124 == t127) || ((!(t125 == t128) || (!(t126 == t129))))) = true := c38
       clear c38
       have H' := Aside0.mk H
       clear H
       try go_wp2
       have n0_ : Aside0 (((((((w21.setCell ⟨gb110, 0, none⟩ (.int .i64 t104)).setCell ⟨gb110, 1, none⟩ (.int .i64 t105)).setCell ⟨gb110, 2, none⟩ (.int .i64 t106)).setCell ⟨gb111, 0, none⟩ (.int .i64 t107)).setCell ⟨gb111, 1, none⟩ (.int .i64 t108)).setCell ⟨gb111, 2, none⟩ (.int .i64 t109)).heap[gb110]? = some (.cells #[.int .i64 t104, .int .i64 t105, .int .i64 t106] 34 (0, 0))) := ⟨by (with_reducible repeat (first | refine blk_drewN ?_ _ | refine blk_drew ?_ | refine blk_alloc ?_ _)); refine blk_far ?_ NB110_111.out _; (with_reducible repeat (first | refine blk_drewN ?_ _ | refine blk_drew ?_ | refine blk_alloc ?_ _)); refine blk_far ?_ NB110_111.out _; (with_reducible repeat (first | refine blk_drewN ?_ _ | refine blk_drew ?_ | refine blk_alloc ?_ _)); refine blk_far ?_ NB110_111.out _; (with_reducible repeat (first | refine blk_drewN ?_ _ | refine blk_drew ?_ | refine blk_alloc ?_ _)); refine blk_put (cs := #[.int .i64 t104, .int .i64 t105, .int .i64 0]) ?_ 2 _ rfl; (with_reducible repeat (first | refine blk_drewN ?_ _ | refine blk_drew ?_ | refine blk_alloc ?_ _)); refine blk_put (cs := #[.int .i64 t104, .int .i64 0, .int .i64 0]) ?_ 1 _ rfl; (with_reducible repeat (first | refine blk_drewN ?_ _ | refine blk_drew ?_ | refine blk_alloc ?_ _)); refine blk_put (cs := #[.int .i64 0, .int .i64 0, .int .i64 0]) ?_ 0 _ rfl; (with_reducible repeat (first | refine blk_drewN ?_ _ | refine blk_drew ?_ | refine blk_alloc ?_ _)); exact BK110.out⟩
       have n1_ : Aside0 (((((((w21.setCell ⟨gb110, 0, none⟩ (.int .i64 t104)).setCell ⟨gb110, 1, none⟩ (.int .i64 t105)).setCell ⟨gb110, 2, none⟩ (.int .i64 t106)).setCell ⟨gb111, 0, none⟩ (.int .i64 t107)).setCell ⟨gb111, 1, none⟩ (.int .i64 t108)).setCell ⟨gb111, 2, none⟩ (.int .i64 t109)).heap[gb111]? = some (.cells #[.int .i64 t107, .int .i64 t108, .int .i64 t109] 34 (0, 0))) := ⟨by (with_reducible repeat (first | refine blk_drewN ?_ _ | refine blk_drew ?_ | refine blk_alloc ?_ _)); refine blk_put (cs := #[.int .i64 t107, .int .i64 t108, .int .i64 0]) ?_ 2 _ rfl; (with_reducible repeat (first | refine blk_drewN ?_ _ | refine blk_drew ?_ | refine blk_alloc ?_ _)); refine blk_put (cs := #[.int .i64 t107, .int .i64 0, .int .i64 0]) ?_ 1 _ rfl; (with_reducible repeat (first | refine blk_drewN ?_ _ | refine blk_drew ?_ | refine blk_alloc ?_ _)); refine blk_put (cs := #[.int .i64 0, .int .i64 0, .int .i64 0]) ?_ 0 _ rfl; (with_reducible repeat (first | refine blk_drewN ?_ _ | refine blk_drew ?_ | refine blk_alloc ?_ _)); refine blk_far ?_ NB111_110.out _; (with_reducible repeat (first | refine blk_drewN ?_ _ | refine blk_drew ?_ | refine blk_alloc ?_ _)); refine blk_far ?_ NB111_110.out _; (with_reducible repeat (first | refine blk_drewN ?_ _ | refine blk_drew ?_ | refine blk_alloc ?_ _)); refine blk_far ?_ NB111_110.out _; (with_reducible repeat (first | refine blk_drewN ?_ _ | refine blk_drew ?_ | refine blk_alloc ?_ _)); exact BK111.out⟩
       have n2_ : Aside0 (Below w.heap.size w ((((((w21.setCell ⟨gb110, 0, none⟩ (.int .i64 t104)).setCell ⟨gb110, 1, none⟩ (.int .i64 t105)).setCell ⟨gb110, 2, none⟩ (.int .i64 t106)).setCell ⟨gb111, 0, none⟩ (.int .i64 t107)).setCell ⟨gb111, 1, none⟩ (.int .i64 t108)).setCell ⟨gb111, 2, none⟩ (.int .i64 t109))) := ⟨by repeat (first | (with_reducible first | exact HB.out | apply below_alloc | apply pw_below_drewN | apply below_drew1 | refine below_set ?_ GE110.out | refine below_set ?_ GE111.out) | exact HB.out)⟩
       (try clear BK110)
       (try clear BK111)
       (try clear HB)
       generalize ((((((w21.setCell ⟨gb110, 0, none⟩ (.int .i64 t104)).setCell ⟨gb110, 1, none⟩ (.int .i64 t105)).setCell ⟨gb110, 2, none⟩ (.int .i64 t106)).setCell ⟨gb111, 0, none⟩ (.int .i64 t107)).setCell ⟨gb111, 1, none⟩ (.int .i64 t108)).setCell ⟨gb111, 2, none⟩ (.int .i64 t109)) = w39 at n0_ n1_ n2_ ⊢
       have BK110 := n0_
       have BK111 := n1_
       have HB := n2_
       clear n0_ n1_ n2_
       have n0_ := Aside0.mk (blk_drew BK110.out)
       have n1_ := Aside0.mk (blk_drew BK111.out)
       have n2_ := Aside0.mk (below_drew1 HB.out)
       clear BK110
       clear BK111
       clear HB
       have BK110 := n0_
       have BK111 := n1_
       have HB := n2_
       clear n0_ n1_ n2_
       refine start_ (n := 25) (S := fun w' => w'.cell? ⟨gb111, 0, none⟩ = some (.int .i64 t107) ∧ w'.cell? ⟨gb111, 1, none⟩ = some (.int .i64 t108) ∧ w'.cell? ⟨gb111, 2, none⟩ = some (.int .i64 t109) ∧ w'.cell? ⟨gb110, 0, none⟩ = some (.int .i64 t104) ∧ w'.cell? ⟨gb110, 1, none⟩ = some (.int .i64 t105) ∧ w'.cell? ⟨gb110, 2, none⟩ = some (.int .i64 t106)) (ds := []) (btB 25 0) (by kernel_rfl) rfl rfl ⟨(blk_cell BK111.out 0).trans rfl, (blk_cell BK111.out 1).trans rfl, (blk_cell BK111.out 2).trans rfl, (blk_cell BK110.out 0).trans rfl, (blk_cell BK110.out 1).trans rfl, (blk_cell BK110.out 2).trans rfl⟩ (fun hHeld => ?_); refine with_tabW tallymanlaw05_WalkLaws.tab4 tallymanlaw05_WalkLaws.bits4 (fun HT_ HW_ => ?_)
       generalize w39.drew = w40 at BK110 BK111 HB hHeld ⊢
       refine pt_ ?_ 0 (some 34) (btB 25 1) rfl rfl HT_.out (by kernel_rfl) qq_ (Or.inl ⟨by rfl, ?_⟩) ?_ ?_ ?_
       rotate_left; ·intro w'; go_simp; with_reducible rfl
       rotate_left; ·simp only [Act.put, sA, sZ, sS, i64_w, i32_w]; rfl
       refine pt_ ?_ 1 (some 35) (btB 25 3) rfl rfl HT_.out (by kernel_rfl) qq_ (Or.inl ⟨by rfl, ?_⟩) ?_ ?_ ?_
       rotate_left; ·intro w'; go_simp; with_reducible rfl
       rotate_left; ·simp only [Act.put, sA, sZ, sS, i64_w, i32_w]; rfl
       refine take_ (i := 4) (N := some 38) (v := ?_) (a' := ?_) (btB 25 19) rfl rfl (take_ofW HT_.out HW_.out (by kernel_rfl)) (fun _ _ _ h => h) (Or.inl ⟨by rfl, ?_⟩) hHeld ?_ ?_
       rotate_left; ·rintro w' ⟨s0, s1, s2, s3, s4, s5⟩; go_simp; with_reducible rfl
       rotate_left; ·simp only [Act.put, sA, sZ, sS, i64_w, i32_w]; rfl
       refine take_ (i := 5) (N := some 39) (v := ?_) (a' := ?_) (btB 25 51) rfl rfl (take_ofW HT_.out HW_.out (by kernel_rfl)) (fun _ _ _ h => h) (Or.inl ⟨by rfl, ?_⟩) hHeld ?_ ?_
       rotate_left; ·rintro w' ⟨s0, s1, s2, s3, s4, s5⟩; go_simp; with_reducible rfl
       rotate_left; ·simp only [Act.put, sA, sZ, sS, i64_w, i32_w]; rfl
       refine one_ (i := 2) (N := some 36) (btB 25 55) rfl rfl (one_of HT_.out (by kernel_rfl)) (by decide) (fun K hK => ?_)
       refine goes_ Try.func39 (by kernel_rfl) rfl #[.slice A0 l0.length c0, .slice A1 l1.length c1] (by rfl) rfl rfl (by (try simp only [List.map_toArray, List.map_cons, List.map_nil]); first | done | rfl | (simp only [List.length_drop, List.length_take]; rfl)) ?_
       with_reducible refine (tallymanlaw05_both.calls _ _ l0 _ _ l1 t112 _ ?side1 ?side2 ?side3 ?side4 A25.out).mono ?_
       (case side1 => repeat (first | exact (Kd.C_below HR0.out HB.out) | (with_reducible refine Kd.C_alloc ?_ _) | (with_reducible refine Kd.C_drewN ?_ _) | (with_reducible refine Kd.C_drew ?_)))
       (case side2 => exact HC0.out)
       (case side3 => repeat (first | exact (Kd.C_below HR1.out HB.out) | (with_reducible refine Kd.C_alloc ?_ _) | (with_reducible refine Kd.C_drewN ?_ _) | (with_reducible refine Kd.C_drew ?_)))
       (case side4 => exact HC1.out)
       rintro e w41 ⟨v113, rfl, ho0, hb⟩
       refine ⟨_, rfl, ?_⟩
       have n0_ := Aside0.mk (Kd.R_lower ho0 (below_size (by repeat (first | (with_reducible first | exact HB.out | apply below_alloc | apply pw_below_drewN | apply below_drew1 | refine below_set ?_ GE110.out | refine below_set ?_ GE111.out) | exact HB.out))))
       have n1_ := Aside0.mk (blk_below (g := gb110) (o := .cells #[.int .i64 t104, .int .i64 t105, .int .i64 t106] 34 (0, 0)) (by (with_reducible repeat (first | refine blk_drewN ?_ _ | refine blk_drew ?_ | refine blk_alloc ?_ _)); exact BK110.out) hb)
       have n2_ := Aside0.mk (blk_below (g := gb111) (o := .cells #[.int .i64 t107, .int .i64 t108, .int .i64 t109] 34 (0, 0)) (by (with_reducible repeat (first | refine blk_drewN ?_ _ | refine blk_drew ?_ | refine blk_alloc ?_ _)); exact BK111.out) hb)
       have n3_ := Aside0.mk (below_step (by repeat (first | (with_reducible first | exact HB.out | apply below_alloc | apply pw_below_drewN | apply below_drew1 | refine below_set ?_ GE110.out | refine below_set ?_ GE111.out) | exact HB.out)) hb)
       clear BK110
       clear BK111
       clear HB
       have HO114 := n0_
       have BK110 := n1_
       have BK111 := n2_
       have HB := n3_
       clear n0_ n1_ n2_ n3_
       (try clear hb)
       (try clear hb2)
       (try clear hk)
       (try clear hi)
       (try clear ho0)
       obtain ⟨Ao42, co42, eo42⟩ := Kd.R_slice HO114.out
       (first | subst eo42 | (injection eo42 with f1_ f2_ f3_; have f4_ := f1_.symm; have f5_ := f3_.symm; clear f1_ f2_ f3_; subst f4_; subst f5_))
       refine hK.out _ _ ⟨(blk_cell BK111.out 0).trans rfl, (blk_cell BK111.out 1).trans rfl, (blk_cell BK111.out 2).trans rfl, (blk_cell BK110.out 0).trans rfl, (blk_cell BK110.out 1).trans rfl, (blk_cell BK110.out 2).trans rfl⟩ (fun hHeld => ?_)
       clear hK K
       refine norm_ (a' := ?_) ?_ ?_
       rotate_left; ·show Act.put _ (some 36) _ = _; simp only [Act.put, sA, sZ, sS, i64_w, i32_w]; rfl
       refine one_ (i := 3) (N := some 37) (btB 25 63) rfl rfl (one_of HT_.out (by kernel_rfl)) (by decide) (fun K hK => ?_)
       refine goes_ Try.func40 (by kernel_rfl) rfl #[.slice Ao42 t112.length co42] (by rfl) rfl rfl (by (try simp only [List.map_toArray, List.map_cons, List.map_nil]); first | done | rfl | (simp only [List.length_drop, List.length_take]; rfl)) ?_
       with_reducible refine (walk_End.calls _ _ t112 t115 t116 t117 _ ?side1 ?side2 A26.out).mono ?_
       (case side1 => repeat (first | exact (Kd.R_reads' HO114.out).2.2 | (with_reducible refine Kd.C_alloc ?_ _) | (with_reducible refine Kd.C_drewN ?_ _) | (with_reducible refine Kd.C_drew ?_)))
       (case side2 => exact (Kd.R_reads' HO114.out).2.1)
       rintro e w43 ⟨rfl, hb⟩
       refine ⟨_, rfl, ?_⟩
       have n0_ := Aside0.mk (Kd.R_below (by (with_reducible repeat (first | apply Kd.R_alloc | apply Kd.R_drewN | apply Kd.R_drew)); exact HO114.out) hb)
       have n1_ := Aside0.mk (blk_below (g := gb110) (o := .cells #[.int .i64 t104, .int .i64 t105, .int .i64 t106] 34 (0, 0)) (by (with_reducible repeat (first | refine blk_drewN ?_ _ | refine blk_drew ?_ | refine blk_alloc ?_ _)); exact BK110.out) hb)
       have n2_ := Aside0.mk (blk_below (g := gb111) (o := .cells #[.int .i64 t107, .int .i64 t108, .int .i64 t109] 34 (0, 0)) (by (with_reducible repeat (first | refine blk_drewN ?_ _ | refine blk_drew ?_ | refine blk_alloc ?_ _)); exact BK111.out) hb)
       have n3_ := Aside0.mk (below_step (by repeat (first | (with_reducible first | exact HB.out | apply below_alloc | apply pw_below_drewN | apply below_drew1 | refine below_set ?_ GE110.out | refine below_set ?_ GE111.out) | exact HB.out)) hb)
       clear HO114
       clear BK110
       clear BK111
       clear HB
       have HO114 := n0_
       have BK110 := n1_
       have BK111 := n2_
       have HB := n3_
       clear n0_ n1_ n2_ n3_
       (try clear hb)
       (try clear hb2)
       (try clear hk)
       (try clear hi)
       refine hK.out _ _ ⟨(blk_cell BK111.out 0).trans rfl, (blk_cell BK111.out 1).trans rfl, (blk_cell BK111.out 2).trans rfl, (blk_cell BK110.out 0).trans rfl, (blk_cell BK110.out 1).trans rfl, (blk_cell BK110.out 2).trans rfl⟩ (fun hHeld => ?_)
       clear hK K
       refine norm_ (a' := ?_) ?_ ?_
       rotate_left; ·show Act.put _ (some 37) _ = _; simp only [Act.put, sA, sZ, sS, i64_w, i32_w]; rfl
       refine one_ (i := 6) (N := some 40) (btB 25 127) rfl rfl (one_of HT_.out (by kernel_rfl)) (by decide) (fun K hK => ?_)
       refine goes_ Try.func44 (by kernel_rfl) rfl #[.agg #[.int .i64 t107, .int .i64 t108, .int .i64 t109], .agg #[.int .i64 t104, .int .i64 t105, .int .i64 t106]] (by rfl) rfl rfl (by (try simp only [List.map_toArray, List.map_cons, List.map_nil]); first | done | rfl | (simp only [List.length_drop, List.length_take]; rfl)) ?_
       with_reducible refine (motion_Then.calls t107 t108 t109 t104 t105 t106 t118 t119 t120 _ A27.out).mono ?_
       rintro e w44 ⟨rfl, hb⟩
       refine ⟨_, rfl, ?_⟩
       have n0_ := Aside0.mk (Kd.R_below (by (with_reducible repeat (first | apply Kd.R_alloc | apply Kd.R_drewN | apply Kd.R_drew)); exact HO114.out) hb)
       have n1_ := Aside0.mk (blk_below (g := gb110) (o := .cells #[.int .i64 t104, .int .i64 t105, .int .i64 t106] 34 (0, 0)) (by (with_reducible repeat (first | refine blk_drewN ?_ _ | refine blk_drew ?_ | refine blk_alloc ?_ _)); exact BK110.out) hb)
       have n2_ := Aside0.mk (blk_below (g := gb111) (o := .cells #[.int .i64 t107, .int .i64 t108, .int .i64 t109] 34 (0, 0)) (by (with_reducible repeat (first | refine blk_drewN ?_ _ | refine blk_drew ?_ | refine blk_alloc ?_ _)); exact BK111.out) hb)
       have n3_ := Aside0.mk (below_step (by repeat (first | (with_reducible first | exact HB.out | apply below_alloc | apply pw_below_drewN | apply below_drew1 | refine below_set ?_ GE110.out | refine below_set ?_ GE111.out) | exact HB.out)) hb)
       clear HO114
       clear BK110
       clear BK111
       clear HB
       have HO114 := n0_
       have BK110 := n1_
       have BK111 := n2_
       have HB := n3_
       clear n0_ n1_ n2_ n3_
       (try clear hb)
       (try clear hb2)
       (try clear hk)
       (try clear hi)
       refine hK.out _ _ ⟨(blk_cell BK111.out 0).trans rfl, (blk_cell BK111.out 1).trans rfl, (blk_cell BK111.out 2).trans rfl, (blk_cell BK110.out 0).trans rfl, (blk_cell BK110.out 1).trans rfl, (blk_cell BK110.out 2).trans rfl⟩ (fun hHeld => ?_)
       clear hK K
       refine norm_ (a' := ?_) ?_ ?_
       rotate_left; ·show Act.put _ (some 40) _ = _; simp only [Act.put, sA, sZ, sS, i64_w, i32_w]; rfl
       refine pt_ ?_ 7 (some 41) (btB 25 255) rfl rfl HT_.out (by kernel_rfl) qq_ (Or.inl ⟨by rfl, ?_⟩) ?_ ?_ ?_
       rotate_left; ·intro w'; go_simp; with_reducible rfl
       rotate_left; ·simp only [Act.put, sA, sZ, sS, i64_w, i32_w]; rfl
       refine pt_ ?_ 8 (some 42) (btB 25 511) rfl rfl HT_.out (by kernel_rfl) qq_ (Or.inl ⟨by rfl, ?_⟩) ?_ ?_ ?_
       rotate_left; ·intro w'; go_simp; with_reducible rfl
       rotate_left; ·simp only [Act.put, sA, sZ, sS, i64_w, i32_w]; rfl
       refine pt_ ?_ 9 (some 43) (btB 25 1023) rfl rfl HT_.out (by kernel_rfl) qq_ (Or.inl ⟨by rfl, ?_⟩) ?_ ?_ ?_
       rotate_left; ·intro w'; go_simp; with_reducible rfl
       rotate_left; ·simp only [Act.put, sA, sZ, sS, i64_w, i32_w]; rfl
       refine take_ (i := 12) (N := some 46) (v := ?_) (a' := ?_) (btB 25 5119) rfl rfl (take_ofW HT_.out HW_.out (by kernel_rfl)) (fun _ _ _ h => h) (Or.inl ⟨by rfl, ?_⟩) hHeld ?_ ?_
       rotate_left; ·rintro w' ⟨s0, s1, s2, s3, s4, s5⟩; go_simp; with_reducible rfl
       rotate_left; ·simp only [Act.put, sA, sZ, sS, i64_w, i32_w]; rfl
       refine one_ (i := 10) (N := some 44) (btB 25 6143) rfl rfl (one_of HT_.out (by kernel_rfl)) (by decide) (fun K hK => ?_)
       refine goes_ Try.func36 (by kernel_rfl) rfl #[.slice A0 l0.length c0] (by rfl) rfl rfl (by (try simp only [List.map_toArray, List.map_cons, List.map_nil]); first | done | rfl | (simp only [List.length_drop, List.length_take]; rfl)) ?_
       with_reducible refine (walk_Reverse.calls kj2 _ _ l0 t121 _ ?side1 ?side2 A35.out).mono ?_
       (case side1 => repeat (first | exact (Kd.C_below HR0.out HB.out) | (with_reducible refine Kd.C_alloc ?_ _) | (with_reducible refine Kd.C_drewN ?_ _) | (with_reducible refine Kd.C_drew ?_)))
       (case side2 => exact HC0.out)
       rintro e w45 ⟨v122, rfl, ho0, hb⟩
       refine ⟨_, rfl, ?_⟩
       have n0_ := Aside0.mk (Kd.R_elder' (by (with_reducible repeat (first | apply Kd.R_alloc | apply Kd.R_drewN | apply Kd.R_drew)); exact HO114.out) (Kd.R_base ho0) hb)
       have n1_ := Aside0.mk (Kd.R_lower (Kd.R_new' ho0 (Kd.R_lt (by (with_reducible repeat (first | apply Kd.R_alloc | apply Kd.R_drewN | apply Kd.R_drew)); exact HO114.out))) (below_size (by repeat (first | (with_reducible first | exact HB.out | apply below_alloc | apply pw_below_drewN | apply below_drew1 | refine below_set ?_ GE110.out | refine below_set ?_ GE111.out) | exact HB.out))))
       have n2_ := Aside0.mk (blk_below (g := gb110) (o := .cells #[.int .i64 t104, .int .i64 t105, .int .i64 t106] 34 (0, 0)) (by (with_reducible repeat (first | refine blk_drewN ?_ _ | refine blk_drew ?_ | refine blk_alloc ?_ _)); exact BK110.out) hb)
       have n3_ := Aside0.mk (blk_below (g := gb111) (o := .cells #[.int .i64 t107, .int .i64 t108, .int .i64 t109] 34 (0, 0)) (by (with_reducible repeat (first | refine blk_drewN ?_ _ | refine blk_drew ?_ | refine blk_alloc ?_ _)); exact BK111.out) hb)
       have n4_ := Aside0.mk (below_step (by repeat (first | (with_reducible first | exact HB.out | apply below_alloc | apply pw_below_drewN | apply below_drew1 | refine below_set ?_ GE110.out | refine below_set ?_ GE111.out) | exact HB.out)) hb)
       clear HO114
       clear BK110
       clear BK111
       clear HB
       have HO114 := n0_
       have HO123 := n1_
       have BK110 := n2_
       have BK111 := n3_
       have HB := n4_
       clear n0_ n1_ n2_ n3_ n4_
       (try clear hb)
       (try clear hb2)
       (try clear hk)
       (try clear hi)
       (try clear ho0)
       obtain ⟨Ao46, co46, eo46⟩ := Kd.R_slice HO123.out
       (first | subst eo46 | (injection eo46 with f1_ f2_ f3_; have f4_ := f1_.symm; have f5_ := f3_.symm; clear f1_ f2_ f3_; subst f4_; subst f5_))
       refine hK.out _ _ ⟨(blk_cell BK111.out 0).trans rfl, (blk_cell BK111.out 1).trans rfl, (blk_cell BK111.out 2).trans rfl, (blk_cell BK110.out 0).trans rfl, (blk_cell BK110.out 1).trans rfl, (blk_cell BK110.out 2).trans rfl⟩ (fun hHeld => ?_)
       clear hK K
       refine norm_ (a' := ?_) ?_ ?_
       rotate_left; ·show Act.put _ (some 44) _ = _; simp only [Act.put, sA, sZ, sS, i64_w, i32_w]; rfl
       refine one_ (i := 11) (N := some 45) (btB 25 8191) rfl rfl (one_of HT_.out (by kernel_rfl)) (by decide) (fun K hK => ?_)
       refine goes_ Try.func40 (by kernel_rfl) rfl #[.slice Ao46 t121.length co46] (by rfl) rfl rfl (by (try simp only [List.map_toArray, List.map_cons, List.map_nil]); first | done | rfl | (simp only [List.length_drop, List.length_take]; rfl)) ?_
       with_reducible refine (walk_End.calls _ _ t121 t124 t125 t126 _ ?side1 ?side2 A36.out).mono ?_
       (case side1 => repeat (first | exact (Kd.R_reads' HO123.out).2.2 | (with_reducible refine Kd.C_alloc ?_ _) | (with_reducible refine Kd.C_drewN ?_ _) | (with_reducible refine Kd.C_drew ?_)))
       (case side2 => exact (Kd.R_reads' HO123.out).2.1)
       rintro e w47 ⟨rfl, hb⟩
       refine ⟨_, rfl, ?_⟩
       have n0_ := Aside0.mk (Kd.R_below (by (with_reducible repeat (first | apply Kd.R_alloc | apply Kd.R_drewN | apply Kd.R_drew)); exact HO114.out) hb)
       have n1_ := Aside0.mk (Kd.R_below (by (with_reducible repeat (first | apply Kd.R_alloc | apply Kd.R_drewN | apply Kd.R_drew)); exact HO123.out) hb)
       have n2_ := Aside0.mk (blk_below (g := gb110) (o := .cells #[.int .i64 t104, .int .i64 t105, .int .i64 t106] 34 (0, 0)) (by (with_reducible repeat (first | refine blk_drewN ?_ _ | refine blk_drew ?_ | refine blk_alloc ?_ _)); exact BK110.out) hb)
       have n3_ := Aside0.mk (blk_below (g := gb111) (o := .cells #[.int .i64 t107, .int .i64 t108, .int .i64 t109] 34 (0, 0)) (by (with_reducible repeat (first | refine blk_drewN ?_ _ | refine blk_drew ?_ | refine blk_alloc ?_ _)); exact BK111.out) hb)
       have n4_ := Aside0.mk (below_step (by repeat (first | (with_reducible first | exact HB.out | apply below_alloc | apply pw_below_drewN | apply below_drew1 | refine below_set ?_ GE110.out | refine below_set ?_ GE111.out) | exact HB.out)) hb)
       clear HO114
       clear HO123
       clear BK110
       clear BK111
       clear HB
       have HO114 := n0_
       have HO123 := n1_
       have BK110 := n2_
       have BK111 := n3_
       have HB := n4_
       clear n0_ n1_ n2_ n3_ n4_
       (try clear hb)
       (try clear hb2)
       (try clear hk)
       (try clear hi)
       refine hK.out _ _ ⟨(blk_cell BK111.out 0).trans rfl, (blk_cell BK111.out 1).trans rfl, (blk_cell BK111.out 2).trans rfl, (blk_cell BK110.out 0).trans rfl, (blk_cell BK110.out 1).trans rfl, (blk_cell BK110.out 2).trans rfl⟩ (fun hHeld => ?_)
       clear hK K
       refine norm_ (a' := ?_) ?_ ?_
       rotate_left; ·show Act.put _ (some 45) _ = _; simp only [Act.put, sA, sZ, sS, i64_w, i32_w]; rfl
       refine one_ (i := 13) (N := some 47) (btB 25 16383) rfl rfl (one_of HT_.out (by kernel_rfl)) (by decide) (fun K hK => ?_)
       refine goes_ Try.func45 (by kernel_rfl) rfl #[.agg #[.int .i64 t104, .int .i64 t105, .int .i64 t106]] (by rfl) rfl rfl (by (try simp only [List.map_toArray, List.map_cons, List.map_nil]); first | done | rfl | (simp only [List.length_drop, List.length_take]; rfl)) ?_
       with_reducible refine (motion_Back.calls t104 t105 t106 t127 t128 t129 _ A37.out).mono ?_
       rintro e w48 ⟨rfl, hb⟩
       refine ⟨_, rfl, ?_⟩
       have n0_ := Aside0.mk (Kd.R_below (by (with_reducible repeat (first | apply Kd.R_alloc | apply Kd.R_drewN | apply Kd.R_drew)); exact HO114.out) hb)
       have n1_ := Aside0.mk (Kd.R_below (by (with_reducible repeat (first | apply Kd.R_alloc | apply Kd.R_drewN | apply Kd.R_drew)); exact HO123.out) hb)
       have n2_ := Aside0.mk (blk_below (g := gb110) (o := .cells #[.int .i64 t104, .int .i64 t105, .int .i64 t106] 34 (0, 0)) (by (with_reducible repeat (first | refine blk_drewN ?_ _ | refine blk_drew ?_ | refine blk_alloc ?_ _)); exact BK110.out) hb)
       have n3_ := Aside0.mk (blk_below (g := gb111) (o := .cells #[.int .i64 t107, .int .i64 t108, .int .i64 t109] 34 (0, 0)) (by (with_reducible repeat (first | refine blk_drewN ?_ _ | refine blk_drew ?_ | refine blk_alloc ?_ _)); exact BK111.out) hb)
       have n4_ := Aside0.mk (below_step (by repeat (first | (with_reducible first | exact HB.out | apply below_alloc | apply pw_below_drewN | apply below_drew1 | refine below_set ?_ GE110.out | refine below_set ?_ GE111.out) | exact HB.out)) hb)
       clear HO114
       clear HO123
       clear BK110
       clear BK111
       clear HB
       have HO114 := n0_
       have HO123 := n1_
       have BK110 := n2_
       have BK111 := n3_
       have HB := n4_
       clear n0_ n1_ n2_ n3_ n4_
       (try clear hb)
       (try clear hb2)
       (try clear hk)
       (try clear hi)
       refine hK.out _ _ ⟨(blk_cell BK111.out 0).trans rfl, (blk_cell BK111.out 1).trans rfl, (blk_cell BK111.out 2).trans rfl, (blk_cell BK110.out 0).trans rfl, (blk_cell BK110.out 1).trans rfl, (blk_cell BK110.out 2).trans rfl⟩ (fun hHeld => ?_)
       clear hK K
       refine norm_ (a' := ?_) ?_ ?_
       rotate_left; ·show Act.put _ (some 47) _ = _; simp only [Act.put, sA, sZ, sS, i64_w, i32_w]; rfl
       refine pt_ ?_ 14 (some 48) (btB 25 32767) rfl rfl HT_.out (by kernel_rfl) qq_ (Or.inl ⟨by rfl, ?_⟩) ?_ ?_ ?_
       rotate_left; ·intro w'; go_simp; with_reducible rfl
       rotate_left; ·simp only [Act.put, sA, sZ, sS, i64_w, i32_w]; rfl
       refine pt_ ?_ 15 (some 49) (btB 25 65535) rfl rfl HT_.out (by kernel_rfl) qq_ (Or.inl ⟨by rfl, ?_⟩) ?_ ?_ ?_
       rotate_left; ·intro w'; go_simp; with_reducible rfl
       rotate_left; ·simp only [Act.put, sA, sZ, sS, i64_w, i32_w]; rfl
       refine pt_ ?_ 16 (some 50) (btB 25 131071) rfl rfl HT_.out (by kernel_rfl) qq_ (Or.inl ⟨by rfl, ?_⟩) ?_ ?_ ?_
       rotate_left; ·intro w'; go_simp; with_reducible rfl
       rotate_left; ·simp only [Act.put, sA, sZ, sS, i64_w, i32_w]; rfl
       refine pt_ undef 17 (some 51) (btB 25 262143) rfl rfl HT_.out (by kernel_rfl) qq_ (Or.inr ⟨by rfl, rfl⟩) ?_ ?_ ?_
       rotate_left; ·simp only [Act.put, sA, sZ, sS, i64_w, i32_w]; rfl
       refine pt_ undef 18 (some 52) (btB 25 524287) rfl rfl HT_.out (by kernel_rfl) qq_ (Or.inr ⟨by rfl, rfl⟩) ?_ ?_ ?_
       rotate_left; ·simp only [Act.put, sA, sZ, sS, i64_w, i32_w]; rfl
       refine pt_ undef 19 (some 53) (btB 25 1048575) rfl rfl HT_.out (by kernel_rfl) qq_ (Or.inr ⟨by rfl, rfl⟩) ?_ ?_ ?_
       rotate_left; ·simp only [Act.put, sA, sZ, sS, i64_w, i32_w]; rfl
       refine pt_ undef 20 (some 54) (btB 25 2097151) rfl rfl HT_.out (by kernel_rfl) qq_ (Or.inr ⟨by rfl, rfl⟩) ?_ ?_ ?_
       rotate_left; ·simp only [Act.put, sA, sZ, sS, i64_w, i32_w]; rfl
       refine pt_ undef 21 (some 55) (btB 25 4194303) rfl rfl HT_.out (by kernel_rfl) qq_ (Or.inr ⟨by rfl, rfl⟩) ?_ ?_ ?_
       rotate_left; ·simp only [Act.put, sA, sZ, sS, i64_w, i32_w]; rfl
       refine pt_ undef 22 (some 56) (btB 25 8388607) rfl rfl HT_.out (by kernel_rfl) qq_ (Or.inr ⟨by rfl, rfl⟩) ?_ ?_ ?_
       rotate_left; ·simp only [Act.put, sA, sZ, sS, i64_w, i32_w]; rfl
       refine pt_ undef 23 (some 57) (btB 25 16777215) rfl rfl HT_.out (by kernel_rfl) qq_ (Or.inr ⟨by rfl, rfl⟩) ?_ ?_ ?_
       rotate_left; ·simp only [Act.put, sA, sZ, sS, i64_w, i32_w]; rfl
       refine pt_ ?_ 24 (some 58) (btB 25 33554431) rfl rfl HT_.out (by kernel_rfl) qq_ (Or.inl ⟨by rfl, ?_⟩) ?_ ?_ ?_
       rotate_left; ·intro w'; go_simp; with_reducible rfl
       rotate_left; ·simp only [Act.put, sA, sZ, sS, i64_w, i32_w]; rfl
       refine done_ (done_of HT_.out (by kernel_rfl)) ?_
       try go_wp2
       go_meet
       case rel => exact ⟨_, (true), (by first | rfl | (simp; done) | (simp [*]; done)), H', ⟨by have := HJ2.out; first | omega | exact Nat.le_refl _⟩, ⟨by (with_reducible repeat (first | refine blk_drewN ?_ _ | refine blk_drew ?_ | refine blk_alloc ?_ _)); exact BK110.out⟩, ⟨by (with_reducible repeat (first | refine blk_drewN ?_ _ | refine blk_drew ?_ | refine blk_alloc ?_ _)); exact BK111.out⟩, ⟨by repeat (first | (with_reducible first | exact HB.out | apply below_alloc | apply pw_below_drewN | apply below_drew1 | refine below_set ?_ GE110.out | refine below_set ?_ GE111.out) | exact HB.out)⟩⟩
      ·rw [if_neg c38] at H
       have c38b0 : (!(t124 == t127) || ((!(t125 == t128) || (!(t126 == t129))))) = false := by simpa using c38
       clear c38
       replace H := Option.bind_eq_some_iff.mp H
       obtain ⟨t130, A490, H⟩ := H
       replace H : ((tallymanlaw05_both.f l0 t130).bind fun t133 => ((walk_End.f t133).bind fun bt136 => (tallymanlaw05_WalkLaws.j1 kj2 l0 (!(bt136.1 == 0) || ((!(bt136.2.1 == 0) || (!(bt136.2.2 == 0))))) t104 t105 t106))) = some r := H
       have A49 := Aside0.mk A490
       clear A490
       replace H := Option.bind_eq_some_iff.mp H
       obtain ⟨t133, A500, H⟩ := H
       replace H : ((walk_End.f t133).bind fun bt136 => (tallymanlaw05_WalkLaws.j1 kj2 l0 (!(bt136.1 == 0) || ((!(bt136.2.1 == 0) || (!(bt136.2.2 == 0))))) t104 t105 t106)) = some r := H
       have A50 := Aside0.mk A500
       clear A500
       replace H := Option.bind_eq_some_iff.mp H
       obtain ⟨⟨t136, t137, t138⟩, A510, H⟩ := H
       replace H : (tallymanlaw05_WalkLaws.j1 kj2 l0 (!(t136 == 0) || ((!(t137 == 0) || (!(t138 == 0))))) t104 t105 t106) = some r := H
       have A51 := Aside0.mk A510
       clear A510
       have H' := Aside0.mk H
       clear H
       try go_wp2
       have n0_ : Aside0 (((((((w21.setCell ⟨gb110, 0, none⟩ (.int .i64 t104)).setCell ⟨gb110, 1, none⟩ (.int .i64 t105)).setCell ⟨gb110, 2, none⟩ (.int .i64 t106)).setCell ⟨gb111, 0, none⟩ (.int .i64 t107)).setCell ⟨gb111, 1, none⟩ (.int .i64 t108)).setCell ⟨gb111, 2, none⟩ (.int .i64 t109)).heap[gb110]? = some (.cells #[.int .i64 t104, .int .i64 t105, .int .i64 t106] 34 (0, 0))) := ⟨by (with_reducible repeat (first | refine blk_drewN ?_ _ | refine blk_drew ?_ | refine blk_alloc ?_ _)); refine blk_far ?_ NB110_111.out _; (with_reducible repeat (first | refine blk_drewN ?_ _ | refine blk_drew ?_ | refine blk_alloc ?_ _)); refine blk_far ?_ NB110_111.out _; (with_reducible repeat (first | refine blk_drewN ?_ _ | refine blk_drew ?_ | refine blk_alloc ?_ _)); refine blk_far ?_ NB110_111.out _; (with_reducible repeat (first | refine blk_drewN ?_ _ | refine blk_drew ?_ | refine blk_alloc ?_ _)); refine blk_put (cs := #[.int .i64 t104, .int .i64 t105, .int .i64 0]) ?_ 2 _ rfl; (with_reducible repeat (first | refine blk_drewN ?_ _ | refine blk_drew ?_ | refine blk_alloc ?_ _)); refine blk_put (cs := #[.int .i64 t104, .int .i64 0, .int .i64 0]) ?_ 1 _ rfl; (with_reducible repeat (first | refine blk_drewN ?_ _ | refine blk_drew ?_ | refine blk_alloc ?_ _)); refine blk_put (cs := #[.int .i64 0, .int .i64 0, .int .i64 0]) ?_ 0 _ rfl; (with_reducible repeat (first | refine blk_drewN ?_ _ | refine blk_drew ?_ | refine blk_alloc ?_ _)); exact BK110.out⟩
       have n1_ : Aside0 (((((((w21.setCell ⟨gb110, 0, none⟩ (.int .i64 t104)).setCell ⟨gb110, 1, none⟩ (.int .i64 t105)).setCell ⟨gb110, 2, none⟩ (.int .i64 t106)).setCell ⟨gb111, 0, none⟩ (.int .i64 t107)).setCell ⟨gb111, 1, none⟩ (.int .i64 t108)).setCell ⟨gb111, 2, none⟩ (.int .i64 t109)).heap[gb111]? = some (.cells #[.int .i64 t107, .int .i64 t108, .int .i64 t109] 34 (0, 0))) := ⟨by (with_reducible repeat (first | refine blk_drewN ?_ _ | refine blk_drew ?_ | refine blk_alloc ?_ _)); refine blk_put (cs := #[.int .i64 t107, .int .i64 t108, .int .i64 0]) ?_ 2 _ rfl; (with_reducible repeat (first | refine blk_drewN ?_ _ | refine blk_drew ?_ | refine blk_alloc ?_ _)); refine blk_put (cs := #[.int .i64 t107, .int .i64 0, .int .i64 0]) ?_ 1 _ rfl; (with_reducible repeat (first | refine blk_drewN ?_ _ | refine blk_drew ?_ | refine blk_alloc ?_ _)); refine blk_put (cs := #[.int .i64 0, .int .i64 0, .int .i64 0]) ?_ 0 _ rfl; (with_reducible repeat (first | refine blk_drewN ?_ _ | refine blk_drew ?_ | refine blk_alloc ?_ _)); refine blk_far ?_ NB111_110.out _; (with_reducible repeat (first | refine blk_drewN ?_ _ | refine blk_drew ?_ | refine blk_alloc ?_ _)); refine blk_far ?_ NB111_110.out _; (with_reducible repeat (first | refine blk_drewN ?_ _ | refine blk_drew ?_ | refine blk_alloc ?_ _)); refine blk_far ?_ NB111_110.out _; (with_reducible repeat (first | refine blk_drewN ?_ _ | refine blk_drew ?_ | refine blk_alloc ?_ _)); exact BK111.out⟩
       have n2_ : Aside0 (Below w.heap.size w ((((((w21.setCell ⟨gb110, 0, none⟩ (.int .i64 t104)).setCell ⟨gb110, 1, none⟩ (.int .i64 t105)).setCell ⟨gb110, 2, none⟩ (.int .i64 t106)).setCell ⟨gb111, 0, none⟩ (.int .i64 t107)).setCell ⟨gb111, 1, none⟩ (.int .i64 t108)).setCell ⟨gb111, 2, none⟩ (.int .i64 t109))) := ⟨by repeat (first | (with_reducible first | exact HB.out | apply below_alloc | apply pw_below_drewN | apply below_drew1 | refine below_set ?_ GE110.out | refine below_set ?_ GE111.out) | exact HB.out)⟩
       (try clear BK110)
       (try clear BK111)
       (try clear HB)
       generalize ((((((w21.setCell ⟨gb110, 0, none⟩ (.int .i64 t104)).setCell ⟨gb110, 1, none⟩ (.int .i64 t105)).setCell ⟨gb110, 2, none⟩ (.int .i64 t106)).setCell ⟨gb111, 0, none⟩ (.int .i64 t107)).setCell ⟨gb111, 1, none⟩ (.int .i64 t108)).setCell ⟨gb111, 2, none⟩ (.int .i64 t109)) = w52 at n0_ n1_ n2_ ⊢
       have BK110 := n0_
       have BK111 := n1_
       have HB := n2_
       clear n0_ n1_ n2_
       have n0_ := Aside0.mk (blk_drew BK110.out)
       have n1_ := Aside0.mk (blk_drew BK111.out)
       have n2_ := Aside0.mk (below_drew1 HB.out)
       clear BK110
       clear BK111
       clear HB
       have BK110 := n0_
       have BK111 := n1_
       have HB := n2_
       clear n0_ n1_ n2_
       refine start_ (n := 25) (S := fun w' => w'.cell? ⟨gb111, 0, none⟩ = some (.int .i64 t107) ∧ w'.cell? ⟨gb111, 1, none⟩ = some (.int .i64 t108) ∧ w'.cell? ⟨gb111, 2, none⟩ = some (.int .i64 t109) ∧ w'.cell? ⟨gb110, 0, none⟩ = some (.int .i64 t104) ∧ w'.cell? ⟨gb110, 1, none⟩ = some (.int .i64 t105) ∧ w'.cell? ⟨gb110, 2, none⟩ = some (.int .i64 t106)) (ds := []) (btB 25 0) (by kernel_rfl) rfl rfl ⟨(blk_cell BK111.out 0).trans rfl, (blk_cell BK111.out 1).trans rfl, (blk_cell BK111.out 2).trans rfl, (blk_cell BK110.out 0).trans rfl, (blk_cell BK110.out 1).trans rfl, (blk_cell BK110.out 2).trans rfl⟩ (fun hHeld => ?_); refine with_tabW tallymanlaw05_WalkLaws.tab4 tallymanlaw05_WalkLaws.bits4 (fun HT_ HW_ => ?_)
       generalize w52.drew = w53 at BK110 BK111 HB hHeld ⊢
       refine pt_ ?_ 0 (some 34) (btB 25 1) rfl rfl HT_.out (by kernel_rfl) qq_ (Or.inl ⟨by rfl, ?_⟩) ?_ ?_ ?_
       rotate_left; ·intro w'; go_simp; with_reducible rfl
       rotate_left; ·simp only [Act.put, sA, sZ, sS, i64_w, i32_w]; rfl
       refine pt_ ?_ 1 (some 35) (btB 25 3) rfl rfl HT_.out (by kernel_rfl) qq_ (Or.inl ⟨by rfl, ?_⟩) ?_ ?_ ?_
       rotate_left; ·intro w'; go_simp; with_reducible rfl
       rotate_left; ·simp only [Act.put, sA, sZ, sS, i64_w, i32_w]; rfl
       refine take_ (i := 4) (N := some 38) (v := ?_) (a' := ?_) (btB 25 19) rfl rfl (take_ofW HT_.out HW_.out (by kernel_rfl)) (fun _ _ _ h => h) (Or.inl ⟨by rfl, ?_⟩) hHeld ?_ ?_
       rotate_left; ·rintro w' ⟨s0, s1, s2, s3, s4, s5⟩; go_simp; with_reducible rfl
       rotate_left; ·simp only [Act.put, sA, sZ, sS, i64_w, i32_w]; rfl
       refine take_ (i := 5) (N := some 39) (v := ?_) (a' := ?_) (btB 25 51) rfl rfl (take_ofW HT_.out HW_.out (by kernel_rfl)) (fun _ _ _ h => h) (Or.inl ⟨by rfl, ?_⟩) hHeld ?_ ?_
       rotate_left; ·rintro w' ⟨s0, s1, s2, s3, s4, s5⟩; go_simp; with_reducible rfl
       rotate_left; ·simp only [Act.put, sA, sZ, sS, i64_w, i32_w]; rfl
       refine one_ (i := 2) (N := some 36) (btB 25 55) rfl rfl (one_of HT_.out (by kernel_rfl)) (by decide) (fun K hK => ?_)
       refine goes_ Try.func39 (by kernel_rfl) rfl #[.slice A0 l0.length c0, .slice A1 l1.length c1] (by rfl) rfl rfl (by (try simp only [List.map_toArray, List.map_cons, List.map_nil]); first | done | rfl | (simp only [List.length_drop, List.length_take]; rfl)) ?_
       with_reducible refine (tallymanlaw05_both.calls _ _ l0 _ _ l1 t112 _ ?side1 ?side2 ?side3 ?side4 A25.out).mono ?_
       (case side1 => repeat (first | exact (Kd.C_below HR0.out HB.out) | (with_reducible refine Kd.C_alloc ?_ _) | (with_reducible refine Kd.C_drewN ?_ _) | (with_reducible refine Kd.C_drew ?_)))
       (case side2 => exact HC0.out)
       (case side3 => repeat (first | exact (Kd.C_below HR1.out HB.out) | (with_reducible refine Kd.C_alloc ?_ _) | (with_reducible refine Kd.C_drewN ?_ _) | (with_reducible refine Kd.C_drew ?_)))
       (case side4 => exact HC1.out)
       rintro e w54 ⟨v113, rfl, ho0, hb⟩
       refine ⟨_, rfl, ?_⟩
       have n0_ := Aside0.mk (Kd.R_lower ho0 (below_size (by repeat (first | (with_reducible first | exact HB.out | apply below_alloc | apply pw_below_drewN | apply below_drew1 | refine below_set ?_ GE110.out | refine below_set ?_ GE111.out) | exact HB.out))))
       have n1_ := Aside0.mk (blk_below (g := gb110) (o := .cells #[.int .i64 t104, .int .i64 t105, .int .i64 t106] 34 (0, 0)) (by (with_reducible repeat (first | refine blk_drewN ?_ _ | refine blk_drew ?_ | refine blk_alloc ?_ _)); exact BK110.out) hb)
       have n2_ := Aside0.mk (blk_below (g := gb111) (o := .cells #[.int .i64 t107, .int .i64 t108, .int .i64 t109] 34 (0, 0)) (by (with_reducible repeat (first | refine blk_drewN ?_ _ | refine blk_drew ?_ | refine blk_alloc ?_ _)); exact BK111.out) hb)
       have n3_ := Aside0.mk (below_step (by repeat (first | (with_reducible first | exact HB.out | apply below_alloc | apply pw_below_drewN | apply below_drew1 | refine below_set ?_ GE110.out | refine below_set ?_ GE111.out) | exact HB.out)) hb)
       clear BK110
       clear BK111
       clear HB
       have HO114 := n0_
       have BK110 := n1_
       have BK111 := n2_
       have HB := n3_
       clear n0_ n1_ n2_ n3_
       (try clear hb)
       (try clear hb2)
       (try clear hk)
       (try clear hi)
       (try clear ho0)
       obtain ⟨Ao55, co55, eo55⟩ := Kd.R_slice HO114.out
       (first | subst eo55 | (injection eo55 with f1_ f2_ f3_; have f4_ := f1_.symm; have f5_ := f3_.symm; clear f1_ f2_ f3_; subst f4_; subst f5_))
       refine hK.out _ _ ⟨(blk_cell BK111.out 0).trans rfl, (blk_cell BK111.out 1).trans rfl, (blk_cell BK111.out 2).trans rfl, (blk_cell BK110.out 0).trans rfl, (blk_cell BK110.out 1).trans rfl, (blk_cell BK110.out 2).trans rfl⟩ (fun hHeld => ?_)
       clear hK K
       refine norm_ (a' := ?_) ?_ ?_
       rotate_left; ·show Act.put _ (some 36) _ = _; simp only [Act.put, sA, sZ, sS, i64_w, i32_w]; rfl
       refine one_ (i := 3) (N := some 37) (btB 25 63) rfl rfl (one_of HT_.out (by kernel_rfl)) (by decide) (fun K hK => ?_)
       refine goes_ Try.func40 (by kernel_rfl) rfl #[.slice Ao55 t112.length co55] (by rfl) rfl rfl (by (try simp only [List.map_toArray, List.map_cons, List.map_nil]); first | done | rfl | (simp only [List.length_drop, List.length_take]; rfl)) ?_
       with_reducible refine (walk_End.calls _ _ t112 t115 t116 t117 _ ?side1 ?side2 A26.out).mono ?_
       (case side1 => repeat (first | exact (Kd.R_reads' HO114.out).2.2 | (with_reducible refine Kd.C_alloc ?_ _) | (with_reducible refine Kd.C_drewN ?_ _) | (with_reducible refine Kd.C_drew ?_)))
       (case side2 => exact (Kd.R_reads' HO114.out).2.1)
       rintro e w56 ⟨rfl, hb⟩
       refine ⟨_, rfl, ?_⟩
       have n0_ := Aside0.mk (Kd.R_below (by (with_reducible repeat (first | apply Kd.R_alloc | apply Kd.R_drewN | apply Kd.R_drew)); exact HO114.out) hb)
       have n1_ := Aside0.mk (blk_below (g := gb110) (o := .cells #[.int .i64 t104, .int .i64 t105, .int .i64 t106] 34 (0, 0)) (by (with_reducible repeat (first | refine blk_drewN ?_ _ | refine blk_drew ?_ | refine blk_alloc ?_ _)); exact BK110.out) hb)
       have n2_ := Aside0.mk (blk_below (g := gb111) (o := .cells #[.int .i64 t107, .int .i64 t108, .int .i64 t109] 34 (0, 0)) (by (with_reducible repeat (first | refine blk_drewN ?_ _ | refine blk_drew ?_ | refine blk_alloc ?_ _)); exact BK111.out) hb)
       have n3_ := Aside0.mk (below_step (by repeat (first | (with_reducible first | exact HB.out | apply below_alloc | apply pw_below_drewN | apply below_drew1 | refine below_set ?_ GE110.out | refine below_set ?_ GE111.out) | exact HB.out)) hb)
       clear HO114
       clear BK110
       clear BK111
       clear HB
       have HO114 := n0_
       have BK110 := n1_
       have BK111 := n2_
       have HB := n3_
       clear n0_ n1_ n2_ n3_
       (try clear hb)
       (try clear hb2)
       (try clear hk)
       (try clear hi)
       refine hK.out _ _ ⟨(blk_cell BK111.out 0).trans rfl, (blk_cell BK111.out 1).trans rfl, (blk_cell BK111.out 2).trans rfl, (blk_cell BK110.out 0).trans rfl, (blk_cell BK110.out 1).trans rfl, (blk_cell BK110.out 2).trans rfl⟩ (fun hHeld => ?_)
       clear hK K
       refine norm_ (a' := ?_) ?_ ?_
       rotate_left; ·show Act.put _ (some 37) _ = _; simp only [Act.put, sA, sZ, sS, i64_w, i32_w]; rfl
       refine one_ (i := 6) (N := some 40) (btB 25 127) rfl rfl (one_of HT_.out (by kernel_rfl)) (by decide) (fun K hK => ?_)
       refine goes_ Try.func44 (by kernel_rfl) rfl #[.agg #[.int .i64 t107, .int .i64 t108, .int .i64 t109], .agg #[.int .i64 t104, .int .i64 t105, .int .i64 t106]] (by rfl) rfl rfl (by (try simp only [List.map_toArray, List.map_cons, List.map_nil]); first | done | rfl | (simp only [List.length_drop, List.length_take]; rfl)) ?_
       with_reducible refine (motion_Then.calls t107 t108 t109 t104 t105 t106 t118 t119 t120 _ A27.out).mono ?_
       rintro e w57 ⟨rfl, hb⟩
       refine ⟨_, rfl, ?_⟩
       have n0_ := Aside0.mk (Kd.R_below (by (with_reducible repeat (first | apply Kd.R_alloc | apply Kd.R_drewN | apply Kd.R_drew)); exact HO114.out) hb)
       have n1_ := Aside0.mk (blk_below (g := gb110) (o := .cells #[.int .i64 t104, .int .i64 t105, .int .i64 t106] 34 (0, 0)) (by (with_reducible repeat (first | refine blk_drewN ?_ _ | refine blk_drew ?_ | refine blk_alloc ?_ _)); exact BK110.out) hb)
       have n2_ := Aside0.mk (blk_below (g := gb111) (o := .cells #[.int .i64 t107, .int .i64 t108, .int .i64 t109] 34 (0, 0)) (by (with_reducible repeat (first | refine blk_drewN ?_ _ | refine blk_drew ?_ | refine blk_alloc ?_ _)); exact BK111.out) hb)
       have n3_ := Aside0.mk (below_step (by repeat (first | (with_reducible first | exact HB.out | apply below_alloc | apply pw_below_drewN | apply below_drew1 | refine below_set ?_ GE110.out | refine below_set ?_ GE111.out) | exact HB.out)) hb)
       clear HO114
       clear BK110
       clear BK111
       clear HB
       have HO114 := n0_
       have BK110 := n1_
       have BK111 := n2_
       have HB := n3_
       clear n0_ n1_ n2_ n3_
       (try clear hb)
       (try clear hb2)
       (try clear hk)
       (try clear hi)
       refine hK.out _ _ ⟨(blk_cell BK111.out 0).trans rfl, (blk_cell BK111.out 1).trans rfl, (blk_cell BK111.out 2).trans rfl, (blk_cell BK110.out 0).trans rfl, (blk_cell BK110.out 1).trans rfl, (blk_cell BK110.out 2).trans rfl⟩ (fun hHeld => ?_)
       clear hK K
       refine norm_ (a' := ?_) ?_ ?_
       rotate_left; ·show Act.put _ (some 40) _ = _; simp only [Act.put, sA, sZ, sS, i64_w, i32_w]; rfl
       refine pt_ ?_ 7 (some 41) (btB 25 255) rfl rfl HT_.out (by kernel_rfl) qq_ (Or.inl ⟨by rfl, ?_⟩) ?_ ?_ ?_
       rotate_left; ·intro w'; go_simp; with_reducible rfl
       rotate_left; ·simp only [Act.put, sA, sZ, sS, i64_w, i32_w]; rfl
       refine pt_ ?_ 8 (some 42) (btB 25 511) rfl rfl HT_.out (by kernel_rfl) qq_ (Or.inl ⟨by rfl, ?_⟩) ?_ ?_ ?_
       rotate_left; ·intro w'; go_simp; with_reducible rfl
       rotate_left; ·simp only [Act.put, sA, sZ, sS, i64_w, i32_w]; rfl
       refine pt_ ?_ 9 (some 43) (btB 25 1023) rfl rfl HT_.out (by kernel_rfl) qq_ (Or.inl ⟨by rfl, ?_⟩) ?_ ?_ ?_
       rotate_left; ·intro w'; go_simp; with_reducible rfl
       rotate_left; ·simp only [Act.put, sA, sZ, sS, i64_w, i32_w]; rfl
       refine take_ (i := 12) (N := some 46) (v := ?_) (a' := ?_) (btB 25 5119) rfl rfl (take_ofW HT_.out HW_.out (by kernel_rfl)) (fun _ _ _ h => h) (Or.inl ⟨by rfl, ?_⟩) hHeld ?_ ?_
       rotate_left; ·rintro w' ⟨s0, s1, s2, s3, s4, s5⟩; go_simp; with_reducible rfl
       rotate_left; ·simp only [Act.put, sA, sZ, sS, i64_w, i32_w]; rfl
       refine one_ (i := 10) (N := some 44) (btB 25 6143) rfl rfl (one_of HT_.out (by kernel_rfl)) (by decide) (fun K hK => ?_)
       refine goes_ Try.func36 (by kernel_rfl) rfl #[.slice A0 l0.length c0] (by rfl) rfl rfl (by (try simp only [List.map_toArray, List.map_cons, List.map_nil]); first | done | rfl | (simp only [List.length_drop, List.length_take]; rfl)) ?_
       with_reducible refine (walk_Reverse.calls kj2 _ _ l0 t121 _ ?side1 ?side2 A35.out).mono ?_
       (case side1 => repeat (first | exact (Kd.C_below HR0.out HB.out) | (with_reducible refine Kd.C_alloc ?_ _) | (with_reducible refine Kd.C_drewN ?_ _) | (with_reducible refine Kd.C_drew ?_)))
       (case side2 => exact HC0.out)
       rintro e w58 ⟨v122, rfl, ho0, hb⟩
       refine ⟨_, rfl, ?_⟩
       have n0_ := Aside0.mk (Kd.R_elder' (by (with_reducible repeat (first | apply Kd.R_alloc | apply Kd.R_drewN | apply Kd.R_drew)); exact HO114.out) (Kd.R_base ho0) hb)
       have n1_ := Aside0.mk (Kd.R_lower (Kd.R_new' ho0 (Kd.R_lt (by (with_reducible repeat (first | apply Kd.R_alloc | apply Kd.R_drewN | apply Kd.R_drew)); exact HO114.out))) (below_size (by repeat (first | (with_reducible first | exact HB.out | apply below_alloc | apply pw_below_drewN | apply below_drew1 | refine below_set ?_ GE110.out | refine below_set ?_ GE111.out) | exact HB.out))))
       have n2_ := Aside0.mk (blk_below (g := gb110) (o := .cells #[.int .i64 t104, .int .i64 t105, .int .i64 t106] 34 (0, 0)) (by (with_reducible repeat (first | refine blk_drewN ?_ _ | refine blk_drew ?_ | refine blk_alloc ?_ _)); exact BK110.out) hb)
       have n3_ := Aside0.mk (blk_below (g := gb111) (o := .cells #[.int .i64 t107, .int .i64 t108, .int .i64 t109] 34 (0, 0)) (by (with_reducible repeat (first | refine blk_drewN ?_ _ | refine blk_drew ?_ | refine blk_alloc ?_ _)); exact BK111.out) hb)
       have n4_ := Aside0.mk (below_step (by repeat (first | (with_reducible first | exact HB.out | apply below_alloc | apply pw_below_drewN | apply below_drew1 | refine below_set ?_ GE110.out | refine below_set ?_ GE111.out) | exact HB.out)) hb)
       clear HO114
       clear BK110
       clear BK111
       clear HB
       have HO114 := n0_
       have HO123 := n1_
       have BK110 := n2_
       have BK111 := n3_
       have HB := n4_
       clear n0_ n1_ n2_ n3_ n4_
       (try clear hb)
       (try clear hb2)
       (try clear hk)
       (try clear hi)
       (try clear ho0)
       obtain ⟨Ao59, co59, eo59⟩ := Kd.R_slice HO123.out
       (first | subst eo59 | (injection eo59 with f1_ f2_ f3_; have f4_ := f1_.symm; have f5_ := f3_.symm; clear f1_ f2_ f3_; subst f4_; subst f5_))
       refine hK.out _ _ ⟨(blk_cell BK111.out 0).trans rfl, (blk_cell BK111.out 1).trans rfl, (blk_cell BK111.out 2).trans rfl, (blk_cell BK110.out 0).trans rfl, (blk_cell BK110.out 1).trans rfl, (blk_cell BK110.out 2).trans rfl⟩ (fun hHeld => ?_)
       clear hK K
       refine norm_ (a' := ?_) ?_ ?_
       rotate_left; ·show Act.put _ (some 44) _ = _; simp only [Act.put, sA, sZ, sS, i64_w, i32_w]; rfl
       refine one_ (i := 11) (N := some 45) (btB 25 8191) rfl rfl (one_of HT_.out (by kernel_rfl)) (by decide) (fun K hK => ?_)
       refine goes_ Try.func40 (by kernel_rfl) rfl #[.slice Ao59 t121.length co59] (by rfl) rfl rfl (by (try simp only [List.map_toArray, List.map_cons, List.map_nil]); first | done | rfl | (simp only [List.length_drop, List.length_take]; rfl)) ?_
       with_reducible refine (walk_End.calls _ _ t121 t124 t125 t126 _ ?side1 ?side2 A36.out).mono ?_
       (case side1 => repeat (first | exact (Kd.R_reads' HO123.out).2.2 | (with_reducible refine Kd.C_alloc ?_ _) | (with_reducible refine Kd.C_drewN ?_ _) | (with_reducible refine Kd.C_drew ?_)))
       (case side2 => exact (Kd.R_reads' HO123.out).2.1)
       rintro e w60 ⟨rfl, hb⟩
       refine ⟨_, rfl, ?_⟩
       have n0_ := Aside0.mk (Kd.R_below (by (with_reducible repeat (first | apply Kd.R_alloc | apply Kd.R_drewN | apply Kd.R_drew)); exact HO114.out) hb)
       have n1_ := Aside0.mk (Kd.R_below (by (with_reducible repeat (first | apply Kd.R_alloc | apply Kd.R_drewN | apply Kd.R_drew)); exact HO123.out) hb)
       have n2_ := Aside0.mk (blk_below (g := gb110) (o := .cells #[.int .i64 t104, .int .i64 t105, .int .i64 t106] 34 (0, 0)) (by (with_reducible repeat (first | refine blk_drewN ?_ _ | refine blk_drew ?_ | refine blk_alloc ?_ _)); exact BK110.out) hb)
       have n3_ := Aside0.mk (blk_below (g := gb111) (o := .cells #[.int .i64 t107, .int .i64 t108, .int .i64 t109] 34 (0, 0)) (by (with_reducible repeat (first | refine blk_drewN ?_ _ | refine blk_drew ?_ | refine blk_alloc ?_ _)); exact BK111.out) hb)
       have n4_ := Aside0.mk (below_step (by repeat (first | (with_reducible first | exact HB.out | apply below_alloc | apply pw_below_drewN | apply below_drew1 | refine below_set ?_ GE110.out | refine below_set ?_ GE111.out) | exact HB.out)) hb)
       clear HO114
       clear HO123
       clear BK110
       clear BK111
       clear HB
       have HO114 := n0_
       have HO123 := n1_
       have BK110 := n2_
       have BK111 := n3_
       have HB := n4_
       clear n0_ n1_ n2_ n3_ n4_
       (try clear hb)
       (try clear hb2)
       (try clear hk)
       (try clear hi)
       refine hK.out _ _ ⟨(blk_cell BK111.out 0).trans rfl, (blk_cell BK111.out 1).trans rfl, (blk_cell BK111.out 2).trans rfl, (blk_cell BK110.out 0).trans rfl, (blk_cell BK110.out 1).trans rfl, (blk_cell BK110.out 2).trans rfl⟩ (fun hHeld => ?_)
       clear hK K
       refine norm_ (a' := ?_) ?_ ?_
       rotate_left; ·show Act.put _ (some 45) _ = _; simp only [Act.put, sA, sZ, sS, i64_w, i32_w]; rfl
       refine one_ (i := 13) (N := some 47) (btB 25 16383) rfl rfl (one_of HT_.out (by kernel_rfl)) (by decide) (fun K hK => ?_)
       refine goes_ Try.func45 (by kernel_rfl) rfl #[.agg #[.int .i64 t104, .int .i64 t105, .int .i64 t106]] (by rfl) rfl rfl (by (try simp only [List.map_toArray, List.map_cons, List.map_nil]); first | done | rfl | (simp only [List.length_drop, List.length_take]; rfl)) ?_
       with_reducible refine (motion_Back.calls t104 t105 t106 t127 t128 t129 _ A37.out).mono ?_
       rintro e w61 ⟨rfl, hb⟩
       refine ⟨_, rfl, ?_⟩
       have n0_ := Aside0.mk (Kd.R_below (by (with_reducible repeat (first | apply Kd.R_alloc | apply Kd.R_drewN | apply Kd.R_drew)); exact HO114.out) hb)
       have n1_ := Aside0.mk (Kd.R_below (by (with_reducible repeat (first | apply Kd.R_alloc | apply Kd.R_drewN | apply Kd.R_drew)); exact HO123.out) hb)
       have n2_ := Aside0.mk (blk_below (g := gb110) (o := .cells #[.int .i64 t104, .int .i64 t105, .int .i64 t106] 34 (0, 0)) (by (with_reducible repeat (first | refine blk_drewN ?_ _ | refine blk_drew ?_ | refine blk_alloc ?_ _)); exact BK110.out) hb)
       have n3_ := Aside0.mk (blk_below (g := gb111) (o := .cells #[.int .i64 t107, .int .i64 t108, .int .i64 t109] 34 (0, 0)) (by (with_reducible repeat (first | refine blk_drewN ?_ _ | refine blk_drew ?_ | refine blk_alloc ?_ _)); exact BK111.out) hb)
       have n4_ := Aside0.mk (below_step (by repeat (first | (with_reducible first | exact HB.out | apply below_alloc | apply pw_below_drewN | apply below_drew1 | refine below_set ?_ GE110.out | refine below_set ?_ GE111.out) | exact HB.out)) hb)
       clear HO114
       clear HO123
       clear BK110
       clear BK111
       clear HB
       have HO114 := n0_
       have HO123 := n1_
       have BK110 := n2_
       have BK111 := n3_
       have HB := n4_
       clear n0_ n1_ n2_ n3_ n4_
       (try clear hb)
       (try clear hb2)
       (try clear hk)
       (try clear hi)
       refine hK.out _ _ ⟨(blk_cell BK111.out 0).trans rfl, (blk_cell BK111.out 1).trans rfl, (blk_cell BK111.out 2).trans rfl, (blk_cell BK110.out 0).trans rfl, (blk_cell BK110.out 1).trans rfl, (blk_cell BK110.out 2).trans rfl⟩ (fun hHeld => ?_)
       clear hK K
       refine norm_ (a' := ?_) ?_ ?_
       rotate_left; ·show Act.put _ (some 47) _ = _; simp only [Act.put, sA, sZ, sS, i64_w, i32_w]; rfl
       refine pt_ ?_ 14 (some 48) (btB 25 32767) rfl rfl HT_.out (by kernel_rfl) qq_ (Or.inl ⟨by rfl, ?_⟩) ?_ ?_ ?_
       rotate_left; ·intro w'; go_simp; with_reducible rfl
       rotate_left; ·simp only [Act.put, sA, sZ, sS, i64_w, i32_w]; rfl
       refine pt_ ?_ 15 (some 49) (btB 25 65535) rfl rfl HT_.out (by kernel_rfl) qq_ (Or.inl ⟨by rfl, ?_⟩) ?_ ?_ ?_
       rotate_left; ·intro w'; go_simp; with_reducible rfl
       rotate_left; ·simp only [Act.put, sA, sZ, sS, i64_w, i32_w]; rfl
       refine pt_ ?_ 16 (some 50) (btB 25 131071) rfl rfl HT_.out (by kernel_rfl) qq_ (Or.inl ⟨by rfl, ?_⟩) ?_ ?_ ?_
       rotate_left; ·intro w'; go_simp; with_reducible rfl
       rotate_left; ·simp only [Act.put, sA, sZ, sS, i64_w, i32_w]; rfl
       refine pt_ ?_ 17 (some 51) (btB 25 262143) rfl rfl HT_.out (by kernel_rfl) qq_ (Or.inl ⟨by rfl, ?_⟩) ?_ ?_ ?_
       rotate_left; ·intro w'; go_simp; with_reducible rfl
       rotate_left; ·simp only [Act.put, sA, sZ, sS, i64_w, i32_w]; rfl
       refine pt_ ?_ 18 (some 52) (btB 25 524287) rfl rfl HT_.out (by kernel_rfl) qq_ (Or.inl ⟨by rfl, ?_⟩) ?_ ?_ ?_
       rotate_left; ·intro w'; go_simp; with_reducible rfl
       rotate_left; ·simp only [Act.put, sA, sZ, sS, i64_w, i32_w]; rfl
       refine pt_ ?_ 22 (some 56) (btB 25 4718591) rfl rfl HT_.out (by kernel_rfl) qq_ (Or.inl ⟨by rfl, ?_⟩) ?_ ?_ ?_
       rotate_left; ·intro w'; go_simp; with_reducible rfl
       rotate_left; ·simp only [Act.put, sA, sZ, sS, i64_w, i32_w]; rfl
       refine one_ (i := 19) (N := some 53) (btB 25 5242879) rfl rfl (one_of HT_.out (by kernel_rfl)) (by decide) (fun K hK => ?_)
       refine goes_ Try.func36 (by kernel_rfl) rfl #[.slice A0 l0.length c0] (by rfl) rfl rfl (by (try simp only [List.map_toArray, List.map_cons, List.map_nil]); first | done | rfl | (simp only [List.length_drop, List.length_take]; rfl)) ?_
       with_reducible refine (walk_Reverse.calls kj2 _ _ l0 t130 _ ?side1 ?side2 A49.out).mono ?_
       (case side1 => repeat (first | exact (Kd.C_below HR0.out HB.out) | (with_reducible refine Kd.C_alloc ?_ _) | (with_reducible refine Kd.C_drewN ?_ _) | (with_reducible refine Kd.C_drew ?_)))
       (case side2 => exact HC0.out)
       rintro e w62 ⟨v131, rfl, ho0, hb⟩
       refine ⟨_, rfl, ?_⟩
       have n0_ := Aside0.mk (Kd.R_elder' (by (with_reducible repeat (first | apply Kd.R_alloc | apply Kd.R_drewN | apply Kd.R_drew)); exact HO114.out) (Kd.R_base ho0) hb)
       have n1_ := Aside0.mk (Kd.R_elder' (by (with_reducible repeat (first | apply Kd.R_alloc | apply Kd.R_drewN | apply Kd.R_drew)); exact HO123.out) (Kd.R_base ho0) hb)
       have n2_ := Aside0.mk (Kd.R_lower (Kd.R_new' (Kd.R_new' ho0 (Kd.R_lt (by (with_reducible repeat (first | apply Kd.R_alloc | apply Kd.R_drewN | apply Kd.R_drew)); exact HO114.out))) (Kd.R_lt (by (with_reducible repeat (first | apply Kd.R_alloc | apply Kd.R_drewN | apply Kd.R_drew)); exact HO123.out))) (below_size (by repeat (first | (with_reducible first | exact HB.out | apply below_alloc | apply pw_below_drewN | apply below_drew1 | refine below_set ?_ GE110.out | refine below_set ?_ GE111.out) | exact HB.out))))
       have n3_ := Aside0.mk (blk_below (g := gb110) (o := .cells #[.int .i64 t104, .int .i64 t105, .int .i64 t106] 34 (0, 0)) (by (with_reducible repeat (first | refine blk_drewN ?_ _ | refine blk_drew ?_ | refine blk_alloc ?_ _)); exact BK110.out) hb)
       have n4_ := Aside0.mk (blk_below (g := gb111) (o := .cells #[.int .i64 t107, .int .i64 t108, .int .i64 t109] 34 (0, 0)) (by (with_reducible repeat (first | refine blk_drewN ?_ _ | refine blk_drew ?_ | refine blk_alloc ?_ _)); exact BK111.out) hb)
       have n5_ := Aside0.mk (below_step (by repeat (first | (with_reducible first | exact HB.out | apply below_alloc | apply pw_below_drewN | apply below_drew1 | refine below_set ?_ GE110.out | refine below_set ?_ GE111.out) | exact HB.out)) hb)
       clear HO114
       clear HO123
       clear BK110
       clear BK111
       clear HB
       have HO114 := n0_
       have HO123 := n1_
       have HO132 := n2_
       have BK110 := n3_
       have BK111 := n4_
       have HB := n5_
       clear n0_ n1_ n2_ n3_ n4_ n5_
       (try clear hb)
       (try clear hb2)
       (try clear hk)
       (try clear hi)
       (try clear ho0)
       obtain ⟨Ao63, co63, eo63⟩ := Kd.R_slice HO132.out
       (first | subst eo63 | (injection eo63 with f1_ f2_ f3_; have f4_ := f1_.symm; have f5_ := f3_.symm; clear f1_ f2_ f3_; subst f4_; subst f5_))
       refine hK.out _ _ ⟨(blk_cell BK111.out 0).trans rfl, (blk_cell BK111.out 1).trans rfl, (blk_cell BK111.out 2).trans rfl, (blk_cell BK110.out 0).trans rfl, (blk_cell BK110.out 1).trans rfl, (blk_cell BK110.out 2).trans rfl⟩ (fun hHeld => ?_)
       clear hK K
       refine norm_ (a' := ?_) ?_ ?_
       rotate_left; ·show Act.put _ (some 53) _ = _; simp only [Act.put, sA, sZ, sS, i64_w, i32_w]; rfl
       refine one_ (i := 20) (N := some 54) (btB 25 6291455) rfl rfl (one_of HT_.out (by kernel_rfl)) (by decide) (fun K hK => ?_)
       refine goes_ Try.func39 (by kernel_rfl) rfl #[.slice A0 l0.length c0, .slice Ao63 t130.length co63] (by rfl) rfl rfl (by (try simp only [List.map_toArray, List.map_cons, List.map_nil]); first | done | rfl | (simp only [List.length_drop, List.length_take]; rfl)) ?_
       with_reducible refine (tallymanlaw05_both.calls _ _ l0 _ _ t130 t133 _ ?side1 ?side2 ?side3 ?side4 A50.out).mono ?_
       (case side1 => repeat (first | exact (Kd.C_below HR0.out HB.out) | (with_reducible refine Kd.C_alloc ?_ _) | (with_reducible refine Kd.C_drewN ?_ _) | (with_reducible refine Kd.C_drew ?_)))
       (case side2 => exact HC0.out)
       (case side3 => repeat (first | exact (Kd.R_reads' HO132.out).2.2 | (with_reducible refine Kd.C_alloc ?_ _) | (with_reducible refine Kd.C_drewN ?_ _) | (with_reducible refine Kd.C_drew ?_)))
       (case side4 => exact (Kd.R_reads' HO132.out).2.1)
       rintro e w64 ⟨v134, rfl, ho0, hb⟩
       refine ⟨_, rfl, ?_⟩
       have n0_ := Aside0.mk (Kd.R_elder' (by (with_reducible repeat (first | apply Kd.R_alloc | apply Kd.R_drewN | apply Kd.R_drew)); exact HO114.out) (Kd.R_base ho0) hb)
       have n1_ := Aside0.mk (Kd.R_elder' (by (with_reducible repeat (first | apply Kd.R_alloc | apply Kd.R_drewN | apply Kd.R_drew)); exact HO123.out) (Kd.R_base ho0) hb)
       have n2_ := Aside0.mk (Kd.R_elder' (by (with_reducible repeat (first | apply Kd.R_alloc | apply Kd.R_drewN | apply Kd.R_drew)); exact HO132.out) (Kd.R_base ho0) hb)
       have n3_ := Aside0.mk (Kd.R_lower (Kd.R_new' (Kd.R_new' (Kd.R_new' ho0 (Kd.R_lt (by (with_reducible repeat (first | apply Kd.R_alloc | apply Kd.R_drewN | apply Kd.R_drew)); exact HO114.out))) (Kd.R_lt (by (with_reducible repeat (first | apply Kd.R_alloc | apply Kd.R_drewN | apply Kd.R_drew)); exact HO123.out))) (Kd.R_lt (by (with_reducible repeat (first | apply Kd.R_alloc | apply Kd.R_drewN | apply Kd.R_drew)); exact HO132.out))) (below_size (by repeat (first | (with_reducible first | exact HB.out | apply below_alloc | apply pw_below_drewN | apply below_drew1 | refine below_set ?_ GE110.out | refine below_set ?_ GE111.out) | exact HB.out))))
       have n4_ := Aside0.mk (blk_below (g := gb110) (o := .cells #[.int .i64 t104, .int .i64 t105, .int .i64 t106] 34 (0, 0)) (by (with_reducible repeat (first | refine blk_drewN ?_ _ | refine blk_drew ?_ | refine blk_alloc ?_ _)); exact BK110.out) hb)
       have n5_ := Aside0.mk (blk_below (g := gb111) (o := .cells #[.int .i64 t107, .int .i64 t108, .int .i64 t109] 34 (0, 0)) (by (with_reducible repeat (first | refine blk_drewN ?_ _ | refine blk_drew ?_ | refine blk_alloc ?_ _)); exact BK111.out) hb)
       have n6_ := Aside0.mk (below_step (by repeat (first | (with_reducible first | exact HB.out | apply below_alloc | apply pw_below_drewN | apply below_drew1 | refine below_set ?_ GE110.out | refine below_set ?_ GE111.out) | exact HB.out)) hb)
       clear HO114
       clear HO123
       clear HO132
       clear BK110
       clear BK111
       clear HB
       have HO114 := n0_
       have HO123 := n1_
       have HO132 := n2_
       have HO135 := n3_
       have BK110 := n4_
       have BK111 := n5_
       have HB := n6_
       clear n0_ n1_ n2_ n3_ n4_ n5_ n6_
       (try clear hb)
       (try clear hb2)
       (try clear hk)
       (try clear hi)
       (try clear ho0)
       obtain ⟨Ao65, co65, eo65⟩ := Kd.R_slice HO135.out
       (first | subst eo65 | (injection eo65 with f1_ f2_ f3_; have f4_ := f1_.symm; have f5_ := f3_.symm; clear f1_ f2_ f3_; subst f4_; subst f5_))
       refine hK.out _ _ ⟨(blk_cell BK111.out 0).trans rfl, (blk_cell BK111.out 1).trans rfl, (blk_cell BK111.out 2).trans rfl, (blk_cell BK110.out 0).trans rfl, (blk_cell BK110.out 1).trans rfl, (blk_cell BK110.out 2).trans rfl⟩ (fun hHeld => ?_)
       clear hK K
       refine norm_ (a' := ?_) ?_ ?_
       rotate_left; ·show Act.put _ (some 54) _ = _; simp only [Act.put, sA, sZ, sS, i64_w, i32_w]; rfl
       refine one_ (i := 21) (N := some 55) (btB 25 8388607) rfl rfl (one_of HT_.out (by kernel_rfl)) (by decide) (fun K hK => ?_)
       refine goes_ Try.func40 (by kernel_rfl) rfl #[.slice Ao65 t133.length co65] (by rfl) rfl rfl (by (try simp only [List.map_toArray, List.map_cons, List.map_nil]); first | done | rfl | (simp only [List.length_drop, List.length_take]; rfl)) ?_
       with_reducible refine (walk_End.calls _ _ t133 t136 t137 t138 _ ?side1 ?side2 A51.out).mono ?_
       (case side1 => repeat (first | exact (Kd.R_reads' HO135.out).2.2 | (with_reducible refine Kd.C_alloc ?_ _) | (with_reducible refine Kd.C_drewN ?_ _) | (with_reducible refine Kd.C_drew ?_)))
       (case side2 => exact (Kd.R_reads' HO135.out).2.1)
       rintro e w66 ⟨rfl, hb⟩
       refine ⟨_, rfl, ?_⟩
       have n0_ := Aside0.mk (Kd.R_below (by (with_reducible repeat (first | apply Kd.R_alloc | apply Kd.R_drewN | apply Kd.R_drew)); exact HO114.out) hb)
       have n1_ := Aside0.mk (Kd.R_below (by (with_reducible repeat (first | apply Kd.R_alloc | apply Kd.R_drewN | apply Kd.R_drew)); exact HO123.out) hb)
       have n2_ := Aside0.mk (Kd.R_below (by (with_reducible repeat (first | apply Kd.R_alloc | apply Kd.R_drewN | apply Kd.R_drew)); exact HO132.out) hb)
       have n3_ := Aside0.mk (Kd.R_below (by (with_reducible repeat (first | apply Kd.R_alloc | apply Kd.R_drewN | apply Kd.R_drew)); exact HO135.out) hb)
       have n4_ := Aside0.mk (blk_below (g := gb110) (o := .cells #[.int .i64 t104, .int .i64 t105, .int .i64 t106] 34 (0, 0)) (by (with_reducible repeat (first | refine blk_drewN ?_ _ | refine blk_drew ?_ | refine blk_alloc ?_ _)); exact BK110.out) hb)
       have n5_ := Aside0.mk (blk_below (g := gb111) (o := .cells #[.int .i64 t107, .int .i64 t108, .int .i64 t109] 34 (0, 0)) (by (with_reducible repeat (first | refine blk_drewN ?_ _ | refine blk_drew ?_ | refine blk_alloc ?_ _)); exact BK111.out) hb)
       have n6_ := Aside0.mk (below_step (by repeat (first | (with_reducible first | exact HB.out | apply below_alloc | apply pw_below_drewN | apply below_drew1 | refine below_set ?_ GE110.out | refine below_set ?_ GE111.out) | exact HB.out)) hb)
       clear HO114
       clear HO123
       clear HO132
       clear HO135
       clear BK110
       clear BK111
       clear HB
       have HO114 := n0_
       have HO123 := n1_
       have HO132 := n2_
       have HO135 := n3_
       have BK110 := n4_
       have BK111 := n5_
       have HB := n6_
       clear n0_ n1_ n2_ n3_ n4_ n5_ n6_
       (try clear hb)
       (try clear hb2)
       (try clear hk)
       (try clear hi)
       refine hK.out _ _ ⟨(blk_cell BK111.out 0).trans rfl, (blk_cell BK111.out 1).trans rfl, (blk_cell BK111.out 2).trans rfl, (blk_cell BK110.out 0).trans rfl, (blk_cell BK110.out 1).trans rfl, (blk_cell BK110.out 2).trans rfl⟩ (fun hHeld => ?_)
       clear hK K
       refine norm_ (a' := ?_) ?_ ?_
       rotate_left; ·show Act.put _ (some 55) _ = _; simp only [Act.put, sA, sZ, sS, i64_w, i32_w]; rfl
       refine pt_ ?_ 23 (some 57) (btB 25 16777215) rfl rfl HT_.out (by kernel_rfl) qq_ (Or.inl ⟨by rfl, ?_⟩) ?_ ?_ ?_
       rotate_left; ·intro w'; go_simp; with_reducible rfl
       rotate_left; ·simp only [Act.put, sA, sZ, sS, i64_w, i32_w]; rfl
       refine pt_ ?_ 24 (some 58) (btB 25 33554431) rfl rfl HT_.out (by kernel_rfl) qq_ (Or.inl ⟨by rfl, ?_⟩) ?_ ?_ ?_
       rotate_left; ·intro w'; go_simp; with_reducible rfl
       rotate_left; ·simp only [Act.put, sA, sZ, sS, i64_w, i32_w]; rfl
       refine done_ (done_of HT_.out (by kernel_rfl)) ?_
       try go_wp2
       go_meet
       case rel => exact ⟨_, ((!(t136 == 0) || ((!(t137 == 0) || (!(t138 == 0)))))), (by first | rfl | (simp; done) | (simp [*]; done)), H', ⟨by have := HJ2.out; first | omega | exact Nat.le_refl _⟩, ⟨by (with_reducible repeat (first | refine blk_drewN ?_ _ | refine blk_drew ?_ | refine blk_alloc ?_ _)); exact BK110.out⟩, ⟨by (with_reducible repeat (first | refine blk_drewN ?_ _ | refine blk_drew ?_ | refine blk_alloc ?_ _)); exact BK111.out⟩, ⟨by repeat (first | (with_reducible first | exact HB.out | apply below_alloc | apply pw_below_drewN | apply below_drew1 | refine below_set ?_ GE110.out | refine below_set ?_ GE111.out) | exact HB.out)⟩⟩
    case rest =>
     clear HC17
     try clear c1
     try clear p2
     try clear c3
     try clear c4
     try clear c36
     try clear c38
     try clear c38b0
     try clear c39
     try clear c40
     try clear c44
     try clear c45
     obtain ⟨kq, x58_16, rfl, HA, HJ16, BK110, BK111, HB⟩ := hcut
     cases kq with
     | zero => exact absurd HA.out (by simp [tallymanlaw05_WalkLaws.j1])
     | succ kj16 =>
      have H := HA.out
      clear HA
      simp only [tallymanlaw05_WalkLaws.j1] at H
      by_cases c67 : x58_16 = true
      ·subst c67
       have H1 : (some false) = some r := by rw [if_pos rfl] at H; exact H
       clear H
       have H := H1
       clear H1
       obtain rfl := Option.some.inj H
       go_wp2
       go_ret
       exact ⟨by first | rfl | ((repeat first | rw [Int.tdiv_eq_ediv_of_nonneg (by omega)] | rw [Int.tmod_eq_emod_of_nonneg (by omega)]); rfl) | (simp [errW_none, errW_some] <;> rfl) | (simp [*, errW_none, errW_some] <;> rfl), by repeat (first | (with_reducible first | exact HB.out | apply below_alloc | apply pw_below_drewN | apply below_drew1 | refine below_set ?_ GE110.out | refine below_set ?_ GE111.out) | exact HB.out)⟩
      ·replace c67 := Bool.eq_false_iff.mpr c67
       subst c67
       have H1 : ((walk_Trace.f l0).bind fun bt139 => (if bt139.2 = 0 then (if (bt139.1.length : Int) = 0 then (tallymanlaw05_WalkLaws.j2 kj16 bt139.1 true) else (if 0 < (bt139.1.length : Int) then (if (!(((rd_T24 bt139.1 0).f0) == 0) || (!(((rd_T24 bt139.1 0).f1) == 0))) = true then (tallymanlaw05_WalkLaws.j2 kj16 bt139.1 true) else (if 0 ≤ (wrap64 ((bt139.1.length : Int) - 1)) then (if (wrap64 ((bt139.1.length : Int) - 1)) < (bt139.1.length : Int) then (tallymanlaw05_WalkLaws.j2 kj16 bt139.1 (!(((rd_T24 bt139.1 (wrap64 ((bt139.1.length : Int) - 1))).f0) == t105) || (!(((rd_T24 bt139.1 (wrap64 ((bt139.1.length : Int) - 1))).f1) == t106)))) else (none)) else (none))) else (none))) else (tallymanlaw05_WalkLaws.j2 kj16 bt139.1 true))) = some r := by rw [if_neg (show ¬ (false = true) by decide)] at H; exact H
       clear H
       have H := H1
       clear H1
       replace H := Option.bind_eq_some_iff.mp H
       obtain ⟨⟨t139, t140⟩, A680, H⟩ := H
       replace H : (if t140 = 0 then (if (t139.length : Int) = 0 then (tallymanlaw05_WalkLaws.j2 kj16 t139 true) else (if 0 < (t139.length : Int) then (if (!(((rd_T24 t139 0).f0) == 0) || (!(((rd_T24 t139 0).f1) == 0))) = true then (tallymanlaw05_WalkLaws.j2 kj16 t139 true) else (if 0 ≤ (wrap64 ((t139.length : Int) - 1)) then (if (wrap64 ((t139.length : Int) - 1)) < (t139.length : Int) then (tallymanlaw05_WalkLaws.j2 kj16 t139 (!(((rd_T24 t139 (wrap64 ((t139.length : Int) - 1))).f0) == t105) || (!(((rd_T24 t139 (wrap64 ((t139.length : Int) - 1))).f1) == t106)))) else (none)) else (none))) else (none))) else (tallymanlaw05_WalkLaws.j2 kj16 t139 true)) = some r := H
       have A68 := Aside0.mk A680
       clear A680
       have HC69 := Aside0.mk H
       clear H
       go_upto_region 7 with (first | ((with_reducible refine gate_callee (f := 41) rfl ?_); refine goesL_ (some 61) rfl rfl Try.func41 (by kernel_rfl) rfl #[.slice A0 l0.length c0] rfl (by (try simp only [List.map_toArray, List.map_cons, List.map_nil]); first | done | rfl | (simp only [List.length_drop, List.length_take]; rfl)) ?_; (with_reducible refine (walk_Trace.calls _ _ l0 t139 t140 _ ?side1 ?side2 A68.out).mono ?_); (case side1 => repeat (first | exact (Kd.C_below HR0.out HB.out) | (with_reducible refine Kd.C_alloc ?_ _) | (with_reducible refine Kd.C_drewN ?_ _) | (with_reducible refine Kd.C_drew ?_))); (case side2 => exact HC0.out); rintro e w70 ⟨v141, rfl, ho0, hb⟩; refine ⟨_, rfl, ?_⟩; have n0_ := Aside0.mk (Kd.R_lower ho0 (below_size (by repeat (first | (with_reducible first | exact HB.out | apply below_alloc | apply pw_below_drewN | apply below_drew1 | refine below_set ?_ GE110.out | refine below_set ?_ GE111.out) | exact HB.out)))); have n1_ := Aside0.mk (blk_below (g := gb110) (o := .cells #[.int .i64 t104, .int .i64 t105, .int .i64 t106] 34 (0, 0)) (by (with_reducible repeat (first | refine blk_drewN ?_ _ | refine blk_drew ?_ | refine blk_alloc ?_ _)); exact BK110.out) hb); have n2_ := Aside0.mk (blk_below (g := gb111) (o := .cells #[.int .i64 t107, .int .i64 t108, .int .i64 t109] 34 (0, 0)) (by (with_reducible repeat (first | refine blk_drewN ?_ _ | refine blk_drew ?_ | refine blk_alloc ?_ _)); exact BK111.out) hb); have n3_ := Aside0.mk (below_step (by repeat (first | (with_reducible first | exact HB.out | apply below_alloc | apply pw_below_drewN | apply below_drew1 | refine below_set ?_ GE110.out | refine below_set ?_ GE111.out) | exact HB.out)) hb); clear BK110; clear BK111; clear HB; have HO142 := n0_; have BK110 := n1_; have BK111 := n2_; have HB := n3_; clear n0_ n1_ n2_ n3_; (try clear hb); (try clear hb2); (try clear hk); (try clear hi); (try clear ho0)))
       (try simp only [Act.put, sA, sZ, sS])
       go_cut [88] (fun v88 wc => ∃ (kq : Nat) (x88_68 : Bool), v88 = .bool x88_68 ∧ Aside0 (tallymanlaw05_WalkLaws.j2 kq t139 x88_68 = some r) ∧ Aside0 (kq ≤ kj16) ∧ Aside0 (Kd.R k24 24 wc w.heap.size (fun _ => True) v141 t139) ∧ Aside0 (wc.heap[gb110]? = some (.cells #[.int .i64 t104, .int .i64 t105, .int .i64 t106] 34 (0, 0))) ∧ Aside0 (wc.heap[gb111]? = some (.cells #[.int .i64 t107, .int .i64 t108, .int .i64 t109] 34 (0, 0))) ∧ Aside0 (Below w.heap.size w wc))
       case first =>
        have H := HC69.out
        clear HC69
        by_cases c71 : t140 = 0
        ·rw [if_pos c71] at H
         have c71b0 : (t140 == 0) = true := beq_iff_eq.mpr c71
         have c71b1 : (t140 != 0) = false := bne_eq_false_iff_eq.mpr c71
         clear c71
         (first | rw [c71b0] | (simp only [i64_w, i32_w]; rw [c71b0]) | skip)
         by_cases c72 : (t139.length : Int) = 0
         ·rw [if_pos c72] at H
          have c72b0 : ((t139.length : Int) == 0) = true := beq_iff_eq.mpr c72
          have c72b1 : ((t139.length : Int) != 0) = false := bne_eq_false_iff_eq.mpr c72
          clear c72
          have H' := Aside0.mk H
          clear H
          try go_wp2
          have n0_ := Aside0.mk (Kd.R_drew HO142.out)
          have n1_ := Aside0.mk (blk_drew BK110.out)
          have n2_ := Aside0.mk (blk_drew BK111.out)
          have n3_ := Aside0.mk (below_drew1 HB.out)
          clear HO142
          clear BK110
          clear BK111
          clear HB
          have HO142 := n0_
          have BK110 := n1_
          have BK111 := n2_
          have HB := n3_
          clear n0_ n1_ n2_ n3_
          obtain ⟨Ao74, co74, eo74⟩ := Kd.R_slice HO142.out
          (first | subst eo74 | (injection eo74 with f1_ f2_ f3_; have f4_ := f1_.symm; have f5_ := f3_.symm; clear f1_ f2_ f3_; subst f4_; subst f5_))
          refine start_ (n := 25) (S := fun w' => True) (ds := []) (btB 25 0) (by kernel_rfl) rfl rfl trivial (fun hHeld => ?_); refine with_tabW tallymanlaw05_WalkLaws.tab7 tallymanlaw05_WalkLaws.bits7 (fun HT_ HW_ => ?_)
          generalize w70.drew = w73 at HO142 BK110 BK111 HB hHeld ⊢
          refine pt_ ?_ 0 (some 64) (btB 25 1) rfl rfl HT_.out (by kernel_rfl) qq_ (Or.inl ⟨by rfl, ?_⟩) ?_ ?_ ?_
          rotate_left; ·intro w'; go_simp; with_reducible rfl
          rotate_left; ·simp only [Act.put, sA, sZ, sS, i64_w, i32_w]; rfl
          refine pt_ ?_ 1 (some 65) (btB 25 3) rfl rfl HT_.out (by kernel_rfl) qq_ (Or.inl ⟨by rfl, ?_⟩) ?_ ?_ ?_
          rotate_left; ·intro w'; go_simp; with_reducible rfl
          rotate_left; ·simp only [Act.put, sA, sZ, sS, i64_w, i32_w]; rfl
          refine pt_ ?_ 2 (some 66) (btB 25 7) rfl rfl HT_.out (by kernel_rfl) qq_ (Or.inl ⟨by rfl, ?_⟩) ?_ ?_ ?_
          rotate_left; ·intro w'; go_simp; with_reducible rfl
          rotate_left; ·simp only [Act.put, sA, sZ, sS, i64_w, i32_w]; rfl
          refine pt_ ?_ 3 (some 67) (btB 25 15) rfl rfl HT_.out (by kernel_rfl) qq_ (Or.inl ⟨by rfl, ?_⟩) ?_ ?_ ?_
          rotate_left; ·intro w'; go_simp; with_reducible rfl
          rotate_left; ·simp only [Act.put, sA, sZ, sS, i64_w, i32_w]; rfl
          refine pt_ ?_ 4 (some 68) (btB 25 31) rfl rfl HT_.out (by kernel_rfl) qq_ (Or.inl ⟨by rfl, ?_⟩) ?_ ?_ ?_
          rotate_left; ·intro w'; go_simp; with_reducible rfl
          rotate_left; ·simp only [Act.put, sA, sZ, sS, i64_w, i32_w]; rfl
          refine pt_ ?_ 5 (some 69) (btB 25 63) rfl rfl HT_.out (by kernel_rfl) qq_ (Or.inl ⟨by rfl, ?_⟩) ?_ ?_ ?_
          rotate_left; ·intro w'; go_simp; with_reducible rfl
          rotate_left; ·simp only [Act.put, sA, sZ, sS, i64_w, i32_w]; rfl
          refine pt_ ?_ 6 (some 70) (btB 25 127) rfl rfl HT_.out (by kernel_rfl) qq_ (Or.inl ⟨by rfl, ?_⟩) ?_ ?_ ?_
          rotate_left; ·intro w'; go_simp; with_reducible rfl
          rotate_left; ·simp only [Act.put, sA, sZ, sS, i64_w, i32_w]; rfl
          refine pt_ ?_ 7 (some 71) (btB 25 255) rfl rfl HT_.out (by kernel_rfl) qq_ (Or.inl ⟨by rfl, ?_⟩) ?_ ?_ ?_
          rotate_left; ·intro w'; go_simp; with_reducible rfl
          rotate_left; ·simp only [Act.put, sA, sZ, sS, i64_w, i32_w]; rfl
          refine pt_ undef 8 (some 72) (btB 25 511) rfl rfl HT_.out (by kernel_rfl) qq_ (Or.inr ⟨by rfl, rfl⟩) ?_ ?_ ?_
          rotate_left; ·simp only [Act.put, sA, sZ, sS, i64_w, i32_w]; rfl
          refine pt_ undef 9 (some 73) (btB 25 1023) rfl rfl HT_.out (by kernel_rfl) qq_ (Or.inr ⟨by rfl, rfl⟩) ?_ ?_ ?_
          rotate_left; ·simp only [Act.put, sA, sZ, sS, i64_w, i32_w]; rfl
          refine pt_ undef 10 (some 74) (btB 25 2047) rfl rfl HT_.out (by kernel_rfl) qq_ (Or.inr ⟨by rfl, rfl⟩) ?_ ?_ ?_
          rotate_left; ·simp only [Act.put, sA, sZ, sS, i64_w, i32_w]; rfl
          refine pt_ undef 11 (some 75) (btB 25 4095) rfl rfl HT_.out (by kernel_rfl) qq_ (Or.inr ⟨by rfl, rfl⟩) ?_ ?_ ?_
          rotate_left; ·simp only [Act.put, sA, sZ, sS, i64_w, i32_w]; rfl
          refine pt_ undef 12 (some 76) (btB 25 8191) rfl rfl HT_.out (by kernel_rfl) qq_ (Or.inr ⟨by rfl, rfl⟩) ?_ ?_ ?_
          rotate_left; ·simp only [Act.put, sA, sZ, sS, i64_w, i32_w]; rfl
          refine pt_ ?_ 13 (some 77) (btB 25 16383) rfl rfl HT_.out (by kernel_rfl) qq_ (Or.inl ⟨by rfl, ?_⟩) ?_ ?_ ?_
          rotate_left; ·intro w'; go_simp; with_reducible rfl
          rotate_left; ·simp only [Act.put, sA, sZ, sS, i64_w, i32_w]; rfl
          refine pt_ ?_ 14 (some 78) (btB 25 32767) rfl rfl HT_.out (by kernel_rfl) qq_ (Or.inl ⟨by rfl, ?_⟩) ?_ ?_ ?_
          rotate_left; ·intro w'; go_simp; with_reducible rfl
          rotate_left; ·simp only [Act.put, sA, sZ, sS, i64_w, i32_w]; rfl
          refine pt_ undef 15 (some 79) (btB 25 65535) rfl rfl HT_.out (by kernel_rfl) qq_ (Or.inr ⟨by rfl, rfl⟩) ?_ ?_ ?_
          rotate_left; ·simp only [Act.put, sA, sZ, sS, i64_w, i32_w]; rfl
          refine pt_ undef 16 (some 80) (btB 25 131071) rfl rfl HT_.out (by kernel_rfl) qq_ (Or.inr ⟨by rfl, rfl⟩) ?_ ?_ ?_
          rotate_left; ·simp only [Act.put, sA, sZ, sS, i64_w, i32_w]; rfl
          refine pt_ undef 17 (some 81) (btB 25 262143) rfl rfl HT_.out (by kernel_rfl) qq_ (Or.inr ⟨by rfl, rfl⟩) ?_ ?_ ?_
          rotate_left; ·simp only [Act.put, sA, sZ, sS, i64_w, i32_w]; rfl
          refine pt_ undef 18 (some 82) (btB 25 524287) rfl rfl HT_.out (by kernel_rfl) qq_ (Or.inr ⟨by rfl, rfl⟩) ?_ ?_ ?_
          rotate_left; ·simp only [Act.put, sA, sZ, sS, i64_w, i32_w]; rfl
          refine pt_ undef 19 (some 83) (btB 25 1048575) rfl rfl HT_.out (by kernel_rfl) qq_ (Or.inr ⟨by rfl, rfl⟩) ?_ ?_ ?_
          rotate_left; ·simp only [Act.put, sA, sZ, sS, i64_w, i32_w]; rfl
          refine pt_ undef 20 (some 84) (btB 25 2097151) rfl rfl HT_.out (by kernel_rfl) qq_ (Or.inr ⟨by rfl, rfl⟩) ?_ ?_ ?_
          rotate_left; ·simp only [Act.put, sA, sZ, sS, i64_w, i32_w]; rfl
          refine pt_ undef 21 (some 85) (btB 25 4194303) rfl rfl HT_.out (by kernel_rfl) qq_ (Or.inr ⟨by rfl, rfl⟩) ?_ ?_ ?_
          rotate_left; ·simp only [Act.put, sA, sZ, sS, i64_w, i32_w]; rfl
          refine pt_ undef 22 (some 86) (btB 25 8388607) rfl rfl HT_.out (by kernel_rfl) qq_ (Or.inr ⟨by rfl, rfl⟩) ?_ ?_ ?_
          rotate_left; ·simp only [Act.put, sA, sZ, sS, i64_w, i32_w]; rfl
          refine pt_ undef 23 (some 87) (btB 25 16777215) rfl rfl HT_.out (by kernel_rfl) qq_ (Or.inr ⟨by rfl, rfl⟩) ?_ ?_ ?_
          rotate_left; ·simp only [Act.put, sA, sZ, sS, i64_w, i32_w]; rfl
          refine pt_ ?_ 24 (some 88) (btB 25 33554431) rfl rfl HT_.out (by kernel_rfl) qq_ (Or.inl ⟨by rfl, ?_⟩) ?_ ?_ ?_
          rotate_left; ·intro w'; go_simp; with_reducible rfl
          rotate_left; ·simp only [Act.put, sA, sZ, sS, i64_w, i32_w]; rfl
          refine done_ (done_of HT_.out (by kernel_rfl)) ?_
          try go_wp2
          go_meet
          case rel => exact ⟨_, (true), (by first | rfl | (simp; done) | (simp [*]; done)), H', ⟨by have := HJ2.out; have := HJ16.out; first | omega | exact Nat.le_refl _⟩, ⟨by (with_reducible repeat (first | apply Kd.R_alloc | apply Kd.R_drewN | apply Kd.R_drew)); exact HO142.out⟩, ⟨by (with_reducible repeat (first | refine blk_drewN ?_ _ | refine blk_drew ?_ | refine blk_alloc ?_ _)); exact BK110.out⟩, ⟨by (with_reducible repeat (first | refine blk_drewN ?_ _ | refine blk_drew ?_ | refine blk_alloc ?_ _)); exact BK111.out⟩, ⟨by repeat (first | (with_reducible first | exact HB.out | apply below_alloc | apply pw_below_drewN | apply below_drew1 | refine below_set ?_ GE110.out | refine below_set ?_ GE111.out) | exact HB.out)⟩⟩
         ·rw [if_neg c72] at H
          have c72b0 : ((t139.length : Int) == 0) = false := beq_eq_false_iff_ne.mpr c72
          have c72b1 : ((t139.length : Int) != 0) = true := bne_iff_ne.mpr c72
          have c72b2 : ¬ (t139 = []) := fun h_ => c72 (by rw [h_]; rfl)
          by_cases c75 : 0 < (t139.length : Int)
          ·rw [if_pos c75] at H
           have c75b0 : decide (0 < (t139.length : Int)) = true := decide_eq_true c75
           have c75b1 : decide (0 < t139.length) = true := decide_eq_true (by omega)
           clear c75
           by_cases c76 : (!(((rd_T24 t139 0).f0) == 0) || (!(((rd_T24 t139 0).f1) == 0))) = true
           ·rw [if_pos c76] at H
            have c76b0 : (!(((rd_T24 t139 0).f0) == 0) || (!(((rd_T24 t139 0).f1) == 0))) = true := c76
            clear c76
            have H' := Aside0.mk H
            clear H
            try go_wp2
            have n0_ := Aside0.mk (Kd.R_drew HO142.out)
            have n1_ := Aside0.mk (blk_drew BK110.out)
            have n2_ := Aside0.mk (blk_drew BK111.out)
            have n3_ := Aside0.mk (below_drew1 HB.out)
            clear HO142
            clear BK110
            clear BK111
            clear HB
            have HO142 := n0_
            have BK110 := n1_
            have BK111 := n2_
            have HB := n3_
            clear n0_ n1_ n2_ n3_
            obtain ⟨Ao78, co78, eo78⟩ := Kd.R_slice HO142.out
            (first | subst eo78 | (injection eo78 with f1_ f2_ f3_; have f4_ := f1_.symm; have f5_ := f3_.symm; clear f1_ f2_ f3_; subst f4_; subst f5_))
            have p143 : 0 ≤ (0 : Int) := (by omega)
            have q143 : 0 < (t139.length : Int) := of_decide_eq_true (by first | (with_reducible assumption) | assumption)
            obtain ⟨ad143, e143, hx143_0, hx143_1⟩ := at_T24 (Kd.R_reads' HO142.out).2.2 0 p143 q143
            cases e143
            have qi143 : (0 < t139.length) = True := eq_true (by omega)
            (try rw [show ((0 : Int)).toNat = 0 from rfl] at hx143_0)
            (try rw [show 0 * 2 = 0 from rfl] at hx143_0)
            (try rw [Addr.add_zero'] at hx143_0)
            (try rw [show ((0 : Int)).toNat = 0 from rfl] at hx143_1)
            (try rw [show 0 * 2 = 0 from rfl] at hx143_1)
            (try rw [Addr.add_zero'] at hx143_1)
            replace p143 := eq_true p143
            replace q143 := eq_true q143
            refine start_ (n := 25) (S := fun w' => w'.cell? ad143 = some (.int .i64 ((rd_T24 t139 0).f0)) ∧ w'.cell? ⟨ad143.block, ad143.off + 1, none⟩ = some (.int .i64 ((rd_T24 t139 0).f1))) (ds := []) (btB 25 0) (by kernel_rfl) rfl rfl ⟨hx143_0, hx143_1⟩ (fun hHeld => ?_); refine with_tabW tallymanlaw05_WalkLaws.tab7 tallymanlaw05_WalkLaws.bits7 (fun HT_ HW_ => ?_)
            generalize w70.drew = w77 at HO142 BK110 BK111 HB hx143_0 hx143_1 hHeld ⊢
            refine pt_ ?_ 0 (some 64) (btB 25 1) rfl rfl HT_.out (by kernel_rfl) qq_ (Or.inl ⟨by rfl, ?_⟩) ?_ ?_ ?_
            rotate_left; ·intro w'; go_simp; with_reducible rfl
            rotate_left; ·simp only [Act.put, sA, sZ, sS, i64_w, i32_w]; rfl
            refine pt_ ?_ 1 (some 65) (btB 25 3) rfl rfl HT_.out (by kernel_rfl) qq_ (Or.inl ⟨by rfl, ?_⟩) ?_ ?_ ?_
            rotate_left; ·intro w'; go_simp; with_reducible rfl
            rotate_left; ·simp only [Act.put, sA, sZ, sS, i64_w, i32_w]; rfl
            refine pt_ ?_ 2 (some 66) (btB 25 7) rfl rfl HT_.out (by kernel_rfl) qq_ (Or.inl ⟨by rfl, ?_⟩) ?_ ?_ ?_
            rotate_left; ·intro w'; go_simp; with_reducible rfl
            rotate_left; ·simp only [Act.put, sA, sZ, sS, i64_w, i32_w]; rfl
            refine pt_ ?_ 3 (some 67) (btB 25 15) rfl rfl HT_.out (by kernel_rfl) qq_ (Or.inl ⟨by rfl, ?_⟩) ?_ ?_ ?_
            rotate_left; ·intro w'; go_simp; with_reducible rfl
            rotate_left; ·simp only [Act.put, sA, sZ, sS, i64_w, i32_w]; rfl
            refine pt_ ?_ 4 (some 68) (btB 25 31) rfl rfl HT_.out (by kernel_rfl) qq_ (Or.inl ⟨by rfl, ?_⟩) ?_ ?_ ?_
            rotate_left; ·intro w'; go_simp; with_reducible rfl
            rotate_left; ·simp only [Act.put, sA, sZ, sS, i64_w, i32_w]; rfl
            refine pt_ ?_ 5 (some 69) (btB 25 63) rfl rfl HT_.out (by kernel_rfl) qq_ (Or.inl ⟨by rfl, ?_⟩) ?_ ?_ ?_
            rotate_left; ·intro w'; go_simp; with_reducible rfl
            rotate_left; ·simp only [Act.put, sA, sZ, sS, i64_w, i32_w]; rfl
            refine pt_ ?_ 6 (some 70) (btB 25 127) rfl rfl HT_.out (by kernel_rfl) qq_ (Or.inl ⟨by rfl, ?_⟩) ?_ ?_ ?_
            rotate_left; ·intro w'; go_simp; with_reducible rfl
            rotate_left; ·simp only [Act.put, sA, sZ, sS, i64_w, i32_w]; rfl
            refine pt_ ?_ 7 (some 71) (btB 25 255) rfl rfl HT_.out (by kernel_rfl) qq_ (Or.inl ⟨by rfl, ?_⟩) ?_ ?_ ?_
            rotate_left; ·intro w'; go_simp; with_reducible rfl
            rotate_left; ·simp only [Act.put, sA, sZ, sS, i64_w, i32_w]; rfl
            refine pt_ ?_ 8 (some 72) (btB 25 511) rfl rfl HT_.out (by kernel_rfl) qq_ (Or.inl ⟨by rfl, ?_⟩) ?_ ?_ ?_
            rotate_left; ·intro w'; go_simp; with_reducible rfl
            rotate_left; ·simp only [Act.put, sA, sZ, sS, i64_w, i32_w]; rfl
            refine pt_ ?_ 9 (some 73) (btB 25 1023) rfl rfl HT_.out (by kernel_rfl) qq_ (Or.inl ⟨by rfl, ?_⟩) ?_ ?_ ?_
            rotate_left; ·intro w'; go_simp; with_reducible rfl
            rotate_left; ·simp only [Act.put, sA, sZ, sS, i64_w, i32_w]; rfl
            refine pt_ ?_ 11 (some 75) (btB 25 3071) rfl rfl HT_.out (by kernel_rfl) qq_ (Or.inl ⟨by rfl, ?_⟩) ?_ ?_ ?_
            rotate_left; ·intro w'; go_simp; with_reducible rfl
            rotate_left; ·simp only [Act.put, sA, sZ, sS, i64_w, i32_w]; rfl
            refine take_ (i := 10) (N := some 74) (v := ?_) (a' := ?_) (btB 25 4095) rfl rfl (take_ofW HT_.out HW_.out (by kernel_rfl)) (fun _ _ _ h => h) (Or.inl ⟨by rfl, ?_⟩) hHeld ?_ ?_
            rotate_left; ·rintro w' ⟨s0, s1⟩; go_simp; with_reducible rfl
            rotate_left; ·simp only [Act.put, sA, sZ, sS, i64_w, i32_w]; rfl
            refine pt_ ?_ 12 (some 76) (btB 25 8191) rfl rfl HT_.out (by kernel_rfl) qq_ (Or.inl ⟨by rfl, ?_⟩) ?_ ?_ ?_
            rotate_left; ·intro w'; go_simp; with_reducible rfl
            rotate_left; ·simp only [Act.put, sA, sZ, sS, i64_w, i32_w]; rfl
            refine pt_ ?_ 13 (some 77) (btB 25 16383) rfl rfl HT_.out (by kernel_rfl) qq_ (Or.inl ⟨by rfl, ?_⟩) ?_ ?_ ?_
            rotate_left; ·intro w'; go_simp; with_reducible rfl
            rotate_left; ·simp only [Act.put, sA, sZ, sS, i64_w, i32_w]; rfl
            refine pt_ ?_ 14 (some 78) (btB 25 32767) rfl rfl HT_.out (by kernel_rfl) qq_ (Or.inl ⟨by rfl, ?_⟩) ?_ ?_ ?_
            rotate_left; ·intro w'; go_simp; with_reducible rfl
            rotate_left; ·simp only [Act.put, sA, sZ, sS, i64_w, i32_w]; rfl
            refine pt_ undef 15 (some 79) (btB 25 65535) rfl rfl HT_.out (by kernel_rfl) qq_ (Or.inr ⟨by rfl, rfl⟩) ?_ ?_ ?_
            rotate_left; ·simp only [Act.put, sA, sZ, sS, i64_w, i32_w]; rfl
            refine pt_ undef 16 (some 80) (btB 25 131071) rfl rfl HT_.out (by kernel_rfl) qq_ (Or.inr ⟨by rfl, rfl⟩) ?_ ?_ ?_
            rotate_left; ·simp only [Act.put, sA, sZ, sS, i64_w, i32_w]; rfl
            refine pt_ undef 17 (some 81) (btB 25 262143) rfl rfl HT_.out (by kernel_rfl) qq_ (Or.inr ⟨by rfl, rfl⟩) ?_ ?_ ?_
            rotate_left; ·simp only [Act.put, sA, sZ, sS, i64_w, i32_w]; rfl
            refine pt_ undef 18 (some 82) (btB 25 524287) rfl rfl HT_.out (by kernel_rfl) qq_ (Or.inr ⟨by rfl, rfl⟩) ?_ ?_ ?_
            rotate_left; ·simp only [Act.put, sA, sZ, sS, i64_w, i32_w]; rfl
            refine pt_ undef 19 (some 83) (btB 25 1048575) rfl rfl HT_.out (by kernel_rfl) qq_ (Or.inr ⟨by rfl, rfl⟩) ?_ ?_ ?_
            rotate_left; ·simp only [Act.put, sA, sZ, sS, i64_w, i32_w]; rfl
            refine pt_ undef 20 (some 84) (btB 25 2097151) rfl rfl HT_.out (by kernel_rfl) qq_ (Or.inr ⟨by rfl, rfl⟩) ?_ ?_ ?_
            rotate_left; ·simp only [Act.put, sA, sZ, sS, i64_w, i32_w]; rfl
            refine pt_ undef 21 (some 85) (btB 25 4194303) rfl rfl HT_.out (by kernel_rfl) qq_ (Or.inr ⟨by rfl, rfl⟩) ?_ ?_ ?_
            rotate_left; ·simp only [Act.put, sA, sZ, sS, i64_w, i32_w]; rfl
            refine pt_ undef 22 (some 86) (btB 25 8388607) rfl rfl HT_.out (by kernel_rfl) qq_ (Or.inr ⟨by rfl, rfl⟩) ?_ ?_ ?_
            rotate_left; ·simp only [Act.put, sA, sZ, sS, i64_w, i32_w]; rfl
            refine pt_ undef 23 (some 87) (btB 25 16777215) rfl rfl HT_.out (by kernel_rfl) qq_ (Or.inr ⟨by rfl, rfl⟩) ?_ ?_ ?_
            rotate_left; ·simp only [Act.put, sA, sZ, sS, i64_w, i32_w]; rfl
            refine pt_ ?_ 24 (some 88) (btB 25 33554431) rfl rfl HT_.out (by kernel_rfl) qq_ (Or.inl ⟨by rfl, ?_⟩) ?_ ?_ ?_
            rotate_left; ·intro w'; go_simp; with_reducible rfl
            rotate_left; ·simp only [Act.put, sA, sZ, sS, i64_w, i32_w]; rfl
            refine done_ (done_of HT_.out (by kernel_rfl)) ?_
            try go_wp2
            go_meet
            case rel => exact ⟨_, (true), (by first | rfl | (simp; done) | (simp [*]; done)), H', ⟨by have := HJ2.out; have := HJ16.out; first | omega | exact Nat.le_refl _⟩, ⟨by (with_reducible repeat (first | apply Kd.R_alloc | apply Kd.R_drewN | apply Kd.R_drew)); exact HO142.out⟩, ⟨by (with_reducible repeat (first | refine blk_drewN ?_ _ | refine blk_drew ?_ | refine blk_alloc ?_ _)); exact BK110.out⟩, ⟨by (with_reducible repeat (first | refine blk_drewN ?_ _ | refine blk_drew ?_ | refine blk_alloc ?_ _)); exact BK111.out⟩, ⟨by repeat (first | (with_reducible first | exact HB.out | apply below_alloc | apply pw_below_drewN | apply below_drew1 | refine below_set ?_ GE110.out | refine below_set ?_ GE111.out) | exact HB.out)⟩⟩
           ·rw [if_neg c76] at H
            have c76b0 : (!(((rd_T24 t139 0).f0) == 0) || (!(((rd_T24 t139 0).f1) == 0))) = false := by simpa using c76
            clear c76
            obtain ⟨ji79, hji79⟩ : ∃ j_ : Int, (wrap64 ((t139.length : Int) - 1)) = j_ := ⟨_, rfl⟩
            replace H : (if 0 ≤ (ji79) then (if (ji79) < (t139.length : Int) then (tallymanlaw05_WalkLaws.j2 kj16 t139 (!(((rd_T24 t139 (ji79)).f0) == t105) || (!(((rd_T24 t139 (ji79)).f1) == t106)))) else (none)) else (none)) = some r := by first | (rw [hji79] at H; exact H) | (simp only [hji79] at H ⊢; exact H)
            have hji79w : (IntKind.i64.wrap ((t139.length : Int) - 1)) = ji79 := (i64_w _).trans hji79
            by_cases c80 : 0 ≤ (ji79)
            ·rw [if_pos c80] at H
             have c80b0 : decide (0 ≤ (ji79)) = true := decide_eq_true c80
             clear c80
             by_cases c81 : (ji79) < (t139.length : Int)
             ·rw [if_pos c81] at H
              have c81b0 : decide ((ji79) < (t139.length : Int)) = true := decide_eq_true c81
              clear c81
              have H' := Aside0.mk H
              clear H
              try go_wp2
              have n0_ := Aside0.mk (Kd.R_drew HO142.out)
              have n1_ := Aside0.mk (blk_drew BK110.out)
              have n2_ := Aside0.mk (blk_drew BK111.out)
              have n3_ := Aside0.mk (below_drew1 HB.out)
              clear HO142
              clear BK110
              clear BK111
              clear HB
              have HO142 := n0_
              have BK110 := n1_
              have BK111 := n2_
              have HB := n3_
              clear n0_ n1_ n2_ n3_
              obtain ⟨Ao83, co83, eo83⟩ := Kd.R_slice HO142.out
              (first | subst eo83 | (injection eo83 with f1_ f2_ f3_; have f4_ := f1_.symm; have f5_ := f3_.symm; clear f1_ f2_ f3_; subst f4_; subst f5_))
              have p143 : 0 ≤ (0 : Int) := (by omega)
              have q143 : 0 < (t139.length : Int) := of_decide_eq_true (by first | (with_reducible assumption) | assumption)
              obtain ⟨ad143, e143, hx143_0, hx143_1⟩ := at_T24 (Kd.R_reads' HO142.out).2.2 0 p143 q143
              cases e143
              have qi143 : (0 < t139.length) = True := eq_true (by omega)
              (try rw [show ((0 : Int)).toNat = 0 from rfl] at hx143_0)
              (try rw [show 0 * 2 = 0 from rfl] at hx143_0)
              (try rw [Addr.add_zero'] at hx143_0)
              (try rw [show ((0 : Int)).toNat = 0 from rfl] at hx143_1)
              (try rw [show 0 * 2 = 0 from rfl] at hx143_1)
              (try rw [Addr.add_zero'] at hx143_1)
              replace p143 := eq_true p143
              replace q143 := eq_true q143
              have p144 : 0 ≤ ((ji79) : Int) := of_decide_eq_true (by first | (with_reducible assumption) | assumption)
              have q144 : (ji79) < (t139.length : Int) := of_decide_eq_true (by first | (with_reducible assumption) | assumption)
              obtain ⟨ad144, e144, hx144_0, hx144_1⟩ := at_T24 (Kd.R_reads' HO142.out).2.2 (ji79) p144 q144
              obtain rfl : ad143 = ad144 := (by injection e144)
              replace p144 := eq_true p144
              replace q144 := eq_true q144
              refine start_ (n := 25) (S := fun w' => w'.cell? ⟨gb110, 0, none⟩ = some (.int .i64 t104) ∧ w'.cell? ⟨gb110, 1, none⟩ = some (.int .i64 t105) ∧ w'.cell? ⟨gb110, 2, none⟩ = some (.int .i64 t106) ∧ w'.cell? ad143 = some (.int .i64 ((rd_T24 t139 0).f0)) ∧ w'.cell? ⟨ad143.block, ad143.off + 1, none⟩ = some (.int .i64 ((rd_T24 t139 0).f1)) ∧ w'.cell? (ad143.add (((ji79)).toNat * 2)) = some (.int .i64 ((rd_T24 t139 (ji79)).f0)) ∧ w'.cell? ⟨(ad143.add (((ji79)).toNat * 2)).block, (ad143.add (((ji79)).toNat * 2)).off + 1, none⟩ = some (.int .i64 ((rd_T24 t139 (ji79)).f1))) (ds := []) (btB 25 0) (by kernel_rfl) rfl rfl ⟨(blk_cell BK110.out 0).trans rfl, (blk_cell BK110.out 1).trans rfl, (blk_cell BK110.out 2).trans rfl, hx143_0, hx143_1, hx144_0, hx144_1⟩ (fun hHeld => ?_); refine with_tabW tallymanlaw05_WalkLaws.tab7 tallymanlaw05_WalkLaws.bits7 (fun HT_ HW_ => ?_)
              generalize w70.drew = w82 at HO142 BK110 BK111 HB hx143_0 hx143_1 hx144_0 hx144_1 hHeld ⊢
              refine pt_ ?_ 0 (some 64) (btB 25 1) rfl rfl HT_.out (by kernel_rfl) qq_ (Or.inl ⟨by rfl, ?_⟩) ?_ ?_ ?_
              rotate_left; ·intro w'; go_simp; with_reducible rfl
              rotate_left; ·simp only [Act.put, sA, sZ, sS, i64_w, i32_w]; rfl
              refine pt_ ?_ 1 (some 65) (btB 25 3) rfl rfl HT_.out (by kernel_rfl) qq_ (Or.inl ⟨by rfl, ?_⟩) ?_ ?_ ?_
              rotate_left; ·intro w'; go_simp; with_reducible rfl
              rotate_left; ·simp only [Act.put, sA, sZ, sS, i64_w, i32_w]; rfl
              refine pt_ ?_ 2 (some 66) (btB 25 7) rfl rfl HT_.out (by kernel_rfl) qq_ (Or.inl ⟨by rfl, ?_⟩) ?_ ?_ ?_
              rotate_left; ·intro w'; go_simp; with_reducible rfl
              rotate_left; ·simp only [Act.put, sA, sZ, sS, i64_w, i32_w]; rfl
              refine pt_ ?_ 3 (some 67) (btB 25 15) rfl rfl HT_.out (by kernel_rfl) qq_ (Or.inl ⟨by rfl, ?_⟩) ?_ ?_ ?_
              rotate_left; ·intro w'; go_simp; with_reducible rfl
              rotate_left; ·simp only [Act.put, sA, sZ, sS, i64_w, i32_w]; rfl
              refine pt_ ?_ 4 (some 68) (btB 25 31) rfl rfl HT_.out (by kernel_rfl) qq_ (Or.inl ⟨by rfl, ?_⟩) ?_ ?_ ?_
              rotate_left; ·intro w'; go_simp; with_reducible rfl
              rotate_left; ·simp only [Act.put, sA, sZ, sS, i64_w, i32_w]; rfl
              refine pt_ ?_ 5 (some 69) (btB 25 63) rfl rfl HT_.out (by kernel_rfl) qq_ (Or.inl ⟨by rfl, ?_⟩) ?_ ?_ ?_
              rotate_left; ·intro w'; go_simp; with_reducible rfl
              rotate_left; ·simp only [Act.put, sA, sZ, sS, i64_w, i32_w]; rfl
              refine pt_ ?_ 6 (some 70) (btB 25 127) rfl rfl HT_.out (by kernel_rfl) qq_ (Or.inl ⟨by rfl, ?_⟩) ?_ ?_ ?_
              rotate_left; ·intro w'; go_simp; with_reducible rfl
              rotate_left; ·simp only [Act.put, sA, sZ, sS, i64_w, i32_w]; rfl
              refine pt_ ?_ 7 (some 71) (btB 25 255) rfl rfl HT_.out (by kernel_rfl) qq_ (Or.inl ⟨by rfl, ?_⟩) ?_ ?_ ?_
              rotate_left; ·intro w'; go_simp; with_reducible rfl
              rotate_left; ·simp only [Act.put, sA, sZ, sS, i64_w, i32_w]; rfl
              refine pt_ ?_ 8 (some 72) (btB 25 511) rfl rfl HT_.out (by kernel_rfl) qq_ (Or.inl ⟨by rfl, ?_⟩) ?_ ?_ ?_
              rotate_left; ·intro w'; go_simp; with_reducible rfl
              rotate_left; ·simp only [Act.put, sA, sZ, sS, i64_w, i32_w]; rfl
              refine pt_ ?_ 9 (some 73) (btB 25 1023) rfl rfl HT_.out (by kernel_rfl) qq_ (Or.inl ⟨by rfl, ?_⟩) ?_ ?_ ?_
              rotate_left; ·intro w'; go_simp; with_reducible rfl
              rotate_left; ·simp only [Act.put, sA, sZ, sS, i64_w, i32_w]; rfl
              refine pt_ ?_ 11 (some 75) (btB 25 3071) rfl rfl HT_.out (by kernel_rfl) qq_ (Or.inl ⟨by rfl, ?_⟩) ?_ ?_ ?_
              rotate_left; ·intro w'; go_simp; with_reducible rfl
              rotate_left; ·simp only [Act.put, sA, sZ, sS, i64_w, i32_w]; rfl
              refine take_ (i := 10) (N := some 74) (v := ?_) (a' := ?_) (btB 25 4095) rfl rfl (take_ofW HT_.out HW_.out (by kernel_rfl)) (fun _ _ _ h => h) (Or.inl ⟨by rfl, ?_⟩) hHeld ?_ ?_
              rotate_left; ·rintro w' ⟨s0, s1, s2, s3, s4, s5, s6⟩; go_simp; with_reducible rfl
              rotate_left; ·simp only [Act.put, sA, sZ, sS, i64_w, i32_w]; rfl
              refine pt_ ?_ 12 (some 76) (btB 25 8191) rfl rfl HT_.out (by kernel_rfl) qq_ (Or.inl ⟨by rfl, ?_⟩) ?_ ?_ ?_
              rotate_left; ·intro w'; go_simp; with_reducible rfl
              rotate_left; ·simp only [Act.put, sA, sZ, sS, i64_w, i32_w]; rfl
              refine pt_ ?_ 13 (some 77) (btB 25 16383) rfl rfl HT_.out (by kernel_rfl) qq_ (Or.inl ⟨by rfl, ?_⟩) ?_ ?_ ?_
              rotate_left; ·intro w'; go_simp; with_reducible rfl
              rotate_left; ·simp only [Act.put, sA, sZ, sS, i64_w, i32_w]; rfl
              refine pt_ ?_ 14 (some 78) (btB 25 32767) rfl rfl HT_.out (by kernel_rfl) qq_ (Or.inl ⟨by rfl, ?_⟩) ?_ ?_ ?_
              rotate_left; ·intro w'; go_simp; with_reducible rfl
              rotate_left; ·simp only [Act.put, sA, sZ, sS, i64_w, i32_w]; rfl
              refine pt_ ?_ 15 (some 79) (btB 25 65535) rfl rfl HT_.out (by kernel_rfl) qq_ (Or.inl ⟨by rfl, ?_⟩) ?_ ?_ ?_
              rotate_left; ·intro w'; go_simp; with_reducible rfl
              rotate_left; ·simp only [Act.put, sA, sZ, sS, i64_w, i32_w]; rfl
              refine pt_ ?_ 16 (some 80) (btB 25 131071) rfl rfl HT_.out (by kernel_rfl) qq_ (Or.inl ⟨by rfl, ?_⟩) ?_ ?_ ?_
              rotate_left; ·intro w'; go_simp; with_reducible rfl
              rotate_left; ·simp only [Act.put, sA, sZ, sS, i64_w, i32_w]; rfl
              refine pt_ ?_ 17 (some 81) (btB 25 262143) rfl rfl HT_.out (by kernel_rfl) qq_ (Or.inl ⟨by rfl, ?_⟩) ?_ ?_ ?_
              rotate_left; ·intro w'; go_simp; with_reducible rfl
              rotate_left; ·simp only [Act.put, sA, sZ, sS, i64_w, i32_w]; rfl
              refine pt_ ?_ 18 (some 82) (btB 25 524287) rfl rfl HT_.out (by kernel_rfl) qq_ (Or.inl ⟨by rfl, ?_⟩) ?_ ?_ ?_
              rotate_left; ·intro w'; go_simp; with_reducible rfl
              rotate_left; ·simp only [Act.put, sA, sZ, sS, i64_w, i32_w]; rfl
              refine pt_ ?_ 19 (some 83) (btB 25 1048575) rfl rfl HT_.out (by kernel_rfl) qq_ (Or.inl ⟨by rfl, ?_⟩) ?_ ?_ ?_
              rotate_left; ·intro w'; go_simp; with_reducible rfl
              rotate_left; ·simp only [Act.put, sA, sZ, sS, i64_w, i32_w]; rfl
              refine pt_ ?_ 21 (some 85) (btB 25 3145727) rfl rfl HT_.out (by kernel_rfl) qq_ (Or.inl ⟨by rfl, ?_⟩) ?_ ?_ ?_
              rotate_left; ·intro w'; go_simp; with_reducible rfl
              rotate_left; ·simp only [Act.put, sA, sZ, sS, i64_w, i32_w]; rfl
              refine take_ (i := 20) (N := some 84) (v := ?_) (a' := ?_) (btB 25 4194303) rfl rfl (take_ofW HT_.out HW_.out (by kernel_rfl)) (fun _ _ _ h => h) (Or.inl ⟨by rfl, ?_⟩) hHeld ?_ ?_
              rotate_left; ·rintro w' ⟨s0, s1, s2, s3, s4, s5, s6⟩; go_simp; with_reducible rfl
              rotate_left; ·simp only [Act.put, sA, sZ, sS, i64_w, i32_w]; rfl
              refine take_ (i := 22) (N := some 86) (v := ?_) (a' := ?_) (btB 25 8388607) rfl rfl (take_ofW HT_.out HW_.out (by kernel_rfl)) (fun _ _ _ h => h) (Or.inl ⟨by rfl, ?_⟩) hHeld ?_ ?_
              rotate_left; ·rintro w' ⟨s0, s1, s2, s3, s4, s5, s6⟩; go_simp; with_reducible rfl
              rotate_left; ·simp only [Act.put, sA, sZ, sS, i64_w, i32_w]; rfl
              refine pt_ ?_ 23 (some 87) (btB 25 16777215) rfl rfl HT_.out (by kernel_rfl) qq_ (Or.inl ⟨by rfl, ?_⟩) ?_ ?_ ?_
              rotate_left; ·intro w'; go_simp; with_reducible rfl
              rotate_left; ·simp only [Act.put, sA, sZ, sS, i64_w, i32_w]; rfl
              refine pt_ ?_ 24 (some 88) (btB 25 33554431) rfl rfl HT_.out (by kernel_rfl) qq_ (Or.inl ⟨by rfl, ?_⟩) ?_ ?_ ?_
              rotate_left; ·intro w'; go_simp; with_reducible rfl
              rotate_left; ·simp only [Act.put, sA, sZ, sS, i64_w, i32_w]; rfl
              refine done_ (done_of HT_.out (by kernel_rfl)) ?_
              try go_wp2
              go_meet
              case rel => exact ⟨_, ((!(((rd_T24 t139 (ji79)).f0) == t105) || (!(((rd_T24 t139 (ji79)).f1) == t106)))), (by first | rfl | (simp; done) | (simp only [← hji79] <;> (first | rfl | simp)) | (simp [*]; done)), H', ⟨by have := HJ2.out; have := HJ16.out; first | omega | exact Nat.le_refl _⟩, ⟨by (with_reducible repeat (first | apply Kd.R_alloc | apply Kd.R_drewN | apply Kd.R_drew)); exact HO142.out⟩, ⟨by (with_reducible repeat (first | refine blk_drewN ?_ _ | refine blk_drew ?_ | refine blk_alloc ?_ _)); exact BK110.out⟩, ⟨by (with_reducible repeat (first | refine blk_drewN ?_ _ | refine blk_drew ?_ | refine blk_alloc ?_ _)); exact BK111.out⟩, ⟨by repeat (first | (with_reducible first | exact HB.out | apply below_alloc | apply pw_below_drewN | apply below_drew1 | refine below_set ?_ GE110.out | refine below_set ?_ GE111.out) | exact HB.out)⟩⟩
             ·rw [if_neg c81] at H
              exact absurd H (by simp)
            ·rw [if_neg c80] at H
             exact absurd H (by simp)
          ·rw [if_neg c75] at H
           exact absurd H (by simp)
        ·rw [if_neg c71] at H
         have c71b0 : (t140 == 0) = false := beq_eq_false_iff_ne.mpr c71
         have c71b1 : (t140 != 0) = true := bne_iff_ne.mpr c71
         (first | rw [c71b0] | (simp only [i64_w, i32_w]; rw [c71b0]) | skip)
         have H' := Aside0.mk H
         clear H
         try go_wp2
         have n0_ := Aside0.mk (Kd.R_drew HO142.out)
         have n1_ := Aside0.mk (blk_drew BK110.out)
         have n2_ := Aside0.mk (blk_drew BK111.out)
         have n3_ := Aside0.mk (below_drew1 HB.out)
         clear HO142
         clear BK110
         clear BK111
         clear HB
         have HO142 := n0_
         have BK110 := n1_
         have BK111 := n2_
         have HB := n3_
         clear n0_ n1_ n2_ n3_
         refine start_ (n := 25) (S := fun w' => True) (ds := []) (btB 25 0) (by kernel_rfl) rfl rfl trivial (fun hHeld => ?_); refine with_tabW tallymanlaw05_WalkLaws.tab7 tallymanlaw05_WalkLaws.bits7 (fun HT_ HW_ => ?_)
         generalize w70.drew = w84 at HO142 BK110 BK111 HB hHeld ⊢
         refine pt_ ?_ 0 (some 64) (btB 25 1) rfl rfl HT_.out (by kernel_rfl) qq_ (Or.inl ⟨by rfl, ?_⟩) ?_ ?_ ?_
         rotate_left; ·intro w'; go_simp; with_reducible rfl
         rotate_left; ·simp only [Act.put, sA, sZ, sS, i64_w, i32_w]; rfl
         refine pt_ ?_ 1 (some 65) (btB 25 3) rfl rfl HT_.out (by kernel_rfl) qq_ (Or.inl ⟨by rfl, ?_⟩) ?_ ?_ ?_
         rotate_left; ·intro w'; go_simp; with_reducible rfl
         rotate_left; ·simp only [Act.put, sA, sZ, sS, i64_w, i32_w]; rfl
         refine pt_ ?_ 2 (some 66) (btB 25 7) rfl rfl HT_.out (by kernel_rfl) qq_ (Or.inl ⟨by rfl, ?_⟩) ?_ ?_ ?_
         rotate_left; ·intro w'; go_simp; with_reducible rfl
         rotate_left; ·simp only [Act.put, sA, sZ, sS, i64_w, i32_w]; rfl
         refine pt_ undef 3 (some 67) (btB 25 15) rfl rfl HT_.out (by kernel_rfl) qq_ (Or.inr ⟨by rfl, rfl⟩) ?_ ?_ ?_
         rotate_left; ·simp only [Act.put, sA, sZ, sS, i64_w, i32_w]; rfl
         refine pt_ undef 4 (some 68) (btB 25 31) rfl rfl HT_.out (by kernel_rfl) qq_ (Or.inr ⟨by rfl, rfl⟩) ?_ ?_ ?_
         rotate_left; ·simp only [Act.put, sA, sZ, sS, i64_w, i32_w]; rfl
         refine pt_ undef 5 (some 69) (btB 25 63) rfl rfl HT_.out (by kernel_rfl) qq_ (Or.inr ⟨by rfl, rfl⟩) ?_ ?_ ?_
         rotate_left; ·simp only [Act.put, sA, sZ, sS, i64_w, i32_w]; rfl
         refine pt_ ?_ 6 (some 70) (btB 25 127) rfl rfl HT_.out (by kernel_rfl) qq_ (Or.inl ⟨by rfl, ?_⟩) ?_ ?_ ?_
         rotate_left; ·intro w'; go_simp; with_reducible rfl
         rotate_left; ·simp only [Act.put, sA, sZ, sS, i64_w, i32_w]; rfl
         refine pt_ ?_ 7 (some 71) (btB 25 255) rfl rfl HT_.out (by kernel_rfl) qq_ (Or.inl ⟨by rfl, ?_⟩) ?_ ?_ ?_
         rotate_left; ·intro w'; go_simp; with_reducible rfl
         rotate_left; ·simp only [Act.put, sA, sZ, sS, i64_w, i32_w]; rfl
         refine pt_ undef 8 (some 72) (btB 25 511) rfl rfl HT_.out (by kernel_rfl) qq_ (Or.inr ⟨by rfl, rfl⟩) ?_ ?_ ?_
         rotate_left; ·simp only [Act.put, sA, sZ, sS, i64_w, i32_w]; rfl
         refine pt_ undef 9 (some 73) (btB 25 1023) rfl rfl HT_.out (by kernel_rfl) qq_ (Or.inr ⟨by rfl, rfl⟩) ?_ ?_ ?_
         rotate_left; ·simp only [Act.put, sA, sZ, sS, i64_w, i32_w]; rfl
         refine pt_ undef 10 (some 74) (btB 25 2047) rfl rfl HT_.out (by kernel_rfl) qq_ (Or.inr ⟨by rfl, rfl⟩) ?_ ?_ ?_
         rotate_left; ·simp only [Act.put, sA, sZ, sS, i64_w, i32_w]; rfl
         refine pt_ undef 11 (some 75) (btB 25 4095) rfl rfl HT_.out (by kernel_rfl) qq_ (Or.inr ⟨by rfl, rfl⟩) ?_ ?_ ?_
         rotate_left; ·simp only [Act.put, sA, sZ, sS, i64_w, i32_w]; rfl
         refine pt_ undef 12 (some 76) (btB 25 8191) rfl rfl HT_.out (by kernel_rfl) qq_ (Or.inr ⟨by rfl, rfl⟩) ?_ ?_ ?_
         rotate_left; ·simp only [Act.put, sA, sZ, sS, i64_w, i32_w]; rfl
         refine pt_ ?_ 13 (some 77) (btB 25 16383) rfl rfl HT_.out (by kernel_rfl) qq_ (Or.inl ⟨by rfl, ?_⟩) ?_ ?_ ?_
         rotate_left; ·intro w'; go_simp; with_reducible rfl
         rotate_left; ·simp only [Act.put, sA, sZ, sS, i64_w, i32_w]; rfl
         refine pt_ ?_ 14 (some 78) (btB 25 32767) rfl rfl HT_.out (by kernel_rfl) qq_ (Or.inl ⟨by rfl, ?_⟩) ?_ ?_ ?_
         rotate_left; ·intro w'; go_simp; with_reducible rfl
         rotate_left; ·simp only [Act.put, sA, sZ, sS, i64_w, i32_w]; rfl
         refine pt_ undef 15 (some 79) (btB 25 65535) rfl rfl HT_.out (by kernel_rfl) qq_ (Or.inr ⟨by rfl, rfl⟩) ?_ ?_ ?_
         rotate_left; ·simp only [Act.put, sA, sZ, sS, i64_w, i32_w]; rfl
         refine pt_ undef 16 (some 80) (btB 25 131071) rfl rfl HT_.out (by kernel_rfl) qq_ (Or.inr ⟨by rfl, rfl⟩) ?_ ?_ ?_
         rotate_left; ·simp only [Act.put, sA, sZ, sS, i64_w, i32_w]; rfl
         refine pt_ undef 17 (some 81) (btB 25 262143) rfl rfl HT_.out (by kernel_rfl) qq_ (Or.inr ⟨by rfl, rfl⟩) ?_ ?_ ?_
         rotate_left; ·simp only [Act.put, sA, sZ, sS, i64_w, i32_w]; rfl
         refine pt_ undef 18 (some 82) (btB 25 524287) rfl rfl HT_.out (by kernel_rfl) qq_ (Or.inr ⟨by rfl, rfl⟩) ?_ ?_ ?_
         rotate_left; ·simp only [Act.put, sA, sZ, sS, i64_w, i32_w]; rfl
         refine pt_ undef 19 (some 83) (btB 25 1048575) rfl rfl HT_.out (by kernel_rfl) qq_ (Or.inr ⟨by rfl, rfl⟩) ?_ ?_ ?_
         rotate_left; ·simp only [Act.put, sA, sZ, sS, i64_w, i32_w]; rfl
         refine pt_ undef 20 (some 84) (btB 25 2097151) rfl rfl HT_.out (by kernel_rfl) qq_ (Or.inr ⟨by rfl, rfl⟩) ?_ ?_ ?_
         rotate_left; ·simp only [Act.put, sA, sZ, sS, i64_w, i32_w]; rfl
         refine pt_ undef 21 (some 85) (btB 25 4194303) rfl rfl HT_.out (by kernel_rfl) qq_ (Or.inr ⟨by rfl, rfl⟩) ?_ ?_ ?_
         rotate_left; ·simp only [Act.put, sA, sZ, sS, i64_w, i32_w]; rfl
         refine pt_ undef 22 (some 86) (btB 25 8388607) rfl rfl HT_.out (by kernel_rfl) qq_ (Or.inr ⟨by rfl, rfl⟩) ?_ ?_ ?_
         rotate_left; ·simp only [Act.put, sA, sZ, sS, i64_w, i32_w]; rfl
         refine pt_ undef 23 (some 87) (btB 25 16777215) rfl rfl HT_.out (by kernel_rfl) qq_ (Or.inr ⟨by rfl, rfl⟩) ?_ ?_ ?_
         rotate_left; ·simp only [Act.put, sA, sZ, sS, i64_w, i32_w]; rfl
         refine pt_ ?_ 24 (some 88) (btB 25 33554431) rfl rfl HT_.out (by kernel_rfl) qq_ (Or.inl ⟨by rfl, ?_⟩) ?_ ?_ ?_
         rotate_left; ·intro w'; go_simp; with_reducible rfl
         rotate_left; ·simp only [Act.put, sA, sZ, sS, i64_w, i32_w]; rfl
         refine done_ (done_of HT_.out (by kernel_rfl)) ?_
         try go_wp2
         go_meet
         case rel => exact ⟨_, (true), (by first | rfl | (simp; done) | (simp [*]; done)), H', ⟨by have := HJ2.out; have := HJ16.out; first | omega | exact Nat.le_refl _⟩, ⟨by (with_reducible repeat (first | apply Kd.R_alloc | apply Kd.R_drewN | apply Kd.R_drew)); exact HO142.out⟩, ⟨by (with_reducible repeat (first | refine blk_drewN ?_ _ | refine blk_drew ?_ | refine blk_alloc ?_ _)); exact BK110.out⟩, ⟨by (with_reducible repeat (first | refine blk_drewN ?_ _ | refine blk_drew ?_ | refine blk_alloc ?_ _)); exact BK111.out⟩, ⟨by repeat (first | (with_reducible first | exact HB.out | apply below_alloc | apply pw_below_drewN | apply below_drew1 | refine below_set ?_ GE110.out | refine below_set ?_ GE111.out) | exact HB.out)⟩⟩
       case rest =>
        clear HC69
        try clear p1
        try clear q1
        try clear hx1
        try clear qi1
        try clear p2
        try clear p6
        try clear c7
        try clear c8
        try clear p14
        try clear q14
        try clear hx14
        try clear qi14
        try clear p64
        try clear c71
        try clear c71b0
        try clear c71b1
        try clear c75
        try clear c76
        try clear c76b0
        try clear c80
        try clear c80b0
        try clear c81
        try clear c81b0
        try clear hx143_0
        try clear hx143_1
        try clear hx144_0
        try clear hx144_1
        try clear p143
        try clear p144
        try clear q143
        try clear q144
        obtain ⟨kq, x88_68, rfl, HA, HJ68, HO_7, BK110, BK111, HB⟩ := hcut
        cases kq with
        | zero => exact absurd HA.out (by simp [tallymanlaw05_WalkLaws.j2])
        | succ kj68 =>
         have H := HA.out
         clear HA
         simp only [tallymanlaw05_WalkLaws.j2] at H
         by_cases c85 : x88_68 = true
         ·subst c85
          have H1 : (some false) = some r := by rw [if_pos rfl] at H; exact H
          clear H
          have H := H1
          clear H1
          obtain rfl := Option.some.inj H
          go_wp2
          go_ret
          exact ⟨by first | rfl | ((repeat first | rw [Int.tdiv_eq_ediv_of_nonneg (by omega)] | rw [Int.tmod_eq_emod_of_nonneg (by omega)]); rfl) | (simp [errW_none, errW_some] <;> rfl) | (simp [*, errW_none, errW_some] <;> rfl), by repeat (first | (with_reducible first | exact HB.out | apply below_alloc | apply pw_below_drewN | apply below_drew1 | refine below_set ?_ GE110.out | refine below_set ?_ GE111.out) | exact HB.out)⟩
         ·replace c85 := Bool.eq_false_iff.mpr c85
          subst c85
          have H1 : (tallymanlaw05_WalkLaws.l0 kj68 t139 1) = some r := by rw [if_neg (show ¬ (false = true) by decide)] at H; exact H
          clear H
          have H := H1
          clear H1
          have H' := Aside0.mk H
          clear H
          go_wp2
          go_loopg [9] kj68 (fun kq v9 w' => ∃ (x9_4 : Int), v9 = .int .i64 x9_4 ∧ Aside0 (tallymanlaw05_WalkLaws.l0 kq t139 x9_4 = some r) ∧ Aside0 (kq ≤ kj68) ∧ Aside0 (Kd.R k24 24 w' w.heap.size (fun _ => True) v141 t139) ∧ Aside0 (w'.heap[gb110]? = some (.cells #[.int .i64 t104, .int .i64 t105, .int .i64 t106] 34 (0, 0))) ∧ Aside0 (w'.heap[gb111]? = some (.cells #[.int .i64 t107, .int .i64 t108, .int .i64 t109] 34 (0, 0))) ∧ Aside0 (Below w.heap.size w w'))
          case atStart => exact ⟨(1), (by first | rfl | (simp; done) | (simp [*]; done)), H', ⟨Nat.le_refl _⟩, ⟨by (with_reducible repeat (first | apply Kd.R_alloc | apply Kd.R_drewN | apply Kd.R_drew)); exact HO_7.out⟩, ⟨by (with_reducible repeat (first | refine blk_drewN ?_ _ | refine blk_drew ?_ | refine blk_alloc ?_ _)); exact BK110.out⟩, ⟨by (with_reducible repeat (first | refine blk_drewN ?_ _ | refine blk_drew ?_ | refine blk_alloc ?_ _)); exact BK111.out⟩, ⟨by repeat (first | (with_reducible first | exact HB.out | apply below_alloc | apply pw_below_drewN | apply below_drew1 | refine below_set ?_ GE110.out | refine below_set ?_ GE111.out) | exact HB.out)⟩⟩
          case round =>
           clear H'
           try clear p1
           try clear q1
           try clear hx1
           try clear qi1
           try clear p2
           try clear p6
           try clear c7
           try clear c8
           try clear p14
           try clear q14
           try clear hx14
           try clear qi14
           try clear p64
           try clear c71
           try clear c71b0
           try clear c71b1
           try clear c75
           try clear c76
           try clear c76b0
           try clear c80
           try clear c80b0
           try clear c81
           try clear c81b0
           try clear c85
           try clear hx143_0
           try clear hx143_1
           try clear hx144_0
           try clear hx144_1
           try clear p1
           try clear p14
           try clear p143
           try clear p144
           try clear p2
           try clear p6
           try clear p64
           try clear q1
           try clear q14
           try clear q143
           try clear q144
           obtain ⟨x9_4, rfl, HA, HK4, HO_7, BK110, BK111, HB⟩ := hrel
           cases gk with
           | zero => exact absurd HA.out (by simp [tallymanlaw05_WalkLaws.l0])
           | succ k4 =>
            have H := HA.out
            clear HA
            simp only [tallymanlaw05_WalkLaws.l0] at H
            by_cases c86 : x9_4 < (t139.length : Int)
            ·rw [if_pos c86] at H
             have c86b0 : decide (x9_4 < (t139.length : Int)) = true := decide_eq_true c86
             clear c86
             by_cases c87 : 0 ≤ x9_4
             ·rw [if_pos c87] at H
              have c87b0 : decide (0 ≤ x9_4) = true := decide_eq_true c87
              clear c87
              obtain ⟨ji88, hji88⟩ : ∃ j_ : Int, (wrap64 (x9_4 - 1)) = j_ := ⟨_, rfl⟩
              replace H : (if 0 ≤ (ji88) then (if (ji88) < (t139.length : Int) then (if (wrap64 ((wrap64 ((wrap64 (((rd_T24 t139 x9_4).f0) - ((rd_T24 t139 (ji88)).f0))) * (wrap64 (((rd_T24 t139 x9_4).f0) - ((rd_T24 t139 (ji88)).f0))))) + (wrap64 ((wrap64 (((rd_T24 t139 x9_4).f1) - ((rd_T24 t139 (ji88)).f1))) * (wrap64 (((rd_T24 t139 x9_4).f1) - ((rd_T24 t139 (ji88)).f1))))))) = 1 then (tallymanlaw05_WalkLaws.l0 k4 t139 (wrap64 (x9_4 + 1))) else (some false)) else (none)) else (none)) = some r := by first | (rw [hji88] at H; exact H) | (simp only [hji88] at H ⊢; exact H)
              have hji88w : (IntKind.i64.wrap (x9_4 - 1)) = ji88 := (i64_w _).trans hji88
              by_cases c89 : 0 ≤ (ji88)
              ·rw [if_pos c89] at H
               have c89b0 : decide (0 ≤ (ji88)) = true := decide_eq_true c89
               clear c89
               by_cases c90 : (ji88) < (t139.length : Int)
               ·rw [if_pos c90] at H
                have c90b0 : decide ((ji88) < (t139.length : Int)) = true := decide_eq_true c90
                clear c90
                by_cases c91 : (wrap64 ((wrap64 ((wrap64 (((rd_T24 t139 x9_4).f0) - ((rd_T24 t139 (ji88)).f0))) * (wrap64 (((rd_T24 t139 x9_4).f0) - ((rd_T24 t139 (ji88)).f0))))) + (wrap64 ((wrap64 (((rd_T24 t139 x9_4).f1) - ((rd_T24 t139 (ji88)).f1))) * (wrap64 (((rd_T24 t139 x9_4).f1) - ((rd_T24 t139 (ji88)).f1))))))) = 1
                ·rw [if_pos c91] at H
                 have c91b0 : ((wrap64 ((wrap64 ((wrap64 (((rd_T24 t139 x9_4).f0) - ((rd_T24 t139 (ji88)).f0))) * (wrap64 (((rd_T24 t139 x9_4).f0) - ((rd_T24 t139 (ji88)).f0))))) + (wrap64 ((wrap64 (((rd_T24 t139 x9_4).f1) - ((rd_T24 t139 (ji88)).f1))) * (wrap64 (((rd_T24 t139 x9_4).f1) - ((rd_T24 t139 (ji88)).f1))))))) == 1) = true := beq_iff_eq.mpr c91
                 have c91b1 : ((wrap64 ((wrap64 ((wrap64 (((rd_T24 t139 x9_4).f0) - ((rd_T24 t139 (ji88)).f0))) * (wrap64 (((rd_T24 t139 x9_4).f0) - ((rd_T24 t139 (ji88)).f0))))) + (wrap64 ((wrap64 (((rd_T24 t139 x9_4).f1) - ((rd_T24 t139 (ji88)).f1))) * (wrap64 (((rd_T24 t139 x9_4).f1) - ((rd_T24 t139 (ji88)).f1))))))) != 1) = false := bne_eq_false_iff_eq.mpr c91
                 clear c91
                 have H' := Aside0.mk H
                 clear H
                 obtain ⟨Ao92, co92, eo92⟩ := Kd.R_slice HO_7.out
                 subst eo92
                 try go_wp2
                 have n0_ := Aside0.mk (Kd.R_drew HO_7.out)
                 have n1_ := Aside0.mk (blk_drew BK110.out)
                 have n2_ := Aside0.mk (blk_drew BK111.out)
                 have n3_ := Aside0.mk (below_drew1 HB.out)
                 clear HO_7
                 clear BK110
                 clear BK111
                 clear HB
                 have HO_7 := n0_
                 have BK110 := n1_
                 have BK111 := n2_
                 have HB := n3_
                 clear n0_ n1_ n2_ n3_
                 have p145 : 0 ≤ (x9_4 : Int) := of_decide_eq_true (by first | (with_reducible assumption) | assumption)
                 have q145 : x9_4 < (t139.length : Int) := of_decide_eq_true (by first | (with_reducible assumption) | assumption)
                 obtain ⟨ad145, e145, hx145_0, hx145_1⟩ := at_T24 (Kd.R_reads' HO_7.out).2.2 x9_4 p145 q145
                 cases e145
                 replace p145 := eq_true p145
                 replace q145 := eq_true q145
                 have p146 : 0 ≤ ((ji88) : Int) := of_decide_eq_true (by first | (with_reducible assumption) | assumption)
                 have q146 : (ji88) < (t139.length : Int) := of_decide_eq_true (by first | (with_reducible assumption) | assumption)
                 obtain ⟨ad146, e146, hx146_0, hx146_1⟩ := at_T24 (Kd.R_reads' HO_7.out).2.2 (ji88) p146 q146
                 obtain rfl : ad145 = ad146 := (by injection e146)
                 replace p146 := eq_true p146
                 replace q146 := eq_true q146
                 have p147 : 0 ≤ (x9_4 : Int) := of_decide_eq_true (by first | (with_reducible assumption) | assumption)
                 have q147 : x9_4 < (t139.length : Int) := of_decide_eq_true (by first | (with_reducible assumption) | assumption)
                 obtain ⟨ad147, e147, hx147_0, hx147_1⟩ := at_T24 (Kd.R_reads' HO_7.out).2.2 x9_4 p147 q147
                 obtain rfl : ad145 = ad147 := (by injection e147)
                 replace p147 := eq_true p147
                 replace q147 := eq_true q147
                 have p148 : 0 ≤ ((ji88) : Int) := of_decide_eq_true (by first | (with_reducible assumption) | assumption)
                 have q148 : (ji88) < (t139.length : Int) := of_decide_eq_true (by first | (with_reducible assumption) | assumption)
                 obtain ⟨ad148, e148, hx148_0, hx148_1⟩ := at_T24 (Kd.R_reads' HO_7.out).2.2 (ji88) p148 q148
                 obtain rfl : ad145 = ad148 := (by injection e148)
                 replace p148 := eq_true p148
                 replace q148 := eq_true q148
                 refine start_ (n := 27) (S := fun w' => w'.cell? (ad145.add ((x9_4).toNat * 2)) = some (.int .i64 ((rd_T24 t139 x9_4).f0)) ∧ w'.cell? ⟨(ad145.add ((x9_4).toNat * 2)).block, (ad145.add ((x9_4).toNat * 2)).off + 1, none⟩ = some (.int .i64 ((rd_T24 t139 x9_4).f1)) ∧ w'.cell? (ad145.add (((ji88)).toNat * 2)) = some (.int .i64 ((rd_T24 t139 (ji88)).f0)) ∧ w'.cell? ⟨(ad145.add (((ji88)).toNat * 2)).block, (ad145.add (((ji88)).toNat * 2)).off + 1, none⟩ = some (.int .i64 ((rd_T24 t139 (ji88)).f1)) ∧ w'.cell? (ad145.add ((x9_4).toNat * 2)) = some (.int .i64 ((rd_T24 t139 x9_4).f0)) ∧ w'.cell? ⟨(ad145.add ((x9_4).toNat * 2)).block, (ad145.add ((x9_4).toNat * 2)).off + 1, none⟩ = some (.int .i64 ((rd_T24 t139 x9_4).f1)) ∧ w'.cell? (ad145.add (((ji88)).toNat * 2)) = some (.int .i64 ((rd_T24 t139 (ji88)).f0)) ∧ w'.cell? ⟨(ad145.add (((ji88)).toNat * 2)).block, (ad145.add (((ji88)).toNat * 2)).off + 1, none⟩ = some (.int .i64 ((rd_T24 t139 (ji88)).f1))) (ds := []) (btB 27 0) (by kernel_rfl) rfl rfl ⟨hx145_0, hx145_1, hx146_0, hx146_1, hx147_0, hx147_1, hx148_0, hx148_1⟩ (fun hHeld => ?_); refine with_tabW tallymanlaw05_WalkLaws.tab12 tallymanlaw05_WalkLaws.bits12 (fun HT_ HW_ => ?_)
                 generalize wr.drew = w93 at HO_7 BK110 BK111 HB hx145_0 hx145_1 hx146_0 hx146_1 hx147_0 hx147_1 hx148_0 hx148_1 hHeld ⊢
                 refine pt_ ?_ 0 (some 95) (btB 27 1) rfl rfl HT_.out (by kernel_rfl) qq_ (Or.inl ⟨by rfl, ?_⟩) ?_ ?_ ?_
                 rotate_left; ·intro w'; go_simp; with_reducible rfl
                 rotate_left; ·simp only [Act.put, sA, sZ, sS, i64_w, i32_w]; rfl
                 refine pt_ ?_ 1 (some 96) (btB 27 3) rfl rfl HT_.out (by kernel_rfl) qq_ (Or.inl ⟨by rfl, ?_⟩) ?_ ?_ ?_
                 rotate_left; ·intro w'; go_simp; with_reducible rfl
                 rotate_left; ·simp only [Act.put, sA, sZ, sS, i64_w, i32_w]; rfl
                 refine pt_ ?_ 2 (some 97) (btB 27 7) rfl rfl HT_.out (by kernel_rfl) qq_ (Or.inl ⟨by rfl, ?_⟩) ?_ ?_ ?_
                 rotate_left; ·intro w'; go_simp; with_reducible rfl
                 rotate_left; ·simp only [Act.put, sA, sZ, sS, i64_w, i32_w]; rfl
                 refine pt_ ?_ 3 (some 98) (btB 27 15) rfl rfl HT_.out (by kernel_rfl) qq_ (Or.inl ⟨by rfl, ?_⟩) ?_ ?_ ?_
                 rotate_left; ·intro w'; go_simp; with_reducible rfl
                 rotate_left; ·simp only [Act.put, sA, sZ, sS, i64_w, i32_w]; rfl
                 refine pt_ ?_ 5 (some 100) (btB 27 47) rfl rfl HT_.out (by kernel_rfl) qq_ (Or.inl ⟨by rfl, ?_⟩) ?_ ?_ ?_
                 rotate_left; ·intro w'; go_simp; with_reducible rfl
                 rotate_left; ·simp only [Act.put, sA, sZ, sS, i64_w, i32_w]; rfl
                 refine pt_ ?_ 6 (some 101) (btB 27 111) rfl rfl HT_.out (by kernel_rfl) qq_ (Or.inl ⟨by rfl, ?_⟩) ?_ ?_ ?_
                 rotate_left; ·intro w'; go_simp; with_reducible rfl
                 rotate_left; ·simp only [Act.put, sA, sZ, sS, i64_w, i32_w]; rfl
                 refine pt_ ?_ 7 (some 102) (btB 27 239) rfl rfl HT_.out (by kernel_rfl) qq_ (Or.inl ⟨by rfl, ?_⟩) ?_ ?_ ?_
                 rotate_left; ·intro w'; go_simp; with_reducible rfl
                 rotate_left; ·simp only [Act.put, sA, sZ, sS, i64_w, i32_w]; rfl
                 refine pt_ ?_ 8 (some 103) (btB 27 495) rfl rfl HT_.out (by kernel_rfl) qq_ (Or.inl ⟨by rfl, ?_⟩) ?_ ?_ ?_
                 rotate_left; ·intro w'; go_simp; with_reducible rfl
                 rotate_left; ·simp only [Act.put, sA, sZ, sS, i64_w, i32_w]; rfl
                 refine pt_ ?_ 9 (some 104) (btB 27 1007) rfl rfl HT_.out (by kernel_rfl) qq_ (Or.inl ⟨by rfl, ?_⟩) ?_ ?_ ?_
                 rotate_left; ·intro w'; go_simp; with_reducible rfl
                 rotate_left; ·simp only [Act.put, sA, sZ, sS, i64_w, i32_w]; rfl
                 refine pt_ ?_ 12 (some 107) (btB 27 5103) rfl rfl HT_.out (by kernel_rfl) qq_ (Or.inl ⟨by rfl, ?_⟩) ?_ ?_ ?_
                 rotate_left; ·intro w'; go_simp; with_reducible rfl
                 rotate_left; ·simp only [Act.put, sA, sZ, sS, i64_w, i32_w]; rfl
                 refine pt_ ?_ 13 (some 108) (btB 27 13295) rfl rfl HT_.out (by kernel_rfl) qq_ (Or.inl ⟨by rfl, ?_⟩) ?_ ?_ ?_
                 rotate_left; ·intro w'; go_simp; with_reducible rfl
                 rotate_left; ·simp only [Act.put, sA, sZ, sS, i64_w, i32_w]; rfl
                 refine pt_ ?_ 14 (some 109) (btB 27 29679) rfl rfl HT_.out (by kernel_rfl) qq_ (Or.inl ⟨by rfl, ?_⟩) ?_ ?_ ?_
                 rotate_left; ·intro w'; go_simp; with_reducible rfl
                 rotate_left; ·simp only [Act.put, sA, sZ, sS, i64_w, i32_w]; rfl
                 refine pt_ ?_ 15 (some 110) (btB 27 62447) rfl rfl HT_.out (by kernel_rfl) qq_ (Or.inl ⟨by rfl, ?_⟩) ?_ ?_ ?_
                 rotate_left; ·intro w'; go_simp; with_reducible rfl
                 rotate_left; ·simp only [Act.put, sA, sZ, sS, i64_w, i32_w]; rfl
                 refine pt_ ?_ 17 (some 112) (btB 27 193519) rfl rfl HT_.out (by kernel_rfl) qq_ (Or.inl ⟨by rfl, ?_⟩) ?_ ?_ ?_
                 rotate_left; ·intro w'; go_simp; with_reducible rfl
                 rotate_left; ·simp only [Act.put, sA, sZ, sS, i64_w, i32_w]; rfl
                 refine pt_ ?_ 18 (some 113) (btB 27 455663) rfl rfl HT_.out (by kernel_rfl) qq_ (Or.inl ⟨by rfl, ?_⟩) ?_ ?_ ?_
                 rotate_left; ·intro w'; go_simp; with_reducible rfl
                 rotate_left; ·simp only [Act.put, sA, sZ, sS, i64_w, i32_w]; rfl
                 refine pt_ ?_ 19 (some 114) (btB 27 979951) rfl rfl HT_.out (by kernel_rfl) qq_ (Or.inl ⟨by rfl, ?_⟩) ?_ ?_ ?_
                 rotate_left; ·intro w'; go_simp; with_reducible rfl
                 rotate_left; ·simp only [Act.put, sA, sZ, sS, i64_w, i32_w]; rfl
                 refine pt_ ?_ 20 (some 115) (btB 27 2028527) rfl rfl HT_.out (by kernel_rfl) qq_ (Or.inl ⟨by rfl, ?_⟩) ?_ ?_ ?_
                 rotate_left; ·intro w'; go_simp; with_reducible rfl
                 rotate_left; ·simp only [Act.put, sA, sZ, sS, i64_w, i32_w]; rfl
                 refine pt_ ?_ 21 (some 116) (btB 27 4125679) rfl rfl HT_.out (by kernel_rfl) qq_ (Or.inl ⟨by rfl, ?_⟩) ?_ ?_ ?_
                 rotate_left; ·intro w'; go_simp; with_reducible rfl
                 rotate_left; ·simp only [Act.put, sA, sZ, sS, i64_w, i32_w]; rfl
                 refine take_ (i := 4) (N := some 99) (v := ?_) (a' := ?_) (btB 27 4125695) rfl rfl (take_ofW HT_.out HW_.out (by kernel_rfl)) (fun _ _ _ h => h) (Or.inl ⟨by rfl, ?_⟩) hHeld ?_ ?_
                 rotate_left; ·rintro w' ⟨s0, s1, s2, s3, s4, s5, s6, s7⟩; go_simp; with_reducible rfl
                 rotate_left; ·simp only [Act.put, sA, sZ, sS, i64_w, i32_w]; rfl
                 refine take_ (i := 10) (N := some 105) (v := ?_) (a' := ?_) (btB 27 4126719) rfl rfl (take_ofW HT_.out HW_.out (by kernel_rfl)) (fun _ _ _ h => h) (Or.inl ⟨by rfl, ?_⟩) hHeld ?_ ?_
                 rotate_left; ·rintro w' ⟨s0, s1, s2, s3, s4, s5, s6, s7⟩; go_simp; with_reducible rfl
                 rotate_left; ·simp only [Act.put, sA, sZ, sS, i64_w, i32_w]; rfl
                 refine pt_ ?_ 11 (some 106) (btB 27 4128767) rfl rfl HT_.out (by kernel_rfl) qq_ (Or.inl ⟨by rfl, ?_⟩) ?_ ?_ ?_
                 rotate_left; ·intro w'; go_simp; with_reducible rfl
                 rotate_left; ·simp only [Act.put, sA, sZ, sS, i64_w, i32_w]; rfl
                 refine take_ (i := 16) (N := some 111) (v := ?_) (a' := ?_) (btB 27 4194303) rfl rfl (take_ofW HT_.out HW_.out (by kernel_rfl)) (fun _ _ _ h => h) (Or.inl ⟨by rfl, ?_⟩) hHeld ?_ ?_
                 rotate_left; ·rintro w' ⟨s0, s1, s2, s3, s4, s5, s6, s7⟩; go_simp; with_reducible rfl
                 rotate_left; ·simp only [Act.put, sA, sZ, sS, i64_w, i32_w]; rfl
                 refine take_ (i := 22) (N := some 117) (v := ?_) (a' := ?_) (btB 27 8388607) rfl rfl (take_ofW HT_.out HW_.out (by kernel_rfl)) (fun _ _ _ h => h) (Or.inl ⟨by rfl, ?_⟩) hHeld ?_ ?_
                 rotate_left; ·rintro w' ⟨s0, s1, s2, s3, s4, s5, s6, s7⟩; go_simp; with_reducible rfl
                 rotate_left; ·simp only [Act.put, sA, sZ, sS, i64_w, i32_w]; rfl
                 refine pt_ ?_ 23 (some 118) (btB 27 16777215) rfl rfl HT_.out (by kernel_rfl) qq_ (Or.inl ⟨by rfl, ?_⟩) ?_ ?_ ?_
                 rotate_left; ·intro w'; go_simp; with_reducible rfl
                 rotate_left; ·simp only [Act.put, sA, sZ, sS, i64_w, i32_w]; rfl
                 refine pt_ ?_ 24 (some 119) (btB 27 33554431) rfl rfl HT_.out (by kernel_rfl) qq_ (Or.inl ⟨by rfl, ?_⟩) ?_ ?_ ?_
                 rotate_left; ·intro w'; go_simp; with_reducible rfl
                 rotate_left; ·simp only [Act.put, sA, sZ, sS, i64_w, i32_w]; rfl
                 refine one_ (i := 25) (N := some 10) (btB 27 67108863) rfl rfl (one_of HT_.out (by kernel_rfl)) (by decide) (fun K hK => ?_)
                 refine box_step ?hg (N := 10) ?hd (cs := #[.int .i64 0, .int .i64 0]) (t := 24) ?hr ?_; (case hd => rfl); (case hg => rfl); (case hr => first | (go_simp; done) | (go_simp; rfl))
                 intro gb149 hg w94 hbox hb
                 have HS0_ := (hb.cell (World.block_lt_of_cell? _ _ (hHeld.1))).trans (hHeld.1)
                 have HS1_ := (hb.cell (World.block_lt_of_cell? _ _ (hHeld.2.1))).trans (hHeld.2.1)
                 have HS2_ := (hb.cell (World.block_lt_of_cell? _ _ (hHeld.2.2.1))).trans (hHeld.2.2.1)
                 have HS3_ := (hb.cell (World.block_lt_of_cell? _ _ (hHeld.2.2.2.1))).trans (hHeld.2.2.2.1)
                 have HS4_ := (hb.cell (World.block_lt_of_cell? _ _ (hHeld.2.2.2.2.1))).trans (hHeld.2.2.2.2.1)
                 have HS5_ := (hb.cell (World.block_lt_of_cell? _ _ (hHeld.2.2.2.2.2.1))).trans (hHeld.2.2.2.2.2.1)
                 have HS6_ := (hb.cell (World.block_lt_of_cell? _ _ (hHeld.2.2.2.2.2.2.1))).trans (hHeld.2.2.2.2.2.2.1)
                 have HS7_ := (hb.cell (World.block_lt_of_cell? _ _ (hHeld.2.2.2.2.2.2.2))).trans (hHeld.2.2.2.2.2.2.2)
                 have n0_ := Aside0.mk (Kd.R_below (Kd.R_elderB (by (with_reducible repeat (first | apply Kd.R_alloc | apply Kd.R_drewN | apply Kd.R_drew)); exact HO_7.out) gb149 (Nat.le_of_eq hg.symm)) hb)
                 have n1_ := Aside0.mk (blk_below (g := gb110) (o := .cells #[.int .i64 t104, .int .i64 t105, .int .i64 t106] 34 (0, 0)) (by (with_reducible repeat (first | refine blk_drewN ?_ _ | refine blk_drew ?_ | refine blk_alloc ?_ _)); exact BK110.out) hb)
                 have n2_ := Aside0.mk (blk_below (g := gb111) (o := .cells #[.int .i64 t107, .int .i64 t108, .int .i64 t109] 34 (0, 0)) (by (with_reducible repeat (first | refine blk_drewN ?_ _ | refine blk_drew ?_ | refine blk_alloc ?_ _)); exact BK111.out) hb)
                 have n3_ := Aside0.mk (below_step (by repeat (first | (with_reducible first | exact HB.out | apply below_alloc | apply pw_below_drewN | apply below_drew1 | refine below_set ?_ GE110.out | refine below_set ?_ GE111.out) | exact HB.out)) hb)
                 have n4_ := Aside0.mk (hbox)
                 have n5_ := Aside0.mk ((by rw [hg]; exact (below_size (by repeat (first | (with_reducible first | exact HB.out | apply below_alloc | apply pw_below_drewN | apply below_drew1 | refine below_set ?_ GE110.out | refine below_set ?_ GE111.out) | exact HB.out))) : w.heap.size ≤ gb149))
                 have n6_ := Aside0.mk ((by rw [hg]; exact (below_size (by repeat (first | (with_reducible first | exact HB.out | apply below_alloc | apply pw_below_drewN | apply below_drew1 | refine below_set ?_ GE110.out | refine below_set ?_ GE111.out) | exact HB.out))) : w.heap.size ≤ gb149))
                 have n7_ := Aside0.mk ((by rw [hg]; exact Nat.ne_of_lt (blk_lt (g := gb110) (o := .cells #[.int .i64 t104, .int .i64 t105, .int .i64 t106] 34 (0, 0)) (by (with_reducible repeat (first | refine blk_drewN ?_ _ | refine blk_drew ?_ | refine blk_alloc ?_ _)); exact BK110.out)) : gb110 ≠ gb149))
                 have n8_ := Aside0.mk ((by rw [hg]; exact Nat.ne_of_gt (blk_lt (g := gb110) (o := .cells #[.int .i64 t104, .int .i64 t105, .int .i64 t106] 34 (0, 0)) (by (with_reducible repeat (first | refine blk_drewN ?_ _ | refine blk_drew ?_ | refine blk_alloc ?_ _)); exact BK110.out)) : gb149 ≠ gb110))
                 have n9_ := Aside0.mk ((by rw [hg]; exact Nat.ne_of_lt (blk_lt (g := gb111) (o := .cells #[.int .i64 t107, .int .i64 t108, .int .i64 t109] 34 (0, 0)) (by (with_reducible repeat (first | refine blk_drewN ?_ _ | refine blk_drew ?_ | refine blk_alloc ?_ _)); exact BK111.out)) : gb111 ≠ gb149))
                 have n10_ := Aside0.mk ((by rw [hg]; exact Nat.ne_of_gt (blk_lt (g := gb111) (o := .cells #[.int .i64 t107, .int .i64 t108, .int .i64 t109] 34 (0, 0)) (by (with_reducible repeat (first | refine blk_drewN ?_ _ | refine blk_drew ?_ | refine blk_alloc ?_ _)); exact BK111.out)) : gb149 ≠ gb111))
                 clear HO_7
                 clear BK110
                 clear BK111
                 clear HB
                 have HO_7 := n0_
                 have BK110 := n1_
                 have BK111 := n2_
                 have HB := n3_
                 have BK149 := n4_
                 have GW149 := n5_
                 have GE149 := n6_
                 have NB110_149 := n7_
                 have NB149_110 := n8_
                 have NB111_149 := n9_
                 have NB149_111 := n10_
                 clear n0_ n1_ n2_ n3_ n4_ n5_ n6_ n7_ n8_ n9_ n10_
                 clear hb hbox hg
                 refine hK.out _ _ ⟨HS0_, HS1_, HS2_, HS3_, HS4_, HS5_, HS6_, HS7_⟩ (fun hHeld => ?_)
                 clear hK K
                 refine norm_ (a' := ?_) ?_ ?_
                 rotate_left; ·show Act.put _ (some 10) _ = _; simp only [Act.put, sA, sZ, sS, i64_w, i32_w]; rfl
                 refine one_ (i := 26) (N := none) (btB 27 134217727) rfl rfl (one_of HT_.out (by kernel_rfl)) (by decide) (fun K hK => ?_)
                 have hs95 : w94.cell? ⟨gb149, 0, none⟩ = some (.int .i64 0) := (blk_cell BK149.out 0).trans rfl
                 have hfs95 := blk_frozen BK149.out 0
                 have hns95_0 := NB110_149.out
                 have hns95_1 := NB111_149.out
                 have hms95_0 := NB149_110.out
                 have hms95_1 := NB149_111.out
                 have hs96 : w94.cell? ⟨gb149, 1, none⟩ = some (.int .i64 0) := (blk_cell BK149.out 1).trans rfl
                 have hfs96 := blk_frozen BK149.out 1
                 have hns96_0 := NB110_149.out
                 have hns96_1 := NB111_149.out
                 have hms96_0 := NB149_110.out
                 have hms96_1 := NB149_111.out
                 refine skip_ (w1 := ?_) (by rfl) rfl ?_ ?_
                 rotate_left
                 ·go_simp
                  rfl
                 refine hK.out _ _ ⟨((cell_far (p := ⟨gb149, _, none⟩) (by first | exact Kd.own_blk (Kd.R_away HO_7.out (fun _ hk => hk.2)) | (rw [add_block]; exact Kd.own_blk (Kd.R_away HO_7.out (fun _ hk => hk.2))) | (show (Addr.add _ _).block ≠ _; rw [add_block]; exact Kd.own_blk (Kd.R_away HO_7.out (fun _ hk => hk.2))) | (dsimp only; exact Kd.own_blk (Kd.R_away HO_7.out (fun _ hk => hk.2)))) _).trans (((cell_far (p := ⟨gb149, _, none⟩) (by first | exact Kd.own_blk (Kd.R_away HO_7.out (fun _ hk => hk.2)) | (rw [add_block]; exact Kd.own_blk (Kd.R_away HO_7.out (fun _ hk => hk.2))) | (show (Addr.add _ _).block ≠ _; rw [add_block]; exact Kd.own_blk (Kd.R_away HO_7.out (fun _ hk => hk.2))) | (dsimp only; exact Kd.own_blk (Kd.R_away HO_7.out (fun _ hk => hk.2)))) _).trans (hHeld.1)))), ((cell_far (p := ⟨gb149, _, none⟩) (by first | exact Kd.own_blk (Kd.R_away HO_7.out (fun _ hk => hk.2)) | (rw [add_block]; exact Kd.own_blk (Kd.R_away HO_7.out (fun _ hk => hk.2))) | (show (Addr.add _ _).block ≠ _; rw [add_block]; exact Kd.own_blk (Kd.R_away HO_7.out (fun _ hk => hk.2))) | (dsimp only; exact Kd.own_blk (Kd.R_away HO_7.out (fun _ hk => hk.2)))) _).trans (((cell_far (p := ⟨gb149, _, none⟩) (by first | exact Kd.own_blk (Kd.R_away HO_7.out (fun _ hk => hk.2)) | (rw [add_block]; exact Kd.own_blk (Kd.R_away HO_7.out (fun _ hk => hk.2))) | (show (Addr.add _ _).block ≠ _; rw [add_block]; exact Kd.own_blk (Kd.R_away HO_7.out (fun _ hk => hk.2))) | (dsimp only; exact Kd.own_blk (Kd.R_away HO_7.out (fun _ hk => hk.2)))) _).trans (hHeld.2.1)))), ((cell_far (p := ⟨gb149, _, none⟩) (by first | exact Kd.own_blk (Kd.R_away HO_7.out (fun _ hk => hk.2)) | (rw [add_block]; exact Kd.own_blk (Kd.R_away HO_7.out (fun _ hk => hk.2))) | (show (Addr.add _ _).block ≠ _; rw [add_block]; exact Kd.own_blk (Kd.R_away HO_7.out (fun _ hk => hk.2))) | (dsimp only; exact Kd.own_blk (Kd.R_away HO_7.out (fun _ hk => hk.2)))) _).trans (((cell_far (p := ⟨gb149, _, none⟩) (by first | exact Kd.own_blk (Kd.R_away HO_7.out (fun _ hk => hk.2)) | (rw [add_block]; exact Kd.own_blk (Kd.R_away HO_7.out (fun _ hk => hk.2))) | (show (Addr.add _ _).block ≠ _; rw [add_block]; exact Kd.own_blk (Kd.R_away HO_7.out (fun _ hk => hk.2))) | (dsimp only; exact Kd.own_blk (Kd.R_away HO_7.out (fun _ hk => hk.2)))) _).trans (hHeld.2.2.1)))), ((cell_far (p := ⟨gb149, _, none⟩) (by first | exact Kd.own_blk (Kd.R_away HO_7.out (fun _ hk => hk.2)) | (rw [add_block]; exact Kd.own_blk (Kd.R_away HO_7.out (fun _ hk => hk.2))) | (show (Addr.add _ _).block ≠ _; rw [add_block]; exact Kd.own_blk (Kd.R_away HO_7.out (fun _ hk => hk.2))) | (dsimp only; exact Kd.own_blk (Kd.R_away HO_7.out (fun _ hk => hk.2)))) _).trans (((cell_far (p := ⟨gb149, _, none⟩) (by first | exact Kd.own_blk (Kd.R_away HO_7.out (fun _ hk => hk.2)) | (rw [add_block]; exact Kd.own_blk (Kd.R_away HO_7.out (fun _ hk => hk.2))) | (show (Addr.add _ _).block ≠ _; rw [add_block]; exact Kd.own_blk (Kd.R_away HO_7.out (fun _ hk => hk.2))) | (dsimp only; exact Kd.own_blk (Kd.R_away HO_7.out (fun _ hk => hk.2)))) _).trans (hHeld.2.2.2.1)))), ((cell_far (p := ⟨gb149, _, none⟩) (by first | exact Kd.own_blk (Kd.R_away HO_7.out (fun _ hk => hk.2)) | (rw [add_block]; exact Kd.own_blk (Kd.R_away HO_7.out (fun _ hk => hk.2))) | (show (Addr.add _ _).block ≠ _; rw [add_block]; exact Kd.own_blk (Kd.R_away HO_7.out (fun _ hk => hk.2))) | (dsimp only; exact Kd.own_blk (Kd.R_away HO_7.out (fun _ hk => hk.2)))) _).trans (((cell_far (p := ⟨gb149, _, none⟩) (by first | exact Kd.own_blk (Kd.R_away HO_7.out (fun _ hk => hk.2)) | (rw [add_block]; exact Kd.own_blk (Kd.R_away HO_7.out (fun _ hk => hk.2))) | (show (Addr.add _ _).block ≠ _; rw [add_block]; exact Kd.own_blk (Kd.R_away HO_7.out (fun _ hk => hk.2))) | (dsimp only; exact Kd.own_blk (Kd.R_away HO_7.out (fun _ hk => hk.2)))) _).trans (hHeld.2.2.2.2.1)))), ((cell_far (p := ⟨gb149, _, none⟩) (by first | exact Kd.own_blk (Kd.R_away HO_7.out (fun _ hk => hk.2)) | (rw [add_block]; exact Kd.own_blk (Kd.R_away HO_7.out (fun _ hk => hk.2))) | (show (Addr.add _ _).block ≠ _; rw [add_block]; exact Kd.own_blk (Kd.R_away HO_7.out (fun _ hk => hk.2))) | (dsimp only; exact Kd.own_blk (Kd.R_away HO_7.out (fun _ hk => hk.2)))) _).trans (((cell_far (p := ⟨gb149, _, none⟩) (by first | exact Kd.own_blk (Kd.R_away HO_7.out (fun _ hk => hk.2)) | (rw [add_block]; exact Kd.own_blk (Kd.R_away HO_7.out (fun _ hk => hk.2))) | (show (Addr.add _ _).block ≠ _; rw [add_block]; exact Kd.own_blk (Kd.R_away HO_7.out (fun _ hk => hk.2))) | (dsimp only; exact Kd.own_blk (Kd.R_away HO_7.out (fun _ hk => hk.2)))) _).trans (hHeld.2.2.2.2.2.1)))), ((cell_far (p := ⟨gb149, _, none⟩) (by first | exact Kd.own_blk (Kd.R_away HO_7.out (fun _ hk => hk.2)) | (rw [add_block]; exact Kd.own_blk (Kd.R_away HO_7.out (fun _ hk => hk.2))) | (show (Addr.add _ _).block ≠ _; rw [add_block]; exact Kd.own_blk (Kd.R_away HO_7.out (fun _ hk => hk.2))) | (dsimp only; exact Kd.own_blk (Kd.R_away HO_7.out (fun _ hk => hk.2)))) _).trans (((cell_far (p := ⟨gb149, _, none⟩) (by first | exact Kd.own_blk (Kd.R_away HO_7.out (fun _ hk => hk.2)) | (rw [add_block]; exact Kd.own_blk (Kd.R_away HO_7.out (fun _ hk => hk.2))) | (show (Addr.add _ _).block ≠ _; rw [add_block]; exact Kd.own_blk (Kd.R_away HO_7.out (fun _ hk => hk.2))) | (dsimp only; exact Kd.own_blk (Kd.R_away HO_7.out (fun _ hk => hk.2)))) _).trans (hHeld.2.2.2.2.2.2.1)))), ((cell_far (p := ⟨gb149, _, none⟩) (by first | exact Kd.own_blk (Kd.R_away HO_7.out (fun _ hk => hk.2)) | (rw [add_block]; exact Kd.own_blk (Kd.R_away HO_7.out (fun _ hk => hk.2))) | (show (Addr.add _ _).block ≠ _; rw [add_block]; exact Kd.own_blk (Kd.R_away HO_7.out (fun _ hk => hk.2))) | (dsimp only; exact Kd.own_blk (Kd.R_away HO_7.out (fun _ hk => hk.2)))) _).trans (((cell_far (p := ⟨gb149, _, none⟩) (by first | exact Kd.own_blk (Kd.R_away HO_7.out (fun _ hk => hk.2)) | (rw [add_block]; exact Kd.own_blk (Kd.R_away HO_7.out (fun _ hk => hk.2))) | (show (Addr.add _ _).block ≠ _; rw [add_block]; exact Kd.own_blk (Kd.R_away HO_7.out (fun _ hk => hk.2))) | (dsimp only; exact Kd.own_blk (Kd.R_away HO_7.out (fun _ hk => hk.2)))) _).trans (hHeld.2.2.2.2.2.2.2))))⟩ (fun hHeld => ?_)
                 clear hK K
                 refine done_ (done_of HT_.out (by kernel_rfl)) ?_
                 have hnb97 := NB149_110.out
                 have hnc97 := NB110_149.out
                 have hnb98 := NB149_111.out
                 have hnc98 := NB111_149.out
                 have hcz99_0 : w94.cell? ⟨gb149, 0, none⟩ = some (.int .i64 0) := (blk_cell BK149.out 0).trans rfl
                 have hcz99_1 : w94.cell? ⟨gb149, 1, none⟩ = some (.int .i64 0) := (blk_cell BK149.out 1).trans rfl
                 have hfz99_0 := blk_frozen BK149.out 0
                 have hfz99_1 := blk_frozen BK149.out 1
                 try go_wp2
                 go_roundg k4
                 case measure => have := HJ2.out; have := HJ16.out; have := HJ68.out; have := HK4.out; omega
                 case rel => exact ⟨(wrap64 (x9_4 + 1)), (by first | rfl | (simp; done) | (simp [*]; done)), H', ⟨by have := HJ2.out; have := HJ16.out; have := HJ68.out; have := HK4.out; omega⟩, ⟨by (with_reducible repeat (first | apply Kd.R_alloc | apply Kd.R_drewN | apply Kd.R_drew)); exact Kd.R_mono (Kd.R_far (p := ⟨gb149, 1, none⟩) (Kd.R_far (p := ⟨gb149, 0, none⟩) (Kd.R_mono HO_7.out (fun k_ hk => (⟨hk, hk.2⟩ : _ ∧ k_ ≠ gb149))) (fun _ hk => hk.2) (.int .i64 (wrap64 (((rd_T24 t139 x9_4).f0) - ((rd_T24 t139 (ji88)).f0))))) (fun _ hk => hk.2) (.int .i64 (wrap64 (((rd_T24 t139 x9_4).f1) - ((rd_T24 t139 (ji88)).f1))))) (fun _ hk => trivial)⟩, ⟨by (with_reducible repeat (first | refine blk_drewN ?_ _ | refine blk_drew ?_ | refine blk_alloc ?_ _)); refine blk_far ?_ NB110_149.out _; (with_reducible repeat (first | refine blk_drewN ?_ _ | refine blk_drew ?_ | refine blk_alloc ?_ _)); refine blk_far ?_ NB110_149.out _; (with_reducible repeat (first | refine blk_drewN ?_ _ | refine blk_drew ?_ | refine blk_alloc ?_ _)); exact BK110.out⟩, ⟨by (with_reducible repeat (first | refine blk_drewN ?_ _ | refine blk_drew ?_ | refine blk_alloc ?_ _)); refine blk_far ?_ NB111_149.out _; (with_reducible repeat (first | refine blk_drewN ?_ _ | refine blk_drew ?_ | refine blk_alloc ?_ _)); refine blk_far ?_ NB111_149.out _; (with_reducible repeat (first | refine blk_drewN ?_ _ | refine blk_drew ?_ | refine blk_alloc ?_ _)); exact BK111.out⟩, ⟨by repeat (first | (with_reducible first | exact HB.out | apply below_alloc | apply pw_below_drewN | apply below_drew1 | refine below_set ?_ GE110.out | refine below_set ?_ GE111.out | refine below_set ?_ GE149.out) | exact HB.out)⟩⟩
                ·rw [if_neg c91] at H
                 have c91b0 : ((wrap64 ((wrap64 ((wrap64 (((rd_T24 t139 x9_4).f0) - ((rd_T24 t139 (ji88)).f0))) * (wrap64 (((rd_T24 t139 x9_4).f0) - ((rd_T24 t139 (ji88)).f0))))) + (wrap64 ((wrap64 (((rd_T24 t139 x9_4).f1) - ((rd_T24 t139 (ji88)).f1))) * (wrap64 (((rd_T24 t139 x9_4).f1) - ((rd_T24 t139 (ji88)).f1))))))) == 1) = false := beq_eq_false_iff_ne.mpr c91
                 have c91b1 : ((wrap64 ((wrap64 ((wrap64 (((rd_T24 t139 x9_4).f0) - ((rd_T24 t139 (ji88)).f0))) * (wrap64 (((rd_T24 t139 x9_4).f0) - ((rd_T24 t139 (ji88)).f0))))) + (wrap64 ((wrap64 (((rd_T24 t139 x9_4).f1) - ((rd_T24 t139 (ji88)).f1))) * (wrap64 (((rd_T24 t139 x9_4).f1) - ((rd_T24 t139 (ji88)).f1))))))) != 1) = true := bne_iff_ne.mpr c91
                 exact absurd ((Option.some.inj H).trans HTR.out) (by decide)
               ·rw [if_neg c90] at H
                exact absurd H (by simp)
              ·rw [if_neg c89] at H
               exact absurd H (by simp)
             ·rw [if_neg c87] at H
              exact absurd H (by simp)
            ·rw [if_neg c86] at H
             have c86b0 : decide (x9_4 < (t139.length : Int)) = false := decide_eq_false c86
             clear c86
             replace H := Option.bind_eq_some_iff.mp H
             obtain ⟨t150, A1080, H⟩ := H
             replace H : (some t150) = some r := H
             have A108 := Aside0.mk A1080
             clear A1080
             obtain rfl := Option.some.inj H
             obtain ⟨Ao109, co109, eo109⟩ := Kd.R_slice HO_7.out
             subst eo109
             go_wp2_with (first | ((with_reducible refine gate_callee (f := 28) rfl ?_); refine goesL_ (some 132) rfl rfl Try.func28 (by kernel_rfl) rfl #[] rfl (by (try simp only [List.map_toArray, List.map_cons, List.map_nil]); first | done | rfl | (simp only [List.length_drop, List.length_take]; rfl)) ?_; (with_reducible refine (tallymanlaw05_alive.calls k4  t150 _ A108.out).mono ?_); rintro e w110 ⟨rfl, hb⟩; refine ⟨_, rfl, ?_⟩; have n0_ := Aside0.mk (Kd.R_below (by (with_reducible repeat (first | apply Kd.R_alloc | apply Kd.R_drewN | apply Kd.R_drew)); exact HO_7.out) hb); have n1_ := Aside0.mk (blk_below (g := gb110) (o := .cells #[.int .i64 t104, .int .i64 t105, .int .i64 t106] 34 (0, 0)) (by (with_reducible repeat (first | refine blk_drewN ?_ _ | refine blk_drew ?_ | refine blk_alloc ?_ _)); exact BK110.out) hb); have n2_ := Aside0.mk (blk_below (g := gb111) (o := .cells #[.int .i64 t107, .int .i64 t108, .int .i64 t109] 34 (0, 0)) (by (with_reducible repeat (first | refine blk_drewN ?_ _ | refine blk_drew ?_ | refine blk_alloc ?_ _)); exact BK111.out) hb); have n3_ := Aside0.mk (below_step (by repeat (first | (with_reducible first | exact HB.out | apply below_alloc | apply pw_below_drewN | apply below_drew1 | refine below_set ?_ GE110.out | refine below_set ?_ GE111.out) | exact HB.out)) hb); clear HO_7; clear BK110; clear BK111; clear HB; have HO_7 := n0_; have BK110 := n1_; have BK111 := n2_; have HB := n3_; clear n0_ n1_ n2_ n3_; (try clear hb); (try clear hb2); (try clear hk); (try clear hi)))
             go_ret
             exact ⟨by first | rfl | ((repeat first | rw [Int.tdiv_eq_ediv_of_nonneg (by omega)] | rw [Int.tmod_eq_emod_of_nonneg (by omega)]); rfl) | (simp [errW_none, errW_some] <;> rfl) | (simp [*, errW_none, errW_some] <;> rfl), by repeat (first | (with_reducible first | exact HB.out | apply below_alloc | apply pw_below_drewN | apply below_drew1 | refine below_set ?_ GE110.out | refine below_set ?_ GE111.out) | exact HB.out)⟩
end Go.Proofs.Ytpoghhcpoimepaa.P
end
