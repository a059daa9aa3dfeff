/- Several texts of this proof in one: what the law's functions come to, and the lemmas (some as the kit's print.sh printed them, what is not used struck). -/
import Derived.Test.YtajgillnkkkgjaaM2
import Derived.Scope
import Derived.Deep.RegionHeld3
import Derived.Lib.SlBytesConst
section
-- printed by the session's own call of print.py. Not trusted: Lean checks it.
namespace Go.Proofs.Ytajgillnkkkgjaa.P
open Go.RowKit Go.Proofs.YtajgillnkkkgjaaW.PrintWords Go.Proofs.YtajgillnkkkgjaaW.PrintLast Go.Proofs.YtajgillnkkkgjaaW.PrintMore
attribute [local go_sem] max2_int min2_int max_two min_two max_three min_three max_four min_four
set_option linter.unusedVariables false
set_option linter.unusedSimpArgs false
/-! ### tallymanref09_More: function 111 -/
mutual
def tallymanref09_More.l0 : Nat → List Int → Int → Int → Option (Int)
  | 0, _, _, _ => none
  | k + 1, x1, x5, x6 => if x6 < (x1.length : Int) then (if 0 ≤ x6 then ((tallymanref09_either.f k x5 ((rd x1 x6) % 4294967296)).bind fun t104 => (tallymanref09_More.l1 k x1 t104 x6 0)) else (none)) else ((tallymanref09_turn.f x5).bind fun t102 => (some t102))
def tallymanref09_More.l1 : Nat → List Int → Int → Int → Int → Option (Int)
  | 0, _, _, _, _ => none
  | k + 1, x1, x5, x6, x7 => if x7 < 8 then (if (Int.tmod x5 2) = 1 then ((tallymanref09_either.f k ((Int.tdiv x5 2) % 4294967296) 3988292384).bind fun t105 => (tallymanref09_More.l1 k x1 t105 x6 (wrap64 (x7 + 1)))) else (tallymanref09_More.l1 k x1 ((Int.tdiv x5 2) % 4294967296) x6 (wrap64 (x7 + 1)))) else (tallymanref09_More.l0 k x1 x5 (wrap64 (x6 + 1)))
end
def tallymanref09_More.f (k : Nat) (a0 : Int) (l1 : List Int) : Option (Int) := (tallymanref09_turn.f a0).bind fun t101 => (tallymanref09_More.l0 k l1 t101 0)
theorem tallymanref09_More.mono_l : ∀ k, (∀ y0 y1 y2, LeO (tallymanref09_More.l0 k y0 y1 y2) (tallymanref09_More.l0 (k + 1) y0 y1 y2)) ∧ (∀ y0 y1 y2 y3, LeO (tallymanref09_More.l1 k y0 y1 y2 y3) (tallymanref09_More.l1 (k + 1) y0 y1 y2 y3))
  | 0 => ⟨fun _ _ _ r h => by simp [tallymanref09_More.l0] at h, fun _ _ _ _ r h => by simp [tallymanref09_More.l1] at h⟩
  | k + 1 => by
    obtain ⟨ih0, ih1⟩ := tallymanref09_More.mono_l k
    refine ⟨?_, ?_⟩
    · intro y0 y1 y2
      unfold tallymanref09_More.l0
      repeat' first
      | (with_reducible exact ih0 _ _ _)
      | (with_reducible exact ih1 _ _ _ _)
      | (with_reducible exact tallymanref09_either.mono _ _ _)
      | (with_reducible exact LeO.refl _)
      | (with_reducible exact LeO.none _)
      | (with_reducible refine LeO.ite ?_ ?_)
      | (with_reducible refine LeO.bind ?_ (fun _ => ?_))
      | exact ih0 _ _ _
      | exact ih1 _ _ _ _
      | exact tallymanref09_either.mono _ _ _
      | exact LeO.none _
      | refine LeO.ite ?_ ?_
      | refine LeO.bind ?_ (fun _ => ?_)
    · intro y0 y1 y2 y3
      unfold tallymanref09_More.l1
      repeat' first
      | (with_reducible exact ih0 _ _ _)
      | (with_reducible exact ih1 _ _ _ _)
      | (with_reducible exact tallymanref09_either.mono _ _ _)
      | (with_reducible exact LeO.refl _)
      | (with_reducible exact LeO.none _)
      | (with_reducible refine LeO.ite ?_ ?_)
      | (with_reducible refine LeO.bind ?_ (fun _ => ?_))
      | exact ih0 _ _ _
      | exact ih1 _ _ _ _
      | exact tallymanref09_either.mono _ _ _
      | exact LeO.none _
      | refine LeO.ite ?_ ?_
      | refine LeO.bind ?_ (fun _ => ?_)
theorem tallymanref09_More.mono : ∀ a0 a1 k, LeO (tallymanref09_More.f k a0 a1) (tallymanref09_More.f (k + 1) a0 a1) := by
  intro a0 a1 k
  obtain ⟨ih0, ih1⟩ := tallymanref09_More.mono_l k
  unfold tallymanref09_More.f
  repeat' first
      | (with_reducible exact ih0 _ _ _)
      | (with_reducible exact ih1 _ _ _ _)
      | (with_reducible exact tallymanref09_either.mono _ _ _)
      | (with_reducible exact LeO.refl _)
      | (with_reducible exact LeO.none _)
      | (with_reducible refine LeO.ite ?_ ?_)
      | (with_reducible refine LeO.bind ?_ (fun _ => ?_))
      | exact ih0 _ _ _
      | exact ih1 _ _ _ _
      | exact tallymanref09_either.mono _ _ _
      | exact LeO.none _
      | refine LeO.ite ?_ ?_
      | refine LeO.bind ?_ (fun _ => ?_)
set_option maxHeartbeats 8000000 in
set_option maxRecDepth 100000 in
theorem tallymanref09_More.calls (k : Nat) (a0 : Int) (A1 : Option Addr) (c1 : Nat) (l1 : List Int) (r : Int) (w : World) (hr1 : Kd.C (Kd.int .u8) w A1 l1.length l1) (hc1 : l1.length ≤ c1) (h : tallymanref09_More.f k a0 l1 = some r) :
    Calls Try.prog 111 #[.int .u32 a0, .slice A1 l1.length c1] w fun e w' => e = .returned (.int .u32 r) ∧ Drawn0 w w' := by
  have HR1 := Aside0.mk hr1
  have HC1 := Aside0.mk hc1
  clear hr1 hc1
  have H : ((tallymanref09_turn.f a0).bind fun t101 => (tallymanref09_More.l0 k l1 t101 0)) = some r := h
  clear h
  replace H := Option.bind_eq_some_iff.mp H
  obtain ⟨t101, A30, H⟩ := H
  replace H : (tallymanref09_More.l0 k l1 t101 0) = some r := H
  have A3 := Aside0.mk A30
  clear A30
  have H' := Aside0.mk H
  clear H
  go_enter Try.func111, Try.ntmps111
  go_wp2_with (first | ((with_reducible refine gate_callee (f := 119) rfl ?_); refine goesL_ (some 10) rfl rfl Try.func119 (by kernel_rfl) rfl #[.int .u32 a0] rfl (by (try simp only [List.map_toArray, List.map_cons, List.map_nil]); first | done | rfl | (simp only [List.length_drop, List.length_take]; rfl)) ?_; (with_reducible refine (tallymanref09_turn.calls a0 t101 _ A3.out).mono ?_); rintro e w' ⟨rfl, ⟨nd, rfl⟩⟩; refine ⟨_, rfl, ?_⟩) | (go_at_call 119; (with_reducible refine (tallymanref09_turn.calls a0 t101 _ A3.out).mono ?_); rintro e w' ⟨rfl, ⟨nd, rfl⟩⟩))
  go_loopg [5, 6] k (fun kq v5 v6 w' => ∃ (x5_1 : Int) (x6_1 : Int), v5 = .int .u32 x5_1 ∧ v6 = .int .i64 x6_1 ∧ Aside0 (tallymanref09_More.l0 kq l1 x5_1 x6_1 = some r) ∧ Aside0 (kq ≤ k) ∧ Drawn0 w w')
  case atStart => exact ⟨(t101), (0), (by first | rfl | (simp; done) | (simp [*]; done)), (by first | rfl | (simp; done) | (simp [*]; done)), H', ⟨Nat.le_refl _⟩, by repeat (first | exact Drawn0.refl _ | apply Drawn0.step)⟩
  case round =>
    clear H'
    try clear c1
    try clear p2
    obtain ⟨x5_1, x6_1, rfl, rfl, HA, HK1, ⟨m1, rfl⟩⟩ := hrel
    cases gk with
    | zero => exact absurd HA.out (by simp [tallymanref09_More.l0])
    | succ k1 =>
      have H := HA.out
      clear HA
      simp only [tallymanref09_More.l0] at H
      by_cases c4 : x6_1 < (l1.length : Int)
      · rw [if_pos c4] at H
        have c4b0 : decide (x6_1 < (l1.length : Int)) = true := decide_eq_true c4
        clear c4
        by_cases c5 : 0 ≤ x6_1
        · rw [if_pos c5] at H
          have c5b0 : decide (0 ≤ x6_1) = true := decide_eq_true c5
          clear c5
          replace H := Option.bind_eq_some_iff.mp H
          obtain ⟨t104, A60, H⟩ := H
          replace H : (tallymanref09_More.l1 k1 l1 t104 x6_1 0) = some r := H
          have A6 := Aside0.mk A60
          clear A60
          have H' := Aside0.mk H
          clear H
          have p103 : 0 ≤ (x6_1 : Int) := of_decide_eq_true (by first | (with_reducible assumption) | assumption)
          have q103 : x6_1 < (l1.length : Int) := of_decide_eq_true (by first | (with_reducible assumption) | assumption)
          obtain ⟨ad103, e103, hx103_0⟩ := Kd.at_int HR1.out x6_1 p103 q103
          cases e103
          replace p103 := eq_true p103
          replace q103 := eq_true q103
          go_wp2_with (first | ((with_reducible refine gate_callee (f := 120) rfl ?_); refine goesL_ (some 23) rfl rfl Try.func120 (by kernel_rfl) rfl #[.int .u32 x5_1, .int .u32 ((rd l1 x6_1) % 4294967296)] rfl (by (try simp only [List.map_toArray, List.map_cons, List.map_nil]); first | done | rfl | (simp only [List.length_drop, List.length_take]; rfl)) ?_; (with_reducible refine (tallymanref09_either.calls k1 x5_1 ((rd l1 x6_1) % 4294967296) t104 _ A6.out).mono ?_); rintro e w' ⟨rfl, ⟨nd, rfl⟩⟩; refine ⟨_, rfl, ?_⟩) | (go_at_call 120; (with_reducible refine (tallymanref09_either.calls k1 x5_1 ((rd l1 x6_1) % 4294967296) t104 _ A6.out).mono ?_); rintro e w' ⟨rfl, ⟨nd, rfl⟩⟩))
          go_loopg [5, 7] k1 (fun kq v5 v7 w' => ∃ (x5_2 : Int) (x7_2 : Int), v5 = .int .u32 x5_2 ∧ v7 = .int .i64 x7_2 ∧ Aside0 (tallymanref09_More.l1 kq l1 x5_2 x6_1 x7_2 = some r) ∧ Aside0 (kq ≤ k1) ∧ Drawn0 w w')
          case atStart => exact ⟨(t104), (0), (by first | rfl | (simp; done) | (simp [*]; done)), (by first | rfl | (simp; done) | (simp [*]; done)), H', ⟨Nat.le_refl _⟩, by repeat (first | exact Drawn0.refl _ | apply Drawn0.step)⟩
          case round =>
            clear H'
            try clear c1
            try clear p1
            try clear q1
            try clear hx1
            try clear p2
            try clear c4
            try clear c4b0
            try clear c5
            try clear c5b0
            try clear hx103_0
            try clear p103
            try clear p2
            try clear q103
            obtain ⟨x5_2, x7_2, rfl, rfl, HA, HK2, ⟨m2, rfl⟩⟩ := hrel
            cases gk with
            | zero => exact absurd HA.out (by simp [tallymanref09_More.l1])
            | succ k2 =>
              have H := HA.out
              clear HA
              simp only [tallymanref09_More.l1] at H
              by_cases c7 : x7_2 < 8
              · rw [if_pos c7] at H
                have c7b0 : decide (x7_2 < 8) = true := decide_eq_true c7
                clear c7
                by_cases c8 : (Int.tmod x5_2 2) = 1
                · rw [if_pos c8] at H
                  have c8b0 : ((Int.tmod x5_2 2) == 1) = true := beq_iff_eq.mpr c8
                  have c8b1 : ((Int.tmod x5_2 2) != 1) = false := bne_eq_false_iff_eq.mpr c8
                  clear c8
                  replace H := Option.bind_eq_some_iff.mp H
                  obtain ⟨t105, A90, H⟩ := H
                  replace H : (tallymanref09_More.l1 k2 l1 t105 x6_1 (wrap64 (x7_2 + 1))) = some r := H
                  have A9 := Aside0.mk A90
                  clear A90
                  have H' := Aside0.mk H
                  clear H
                  go_wp2_with (first | ((with_reducible refine gate_callee (f := 120) rfl ?_); refine goesL_ (some 35) rfl rfl Try.func120 (by kernel_rfl) rfl #[.int .u32 ((Int.tdiv x5_2 2) % 4294967296), .int .u32 3988292384] rfl (by (try simp only [List.map_toArray, List.map_cons, List.map_nil]); first | done | rfl | (simp only [List.length_drop, List.length_take]; rfl)) ?_; (with_reducible refine (tallymanref09_either.calls k2 ((Int.tdiv x5_2 2) % 4294967296) 3988292384 t105 _ A9.out).mono ?_); rintro e w' ⟨rfl, ⟨nd, rfl⟩⟩; refine ⟨_, rfl, ?_⟩) | (go_at_call 120; (with_reducible refine (tallymanref09_either.calls k2 ((Int.tdiv x5_2 2) % 4294967296) 3988292384 t105 _ A9.out).mono ?_); rintro e w' ⟨rfl, ⟨nd, rfl⟩⟩))
                  go_roundg k2
                  case measure => have := HK1.out; have := HK2.out; omega
                  case rel => exact ⟨(t105), (wrap64 (x7_2 + 1)), (by first | rfl | (simp; done) | (simp [*]; done)), (by first | rfl | (simp; done) | (simp [*]; done)), H', ⟨by have := HK1.out; have := HK2.out; omega⟩, by repeat (first | exact Drawn0.refl _ | apply Drawn0.step)⟩
                · rw [if_neg c8] at H
                  have c8b0 : ((Int.tmod x5_2 2) == 1) = false := beq_eq_false_iff_ne.mpr c8
                  have c8b1 : ((Int.tmod x5_2 2) != 1) = true := bne_iff_ne.mpr c8
                  have H' := Aside0.mk H
                  clear H
                  go_wp2
                  go_roundg k2
                  case measure => have := HK1.out; have := HK2.out; omega
                  case rel => exact ⟨((Int.tdiv x5_2 2) % 4294967296), (wrap64 (x7_2 + 1)), (by first | rfl | (simp; done) | (simp [*]; done)), (by first | rfl | (simp; done) | (simp [*]; done)), H', ⟨by have := HK1.out; have := HK2.out; omega⟩, by repeat (first | exact Drawn0.refl _ | apply Drawn0.step)⟩
              · rw [if_neg c7] at H
                have c7b0 : decide (x7_2 < 8) = false := decide_eq_false c7
                clear c7
                have H' := Aside0.mk H
                clear H
                go_wp2
                go_roundg k2
                case measure => have := HK1.out; have := HK2.out; omega
                case rel => exact ⟨(x5_2), (wrap64 (x6_1 + 1)), (by first | rfl | (simp; done) | (simp [*]; done)), (by first | rfl | (simp; done) | (simp [*]; done)), H', ⟨by have := HK1.out; have := HK2.out; omega⟩, by repeat (first | exact Drawn0.refl _ | apply Drawn0.step)⟩
        · rw [if_neg c5] at H
          exact absurd H (by simp)
      · rw [if_neg c4] at H
        have c4b0 : decide (x6_1 < (l1.length : Int)) = false := decide_eq_false c4
        clear c4
        replace H := Option.bind_eq_some_iff.mp H
        obtain ⟨t102, A100, H⟩ := H
        replace H : (some t102) = some r := H
        have A10 := Aside0.mk A100
        clear A100
        obtain rfl := Option.some.inj H
        go_wp2_with (first | ((with_reducible refine gate_callee (f := 119) rfl ?_); refine goesL_ (some 37) rfl rfl Try.func119 (by kernel_rfl) rfl #[.int .u32 x5_1] rfl (by (try simp only [List.map_toArray, List.map_cons, List.map_nil]); first | done | rfl | (simp only [List.length_drop, List.length_take]; rfl)) ?_; (with_reducible refine (tallymanref09_turn.calls x5_1 t102 _ A10.out).mono ?_); rintro e w' ⟨rfl, ⟨nd, rfl⟩⟩; refine ⟨_, rfl, ?_⟩) | (go_at_call 119; (with_reducible refine (tallymanref09_turn.calls x5_1 t102 _ A10.out).mono ?_); rintro e w' ⟨rfl, ⟨nd, rfl⟩⟩))
        go_ret
        exact ⟨by first | rfl | ((repeat first | rw [Int.tdiv_eq_ediv_of_nonneg (by omega)] | rw [Int.tmod_eq_emod_of_nonneg (by omega)]); rfl) | (simp; done) | (simp [*]; done), by repeat (first | exact Drawn0.refl _ | apply Drawn0.step)⟩
end Go.Proofs.Ytajgillnkkkgjaa.P
end
section
-- printed by the session's own call of print.py. Not trusted: Lean checks it.
namespace Go.Proofs.Ytajgillnkkkgjaa.P
open Go.RowKit Go.Proofs.YtajgillnkkkgjaaW.PrintWords Go.Proofs.YtajgillnkkkgjaaW.PrintLast Go.Proofs.YtajgillnkkkgjaaW.PrintMore
attribute [local go_sem] max2_int min2_int max_two min_two max_three min_three max_four min_four
set_option linter.unusedVariables false
set_option linter.unusedSimpArgs false
/-! ### tallymanref09_Sum: function 80 -/
def tallymanref09_Sum.f (k : Nat) (l0 : List Int) : Option (Int) := (tallymanref09_More.f k 0 l0).bind fun t101 => (some t101)
theorem tallymanref09_Sum.mono : ∀ a0 k, LeO (tallymanref09_Sum.f k a0) (tallymanref09_Sum.f (k + 1) a0) := by
  intro a0 k
  unfold tallymanref09_Sum.f
  repeat' first
      | (with_reducible exact tallymanref09_More.mono _ _ _)
      | (with_reducible exact LeO.refl _)
      | (with_reducible exact LeO.none _)
      | (with_reducible refine LeO.ite ?_ ?_)
      | (with_reducible refine LeO.bind ?_ (fun _ => ?_))
      | exact tallymanref09_More.mono _ _ _
      | exact LeO.none _
      | refine LeO.ite ?_ ?_
      | refine LeO.bind ?_ (fun _ => ?_)
set_option maxHeartbeats 8000000 in
set_option maxRecDepth 100000 in
theorem tallymanref09_Sum.calls (k : Nat) (A0 : Option Addr) (c0 : Nat) (l0 : List Int) (r : Int) (w : World) (hr0 : Kd.C (Kd.int .u8) w A0 l0.length l0) (hc0 : l0.length ≤ c0) (h : tallymanref09_Sum.f k l0 = some r) :
    Calls Try.prog 80 #[.slice A0 l0.length c0] w fun e w' => e = .returned (.int .u32 r) ∧ Drawn0 w w' := by
  have HR0 := Aside0.mk hr0
  have HC0 := Aside0.mk hc0
  clear hr0 hc0
  have H : ((tallymanref09_More.f k 0 l0).bind fun t101 => (some t101)) = some r := h
  clear h
  replace H := Option.bind_eq_some_iff.mp H
  obtain ⟨t101, A20, H⟩ := H
  replace H : (some t101) = some r := H
  have A2 := Aside0.mk A20
  clear A20
  obtain rfl := Option.some.inj H
  go_enter Try.func80, Try.ntmps80
  go_wp2_with (first | ((with_reducible refine gate_callee (f := 111) rfl ?_); refine goesL_ (some 4) rfl rfl Try.func111 (by kernel_rfl) rfl #[.int .u32 0, .slice A0 l0.length c0] rfl (by (try simp only [List.map_toArray, List.map_cons, List.map_nil]); first | done | rfl | (simp only [List.length_drop, List.length_take]; rfl)) ?_; (with_reducible refine (tallymanref09_More.calls k 0 _ _ l0 t101 _ ?side1 ?side2 A2.out).mono ?_); (case side1 => repeat (first | exact HR0.out | (with_reducible refine Kd.C_alloc ?_ _) | (with_reducible refine Kd.C_drewN ?_ _) | (with_reducible refine Kd.C_drew ?_))); (case side2 => exact HC0.out); rintro e w' ⟨rfl, ⟨nd, rfl⟩⟩; refine ⟨_, rfl, ?_⟩))
  go_ret
  exact ⟨by first | rfl | ((repeat first | rw [Int.tdiv_eq_ediv_of_nonneg (by omega)] | rw [Int.tmod_eq_emod_of_nonneg (by omega)]); rfl) | (simp; done) | (simp [*]; done), by repeat (first | exact Drawn0.refl _ | apply Drawn0.step)⟩
end Go.Proofs.Ytajgillnkkkgjaa.P
end
section
/- Plain lemmas on crc: what Sum, More and their references come to. -/
namespace Go.Proofs.Ytajgillnkkkgjaa.Pure
open Go.RowKit Go.Proofs.Ytajgillnkkkgjaa.P Go.Proofs.YtajgillnkkkgjaaW.PrintWords Go.Proofs.YtajgillnkkkgjaaW.PrintLast Go.Proofs.Ytajgillnkkkgjaa.B
/-- One turn, on natural numbers. -/
def st (n : Nat) : Nat := if n % 2 = 1 then (n / 2) ^^^ 3988292384 else n / 2
def sts : Nat → Nat → Nat
  | 0, n => n
  | k + 1, n => sts k (st n)
theorem xor_div2 (a b : Nat) : (a ^^^ b) / 2 = a / 2 ^^^ b / 2 := by
  have := Nat.shiftRight_xor_distrib (a := a) (b := b) (i := 1)
  simpa [Nat.shiftRight_eq_div_pow] using this
theorem xor_mod2 (a b : Nat) : (a ^^^ b) % 2 = (a + b) % 2 := by
  have h := Nat.xor_mod_two_pow (a := a) (b := b) (n := 1)
  simp only [Nat.pow_one] at h
  rw [h]
  rcases Nat.mod_two_eq_zero_or_one a with ha | ha <;> rcases Nat.mod_two_eq_zero_or_one b with hb | hb <;> rw [ha, hb] <;> simp <;> omega
theorem st_xor (a b : Nat) : st (a ^^^ b) = st a ^^^ st b := by
  unfold st
  rw [xor_div2, xor_mod2]
  by_cases ha : a % 2 = 1 <;> by_cases hb : b % 2 = 1
  · rw [if_neg (by omega), if_pos ha, if_pos hb]
    rw [Nat.xor_assoc, Nat.xor_comm (b / 2), ← Nat.xor_assoc 3988292384, Nat.xor_self, Nat.zero_xor]
  · rw [if_pos (by omega), if_pos ha, if_neg hb, Nat.xor_assoc, Nat.xor_comm (b / 2), ← Nat.xor_assoc]
  · rw [if_pos (by omega), if_neg ha, if_pos hb, Nat.xor_assoc]
  · rw [if_neg (by omega), if_neg ha, if_neg hb]
theorem sts_xor (k : Nat) : ∀ a b : Nat, sts k (a ^^^ b) = sts k a ^^^ sts k b := by
  induction k with
  | zero => intro a b; rfl
  | succ k ih => intro a b; rw [sts, sts, sts, st_xor, ih]
theorem st_two (m : Nat) : st (2 * m) = m := by unfold st; rw [if_neg (by omega)]; omega
theorem st_lt {n : Nat} (h : n < 2 ^ 32) : st n < 2 ^ 32 := by
  unfold st
  split
  · exact Nat.xor_lt_two_pow (by omega) (by decide)
  · omega
theorem sts_lt (k : Nat) : ∀ {n : Nat}, n < 2 ^ 32 → sts k n < 2 ^ 32 := by
  induction k with
  | zero => intro n h; exact h
  | succ k ih => intro n h; exact ih (st_lt h)
theorem sts_shift (k : Nat) : ∀ m : Nat, sts k (2 ^ k * m) = m := by
  induction k with
  | zero => intro m; simp [sts]
  | succ k ih => intro m; rw [sts, Nat.pow_succ, Nat.mul_comm (2 ^ k) 2, Nat.mul_assoc, st_two, ih]
theorem split8 (w : Nat) : w = (256 * (w / 256)) ^^^ (w % 256) := by
  have h := Nat.two_pow_add_eq_or_of_lt (i := 8) (b := w % 256) (by omega) (w / 256)
  have h2 : (2 ^ 8 * (w / 256)) &&& (w % 256) = 0 := by
    apply Nat.eq_of_testBit_eq
    intro i
    rw [Nat.testBit_and, Nat.zero_testBit, Nat.testBit_two_pow_mul]
    by_cases hi : 8 ≤ i
    · rw [Nat.testBit_lt_two_pow (x := w % 256) (Nat.lt_of_lt_of_le (Nat.mod_lt _ (by decide)) (Nat.pow_le_pow_right (n := 2) (by decide) hi))]; simp
    · simp [hi]
  have h3 : (2 ^ 8 * (w / 256)) ^^^ (w % 256) = (2 ^ 8 * (w / 256)) ||| (w % 256) := by
    apply Nat.eq_of_testBit_eq
    intro i
    have := congrArg (fun n => n.testBit i) h2
    simp only [Nat.testBit_and, Nat.zero_testBit] at this
    rw [Nat.testBit_xor, Nat.testBit_or]
    revert this
    cases (2 ^ 8 * (w / 256)).testBit i <;> cases (w % 256).testBit i <;> simp
  rw [show (256 : Nat) = 2 ^ 8 from rfl] at *
  rw [h3, ← h]
  omega
/-- A byte, at once. -/
theorem byte_step (w x : Nat) : sts 8 (w ^^^ x) = sts 8 ((w % 256) ^^^ x) ^^^ (w / 256) := by
  have h := split8 w
  have e : w ^^^ x = (2 ^ 8 * (w / 256)) ^^^ ((w % 256) ^^^ x) := by rw [← Nat.xor_assoc]; exact congrArg (· ^^^ x) h
  rw [e, sts_xor, sts_shift, Nat.xor_comm]
theorem crcStep_nat (n : Nat) (h : n < 2 ^ 32) : crcStep n = (st n : Nat) := by
  unfold crcStep st
  have e1 : bits .and .u32 (n : Int) 1 = ((n % 2 : Nat) : Int) := by
    rw [bits_and rfl (n : Int) 1 (by omega) (by simp only [IntKind.bits]; omega) (by omega) (by decide), Int.toNat_natCast, show (1 : Int).toNat = 1 from rfl, Nat.and_one_is_mod]
  rw [e1]
  have e2 : ((n : Int) / 2) = ((n / 2 : Nat) : Int) := by omega
  rw [e2]
  by_cases h2 : n % 2 = 1
  · rw [if_pos h2, h2]
    have e3 : bits .and .u32 3988292384 (-((1 : Nat) : Int) % 4294967296) = 3988292384 := by decide +kernel
    rw [e3, bits_xor rfl _ _ (by omega) (by simp only [IntKind.bits]; omega) (by decide) (by decide), Int.toNat_natCast]
    rfl
  · rw [if_neg h2, show n % 2 = 0 from by omega]
    have e3 : bits .and .u32 3988292384 (-((0 : Nat) : Int) % 4294967296) = 0 := by decide +kernel
    rw [e3, bits_xor rfl _ _ (by omega) (by simp only [IntKind.bits]; omega) (by decide) (by decide), Int.toNat_natCast]
    simp
theorem crcSteps_nat (k : Nat) : ∀ n : Nat, n < 2 ^ 32 → crcSteps k n = (sts k n : Nat) := by
  induction k with
  | zero => intro n h; rfl
  | succ k ih => intro n h; rw [crcSteps, crcStep_nat n h, ih _ (st_lt h)]; rfl
theorem crcByte_nat (w x : Nat) (hw : w < 2 ^ 32) (hx : x < 256) : crcByte w x = ((sts 8 (w ^^^ x) : Nat) : Int) := by
  unfold crcByte
  have e1 : ((w : Int) % 256) = ((w % 256 : Nat) : Int) := by omega
  have e2 : ((w : Int) / 256) = ((w / 256 : Nat) : Int) := by omega
  have hlt : (w % 256) ^^^ x < 2 ^ 8 := Nat.xor_lt_two_pow (by omega) (by omega)
  rw [e1, e2, bits_xor (k := .u8) rfl ((w % 256 : Nat) : Int) (x : Int) (by omega) (by simp only [IntKind.bits]; omega) (by omega) (by simp only [IntKind.bits]; omega), Int.toNat_natCast, Int.toNat_natCast, crcSteps_nat 8 _ (by omega)]
  have h8 := sts_lt 8 (n := (w % 256) ^^^ x) (by omega)
  rw [bits_xor rfl _ _ (by omega) (by simp only [IntKind.bits]; omega) (by omega) (by simp only [IntKind.bits]; omega), Int.toNat_natCast, Int.toNat_natCast, byte_step w x]
def foldN (l : List Nat) (w : Nat) : Nat := l.foldl (fun w x => sts 8 (w ^^^ x)) w
theorem crcFold_nat : ∀ (l : List Nat) (w : Nat), w < 2 ^ 32 → (∀ x ∈ l, x < 256) → (l.map (fun (x : Nat) => (x : Int))).foldl crcByte (w : Int) = (foldN l w : Nat) ∧ foldN l w < 2 ^ 32 := by
  intro l
  induction l with
  | nil => intro w h _; exact ⟨rfl, h⟩
  | cons x l ih =>
    intro w h hx
    have hx0 := hx x (by simp)
    rw [List.map_cons, List.foldl_cons, crcByte_nat w x h hx0]
    exact ih _ (sts_lt 8 (Nat.xor_lt_two_pow h (by omega))) (fun y hy => hx y (by simp [hy]))
theorem inv_eq (x : Int) (h0 : 0 ≤ x) (h1 : x ≤ 4294967295) : crcInv x = 4294967295 - x := by
  unfold crcInv
  show IntKind.u32.wrap (((BitVec.ofInt 32 4294967295 ^^^ BitVec.ofInt 32 x).toNat : Nat) : Int) = _
  rw [show BitVec.ofInt 32 4294967295 = BitVec.allOnes 32 from rfl, BitVec.xor_comm, BitVec.xor_allOnes, BitVec.toNat_not, BitVec.toNat_ofInt, wrap_u32]
  omega
/-- The register behind bytes, and the sum. -/
def crcN (s : Nat) (l : List Nat) : Nat := 4294967295 - foldN l (4294967295 - s)
theorem more_code (s : Nat) (l : List Nat) (hs : s < 2 ^ 32) (hl : ∀ x ∈ l, x < 256) : crc_More.f s (l.map (fun (x : Nat) => (x : Int))) = some ((crcN s l : Nat) : Int) := by
  unfold crc_More.f
  rw [if_pos ⟨by omega, by omega⟩, inv_eq s (by omega) (by omega)]
  have h := crcFold_nat l (4294967295 - s) (by omega) hl
  rw [show (4294967295 : Int) - (s : Int) = ((4294967295 - s : Nat) : Int) from by omega, h.1, inv_eq _ (by omega) (by omega)]
  unfold crcN
  congr 1
  omega
theorem par_eq {x y : Nat} (h : x % 2 = y % 2) : (x + y) % 2 = 0 := by omega
theorem par_ne {x y : Nat} (h : ¬ x % 2 = y % 2) : (x + y) % 2 = 1 := by omega
theorem add_pow {m p : Nat} (hp : p ≤ 2 ^ 31) (h : m < p) : (((m : Nat) : Int) + ((p % 4294967296 : Nat) : Int)) % 4294967296 = ((m + p : Nat) : Int) := by omega
theorem tdiv2 (m : Nat) (h : m < 2 ^ 32) : ((m : Int).tdiv 2) % 4294967296 = ((m / 2 : Nat) : Int) := by rw [Int.tdiv_eq_ediv_of_nonneg (by omega)]; omega
theorem tmod2 (m : Nat) : (m : Int).tmod 2 = ((m % 2 : Nat) : Int) := by rw [Int.tmod_eq_emod_of_nonneg (by omega)]; omega
theorem either_loop (a b : Nat) (ha : a < 2 ^ 32) (hb : b < 2 ^ 32) : ∀ (d i : Nat), i + d = 32 → Ev (fun k => tallymanref09_either.l0 k ((a / 2 ^ i : Nat) : Int) ((b / 2 ^ i : Nat) : Int) (((a ^^^ b) % 2 ^ i : Nat) : Int) (((2 ^ i) % 4294967296 : Nat) : Int) (i : Int)) ((a ^^^ b : Nat) : Int) := by
  intro d
  induction d with
  | zero =>
    intro i hi
    obtain rfl : i = 32 := by omega
    have h := Nat.xor_lt_two_pow ha hb
    rw [Nat.mod_eq_of_lt h]
    exact Ev.step (fun k => by rw [tallymanref09_either.l0, if_neg (by decide)]) (Ev.now _)
  | succ d ih =>
    intro i hi
    have hi' : i < 32 := by omega
    have h32 : (i : Int) < 32 := by omega
    have hid : i + 1 + d = 32 := by omega
    have e1 : wrap64 ((i : Int) + 1) = ((i + 1 : Nat) : Int) := by rw [w64 (by omega) (by omega)]; omega
    have hp : 2 ^ i ≤ 2 ^ 31 := Nat.pow_le_pow_right (by decide) (by omega)
    have hp0 : 0 < 2 ^ i := Nat.two_pow_pos i
    have ha2 : a / 2 ^ i ≤ a := Nat.div_le_self _ _
    have hb2 : b / 2 ^ i ≤ b := Nat.div_le_self _ _
    have ea : (((a / 2 ^ i : Nat) : Int).tdiv 2) % 4294967296 = ((a / 2 ^ (i + 1) : Nat) : Int) := by
      rw [Nat.pow_succ, ← Nat.div_div_eq_div_mul]; exact tdiv2 _ (by omega)
    have eb : (((b / 2 ^ i : Nat) : Int).tdiv 2) % 4294967296 = ((b / 2 ^ (i + 1) : Nat) : Int) := by
      rw [Nat.pow_succ, ← Nat.div_div_eq_div_mul]; exact tdiv2 _ (by omega)
    have ew : (((2 ^ i % 4294967296 : Nat) : Int) * 2) % 4294967296 = ((2 ^ (i + 1) % 4294967296 : Nat) : Int) := by
      rw [Nat.pow_succ]; omega
    have hx : (a ^^^ b) / 2 ^ i = (a / 2 ^ i) ^^^ (b / 2 ^ i) := by
      have := Nat.shiftRight_xor_distrib (a := a) (b := b) (i := i)
      simpa [Nat.shiftRight_eq_div_pow] using this
    have hm : (a ^^^ b) % 2 ^ (i + 1) = (a ^^^ b) % 2 ^ i + 2 ^ i * ((a ^^^ b) / 2 ^ i % 2) := by
      rw [Nat.pow_succ, Nat.mod_mul]
    rw [hx, xor_mod2] at hm
    have hlt : (a ^^^ b) % 2 ^ i < 2 ^ i := Nat.mod_lt _ hp0
    have t1 : (((a / 2 ^ i : Nat) : Int).tmod 2) = ((a / 2 ^ i % 2 : Nat) : Int) := tmod2 _
    have t2 : (((b / 2 ^ i : Nat) : Int).tmod 2) = ((b / 2 ^ i % 2 : Nat) : Int) := tmod2 _
    by_cases hq : a / 2 ^ i % 2 = b / 2 ^ i % 2
    · have hz := par_eq hq
      rw [hz] at hm
      replace hm : (a ^^^ b) % 2 ^ (i + 1) = (a ^^^ b) % 2 ^ i := hm
      have heq : ((a / 2 ^ i % 2 : Nat) : Int) = ((b / 2 ^ i % 2 : Nat) : Int) := by rw [hq]
      refine Ev.step (fun k => by rw [tallymanref09_either.l0, if_pos h32, t1, t2, if_pos heq, ea, eb, ew, e1]) ?_
      rw [← hm]
      exact ih (i + 1) hid
    · have hz := par_ne hq
      rw [hz, Nat.mul_one] at hm
      have es : ((((a ^^^ b) % 2 ^ i : Nat) : Int) + ((2 ^ i % 4294967296 : Nat) : Int)) % 4294967296 = (((a ^^^ b) % 2 ^ (i + 1) : Nat) : Int) := by
        rw [hm]; exact add_pow hp hlt
      have heq : ¬ ((a / 2 ^ i % 2 : Nat) : Int) = ((b / 2 ^ i % 2 : Nat) : Int) := fun h => hq (Int.ofNat.inj h)
      refine Ev.step (fun k => by rw [tallymanref09_either.l0, if_pos h32, t1, t2, if_neg heq, ea, eb, es, ew, e1]) ?_
      exact ih (i + 1) hid
theorem either_ev (a b : Nat) (ha : a < 2 ^ 32) (hb : b < 2 ^ 32) : Ev (fun k => tallymanref09_either.f k a b) ((a ^^^ b : Nat) : Int) := by
  have h := either_loop a b ha hb 32 0 (by omega)
  unfold tallymanref09_either.f
  simpa using h
theorem ref_bits (x1 : List Int) (x6 : Int) (r : Int) : ∀ (d n w : Nat), n + d = 8 → w < 2 ^ 32 → Ev (fun k => tallymanref09_More.l0 k x1 ((sts d w : Nat) : Int) (wrap64 (x6 + 1))) r → Ev (fun k => tallymanref09_More.l1 k x1 (w : Int) x6 (n : Int)) r := by
  intro d
  induction d with
  | zero =>
    intro n w hn hw h
    refine Ev.step (fun k => by rw [tallymanref09_More.l1, if_neg (by omega)]) ?_
    exact h
  | succ d ih =>
    intro n w hn hw h
    have t1 : ((w : Int).tmod 2) = ((w % 2 : Nat) : Int) := by rw [Int.tmod_eq_emod_of_nonneg (by omega)]; omega
    have t2 : ((w : Int).tdiv 2) % 4294967296 = ((w / 2 : Nat) : Int) := by rw [Int.tdiv_eq_ediv_of_nonneg (by omega)]; omega
    have e1 : wrap64 ((n : Int) + 1) = ((n + 1 : Nat) : Int) := by rw [w64 (by omega) (by omega)]; omega
    have hst := st_lt hw
    rw [sts] at h
    have h2 := ih (n + 1) (st w) (by omega) hst h
    by_cases ho : w % 2 = 1
    · have hs : st w = (w / 2) ^^^ 3988292384 := by unfold st; rw [if_pos ho]
      rw [hs] at h2
      refine Ev.step (fun k => by rw [tallymanref09_More.l1, if_pos (by omega), t1, if_pos (by omega), t2, e1]) ?_
      exact Ev.bind (either_ev (w / 2) 3988292384 (by omega) (by decide)) h2
    · have hs : st w = w / 2 := by unfold st; rw [if_neg ho]
      rw [hs] at h2
      refine Ev.step (fun k => by rw [tallymanref09_More.l1, if_pos (by omega), t1, if_neg (by omega), t2, e1]) ?_
      exact h2
theorem ref_bytes (l : List Nat) (hl : ∀ x ∈ l, x < 256) (hlen : l.length ≤ 1000000) : ∀ (d i w : Nat), i + d = l.length → w < 2 ^ 32 → Ev (fun k => tallymanref09_More.l0 k (l.map (fun (x : Nat) => (x : Int))) (w : Int) (i : Int)) ((4294967295 - foldN (l.drop i) w : Nat) : Int) := by
  intro d
  induction d with
  | zero =>
    intro i w hi hw
    rw [List.drop_of_length_le (by omega)]
    refine Ev.step (fun k => by rw [tallymanref09_More.l0, if_neg (by rw [List.length_map]; omega)]) ?_
    unfold tallymanref09_turn.f
    simp only [Option.bind_some]
    have e : ((4294967295 : Int) - (w : Int)) % 4294967296 = ((4294967295 - foldN [] w : Nat) : Int) := by
      show _ = ((4294967295 - w : Nat) : Int)
      omega
    rw [e]
    exact Ev.now _
  | succ d ih =>
    intro i w hi hw
    have hlt : i < l.length := by omega
    have hb := hl l[i] (List.getElem_mem hlt)
    have e1 : wrap64 ((i : Int) + 1) = ((i + 1 : Nat) : Int) := by rw [w64 (by omega) (by omega)]; omega
    have hrd : rd (l.map (fun (x : Nat) => (x : Int))) (i : Int) % 4294967296 = ((l[i] : Nat) : Int) := by
      rw [rd_nat _ i (by rw [List.length_map]; exact hlt), List.getElem_map]; omega
    have hx : w ^^^ l[i] < 2 ^ 32 := Nat.xor_lt_two_pow hw (by omega)
    refine Ev.step (fun k => by rw [tallymanref09_More.l0, if_pos (by rw [List.length_map]; omega), if_pos (by omega), hrd]) ?_
    refine Ev.bind (either_ev w l[i] hw (by omega)) ?_
    refine ref_bits _ _ _ 8 0 _ (by omega) hx ?_
    rw [e1, List.drop_eq_getElem_cons hlt]
    exact ih (i + 1) (sts 8 (w ^^^ l[i])) (by omega) (sts_lt 8 hx)
theorem more_ref (s : Nat) (l : List Nat) (hs : s < 2 ^ 32) (hl : ∀ x ∈ l, x < 256) (hlen : l.length ≤ 1000000) : Ev (fun k => tallymanref09_More.f k s (l.map (fun (x : Nat) => (x : Int)))) ((crcN s l : Nat) : Int) := by
  unfold tallymanref09_More.f tallymanref09_turn.f
  simp only [Option.bind_some]
  have e : ((4294967295 : Int) - (s : Int)) % 4294967296 = ((4294967295 - s : Nat) : Int) := by omega
  rw [e]
  have h := ref_bytes l hl hlen l.length 0 (4294967295 - s) (by omega) (by omega)
  rwa [List.drop_zero] at h
end Go.Proofs.Ytajgillnkkkgjaa.Pure
end
section
/- The document's Read, and its Rows of equal rows. -/
namespace Go.Proofs.Ytajgillnkkkgjaa.P
open Go.RowKit Go.Proofs.YtajgillnkkkgjaaW.PrintWords Go.Proofs.YtajgillnkkkgjaaW.PrintLast Go.Proofs.YtajgillnkkkgjaaW.PrintMore Go.Proofs.Ytajgillnkkkgjaa.H Go.Proofs.Ytajgillnkkkgjaa.Pure
set_option linter.unusedVariables false
set_option linter.unusedSimpArgs false
theorem fold_range : ∀ (l : List Int) (w : Int), 0 ≤ w ∧ w ≤ 4294967295 → 0 ≤ l.foldl crcByte w ∧ l.foldl crcByte w ≤ 4294967295 := by
  intro l
  induction l with
  | nil => intro w h; exact h
  | cons x l ih => intro w _; exact ih _ (xor32_range _ _)
theorem crcM_app (a b : List Int) : crcM (crcM 0 a) b = crcM 0 (a ++ b) := by
  unfold crcM
  have h := fold_range a (crcInv 0) (xor32_range _ _)
  rw [List.foldl_append, inv_eq (List.foldl crcByte (crcInv 0) a) h.1 h.2, inv_eq (4294967295 - List.foldl crcByte (crcInv 0) a) (by omega) (by omega)]
  congr 2
  omega
theorem nats_is {l : List Int} (h : isB l) : (l.map Int.toNat).map (fun (x : Nat) => (x : Int)) = l ∧ ∀ x ∈ l.map Int.toNat, x < 256 := by
  constructor
  · rw [List.map_map]
    conv => rhs; rw [← List.map_id l]
    apply List.map_congr_left
    intro x hx
    have := h x hx
    simp; omega
  · intro x hx
    obtain ⟨y, hy, rfl⟩ := List.mem_map.1 hx
    have := h y hy
    omega
theorem crcM_nat {l : List Int} (h : isB l) : crcM 0 l = ((crcN 0 (l.map Int.toNat) : Nat) : Int) := by
  obtain ⟨h1, h2⟩ := nats_is h
  have := more_code 0 (l.map Int.toNat) (by decide) h2
  rw [h1] at this
  unfold crc_More.f at this
  rw [if_pos (by decide)] at this
  exact Option.some.inj this
theorem sum_ref {l : List Int} (h : isB l) (hl : l.length ≤ 1000000) : Ev (fun k => tallymanref09_Sum.f k l) (crcM 0 l) := by
  obtain ⟨h1, h2⟩ := nats_is h
  have := more_ref 0 (l.map Int.toNat) (by decide) h2 (by rw [List.length_map]; exact hl)
  rw [h1] at this
  unfold tallymanref09_Sum.f
  rw [crcM_nat h]
  exact Ev.bind this (Ev.now _)
def okB (l : List Int) : Bool := l.all (fun x => decide (0 ≤ x) && decide (x ≤ 255)) && decide (l.length ≤ 1000000)
def tallymanref10_Read.f (k : Nat) (l0 : List Int) : Option (List Int × List Int × Int) := if okB l0 then some (readP l0) else none
theorem tallymanref10_Read.mono : ∀ a0 k, LeO (tallymanref10_Read.f k a0) (tallymanref10_Read.f (k + 1) a0) := fun _ _ => LeO.refl _
end Go.Proofs.Ytajgillnkkkgjaa.P
end
section
/- All records at the front of bytes: frame.All. -/
namespace Go.Proofs.Ytajgillnkkkgjaa.P
open Go.RowKit Go.Proofs.YtajgillnkkkgjaaW.PrintWords Go.Proofs.YtajgillnkkkgjaaW.PrintLast Go.Proofs.YtajgillnkkkgjaaW.PrintMore Go.Proofs.Ytajgillnkkkgjaa.H Go.Proofs.Ytajgillnkkkgjaa.Pure
set_option linter.unusedVariables false
set_option linter.unusedSimpArgs false
/-- All records, k at most, and how many bytes they have. -/
def allP : Nat → List Int → List (List Int) × Nat
  | 0, _ => ([], 0)
  | k + 1, l => if (readP l).2.2 = 0 then ((readP l).1 :: (allP k (readP l).2.1).1, 8 + (readP l).1.length + (allP k (readP l).2.1).2) else ([], 0)
theorem readP_ok {l : List Int} (hb : isB l) (h : (readP l).2.2 = 0) : 8 + (readP l).1.length + (readP l).2.1.length = l.length ∧ isB (readP l).1 ∧ isB (readP l).2.1 := by
  unfold readP at h ⊢
  by_cases h1 : l.length < 8
  · rw [if_pos h1] at h; simp at h
  rw [if_neg h1] at h ⊢
  by_cases h2 : 65536 < be4 l
  · rw [if_pos h2] at h; simp at h
  rw [if_neg h2] at h ⊢
  by_cases h3 : (l.length : Int) - 8 < be4 l
  · rw [if_pos h3] at h; simp at h
  rw [if_neg h3] at h ⊢
  by_cases h4 : be4 (l.drop 4) ≠ crcM (crcM 0 (l.take 4)) ((l.drop 8).take (be4 l).toNat)
  · rw [if_pos h4] at h; simp at h
  rw [if_neg h4]
  obtain ⟨n0, n1⟩ := be4_range hb
  refine ⟨?_, isB_take (isB_drop hb 8) _, isB_drop (isB_drop hb 8) _⟩
  simp only [List.length_take, List.length_drop]
  omega
theorem allP_mono : ∀ (k : Nat) (l : List Int), isB l → l.length ≤ k → ∀ m, allP (k + m) l = allP k l := by
  intro k
  induction k with
  | zero =>
    intro l hb hl m
    cases m with
    | zero => rfl
    | succ m =>
      rw [show 0 + (m + 1) = m + 1 by omega]
      have : ¬ (readP l).2.2 = 0 := by unfold readP; rw [if_pos (by omega)]; decide
      show (if (readP l).2.2 = 0 then _ else _) = _
      rw [if_neg this]; rfl
  | succ k ih =>
    intro l hb hl m
    rw [show k + 1 + m = (k + m) + 1 by omega, allP, allP]
    by_cases h : (readP l).2.2 = 0
    · rw [if_pos h, if_pos h]
      obtain ⟨h1, h2, h3⟩ := readP_ok hb h
      rw [ih _ h3 (by omega)]
    · rw [if_neg h, if_neg h]
abbrev Hdr := Option Addr × Nat × Nat
def hdrV (x : Hdr) : Value := .slice x.1 x.2.1 x.2.2
/-- A row of headers, each of which reads as a row, in blocks of ok. -/
def ReadsAll (ok : Nat → Prop) (w : World) (hs : List Hdr) (ls : List (List Int)) : Prop := hs.length = ls.length ∧ ∀ (j : Nat) (h : Hdr) (l : List Int), hs[j]? = some h → ls[j]? = some l → h.2.1 = l.length ∧ l.length ≤ h.2.2 ∧ Kd.F (Kd.int .u8) w ok h.1 l.length l
theorem ReadsAll.map {ok ok' : Nat → Prop} {w w' : World} {hs : List Hdr} {ls : List (List Int)} (h : ReadsAll ok w hs ls) (hF : ∀ A n l, Kd.F (Kd.int .u8) w ok A n l → Kd.F (Kd.int .u8) w' ok' A n l) : ReadsAll ok' w' hs ls :=
  ⟨h.1, fun j x l h1 h2 => ⟨(h.2 j x l h1 h2).1, (h.2 j x l h1 h2).2.1, hF _ _ _ (h.2 j x l h1 h2).2.2⟩⟩
theorem ReadsAll.below {ok : Nat → Prop} {w w' : World} {hs : List Hdr} {ls : List (List Int)} (h : ReadsAll ok w hs ls) (hb : Below w.heap.size w w') : ReadsAll ok w' hs ls := h.map (fun _ _ _ hf => Kd.F_below hf hb)
theorem ReadsAll.snoc {ok : Nat → Prop} {w : World} {hs : List Hdr} {ls : List (List Int)} (h : ReadsAll ok w hs ls) {A : Option Addr} {c : Nat} {l : List Int} (hc : l.length ≤ c) (hC : Kd.F (Kd.int .u8) w ok A l.length l) : ReadsAll ok w (hs ++ [(A, l.length, c)]) (ls ++ [l]) := by
  refine ⟨by simp [h.1], fun j x y h1 h2 => ?_⟩
  by_cases hj : j < hs.length
  · rw [List.getElem?_append_left hj] at h1
    rw [List.getElem?_append_left (by rw [← h.1]; exact hj)] at h2
    exact h.2 j x y h1 h2
  · have hj2 : j < (hs ++ [(A, l.length, c)]).length := (List.getElem?_eq_some_iff.1 h1).1
    rw [List.length_append] at hj2
    simp only [List.length_singleton] at hj2
    obtain rfl : j = hs.length := by omega
    rw [List.getElem?_append_right (Nat.le_refl _), Nat.sub_self] at h1
    rw [h.1, List.getElem?_append_right (Nat.le_refl _), Nat.sub_self] at h2
    simp only [List.getElem?_cons_zero, Option.some.injEq] at h1 h2
    subst h1 h2
    exact ⟨rfl, hc, hC⟩
theorem hdr_one (x : Hdr) : (hdrV x).oneCell' = true := rfl
theorem C_of_hdrs {w : World} {A : Option Addr} {n : Nat} {hs : List Hdr} {ls : List (List Int)} {ok : Nat → Prop} (h : (Kd.scalar hdrV hdr_one).C w A n hs) (hr : ReadsAll ok w hs ls) : (Kd.slice 5 (Kd.int .u8)).C w A n ls := by
  refine ⟨by rw [← hr.1]; exact h.1, h.2.1, fun hn => ?_⟩
  obtain ⟨ad, rfl, hc⟩ := h.2.2 hn
  refine ⟨ad, rfl, fun j l hj => ?_⟩
  have hj2 : j < ls.length := (List.getElem?_eq_some_iff.1 hj).1
  have hh : hs[j]? = some (hs[j]'(by rw [hr.1]; exact hj2)) := List.getElem?_eq_getElem _
  obtain ⟨cs, h1, h2, h3⟩ := hc j _ hh
  obtain ⟨r1, r2, r3⟩ := hr.2 j _ l hh hj
  refine ⟨cs, h1, ⟨_, _, ?_, r2, Kd.F_now r3⟩, h3⟩
  have h2 : cs = [hdrV _] := h2
  rw [h2, hdrV, r1]
def RowsPost (ls : List (List Int)) (n : Nat) (w : World) (e : Ending) (w' : World) : Prop := ∃ A c, e = .returned (.tuple #[.slice A ls.length c, .int .i64 n]) ∧ ls.length ≤ c ∧ (Kd.slice 5 (Kd.int .u8)).C w' A ls.length ls ∧ Below w.heap.size w w'
abbrev offV (v : Value) (k : Nat) : Prop := True ∧ some k ≠ v.ownBlock
theorem off_new {w : World} {b : Nat} {v : Value} {hs : List Hdr} (h : (Kd.scalar hdrV hdr_one).R 51 w b (fun _ => True) v hs) (k : Nat) (hk : offV v k ∨ w.heap.size ≤ k) : offV v k := by
  rcases hk with hk | hk
  · exact hk
  · refine ⟨trivial, fun e => ?_⟩
    have := Kd.R_lt h k e.symm
    omega
def AllI (w : World) (l : List Int) (full : List (List Int) × Nat) (v4 : Value) (left : List Int) (A : Option Addr) (c : Nat) (wr : World) : Prop :=
  ∃ (hs : List Hdr) (ls : List (List Int)), isB left ∧ left.length ≤ c ∧ Kd.F (Kd.int .u8) wr (offV v4) A left.length left ∧ (Kd.scalar hdrV hdr_one).R 51 wr w.heap.size (fun _ => True) v4 hs ∧ ReadsAll (offV v4) wr hs ls ∧
    ls ++ (allP left.length left).1 = full.1 ∧ l.length - left.length + (allP left.length left).2 = full.2 ∧ left.length ≤ l.length ∧ 8 * ls.length + left.length ≤ l.length ∧ Below w.heap.size w wr
set_option maxHeartbeats 2000000 in
set_option maxRecDepth 100000 in
theorem all_rd (A0 : Option Addr) (c0 : Nat) (l : List Int) (w : World) (h0 : Kd.C (Kd.int .u8) w A0 l.length l) (hc0 : l.length ≤ c0) (hb : isB l) (hl : l.length ≤ 1000000) :
    Calls Try.prog 42 #[.slice A0 l.length c0] w (RowsPost (allP l.length l).1 (allP l.length l).2 w) := by
  have HI0 : Aside0 (AllI w l (allP l.length l) (.slice none 0 0) l A0 c0 w) := ⟨[], [], hb, hc0, Kd.F_mono (Kd.F_apart_nil (Kd.C_F (Kd.heap_int _) h0)) (fun k hk => ⟨trivial, hk.2⟩), Kd.R_nil _ _ _ _ _, ⟨rfl, fun j x y h1 => by simp at h1⟩, rfl, by omega, by omega, by simp, Below.refl _ _⟩
  clear h0 hb
  go_enter Try.func42, Try.ntmps42
  go_wp2
  refine wp_scope_enter 0 rfl ?_
  go_wp2
  go_step3
  simp only [Exit.then]
  rename_i hk
  refine hk _ _ ?_
  clear hk
  refine wp_label_slots 0 (by rfl) ([2, 3, 4, 5, 6, 7, 8, 9, 10, 11, 12, 13, 14, 15, 16, 17, 18, 19, 20, 21, 22, 23, 24, 25, 26, 27, 28] : List Nat) (fun n us wr => ∃ (left : List Int) (A : Option Addr) (c : Nat), Aside0 (n = left.length) ∧ us.getD 3 undef = .slice A left.length c ∧ Aside0 (AllI w l (allP l.length l) (us.getD 2 undef) left A c wr)) (l.length) ?_ ?_
  · refine ⟨l, A0, c0, ⟨rfl⟩, rfl, HI0⟩
  · rintro n us wr hln ⟨left, A, c, HN, h5, HU⟩ J K hJ hK
    simp only [List.length_cons, List.length_nil] at hln
    match us, hln with
    | u2 :: u3 :: u4 :: u5 :: u6 :: u7 :: u8 :: u9 :: u10 :: u11 :: u12 :: u13 :: u14 :: u15 :: u16 :: u17 :: u18 :: u19 :: u20 :: u21 :: u22 :: u23 :: u24 :: u25 :: u26 :: u27 :: u28 :: [], _ =>
    rename_i hx; clear hx
    simp only [List.getD_cons_succ, List.getD_cons_zero] at h5
    subst h5
    simp only [putS, Act.put, List.setIfInBounds_toArray, List.set_cons_zero, List.set_cons_succ]
    simp only [List.getD_cons_succ, List.getD_cons_zero] at HU
    have hJ2 := fun (k : Nat) (v2 v3 v4 v5 v6 v7 v8 v9 v10 v11 v12 v13 v14 v15 v16 v17 v18 v19 v20 v21 v22 v23 v24 v25 v26 v27 v28 : Value) (w' : World) => hJ k (v2 :: v3 :: v4 :: v5 :: v6 :: v7 :: v8 :: v9 :: v10 :: v11 :: v12 :: v13 :: v14 :: v15 :: v16 :: v17 :: v18 :: v19 :: v20 :: v21 :: v22 :: v23 :: v24 :: v25 :: v26 :: v27 :: v28 :: []) _ w' rfl rfl
    clear hJ
    simp only [putS, Act.put, List.setIfInBounds_toArray, List.set_cons_zero, List.set_cons_succ] at hJ2
    have HJ := Aside0.mk hJ2; clear hJ2
    have HK := Aside0.mk hK; clear hK
    obtain ⟨hs, ls, hbl, hlc, hC, hR, hA, hf1, hf2, hle, h8, hB⟩ := HU.out
    clear HU
    obtain ⟨A4, c4, rfl, hc4, hC4⟩ := Kd.R_reads hR
    have HRd := Aside0.mk (read_F _ A c left wr hC hlc hbl)
    obtain ⟨x1, x2, y, hx⟩ : ∃ x1 x2 y, readP left = (x1, x2, y) := ⟨_, _, _, rfl⟩
    rw [hx] at HRd
    have HX := Aside0.mk hx; have HF1 := Aside0.mk hf1; have HF2 := Aside0.mk hf2; have HBL := Aside0.mk hbl
    have HR := Aside0.mk hR; have HA := Aside0.mk hA; have HB := Aside0.mk hB; have HC4 := Aside0.mk hC4; have HCC4 := Aside0.mk hc4
    clear hx hf1 hf2 hC hbl hR hA hB hlc hC4 hc4
    by_cases hy : y = 0
    · subst hy
      have t1 : ((0 : Int) != 0) = false := by simp
      obtain ⟨q1, q2, q3⟩ := readP_ok HBL.out (by rw [HX.out])
      rw [HX.out] at q1 q2 q3
      simp only at q1 q2 q3
      have Q1 := Aside0.mk q1; have Q3 := Aside0.mk q3
      have hk : allP left.length left = (x1 :: (allP x2.length x2).1, 8 + x1.length + (allP x2.length x2).2) := by
        obtain ⟨k, hk⟩ : ∃ k, left.length = k + 1 := ⟨left.length - 1, by omega⟩
        have hm := allP_mono x2.length x2 q3 (Nat.le_refl _) (k - x2.length)
        rw [show x2.length + (k - x2.length) = k by omega] at hm
        rw [hk, allP, HX.out, if_pos rfl]
        simp only
        rw [hm]
      have G1 : Aside0 ((ls ++ [x1]) ++ (allP x2.length x2).1 = (allP l.length l).1) := ⟨by rw [← HF1.out, hk, List.append_assoc]; rfl⟩
      have G2 : Aside0 (l.length - x2.length + (allP x2.length x2).2 = (allP l.length l).2) := ⟨by rw [← HF2.out, hk]; simp only; omega⟩
      have G3 : Aside0 (x2.length ≤ l.length) := ⟨by omega⟩
      have G4 : Aside0 (8 * (ls ++ [x1]).length + x2.length ≤ l.length) := ⟨by rw [List.length_append]; simp; omega⟩
      clear hk
      have HL : Aside0 ((hs.length + 1) * 24 ≤ 140737488355328) := ⟨by have := HA.out.1; omega⟩
      clear q1 q2 q3
      go_wp2_with (first | (go_at_call 40; (with_reducible refine HRd.out.mono ?_); rintro e w1 ⟨B, d, E, f, rfl, hcB, hCB, hcE, hCE, hB1⟩; have HCB := Aside0.mk (Kd.F_mono hCB (off_new HR.out)); have HcB := Aside0.mk hcB; have HCE := Aside0.mk (Kd.F_mono hCE (off_new HR.out)); have HcE := Aside0.mk hcE; have HR1 := Aside0.mk (Kd.R_below HR.out hB1); have HB1 := Aside0.mk (below_step HB.out hB1); have HA1 := Aside0.mk (HA.out.below hB1); clear hcB hCB hcE hCE hB1) | (at_builtin; refine Kd.R_append (Kd.scalar hdrV hdr_one) (w0 := w) w.heap.size rfl (.tmp 24) (.tmp 26) 73 51 (.slice none 0 0) 24 rfl Try.underlying73 info51 rfl (by decide) (by omega) _ hs (B, x1.length, d) [hdrV (B, x1.length, d)] (fun _ => True) (fun _ => False) rfl rfl rfl (fun _ h => h.elim) (fun _ _ => trivial) HR1.out HB1.out HB1.out.size HL.out ?_; intro v2 w2 hR2 hB2 hg2 hat2; have HB2 := Aside0.mk hB2; have HR2 := Aside0.mk hR2; have HA2 := Aside0.mk ((HA1.out.snoc HcB.out HCB.out).map (fun _ _ _ hf => Kd.F_after hf hg2 hat2)); have HCE2 := Aside0.mk (Kd.F_after HCE.out hg2 hat2); clear hR2 hB2 hg2 hat2))
      go_step3
      refine ⟨rfl, HK.out _ _ (Handed.intro (x2.length) ?_ (HJ.out _ _ _ _ _ _ _ _ _ _ _ _ _ _ _ _ _ _ _ _ _ _ _ _ _ _ _ _ _ ⟨x2, E, f, ⟨rfl⟩, rfl, ⟨hs ++ [(B, x1.length, d)], ls ++ [x1], Q3.out, HcE.out, HCE2.out, HR2.out, HA2.out, G1.out, G2.out, G3.out, G4.out, HB2.out⟩⟩))⟩
      have := HN.out
      have := Q1.out
      omega
    · have t1 : (y != 0) = true := by simp [hy]
      have hz : allP left.length left = ([], 0) := by
        cases hk : left.length with
        | zero => rfl
        | succ k => rw [allP, HX.out, if_neg hy]
      rw [hz] at HF1 HF2
      go_wp2_with (go_at_call 40; (with_reducible refine HRd.out.mono ?_); rintro e w1 ⟨B, d, E, f, rfl, hcB, hCB, hcE, hCE, hB1⟩; have HB1 := Aside0.mk hB1; clear hcB hCB hcE hCE hB1)
      go_ret2
      have e1 := HF1.out
      have e2 := HF2.out
      simp only [List.append_nil, Nat.add_zero] at e1 e2
      have := C_of_hdrs (Kd.C_below HC4.out HB1.out) (HA.out.below HB1.out)
      have e3 := HA.out.1
      rw [e1] at this e3
      rw [e3] at this
      have hcc := HCC4.out
      rw [e3] at hcc
      refine ⟨A4, c4, ?_, hcc, this, below_step HB.out HB1.out⟩
      rw [← e3, ← e2, show ((l.length - left.length : Nat) : Int) = (l.length : Int) - left.length by omega]
      rfl
end Go.Proofs.Ytajgillnkkkgjaa.P
end
section
-- printed by the session's own call of print.py. Not trusted: Lean checks it.
namespace Go.Proofs.Ytajgillnkkkgjaa.P
open Go.RowKit Go.Proofs.YtajgillnkkkgjaaW.PrintWords Go.Proofs.YtajgillnkkkgjaaW.PrintLast Go.Proofs.YtajgillnkkkgjaaW.PrintMore
attribute [local go_sem] max2_int min2_int max_two min_two max_three min_three max_four min_four
set_option linter.unusedVariables false
set_option linter.unusedSimpArgs false
/-! ### tallymanref10_Size: function 39 -/
def tallymanref10_Size.f (a0 : Int) : Option (Int) := if a0 < 0 then (some 0) else (if a0 > 65536 then (some 0) else (some (wrap64 (8 + a0))))
set_option maxHeartbeats 8000000 in
set_option maxRecDepth 100000 in
theorem tallymanref10_Size.calls (a0 : Int) (r : Int) (w : World) (h : tallymanref10_Size.f a0 = some r) :
    Calls Try.prog 39 #[.int .i64 a0] w fun e w' => e = .returned (.int .i64 r) ∧ Drawn0 w w' := by
  have H : (if a0 < 0 then (some 0) else (if a0 > 65536 then (some 0) else (some (wrap64 (8 + a0))))) = some r := h
  clear h
  by_cases c2 : a0 < 0
  · rw [if_pos c2] at H
    have c2b0 : decide (a0 < 0) = true := decide_eq_true c2
    clear c2
    obtain rfl := Option.some.inj H
    go_enter Try.func39, Try.ntmps39
    go_wp2
    go_ret
    exact ⟨by first | rfl | ((repeat first | rw [Int.tdiv_eq_ediv_of_nonneg (by omega)] | rw [Int.tmod_eq_emod_of_nonneg (by omega)]); rfl) | (simp; done) | (simp [*]; done), by repeat (first | exact Drawn0.refl _ | apply Drawn0.step)⟩
  · rw [if_neg c2] at H
    have c2b0 : decide (a0 < 0) = false := decide_eq_false c2
    clear c2
    by_cases c3 : a0 > 65536
    · rw [if_pos c3] at H
      have c3b0 : decide (65536 < a0) = true := decide_eq_true c3
      clear c3
      obtain rfl := Option.some.inj H
      go_enter Try.func39, Try.ntmps39
      go_wp2
      go_ret
      exact ⟨by first | rfl | ((repeat first | rw [Int.tdiv_eq_ediv_of_nonneg (by omega)] | rw [Int.tmod_eq_emod_of_nonneg (by omega)]); rfl) | (simp; done) | (simp [*]; done), by repeat (first | exact Drawn0.refl _ | apply Drawn0.step)⟩
    · rw [if_neg c3] at H
      have c3b0 : decide (65536 < a0) = false := decide_eq_false c3
      clear c3
      obtain rfl := Option.some.inj H
      go_enter Try.func39, Try.ntmps39
      go_wp2
      go_ret
      exact ⟨by first | rfl | ((repeat first | rw [Int.tdiv_eq_ediv_of_nonneg (by omega)] | rw [Int.tmod_eq_emod_of_nonneg (by omega)]); rfl) | (simp; done) | (simp [*]; done), by repeat (first | exact Drawn0.refl _ | apply Drawn0.step)⟩
end Go.Proofs.Ytajgillnkkkgjaa.P
end
section
/- All records, by the document's All. -/
namespace Go.Proofs.Ytajgillnkkkgjaa.P
open Go.RowKit Go.Proofs.YtajgillnkkkgjaaW.PrintWords Go.Proofs.YtajgillnkkkgjaaW.PrintLast Go.Proofs.YtajgillnkkkgjaaW.PrintMore Go.Proofs.Ytajgillnkkkgjaa.H Go.Proofs.Ytajgillnkkkgjaa.Pure
set_option linter.unusedVariables false
set_option linter.unusedSimpArgs false
end Go.Proofs.Ytajgillnkkkgjaa.P
end
section
-- printed by the session's own call of print.py. Not trusted: Lean checks it.
namespace Go.Proofs.Ytajgillnkkkgjaa.P
open Go.RowKit Go.Proofs.YtajgillnkkkgjaaW.PrintWords Go.Proofs.YtajgillnkkkgjaaW.PrintLast Go.Proofs.YtajgillnkkkgjaaW.PrintMore
attribute [local go_sem] max2_int min2_int max_two min_two max_three min_three max_four min_four
set_option linter.unusedVariables false
set_option linter.unusedSimpArgs false
/-! ### frame_Size: function 38 -/
def frame_Size.f (a0 : Int) : Option (Int) := if a0 < 0 then (some 0) else (if a0 > 65536 then (some 0) else (some (wrap64 (8 + a0))))
set_option maxHeartbeats 8000000 in
set_option maxRecDepth 100000 in
theorem frame_Size.calls (a0 : Int) (r : Int) (w : World) (h : frame_Size.f a0 = some r) :
    Calls Try.prog 38 #[.int .i64 a0] w fun e w' => e = .returned (.int .i64 r) ∧ Drawn0 w w' := by
  have H : (if a0 < 0 then (some 0) else (if a0 > 65536 then (some 0) else (some (wrap64 (8 + a0))))) = some r := h
  clear h
  by_cases c2 : a0 < 0
  · rw [if_pos c2] at H
    have c2b0 : decide (a0 < 0) = true := decide_eq_true c2
    clear c2
    obtain rfl := Option.some.inj H
    go_enter Try.func38, Try.ntmps38
    go_wp2
    go_ret
    exact ⟨by first | rfl | ((repeat first | rw [Int.tdiv_eq_ediv_of_nonneg (by omega)] | rw [Int.tmod_eq_emod_of_nonneg (by omega)]); rfl) | (simp; done) | (simp [*]; done), by repeat (first | exact Drawn0.refl _ | apply Drawn0.step)⟩
  · rw [if_neg c2] at H
    have c2b0 : decide (a0 < 0) = false := decide_eq_false c2
    clear c2
    by_cases c3 : a0 > 65536
    · rw [if_pos c3] at H
      have c3b0 : decide (65536 < a0) = true := decide_eq_true c3
      clear c3
      obtain rfl := Option.some.inj H
      go_enter Try.func38, Try.ntmps38
      go_wp2
      go_ret
      exact ⟨by first | rfl | ((repeat first | rw [Int.tdiv_eq_ediv_of_nonneg (by omega)] | rw [Int.tmod_eq_emod_of_nonneg (by omega)]); rfl) | (simp; done) | (simp [*]; done), by repeat (first | exact Drawn0.refl _ | apply Drawn0.step)⟩
    · rw [if_neg c3] at H
      have c3b0 : decide (65536 < a0) = false := decide_eq_false c3
      clear c3
      obtain rfl := Option.some.inj H
      go_enter Try.func38, Try.ntmps38
      go_wp2
      go_ret
      exact ⟨by first | rfl | ((repeat first | rw [Int.tdiv_eq_ediv_of_nonneg (by omega)] | rw [Int.tmod_eq_emod_of_nonneg (by omega)]); rfl) | (simp; done) | (simp [*]; done), by repeat (first | exact Drawn0.refl _ | apply Drawn0.step)⟩
end Go.Proofs.Ytajgillnkkkgjaa.P
end
section
/- The document's Rows, of rows that are the same. -/
namespace Go.Proofs.Ytajgillnkkkgjaa.P
open Go.RowKit Go.Proofs.YtajgillnkkkgjaaW.PrintWords Go.Proofs.YtajgillnkkkgjaaW.PrintLast Go.Proofs.YtajgillnkkkgjaaW.PrintMore
set_option linter.unusedVariables false
set_option linter.unusedSimpArgs false
abbrev RowsS (w0 : World) (A B : Addr) (i : Nat) (a b : Option Addr) (m c d : Nat) (s : ByteArray) (w' : World) : Prop :=
  Aside0 (Drawn0 w0 w') ∧ w'.cell? (A.add i) = some (.slice a m c) ∧ w'.cell? (B.add i) = some (.slice b m d) ∧ (convert 51 9 (.slice a m c)).run Try.prog w' = Result.ok (Value.string s) w' ∧ (convert 51 9 (.slice b m d)).run Try.prog w' = Result.ok (Value.string s) w'
theorem RowsS.mk {w : World} {A B : Option Addr} {l : List (List Int)} (h0 : (Kd.slice 5 (Kd.int .u8)).C w A l.length l) (h1 : (Kd.slice 5 (Kd.int .u8)).C w B l.length l) (i : Nat) (hi : i < l.length) :
    ∃ ad bd a b m c d s, A = some ad ∧ B = some bd ∧ ∀ W, Drawn0 w W → RowsS w ad bd i a b m c d s W := by
  obtain ⟨ad, a, c, rfl, hc, hl, hC⟩ := rows_at h0 i hi
  obtain ⟨bd, b, d, rfl, hd, hl2, hC2⟩ := rows_at h1 i hi
  refine ⟨ad, bd, a, b, l[i].length, c, d, strOfNums l[i], rfl, rfl, fun W hW => ?_⟩
  have hC' := Kd.C_below hC hW.below
  have hC2' := Kd.C_below hC2 hW.below
  refine ⟨⟨hW⟩, ?_, ?_, Kd.C_string Try.underlying51 Try.underlying5 Try.underlying9 hC', Kd.C_string Try.underlying51 Try.underlying5 Try.underlying9 hC2'⟩
  · obtain ⟨⟨n, rfl⟩⟩ := hW; exact hc
  · obtain ⟨⟨n, rfl⟩⟩ := hW; exact hd
end Go.Proofs.Ytajgillnkkkgjaa.P
end
section
/- What was written is read; 'alive' of chapter 10. -/
namespace Go.Proofs.Ytajgillnkkkgjaa.P
open Go.RowKit Go.Proofs.YtajgillnkkkgjaaW.PrintWords Go.Proofs.YtajgillnkkkgjaaW.PrintLast Go.Proofs.YtajgillnkkkgjaaW.PrintMore Go.Proofs.Ytajgillnkkkgjaa.H Go.Proofs.Ytajgillnkkkgjaa.Pure
set_option linter.unusedVariables false
set_option linter.unusedSimpArgs false
def recP (p : List Int) : List Int := headP p ++ p
theorem headP_len (p : List Int) : (headP p).length = 8 := by simp [headP, putList_len]
theorem recP_len (p : List Int) : (recP p).length = 8 + p.length := by rw [recP, List.length_append, headP_len]
theorem isB_put (x : Int) (k : Nat) : isB (putList x k) := by
  intro y hy
  obtain ⟨i, _, rfl⟩ := List.mem_map.1 hy
  unfold byteAt
  omega
theorem isB_rec {p : List Int} (h : isB p) : isB (recP p) := isB_app (isB_app (isB_put _ _) (isB_put _ _)) h
theorem be4_put (n : Int) (t : List Int) (h0 : 0 ≤ n) (h1 : n < 4294967296) : be4 (putList n 4 ++ t) = n := by
  have e : putList n 4 = [n / 16777216 % 256, n / 65536 % 256, n / 256 % 256, n % 256] := by
    simp [putList, List.range, List.range.loop, byteAt]
  rw [e]
  simp only [be4, List.cons_append, List.nil_append, List.take_succ_cons, List.take_zero, val, List.foldl_cons, List.foldl_nil]
  omega
theorem readP_rec (p t : List Int) (hl : p.length ≤ 65536) : readP (recP p ++ t) = (p, t, 0) := by
  have hs := crcM_range (crcM 0 (putList p.length 4)) p
  have e0 : recP p ++ t = putList p.length 4 ++ (putList (crcM (crcM 0 (putList p.length 4)) p) 4 ++ (p ++ t)) := by simp [recP, headP]
  have l4 : ∀ x, (putList x 4).length = 4 := fun x => putList_len x 4
  have e1 : be4 (recP p ++ t) = p.length := by rw [e0]; exact be4_put _ _ (by omega) (by omega)
  have e2 : (recP p ++ t).drop 4 = putList (crcM (crcM 0 (putList p.length 4)) p) 4 ++ (p ++ t) := by
    rw [e0]; exact List.drop_left' (l4 _)
  have e3 : (recP p ++ t).take 4 = putList p.length 4 := by rw [e0]; exact List.take_left' (l4 _)
  have e4 : (recP p ++ t).drop 8 = p ++ t := by
    rw [show 8 = 4 + 4 from rfl, ← List.drop_drop, e2]; exact List.drop_left' (l4 _)
  have e5 : (recP p ++ t).length = 8 + p.length + t.length := by rw [List.length_append, recP_len]
  unfold readP
  rw [if_neg (by omega), e1, if_neg (by omega), if_neg (by omega), e2, be4_put _ _ hs.1 (by omega), e3, e4, Int.toNat_natCast, List.take_left, List.drop_left, if_neg (by simp)]
theorem wr_flat (b p : List Int) : [b, headP p, p].flatten = b ++ recP p := by simp [recP]
theorem allP_rec (p t : List Int) (k : Nat) (hl : p.length ≤ 65536) : allP (k + 1) (recP p ++ t) = (p :: (allP k t).1, 8 + p.length + (allP k t).2) := by
  rw [allP, readP_rec p t hl]
  simp
theorem allP_nil (k : Nat) : allP k [] = ([], 0) := by
  cases k with
  | zero => rfl
  | succ k =>
    rw [allP]
    rw [if_neg (by unfold readP; rw [if_pos (by decide)]; decide)]
def RdTwoC (x : List Int × List Int × Int) (w : World) (e : Ending) (w' : World) : Prop := ∃ A c B d, e = .returned (.tuple #[.slice A x.1.length c, .slice B x.2.1.length d, .int .i64 x.2.2]) ∧ x.1.length ≤ c ∧ Kd.C (Kd.int .u8) w' A x.1.length x.1 ∧ x.2.1.length ≤ d ∧ Kd.C (Kd.int .u8) w' B x.2.1.length x.2.1 ∧ Below w.heap.size w w'
theorem RdTwo.C {P : Nat → Prop} {x : List Int × List Int × Int} {w w' : World} {e : Ending} (h : RdTwo P x w e w') : RdTwoC x w e w' := by
  obtain ⟨A, c, B, d, h1, h2, h3, h4, h5, h6⟩ := h
  exact ⟨A, c, B, d, h1, h2, Kd.F_now h3, h4, Kd.F_now h5, h6⟩
theorem read_C {l x r : List Int} {y : Int} (hx : readP l = (x, r, y)) {A0 : Option Addr} {c0 : Nat} {w : World} (h0 : Kd.C (Kd.int .u8) w A0 l.length l) (hc0 : l.length ≤ c0) (hb : isB l) :
    Calls Try.prog 40 #[.slice A0 l.length c0] w (RdTwoC (x, r, y) w) := (read_rd A0 c0 l w h0 hc0 hb).mono (fun _ _ h => hx ▸ h.C)
theorem all_C {l : List Int} {ls : List (List Int)} {n : Nat} (hx : allP l.length l = (ls, n)) {A0 : Option Addr} {c0 : Nat} {w : World} (h0 : Kd.C (Kd.int .u8) w A0 l.length l) (hc0 : l.length ≤ c0) (hb : isB l) (hl : l.length ≤ 1000000) :
    Calls Try.prog 42 #[.slice A0 l.length c0] w (RowsPost ls n w) := (all_rd A0 c0 l w h0 hc0 hb hl).mono (fun _ _ h => by rw [hx] at h; exact h)
theorem same_rd {l : List Int} {A0 A1 : Option Addr} {c0 c1 : Nat} {w : World} (h0 : Kd.C (Kd.int .u8) w A0 l.length l) (hc0 : l.length ≤ c0) (h1 : Kd.C (Kd.int .u8) w A1 l.length l) (hc1 : l.length ≤ c1) :
    Calls Try.prog 37 #[.slice A0 l.length c0, .slice A1 l.length c1] w fun e w' => e = .returned (.bool true) ∧ Below w.heap.size w w' := by
  refine (tallymanref08_Same.calls A0 c0 l A1 c1 l true w h0 hc0 h1 hc1 (by unfold tallymanref08_Same.f; simp)).mono ?_
  rintro e w' ⟨rfl, hb⟩
  exact ⟨rfl, hb.below⟩
theorem C_const (w : World) (l : List Int) (hl : l.length ≤ 9223372036854775807) (cs : Array Value) (hcs : cs = (l.map (Value.int .u8)).toArray) (fr : Nat × Nat) : Kd.C (Kd.int .u8) (w.alloc (.cells cs 5 fr)) (some ⟨w.heap.size, 0, none⟩) l.length l := by
  subst hcs
  refine C_of_cells hl ?_
  intro j u hj
  rw [add_plain', cell_of_row _ _ _ _ _ _ (heap_alloc_new w _)]
  simpa using hj
theorem str_eq {xs : List Int} {s : ByteArray} (h : strOfNums xs = s) {P : Program} {w : World} {t A n c} (hc : (convert t 9 (.slice A n c)).run P w = .ok (.string (strOfNums xs)) w) : (convert t 9 (.slice A n c)).run P w = .ok (.string s) w := h ▸ hc
theorem write_nil (A1 : Option Addr) (c1 : Nat) (p : List Int) (w : World) (h1 : Kd.C (Kd.int .u8) w A1 p.length p) (hc1 : p.length ≤ c1) (hp : p.length ≤ 65536) : Calls Try.prog 35 #[.slice none 0 0, .slice A1 p.length c1] w (RdPost2 (recP p) w) :=
  write_rd none 0 [] A1 c1 p (recP p) w (by simp [recP]) (nilC w) (Nat.le_refl _) h1 hc1 hp (by simp)
theorem size38 {n : Nat} (h : n ≤ 65536) (w : World) : Calls Try.prog 38 #[.int .i64 n] w fun e w' => e = .returned (.int .i64 (8 + n)) ∧ Drawn0 w w' := by
  refine frame_Size.calls n (8 + n) w ?_
  unfold frame_Size.f
  rw [if_neg (by omega), if_neg (by omega)]
  congr 1
  unfold wrap64
  omega
def tallymanlaw10_alive.f : Option Bool := some true
set_option maxHeartbeats 1000000 in
set_option maxRecDepth 100000 in
theorem tallymanlaw10_alive.calls (r : Bool) (w : World) (h : tallymanlaw10_alive.f = some r) :
    Calls Try.prog 34 #[] w fun e w' => e = .returned (.bool r) ∧ Below w.heap.size w w' := by
  obtain rfl : true = r := Option.some.inj h
  clear h
  have hc1 : ∀ (W : World) (n c : Nat), (convert 51 51 (.slice (some ⟨W.heap.size, 0, none⟩) n c)).run Try.prog (W.alloc (.cells #[.int .u8 103, .int .u8 111] 5)) = .ok (.slice (some ⟨W.heap.size, 0, none⟩) n c) (W.alloc (.cells #[.int .u8 103, .int .u8 111] 5 (2, 3))) :=
    fun W n c => Go.Lib.run_convert_bytes_const (P := Try.prog) W 51 5 _ n c Try.underlying51 Try.underlying5
  have ip : isB [103, 111] := by intro x hx; simp at hx; omega
  obtain ⟨l, hl⟩ : ∃ l, recP [103, 111] = l := ⟨_, rfl⟩
  have l10 : l.length = 10 := by rw [← hl, recP_len]; rfl
  have il := isB_rec ip
  have hr := readP_rec [103, 111] [] (by decide)
  have ha := allP_rec [103, 111] [] 9 (by decide)
  rw [List.append_nil, hl] at hr ha
  rw [allP_nil, show 9 + 1 = l.length from l10.symm] at ha
  rw [hl] at il
  have k1 : ∀ W : World, Calls Try.prog 35 #[.slice none 0 0, .slice (some ⟨W.heap.size, 0, none⟩) 2 2] (W.alloc (.cells #[.int .u8 103, .int .u8 111] 5 (2, 3))) (RdPost2 l (W.alloc (.cells #[.int .u8 103, .int .u8 111] 5 (2, 3)))) :=
    fun W => hl ▸ write_nil _ 2 [103, 111] _ (C_const W [103, 111] (by decide) _ rfl _) (by decide) (by decide)
  have K1 := Aside0.mk k1; clear k1
  have HR := Aside0.mk hr; have HA := Aside0.mk ha; have HI := Aside0.mk il; have HL := Aside0.mk l10
  have t1 : ((l.length : Int) == 10) = true := by rw [l10]; rfl
  clear hr ha il l10 hl ip
  go_enter Try.func34, Try.ntmps34
  go_wp2_with (first
    | (go_at_call 35; (with_reducible refine (K1.out _).mono ?_); rintro e w1 ⟨A, c, rfl, hcA, hC, hB⟩; have HC := Aside0.mk hC; have HcA := Aside0.mk hcA; have HB1 := Aside0.mk (below_step (below_alloc (Below.refl w.heap.size w) _) hB); clear hC hcA hB)
    | (go_at_call 40; (with_reducible refine (read_C HR.out HC.out HcA.out HI.out).mono ?_); rintro e w2 ⟨B, d, D, f, rfl, hcB, hCB, hcD, hCD, hB⟩; have HCB := Aside0.mk hCB; have HC2 := Aside0.mk (Kd.C_below HC.out hB); have HB2 := Aside0.mk (below_step HB1.out hB); clear hcB hCB hcD hCD hB)
    | (go_at_call 42; (with_reducible refine (all_C HA.out HC2.out HcA.out HI.out (by have := HL.out; omega)).mono ?_); rintro e w3 ⟨E, g, rfl, hcE, hCE, hB⟩; have hcv := str_eq (s := ⟨#[103, 111]⟩) (by rfl) (Kd.C_string (P := Try.prog) (n := 2) (c := d) Try.underlying51 Try.underlying5 Try.underlying9 (Kd.C_below HCB.out hB)); have HB3 := Aside0.mk (below_step HB2.out hB); clear hcE hCE hB)
    | (go_at_call 38; refine (size38 (n := 2) (by decide) _).mono ?_; rintro e w4 ⟨rfl, hd⟩; have HB4 := Aside0.mk (below_step HB3.out hd.below); clear hd))
  go_ret
  exact ⟨rfl, HB4.out⟩
end Go.Proofs.Ytajgillnkkkgjaa.P
end
section
-- printed by the session's own call of print.py. Not trusted: Lean checks it.
namespace Go.Proofs.Ytajgillnkkkgjaa.P
open Go.RowKit Go.Proofs.YtajgillnkkkgjaaW.PrintWords Go.Proofs.YtajgillnkkkgjaaW.PrintLast Go.Proofs.YtajgillnkkkgjaaW.PrintMore
attribute [local go_sem] max2_int min2_int max_two min_two max_three min_three max_four min_four
set_option linter.unusedVariables false
set_option linter.unusedSimpArgs false
/-! ### tallymanref10_Write: function 36 -/
def tallymanref10_Write.f (k : Nat) (l0 : List Int) (l1 : List Int) : Option (List Int × Int) := if (l1.length : Int) > 65536 then (some (([] : List Int), 15)) else ((tallymanref08_Put.f k ([] : List Int) (IntKind.u64.wrap ((l1.length : Int))) 4).bind fun t101 => ((some (([] : List Int) : List Int)).bind fun y104 => (if y104.length + t101.length < 140737488355328 then ((some (y104 ++ t101 : List Int)).bind fun y107 => (if y107.length + l1.length < 140737488355328 then ((tallymanref09_Sum.f k (y107 ++ l1)).bind fun t113 => ((some (([] : List Int) : List Int)).bind fun y114 => (if y114.length + l0.length < 140737488355328 then ((some (y114 ++ l0 : List Int)).bind fun y117 => (if y117.length + t101.length < 140737488355328 then ((tallymanref08_Put.f k (y117 ++ t101) (IntKind.u64.wrap (t113)) 4).bind fun t123 => (if t123.length + l1.length < 140737488355328 then (some ((t123 ++ l1), 0)) else (none))) else (none))) else (none)))) else (none))) else (none))))
theorem tallymanref10_Write.mono : ∀ a0 a1 k, LeO (tallymanref10_Write.f k a0 a1) (tallymanref10_Write.f (k + 1) a0 a1) := by
  intro a0 a1 k
  unfold tallymanref10_Write.f
  repeat' first
      | (with_reducible exact tallymanref08_Put.mono _ _ _ _)
      | (with_reducible exact tallymanref09_Sum.mono _ _)
      | (with_reducible exact LeO.refl _)
      | (with_reducible exact LeO.none _)
      | (with_reducible refine LeO.ite ?_ ?_)
      | (with_reducible refine LeO.bind ?_ (fun _ => ?_))
      | exact tallymanref08_Put.mono _ _ _ _
      | exact tallymanref09_Sum.mono _ _
      | exact LeO.none _
      | refine LeO.ite ?_ ?_
      | refine LeO.bind ?_ (fun _ => ?_)
set_option maxHeartbeats 8000000 in
set_option maxRecDepth 100000 in
theorem tallymanref10_Write.calls (k : Nat) (A0 : Option Addr) (c0 : Nat) (l0 : List Int) (A1 : Option Addr) (c1 : Nat) (l1 : List Int) (r1 : List Int) (r2 : Int) (w : World) (hr0 : Kd.C (Kd.int .u8) w A0 l0.length l0) (hc0 : l0.length ≤ c0) (hr1 : Kd.C (Kd.int .u8) w A1 l1.length l1) (hc1 : l1.length ≤ c1) (h : tallymanref10_Write.f k l0 l1 = some (r1, r2)) :
    Calls Try.prog 36 #[.slice A0 l0.length c0, .slice A1 l1.length c1] w fun e w' => ∃ v0_ : Value, e = .returned (.tuple #[v0_, .int .i64 r2]) ∧ Kd.R (Kd.int .u8) 5 w' w.heap.size (fun _ => True) v0_ r1 ∧ Below w.heap.size w w' := by
  have HR0 := Aside0.mk hr0
  have HC0 := Aside0.mk hc0
  clear hr0 hc0
  have HR1 := Aside0.mk hr1
  have HC1 := Aside0.mk hc1
  clear hr1 hc1
  have HB := Aside0.mk (Below.refl w.heap.size w)
  have H : (if (l1.length : Int) > 65536 then (some (([] : List Int), 15)) else ((tallymanref08_Put.f k ([] : List Int) (IntKind.u64.wrap ((l1.length : Int))) 4).bind fun t101 => ((some (([] : List Int) : List Int)).bind fun y104 => (if y104.length + t101.length < 140737488355328 then ((some (y104 ++ t101 : List Int)).bind fun y107 => (if y107.length + l1.length < 140737488355328 then ((tallymanref09_Sum.f k (y107 ++ l1)).bind fun t113 => ((some (([] : List Int) : List Int)).bind fun y114 => (if y114.length + l0.length < 140737488355328 then ((some (y114 ++ l0 : List Int)).bind fun y117 => (if y117.length + t101.length < 140737488355328 then ((tallymanref08_Put.f k (y117 ++ t101) (IntKind.u64.wrap (t113)) 4).bind fun t123 => (if t123.length + l1.length < 140737488355328 then (some ((t123 ++ l1), 0)) else (none))) else (none))) else (none)))) else (none))) else (none))))) = some (r1, r2) := h
  clear h
  by_cases c3 : (l1.length : Int) > 65536
  · rw [if_pos c3] at H
    have c3b0 : decide (65536 < (l1.length : Int)) = true := decide_eq_true c3
    have c3b1 : decide (65536 < l1.length) = true := decide_eq_true (by omega)
    clear c3
    simp only [Option.some.injEq, Prod.mk.injEq] at H
    obtain ⟨rfl, rfl⟩ := H
    go_enter Try.func36, Try.ntmps36
    go_wp2
    go_ret2
    exact ⟨_, by first | rfl | (simp [errW_none, errW_some] <;> rfl) | (simp [*, errW_none, errW_some] <;> rfl), by first | exact Kd.R_nil _ _ _ _ _ | exact Kd.N_nil _ _ _ _ _ | exact Kd.V_nil _ _ _ _ _ | exact Kd.Q_nil _ _ _ _ _ | exact Kd.S_nil _ _ _ _ _, by repeat (first | (with_reducible first | exact HB.out | apply below_alloc | apply pw_below_drewN | apply below_drew1) | exact HB.out)⟩
  · rw [if_neg c3] at H
    have c3b0 : decide (65536 < (l1.length : Int)) = false := decide_eq_false c3
    have c3b1 : decide (65536 < l1.length) = false := decide_eq_false (by omega)
    clear c3
    replace H := Option.bind_eq_some_iff.mp H
    obtain ⟨t101, A40, H⟩ := H
    replace H : ((some (([] : List Int) : List Int)).bind fun y104 => (if y104.length + t101.length < 140737488355328 then ((some (y104 ++ t101 : List Int)).bind fun y107 => (if y107.length + l1.length < 140737488355328 then ((tallymanref09_Sum.f k (y107 ++ l1)).bind fun t113 => ((some (([] : List Int) : List Int)).bind fun y114 => (if y114.length + l0.length < 140737488355328 then ((some (y114 ++ l0 : List Int)).bind fun y117 => (if y117.length + t101.length < 140737488355328 then ((tallymanref08_Put.f k (y117 ++ t101) (IntKind.u64.wrap (t113)) 4).bind fun t123 => (if t123.length + l1.length < 140737488355328 then (some ((t123 ++ l1), 0)) else (none))) else (none))) else (none)))) else (none))) else (none))) = some (r1, r2) := H
    have A4 := Aside0.mk A40
    clear A40
    obtain ⟨y104, hy104⟩ : ∃ y_ : List Int, y_ = (([] : List Int)) := ⟨_, rfl⟩
    replace H : (if y104.length + t101.length < 140737488355328 then ((some (y104 ++ t101 : List Int)).bind fun y107 => (if y107.length + l1.length < 140737488355328 then ((tallymanref09_Sum.f k (y107 ++ l1)).bind fun t113 => ((some (([] : List Int) : List Int)).bind fun y114 => (if y114.length + l0.length < 140737488355328 then ((some (y114 ++ l0 : List Int)).bind fun y117 => (if y117.length + t101.length < 140737488355328 then ((tallymanref08_Put.f k (y117 ++ t101) (IntKind.u64.wrap (t113)) 4).bind fun t123 => (if t123.length + l1.length < 140737488355328 then (some ((t123 ++ l1), 0)) else (none))) else (none))) else (none)))) else (none))) else (none)) = some (r1, r2) := by first | (rw [hy104]; with_reducible exact H) | (have H2_ := (Option.bind_some _ _).symm.trans H; rw [hy104]; with_reducible exact H2_) | (have H2_ := (Option.bind_some _ _).symm.trans H; with_reducible exact H2_) | with_reducible exact H | (rw [hy104]; exact H) | exact H
    have Ny104 := Aside0.mk hy104
    clear hy104
    by_cases c5 : y104.length + t101.length < 140737488355328
    · rw [if_pos c5] at H
      have LMc5 := Aside0.mk c5
      clear c5
      obtain ⟨y107, hy107⟩ : ∃ y_ : List Int, y_ = (y104 ++ t101) := ⟨_, rfl⟩
      replace H : (if y107.length + l1.length < 140737488355328 then ((tallymanref09_Sum.f k (y107 ++ l1)).bind fun t113 => ((some (([] : List Int) : List Int)).bind fun y114 => (if y114.length + l0.length < 140737488355328 then ((some (y114 ++ l0 : List Int)).bind fun y117 => (if y117.length + t101.length < 140737488355328 then ((tallymanref08_Put.f k (y117 ++ t101) (IntKind.u64.wrap (t113)) 4).bind fun t123 => (if t123.length + l1.length < 140737488355328 then (some ((t123 ++ l1), 0)) else (none))) else (none))) else (none)))) else (none)) = some (r1, r2) := by first | (rw [hy107]; with_reducible exact H) | (have H2_ := (Option.bind_some _ _).symm.trans H; rw [hy107]; with_reducible exact H2_) | (have H2_ := (Option.bind_some _ _).symm.trans H; with_reducible exact H2_) | with_reducible exact H | (rw [hy107]; exact H) | exact H
      have Ny107 := Aside0.mk hy107
      clear hy107
      by_cases c6 : y107.length + l1.length < 140737488355328
      · rw [if_pos c6] at H
        have LMc6 := Aside0.mk c6
        clear c6
        obtain ⟨y110, hy110⟩ : ∃ y_ : List Int, y_ = (y107 ++ l1) := ⟨_, rfl⟩
        replace H : ((tallymanref09_Sum.f k y110).bind fun t113 => ((some (([] : List Int) : List Int)).bind fun y114 => (if y114.length + l0.length < 140737488355328 then ((some (y114 ++ l0 : List Int)).bind fun y117 => (if y117.length + t101.length < 140737488355328 then ((tallymanref08_Put.f k (y117 ++ t101) (IntKind.u64.wrap (t113)) 4).bind fun t123 => (if t123.length + l1.length < 140737488355328 then (some ((t123 ++ l1), 0)) else (none))) else (none))) else (none)))) = some (r1, r2) := by first | (rw [hy110]; with_reducible exact H) | (have H2_ := (Option.bind_some _ _).symm.trans H; rw [hy110]; with_reducible exact H2_) | (have H2_ := (Option.bind_some _ _).symm.trans H; with_reducible exact H2_) | with_reducible exact H | (rw [hy110]; exact H) | exact H
        have Ny110 := Aside0.mk hy110
        clear hy110
        replace H := Option.bind_eq_some_iff.mp H
        obtain ⟨t113, A70, H⟩ := H
        replace H : ((some (([] : List Int) : List Int)).bind fun y114 => (if y114.length + l0.length < 140737488355328 then ((some (y114 ++ l0 : List Int)).bind fun y117 => (if y117.length + t101.length < 140737488355328 then ((tallymanref08_Put.f k (y117 ++ t101) (IntKind.u64.wrap (t113)) 4).bind fun t123 => (if t123.length + l1.length < 140737488355328 then (some ((t123 ++ l1), 0)) else (none))) else (none))) else (none))) = some (r1, r2) := H
        have A7 := Aside0.mk A70
        clear A70
        obtain ⟨y114, hy114⟩ : ∃ y_ : List Int, y_ = (([] : List Int)) := ⟨_, rfl⟩
        replace H : (if y114.length + l0.length < 140737488355328 then ((some (y114 ++ l0 : List Int)).bind fun y117 => (if y117.length + t101.length < 140737488355328 then ((tallymanref08_Put.f k (y117 ++ t101) (IntKind.u64.wrap (t113)) 4).bind fun t123 => (if t123.length + l1.length < 140737488355328 then (some ((t123 ++ l1), 0)) else (none))) else (none))) else (none)) = some (r1, r2) := by first | (rw [hy114]; with_reducible exact H) | (have H2_ := (Option.bind_some _ _).symm.trans H; rw [hy114]; with_reducible exact H2_) | (have H2_ := (Option.bind_some _ _).symm.trans H; with_reducible exact H2_) | with_reducible exact H | (rw [hy114]; exact H) | exact H
        have Ny114 := Aside0.mk hy114
        clear hy114
        by_cases c8 : y114.length + l0.length < 140737488355328
        · rw [if_pos c8] at H
          have LMc8 := Aside0.mk c8
          clear c8
          obtain ⟨y117, hy117⟩ : ∃ y_ : List Int, y_ = (y114 ++ l0) := ⟨_, rfl⟩
          replace H : (if y117.length + t101.length < 140737488355328 then ((tallymanref08_Put.f k (y117 ++ t101) (IntKind.u64.wrap (t113)) 4).bind fun t123 => (if t123.length + l1.length < 140737488355328 then (some ((t123 ++ l1), 0)) else (none))) else (none)) = some (r1, r2) := by first | (rw [hy117]; with_reducible exact H) | (have H2_ := (Option.bind_some _ _).symm.trans H; rw [hy117]; with_reducible exact H2_) | (have H2_ := (Option.bind_some _ _).symm.trans H; with_reducible exact H2_) | with_reducible exact H | (rw [hy117]; exact H) | exact H
          have Ny117 := Aside0.mk hy117
          clear hy117
          by_cases c9 : y117.length + t101.length < 140737488355328
          · rw [if_pos c9] at H
            have LMc9 := Aside0.mk c9
            clear c9
            obtain ⟨y120, hy120⟩ : ∃ y_ : List Int, y_ = (y117 ++ t101) := ⟨_, rfl⟩
            replace H : ((tallymanref08_Put.f k y120 (IntKind.u64.wrap (t113)) 4).bind fun t123 => (if t123.length + l1.length < 140737488355328 then (some ((t123 ++ l1), 0)) else (none))) = some (r1, r2) := by first | (rw [hy120]; with_reducible exact H) | (have H2_ := (Option.bind_some _ _).symm.trans H; rw [hy120]; with_reducible exact H2_) | (have H2_ := (Option.bind_some _ _).symm.trans H; with_reducible exact H2_) | with_reducible exact H | (rw [hy120]; exact H) | exact H
            have Ny120 := Aside0.mk hy120
            clear hy120
            replace H := Option.bind_eq_some_iff.mp H
            obtain ⟨t123, A100, H⟩ := H
            replace H : (if t123.length + l1.length < 140737488355328 then (some ((t123 ++ l1), 0)) else (none)) = some (r1, r2) := H
            have A10 := Aside0.mk A100
            clear A100
            by_cases c11 : t123.length + l1.length < 140737488355328
            · rw [if_pos c11] at H
              have LMc11 := Aside0.mk c11
              clear c11
              obtain ⟨y126, hy126⟩ : ∃ y_ : List Int, y_ = (t123 ++ l1) := ⟨_, rfl⟩
              replace H : (some (y126, 0)) = some (r1, r2) := by first | (rw [hy126]; with_reducible exact H) | (have H2_ := (Option.bind_some _ _).symm.trans H; rw [hy126]; with_reducible exact H2_) | (have H2_ := (Option.bind_some _ _).symm.trans H; with_reducible exact H2_) | with_reducible exact H | (rw [hy126]; exact H) | exact H
              have Ny126 := Aside0.mk hy126
              clear hy126
              simp only [Option.some.injEq, Prod.mk.injEq] at H
              obtain ⟨rfl, rfl⟩ := H
              go_enter Try.func36, Try.ntmps36
              go_wp2_with (first | ((with_reducible refine gate_callee (f := 79) rfl ?_); refine goesL_ (some 15) rfl rfl Try.func79 (by kernel_rfl) rfl #[.slice none 0 0, .int .u64 (IntKind.u64.wrap ((l1.length : Int))), .int .i64 4] rfl (by (try simp only [List.map_toArray, List.map_cons, List.map_nil]); first | done | rfl | (simp only [List.length_drop, List.length_take]; rfl)) ?_; (refine (tallymanref08_Put.calls k _ _ ([] : List Int) (IntKind.u64.wrap ((l1.length : Int))) 4 t101 _ ?side1 ?side2 A4.out).mono ?_); (case side1 => exact Kd.C_nil _ _); (case side2 => exact Nat.le_refl _); rintro e w12 ⟨v102, rfl, ho0, hb⟩; refine ⟨_, rfl, ?_⟩; have n0_ := Aside0.mk (Kd.R_lower ho0 (below_size (by repeat (first | (with_reducible first | exact HB.out | apply below_alloc | apply pw_below_drewN | apply below_drew1) | exact HB.out)))); have n1_ := Aside0.mk (below_step (by repeat (first | (with_reducible first | exact HB.out | apply below_alloc | apply pw_below_drewN | apply below_drew1) | exact HB.out)) hb); clear HB; have HO103 := n0_; have HB := n1_; clear n0_ n1_; (try clear hb); (try clear hb2); (try clear hk); (try clear hi); (try clear ho0)) | ((with_reducible refine gate_dst (N := 16) rfl ?_); refine Kd.R_lit (Kd.int .u8) _ 5 ?hg (N := 16) ?hd (xs := ([] : List Int)) (inner := []) (ok := fun _ => True) (okp := fun _ => True) ?hr ?hp (fun _ hk => hk) trivial (Below.refl _ _) (Nat.le_refl _) (by simp) ?_; (case hd => rfl); (case hg => rfl); (case hr => first | (go_simp; done) | (go_simp; rfl)); (case hp => exact (Reps.none _ _)); intro v105 w13 ho14 hb hg_ hnew_; clear hg_ hnew_; (first | rw [← Ny104.out] at ho14 | (simp only [Int.reduceToNat] at ho14; rw [← Ny104.out] at ho14)); have n0_ := Aside0.mk (Kd.R_elder' (by (with_reducible repeat (first | apply Kd.R_alloc | apply Kd.R_drewN | apply Kd.R_drew)); exact HO103.out) (Kd.R_base ho14) hb); have n1_ := Aside0.mk (Kd.R_lower (Kd.R_new' ho14 (Kd.R_lt (by (with_reducible repeat (first | apply Kd.R_alloc | apply Kd.R_drewN | apply Kd.R_drew)); exact HO103.out))) (below_size (by repeat (first | (with_reducible first | exact HB.out | apply below_alloc | apply pw_below_drewN | apply below_drew1) | exact HB.out)))); have n2_ := Aside0.mk (below_step (by repeat (first | (with_reducible first | exact HB.out | apply below_alloc | apply pw_below_drewN | apply below_drew1) | exact HB.out)) hb); clear HO103; clear HB; have HO103 := n0_; have HO106 := n1_; have HB := n2_; clear n0_ n1_ n2_; clear hb ho14; obtain ⟨Ao16, co16, eo16⟩ := Kd.R_slice HO103.out; subst eo16) | ((with_reducible refine gate_builtin (b := .append) (xs := #[.tmp 16, .tmp 17]) rfl ?_); at_builtin; refine Kd.R_append_rows (Kd.int .u8) (w0 := w) w.heap.size rfl (.tmp 16) (.tmp 17) 51 5 (.int .u8 0) 1 rfl Try.underlying51 info5 rfl (by decide) (by omega) v105 y104 t101 _ _ _ (fun k_ => some k_ ≠ (.slice Ao16 t101.length co16 : Value).ownBlock) (fun _ => False) rfl rfl ?aO ?aR (fun _ _ h => h) (fun _ h => h.elim) ?aF ?aB ?aS ?aL ?_; (case aR => repeat (first | exact (Kd.R_reads' HO103.out).2.2 | (with_reducible refine Kd.C_alloc ?_ _) | (with_reducible refine Kd.C_drewN ?_ _) | (with_reducible refine Kd.C_drew ?_))); (case aB => exact (by repeat (first | (with_reducible first | exact HB.out | apply below_alloc | apply pw_below_drewN | apply below_drew1) | exact HB.out))); (case aF => exact (fun k_ hk => Kd.fresh' (Kd.R_lt (by (with_reducible repeat (first | apply Kd.R_alloc | apply Kd.R_drewN | apply Kd.R_drew)); exact HO103.out)) k_ hk)); (case aO => exact (by (with_reducible repeat (first | apply Kd.R_alloc | apply Kd.R_drewN | apply Kd.R_drew)); exact Kd.R_mono HO106.out (fun _ hk => hk.2))); (case aS => exact (below_size (by repeat (first | (with_reducible first | exact HB.out | apply below_alloc | apply pw_below_drewN | apply below_drew1) | exact HB.out)))); (case aL => have := LMc5.out; omega); intro v108 w15 ho hb hg hat; rw [← Ny107.out] at ho; have n0_ := Aside0.mk (Kd.R_after (ok := (fun _ => True)) (by (with_reducible repeat (first | apply Kd.R_alloc | apply Kd.R_drewN | apply Kd.R_drew)); exact HO103.out) hg hat); have n1_ := Aside0.mk (hb); have n2_ := Aside0.mk (ho); clear HO103; clear HB; clear HO106; have HO103 := n0_; have HB := n1_; have HO109 := n2_; clear n0_ n1_ n2_; clear ho hb hg hat) | ((with_reducible refine gate_builtin (b := .append) (xs := #[.tmp 18, .tmp 19]) rfl ?_); at_builtin; refine Kd.R_append_rows (Kd.int .u8) (w0 := w) w.heap.size rfl (.tmp 18) (.tmp 19) 51 5 (.int .u8 0) 1 rfl Try.underlying51 info5 rfl (by decide) (by omega) v108 y107 l1 _ _ _ (fun k_ => some k_ ≠ (.slice Ao16 t101.length co16 : Value).ownBlock) (fun _ => False) rfl rfl ?aO ?aR (fun _ _ h => h) (fun _ h => h.elim) ?aF ?aB ?aS ?aL ?_; (case aR => repeat (first | exact (Kd.C_below HR1.out HB.out) | (with_reducible refine Kd.C_alloc ?_ _) | (with_reducible refine Kd.C_drewN ?_ _) | (with_reducible refine Kd.C_drew ?_))); (case aB => exact (by repeat (first | (with_reducible first | exact HB.out | apply below_alloc | apply pw_below_drewN | apply below_drew1) | exact HB.out))); (case aF => exact (fun k_ hk => Kd.fresh' (Kd.R_lt (by (with_reducible repeat (first | apply Kd.R_alloc | apply Kd.R_drewN | apply Kd.R_drew)); exact HO103.out)) k_ hk)); (case aO => exact (by (with_reducible repeat (first | apply Kd.R_alloc | apply Kd.R_drewN | apply Kd.R_drew)); exact HO109.out)); (case aS => exact (below_size (by repeat (first | (with_reducible first | exact HB.out | apply below_alloc | apply pw_below_drewN | apply below_drew1) | exact HB.out)))); (case aL => have := LMc6.out; omega); intro v111 w17 ho hb hg hat; rw [← Ny110.out] at ho; have n0_ := Aside0.mk (Kd.R_after (ok := (fun _ => True)) (by (with_reducible repeat (first | apply Kd.R_alloc | apply Kd.R_drewN | apply Kd.R_drew)); exact HO103.out) hg hat); have n1_ := Aside0.mk (hb); have n2_ := Aside0.mk (ho); clear HO103; clear HB; clear HO109; have HO103 := n0_; have HB := n1_; have HO112 := n2_; clear n0_ n1_ n2_; clear ho hb hg hat; obtain ⟨Ao18, co18, eo18⟩ := Kd.R_slice HO112.out; subst eo18) | ((with_reducible refine gate_callee (f := 80) rfl ?_); refine goesL_ (some 21) rfl rfl Try.func80 (by kernel_rfl) rfl #[.slice Ao18 y110.length co18] rfl (by (try simp only [List.map_toArray, List.map_cons, List.map_nil]); first | done | rfl | (simp only [List.length_drop, List.length_take]; rfl)) ?_; (with_reducible refine (tallymanref09_Sum.calls k _ _ y110 t113 _ ?side1 ?side2 A7.out).mono ?_); (case side1 => repeat (first | exact (Kd.R_reads' HO112.out).2.2 | (with_reducible refine Kd.C_alloc ?_ _) | (with_reducible refine Kd.C_drewN ?_ _) | (with_reducible refine Kd.C_drew ?_))); (case side2 => exact (Kd.R_reads' HO112.out).2.1); rintro e w' ⟨rfl, ⟨nd, rfl⟩⟩; refine ⟨_, rfl, ?_⟩) | ((with_reducible refine gate_dst (N := 22) rfl ?_); refine Kd.R_lit (Kd.int .u8) _ 5 ?hg (N := 22) ?hd (xs := ([] : List Int)) (inner := []) (ok := fun _ => True) (okp := fun _ => True) ?hr ?hp (fun _ hk => hk) trivial (Below.refl _ _) (Nat.le_refl _) (by simp) ?_; (case hd => rfl); (case hg => rfl); (case hr => first | (go_simp; done) | (go_simp; rfl)); (case hp => exact (Reps.none _ _)); intro v115 w19 ho20 hb hg_ hnew_; clear hg_ hnew_; (first | rw [← Ny114.out] at ho20 | (simp only [Int.reduceToNat] at ho20; rw [← Ny114.out] at ho20)); have n0_ := Aside0.mk (Kd.R_elder' (by (with_reducible repeat (first | apply Kd.R_alloc | apply Kd.R_drewN | apply Kd.R_drew)); exact HO103.out) (Kd.R_base ho20) hb); have n1_ := Aside0.mk (Kd.R_elder' (by (with_reducible repeat (first | apply Kd.R_alloc | apply Kd.R_drewN | apply Kd.R_drew)); exact HO112.out) (Kd.R_base ho20) hb); have n2_ := Aside0.mk (Kd.R_lower (Kd.R_new' (Kd.R_new' ho20 (Kd.R_lt (by (with_reducible repeat (first | apply Kd.R_alloc | apply Kd.R_drewN | apply Kd.R_drew)); exact HO103.out))) (Kd.R_lt (by (with_reducible repeat (first | apply Kd.R_alloc | apply Kd.R_drewN | apply Kd.R_drew)); exact HO112.out))) (below_size (by repeat (first | (with_reducible first | exact HB.out | apply below_alloc | apply pw_below_drewN | apply below_drew1) | exact HB.out)))); have n3_ := Aside0.mk (below_step (by repeat (first | (with_reducible first | exact HB.out | apply below_alloc | apply pw_below_drewN | apply below_drew1) | exact HB.out)) hb); clear HO103; clear HO112; clear HB; have HO103 := n0_; have HO112 := n1_; have HO116 := n2_; have HB := n3_; clear n0_ n1_ n2_ n3_; clear hb ho20) | ((with_reducible refine gate_builtin (b := .append) (xs := #[.tmp 22, .tmp 23]) rfl ?_); at_builtin; refine Kd.R_append_rows (Kd.int .u8) (w0 := w) w.heap.size rfl (.tmp 22) (.tmp 23) 51 5 (.int .u8 0) 1 rfl Try.underlying51 info5 rfl (by decide) (by omega) v115 y114 l0 _ _ _ (fun k_ => some k_ ≠ (.slice Ao16 t101.length co16 : Value).ownBlock ∧ some k_ ≠ (.slice Ao18 y110.length co18 : Value).ownBlock) (fun _ => False) rfl rfl ?aO ?aR (fun _ _ h => h) (fun _ h => h.elim) ?aF ?aB ?aS ?aL ?_; (case aR => repeat (first | exact (Kd.C_below HR0.out HB.out) | (with_reducible refine Kd.C_alloc ?_ _) | (with_reducible refine Kd.C_drewN ?_ _) | (with_reducible refine Kd.C_drew ?_))); (case aB => exact (by repeat (first | (with_reducible first | exact HB.out | apply below_alloc | apply pw_below_drewN | apply below_drew1) | exact HB.out))); (case aF => exact (fun k_ hk => ⟨Kd.fresh' (Kd.R_lt (by (with_reducible repeat (first | apply Kd.R_alloc | apply Kd.R_drewN | apply Kd.R_drew)); exact HO103.out)) k_ hk, Kd.fresh' (Kd.R_lt (by (with_reducible repeat (first | apply Kd.R_alloc | apply Kd.R_drewN | apply Kd.R_drew)); exact HO112.out)) k_ hk⟩)); (case aO => exact (by (with_reducible repeat (first | apply Kd.R_alloc | apply Kd.R_drewN | apply Kd.R_drew)); exact Kd.R_mono HO116.out (fun _ hk => ⟨hk.1.2, hk.2⟩))); (case aS => exact (below_size (by repeat (first | (with_reducible first | exact HB.out | apply below_alloc | apply pw_below_drewN | apply below_drew1) | exact HB.out)))); (case aL => have := LMc8.out; omega); intro v118 w21 ho hb hg hat; rw [← Ny117.out] at ho; have n0_ := Aside0.mk (Kd.R_after (ok := (fun k_ => some k_ ≠ (.slice Ao18 y110.length co18 : Value).ownBlock)) (by (with_reducible repeat (first | apply Kd.R_alloc | apply Kd.R_drewN | apply Kd.R_drew)); exact Kd.R_mono HO103.out (fun _ hk => ⟨hk.1.2, hk.2⟩)) hg hat); have n1_ := Aside0.mk (Kd.R_after (ok := (fun k_ => some k_ ≠ (.slice Ao16 t101.length co16 : Value).ownBlock)) (by (with_reducible repeat (first | apply Kd.R_alloc | apply Kd.R_drewN | apply Kd.R_drew)); exact HO112.out) hg hat); have n2_ := Aside0.mk (hb); have n3_ := Aside0.mk (ho); clear HO103; clear HO112; clear HB; clear HO116; have HO103 := n0_; have HO112 := n1_; have HB := n2_; have HO119 := n3_; clear n0_ n1_ n2_ n3_; clear ho hb hg hat) | ((with_reducible refine gate_builtin (b := .append) (xs := #[.tmp 24, .tmp 25]) rfl ?_); at_builtin; refine Kd.R_append_rows (Kd.int .u8) (w0 := w) w.heap.size rfl (.tmp 24) (.tmp 25) 51 5 (.int .u8 0) 1 rfl Try.underlying51 info5 rfl (by decide) (by omega) v118 y117 t101 _ _ _ (fun k_ => some k_ ≠ (.slice Ao16 t101.length co16 : Value).ownBlock ∧ some k_ ≠ (.slice Ao18 y110.length co18 : Value).ownBlock) (fun _ => False) rfl rfl ?aO ?aR (fun _ _ h => h) (fun _ h => h.elim) ?aF ?aB ?aS ?aL ?_; (case aR => repeat (first | exact (Kd.R_reads' HO103.out).2.2 | (with_reducible refine Kd.C_alloc ?_ _) | (with_reducible refine Kd.C_drewN ?_ _) | (with_reducible refine Kd.C_drew ?_))); (case aB => exact (by repeat (first | (with_reducible first | exact HB.out | apply below_alloc | apply pw_below_drewN | apply below_drew1) | exact HB.out))); (case aF => exact (fun k_ hk => ⟨Kd.fresh' (Kd.R_lt (by (with_reducible repeat (first | apply Kd.R_alloc | apply Kd.R_drewN | apply Kd.R_drew)); exact HO103.out)) k_ hk, Kd.fresh' (Kd.R_lt (by (with_reducible repeat (first | apply Kd.R_alloc | apply Kd.R_drewN | apply Kd.R_drew)); exact HO112.out)) k_ hk⟩)); (case aO => exact (by (with_reducible repeat (first | apply Kd.R_alloc | apply Kd.R_drewN | apply Kd.R_drew)); exact HO119.out)); (case aS => exact (below_size (by repeat (first | (with_reducible first | exact HB.out | apply below_alloc | apply pw_below_drewN | apply below_drew1) | exact HB.out)))); (case aL => have := LMc9.out; omega); intro v121 w22 ho hb hg hat; rw [← Ny120.out] at ho; have n0_ := Aside0.mk (Kd.R_after (ok := (fun k_ => some k_ ≠ (.slice Ao18 y110.length co18 : Value).ownBlock)) (by (with_reducible repeat (first | apply Kd.R_alloc | apply Kd.R_drewN | apply Kd.R_drew)); exact HO103.out) hg hat); have n1_ := Aside0.mk (Kd.R_after (ok := (fun k_ => some k_ ≠ (.slice Ao16 t101.length co16 : Value).ownBlock)) (by (with_reducible repeat (first | apply Kd.R_alloc | apply Kd.R_drewN | apply Kd.R_drew)); exact HO112.out) hg hat); have n2_ := Aside0.mk (hb); have n3_ := Aside0.mk (ho); clear HO103; clear HO112; clear HB; clear HO119; have HO103 := n0_; have HO112 := n1_; have HB := n2_; have HO122 := n3_; clear n0_ n1_ n2_ n3_; clear ho hb hg hat; obtain ⟨Ao23, co23, eo23⟩ := Kd.R_slice HO122.out; subst eo23) | ((with_reducible refine gate_callee (f := 79) rfl ?_); refine goesL_ (some 30) rfl rfl Try.func79 (by kernel_rfl) rfl #[.slice Ao23 y120.length co23, .int .u64 (IntKind.u64.wrap (t113)), .int .i64 4] rfl (by (try simp only [List.map_toArray, List.map_cons, List.map_nil]); first | done | rfl | (simp only [List.length_drop, List.length_take]; rfl)) ?_; (with_reducible refine (tallymanref08_Put.calls k _ _ y120 (IntKind.u64.wrap (t113)) 4 t123 _ ?side1 ?side2 A10.out).mono ?_); (case side1 => repeat (first | exact (Kd.R_reads' HO122.out).2.2 | (with_reducible refine Kd.C_alloc ?_ _) | (with_reducible refine Kd.C_drewN ?_ _) | (with_reducible refine Kd.C_drew ?_))); (case side2 => exact (Kd.R_reads' HO122.out).2.1); rintro e w24 ⟨v124, rfl, ho0, hb⟩; refine ⟨_, rfl, ?_⟩; have n0_ := Aside0.mk (Kd.R_elder' (by (with_reducible repeat (first | apply Kd.R_alloc | apply Kd.R_drewN | apply Kd.R_drew)); exact HO103.out) (Kd.R_base ho0) hb); have n1_ := Aside0.mk (Kd.R_elder' (by (with_reducible repeat (first | apply Kd.R_alloc | apply Kd.R_drewN | apply Kd.R_drew)); exact HO112.out) (Kd.R_base ho0) hb); have n2_ := Aside0.mk (Kd.R_elder' (by (with_reducible repeat (first | apply Kd.R_alloc | apply Kd.R_drewN | apply Kd.R_drew)); exact HO122.out) (Kd.R_base ho0) hb); have n3_ := Aside0.mk (Kd.R_lower (Kd.R_new' (Kd.R_new' (Kd.R_new' ho0 (Kd.R_lt (by (with_reducible repeat (first | apply Kd.R_alloc | apply Kd.R_drewN | apply Kd.R_drew)); exact HO103.out))) (Kd.R_lt (by (with_reducible repeat (first | apply Kd.R_alloc | apply Kd.R_drewN | apply Kd.R_drew)); exact HO112.out))) (Kd.R_lt (by (with_reducible repeat (first | apply Kd.R_alloc | apply Kd.R_drewN | apply Kd.R_drew)); exact HO122.out))) (below_size (by repeat (first | (with_reducible first | exact HB.out | apply below_alloc | apply pw_below_drewN | apply below_drew1) | exact HB.out)))); have n4_ := Aside0.mk (below_step (by repeat (first | (with_reducible first | exact HB.out | apply below_alloc | apply pw_below_drewN | apply below_drew1) | exact HB.out)) hb); clear HO103; clear HO112; clear HO122; clear HB; have HO103 := n0_; have HO112 := n1_; have HO122 := n2_; have HO125 := n3_; have HB := n4_; clear n0_ n1_ n2_ n3_ n4_; (try clear hb); (try clear hb2); (try clear hk); (try clear hi); (try clear ho0)) | ((with_reducible refine gate_builtin (b := .append) (xs := #[.tmp 31, .tmp 32]) rfl ?_); at_builtin; refine Kd.R_append_rows (Kd.int .u8) (w0 := w) w.heap.size rfl (.tmp 31) (.tmp 32) 51 5 (.int .u8 0) 1 rfl Try.underlying51 info5 rfl (by decide) (by omega) v124 t123 l1 _ _ _ (fun k_ => some k_ ≠ (.slice Ao16 t101.length co16 : Value).ownBlock ∧ some k_ ≠ (.slice Ao18 y110.length co18 : Value).ownBlock ∧ some k_ ≠ (.slice Ao23 y120.length co23 : Value).ownBlock) (fun _ => False) rfl rfl ?aO ?aR (fun _ _ h => h) (fun _ h => h.elim) ?aF ?aB ?aS ?aL ?_; (case aR => repeat (first | exact (Kd.C_below HR1.out HB.out) | (with_reducible refine Kd.C_alloc ?_ _) | (with_reducible refine Kd.C_drewN ?_ _) | (with_reducible refine Kd.C_drew ?_))); (case aB => exact (by repeat (first | (with_reducible first | exact HB.out | apply below_alloc | apply pw_below_drewN | apply below_drew1) | exact HB.out))); (case aF => exact (fun k_ hk => ⟨Kd.fresh' (Kd.R_lt (by (with_reducible repeat (first | apply Kd.R_alloc | apply Kd.R_drewN | apply Kd.R_drew)); exact HO103.out)) k_ hk, Kd.fresh' (Kd.R_lt (by (with_reducible repeat (first | apply Kd.R_alloc | apply Kd.R_drewN | apply Kd.R_drew)); exact HO112.out)) k_ hk, Kd.fresh' (Kd.R_lt (by (with_reducible repeat (first | apply Kd.R_alloc | apply Kd.R_drewN | apply Kd.R_drew)); exact HO122.out)) k_ hk⟩)); (case aO => exact (by (with_reducible repeat (first | apply Kd.R_alloc | apply Kd.R_drewN | apply Kd.R_drew)); exact Kd.R_mono HO125.out (fun _ hk => ⟨hk.1.1.2, ⟨hk.1.2, hk.2⟩⟩))); (case aS => exact (below_size (by repeat (first | (with_reducible first | exact HB.out | apply below_alloc | apply pw_below_drewN | apply below_drew1) | exact HB.out)))); (case aL => have := LMc11.out; omega); intro v127 w25 ho hb hg hat; rw [← Ny126.out] at ho; have n0_ := Aside0.mk (Kd.R_after (ok := (fun k_ => some k_ ≠ (.slice Ao18 y110.length co18 : Value).ownBlock ∧ some k_ ≠ (.slice Ao23 y120.length co23 : Value).ownBlock)) (by (with_reducible repeat (first | apply Kd.R_alloc | apply Kd.R_drewN | apply Kd.R_drew)); exact HO103.out) hg hat); have n1_ := Aside0.mk (Kd.R_after (ok := (fun k_ => some k_ ≠ (.slice Ao16 t101.length co16 : Value).ownBlock ∧ some k_ ≠ (.slice Ao23 y120.length co23 : Value).ownBlock)) (by (with_reducible repeat (first | apply Kd.R_alloc | apply Kd.R_drewN | apply Kd.R_drew)); exact HO112.out) hg hat); have n2_ := Aside0.mk (Kd.R_after (ok := (fun k_ => some k_ ≠ (.slice Ao16 t101.length co16 : Value).ownBlock ∧ some k_ ≠ (.slice Ao18 y110.length co18 : Value).ownBlock)) (by (with_reducible repeat (first | apply Kd.R_alloc | apply Kd.R_drewN | apply Kd.R_drew)); exact HO122.out) hg hat); have n3_ := Aside0.mk (hb); have n4_ := Aside0.mk (ho); clear HO103; clear HO112; clear HO122; clear HB; clear HO125; have HO103 := n0_; have HO112 := n1_; have HO122 := n2_; have HB := n3_; have HO128 := n4_; clear n0_ n1_ n2_ n3_ n4_; clear ho hb hg hat))
              go_ret2
              exact ⟨_, by first | rfl | (simp [errW_none, errW_some] <;> rfl) | (simp [*, errW_none, errW_some] <;> rfl), by (with_reducible repeat (first | apply Kd.R_alloc | apply Kd.R_drewN | apply Kd.R_drew)); exact Kd.R_mono HO128.out (fun _ hk => trivial), by repeat (first | (with_reducible first | exact HB.out | apply below_alloc | apply pw_below_drewN | apply below_drew1) | exact HB.out)⟩
            · rw [if_neg c11] at H
              exact absurd H (by simp)
          · rw [if_neg c9] at H
            exact absurd H (by simp)
        · rw [if_neg c8] at H
          exact absurd H (by simp)
      · rw [if_neg c6] at H
        exact absurd H (by simp)
    · rw [if_neg c5] at H
      exact absurd H (by simp)
end Go.Proofs.Ytajgillnkkkgjaa.P
end
section
/- The law FrameWrites, walked. -/
namespace Go.Proofs.Ytajgillnkkkgjaa.P
open Go.RowKit Go.Proofs.YtajgillnkkkgjaaW.PrintWords Go.Proofs.YtajgillnkkkgjaaW.PrintLast Go.Proofs.YtajgillnkkkgjaaW.PrintMore Go.Proofs.Ytajgillnkkkgjaa.H Go.Proofs.Ytajgillnkkkgjaa.Pure
set_option linter.unusedVariables false
set_option linter.unusedSimpArgs false
theorem alive7 (w : World) : Calls Try.prog 34 #[] w fun e w' => e = .returned (.bool true) ∧ Below w.heap.size w w' := tallymanlaw10_alive.calls true w rfl
theorem refwrite_ev (b p : List Int) (hb : b.length ≤ 300) (hp : p.length ≤ 300) (ip : isB p) : Ev (fun k => tallymanref10_Write.f k b p) (b ++ recP p, 0) := by
  unfold tallymanref10_Write.f
  simp only [if_neg (show ¬ (p.length : Int) > 65536 by omega)]
  have hw : IntKind.u64.wrap (p.length : Int) = p.length := by show (p.length : Int) % 18446744073709551616 = _; omega
  rw [hw]
  refine Ev.bind (put_ref [] p.length 4 (by omega) (by omega) (by simp)) ?_
  rw [show kOf 4 = 4 from rfl, List.nil_append]
  have l4 : ∀ x, (putList x 4).length = 4 := fun x => putList_len x 4
  simp only [Option.bind_some, List.nil_append, List.length_nil, Nat.zero_add]
  have hs := crcM_range 0 (putList p.length 4 ++ p)
  have h4 := l4 (p.length : Int)
  simp only [if_pos (show (putList (p.length : Int) 4).length < 140737488355328 by omega), if_pos (show (putList (p.length : Int) 4).length + p.length < 140737488355328 by omega)]
  refine Ev.bind (sum_ref (isB_app (isB_put _ _) ip) (by rw [List.length_append, l4]; omega)) ?_
  rw [← crcM_app] at hs ⊢
  have hw2 : IntKind.u64.wrap (crcM (crcM 0 (putList p.length 4)) p) = crcM (crcM 0 (putList p.length 4)) p := by show _ % 18446744073709551616 = _; omega
  simp only [if_pos (show b.length < 140737488355328 by omega), if_pos (show b.length + (putList (p.length : Int) 4).length < 140737488355328 by omega), hw2]
  refine Ev.bind (put_ref (b ++ putList p.length 4) _ 4 (by omega) (by omega) (by rw [List.length_append, l4]; omega)) ?_
  have e : b ++ putList p.length 4 ++ putList (crcM (crcM 0 (putList p.length 4)) p) 4 ++ p = b ++ recP p := by simp [recP, headP]
  rw [show kOf 4 = 4 from rfl]
  simp only [if_pos (show (b ++ putList (p.length : Int) 4 ++ putList (crcM (crcM 0 (putList p.length 4)) p) 4).length + p.length < 140737488355328 by simp only [List.length_append, l4]; omega)]
  rw [e]
  exact Ev.now _
def RdPostE (l : List Int) (y : Int) (w : World) (e : Ending) (w' : World) : Prop := ∃ A c, e = .returned (.tuple #[.slice A l.length c, .int .i64 y]) ∧ l.length ≤ c ∧ Kd.C (Kd.int .u8) w' A l.length l ∧ Below w.heap.size w w'
theorem write_C (A0 : Option Addr) (c0 : Nat) (b : List Int) (A1 : Option Addr) (c1 : Nat) (p r : List Int) (hr : b ++ recP p = r) (w : World) (h0 : Kd.C (Kd.int .u8) w A0 b.length b) (hc0 : b.length ≤ c0) (h1 : Kd.C (Kd.int .u8) w A1 p.length p) (hc1 : p.length ≤ c1) (hp : p.length ≤ 65536) (hb : b.length ≤ 1000000) :
    Calls Try.prog 35 #[.slice A0 b.length c0, .slice A1 p.length c1] w (RdPostE r 0 w) := write_rd A0 c0 b A1 c1 p r w (by rw [← hr]; exact wr_flat b p) h0 hc0 h1 hc1 hp hb
theorem write_big (A0 : Option Addr) (c0 n0 : Nat) (A1 : Option Addr) (c1 n : Nat) (w : World) (hp : 65536 < n) (hn : n ≤ 9223372036854775807) :
    Calls Try.prog 35 #[.slice A0 n0 c0, .slice A1 n c1] w (RdPostE [] 15 w) := by
  have t0 : decide ((65536 : Int) < n) = true := by simp; omega
  go_enter Try.func35, Try.ntmps35
  go_wp2
  go_ret2
  exact ⟨none, 0, rfl, Nat.le_refl _, nilC _, Below.refl _ _⟩
theorem refwrite_C {k : Nat} {b p r : List Int} {y : Int} (h : tallymanref10_Write.f k b p = some (r, y)) {A0 : Option Addr} {c0 : Nat} {A1 : Option Addr} {c1 : Nat} {w : World} (h0 : Kd.C (Kd.int .u8) w A0 b.length b) (hc0 : b.length ≤ c0) (h1 : Kd.C (Kd.int .u8) w A1 p.length p) (hc1 : p.length ≤ c1) :
    Calls Try.prog 36 #[.slice A0 b.length c0, .slice A1 p.length c1] w (RdPostE r y w) := by
  refine (tallymanref10_Write.calls k A0 c0 b A1 c1 p r y w h0 hc0 h1 hc1 h).mono ?_
  rintro e w' ⟨v, rfl, hR, hB⟩
  obtain ⟨A, c, rfl, hc, hC⟩ := rd_of_R hR
  exact ⟨A, c, rfl, hc, hC, hB⟩
set_option maxHeartbeats 2000000 in
set_option maxRecDepth 100000 in
/-- The law's one path: both writes answer r and y. -/
theorem writes_path (A0 : Option Addr) (c0 : Nat) (b : List Int) (A1 : Option Addr) (c1 : Nat) (p r : List Int) (y n s : Int) (w : World) (h0 : Kd.C (Kd.int .u8) w A0 b.length b) (hc0 : b.length ≤ c0) (h1 : Kd.C (Kd.int .u8) w A1 p.length p) (hc1 : p.length ≤ c1) (hb : b.length ≤ 300) (hp : p.length ≤ 300 ∨ 65536 < p.length)
    (hw : ∀ W, Below w.heap.size w W → Calls Try.prog 35 #[.slice A0 b.length c0, .slice A1 p.length c1] W (RdPostE r y W)) (hw2 : ∀ W, Below w.heap.size w W → Calls Try.prog 36 #[.slice A0 b.length c0, .slice A1 p.length c1] W (RdPostE r y W))
    (hs : frame_Size.f n = some s) (hs2 : tallymanref10_Size.f n = some s) :
    Calls Try.prog 7 #[.slice A0 b.length c0, .slice A1 p.length c1, .int .i64 n] w fun e w' => e = .returned (.bool true) ∧ Below w.heap.size w w' := by
  have hmax := Kd.C_max h0
  have hmax2 := Kd.C_max h1
  have t1 : decide ((300 : Int) < b.length) = false := by simp; omega
  have W1 := Aside0.mk hw; have W2 := Aside0.mk hw2; have S1 := Aside0.mk hs; have S2 := Aside0.mk hs2
  have u1 : (y == y) = true := by simp
  have u2 : (s == s) = true := by simp
  clear h0 h1 hw hw2 hs hs2 hb
  rcases hp with g | g
  · have t2 : decide ((300 : Int) < p.length) = false := by simp; omega
    clear g
    go_enter Try.func7, Try.ntmps7
    go_wp2_with (first
      | (go_at_call 35; (with_reducible refine (W1.out _ (Below.refl _ _)).mono ?_); rintro e w1 ⟨B, d, rfl, hcB, hCB, hB⟩; have X1 := Aside0.mk hCB; have XC := Aside0.mk hcB; have HB1 := Aside0.mk hB; clear hcB hCB hB)
      | (go_at_call 36; (with_reducible refine (W2.out _ HB1.out).mono ?_); rintro e w2 ⟨D, f, rfl, hcD, hCD, hB⟩; have Y1 := Aside0.mk hCD; have YC := Aside0.mk hcD; have X2 := Aside0.mk (Kd.C_below X1.out hB); have HB2 := Aside0.mk (below_step HB1.out hB); clear hcD hCD hB)
      | (go_at_call 37; (with_reducible refine (same_rd X2.out XC.out Y1.out YC.out).mono ?_); rintro e w3 ⟨rfl, hB⟩; have HB3 := Aside0.mk (below_step HB2.out hB); clear hB)
      | (go_at_call 38; (with_reducible refine (frame_Size.calls n s _ S1.out).mono ?_); rintro e w4 ⟨rfl, hd⟩; have HB4 := Aside0.mk (below_step HB3.out hd.below); clear hd)
      | (go_at_call 39; (with_reducible refine (tallymanref10_Size.calls n s _ S2.out).mono ?_); rintro e w5 ⟨rfl, hd⟩; have HB5 := Aside0.mk (below_step HB4.out hd.below); clear hd)
      | (go_at_call 34; (with_reducible refine (alive7 _).mono ?_); rintro e w6 ⟨rfl, hB⟩; have HB6 := Aside0.mk (below_step HB5.out hB); clear hB))
    go_ret
    exact ⟨rfl, HB6.out⟩
  · have t2 : decide ((300 : Int) < p.length) = true := by simp; omega
    have t3 : decide ((p.length : Int) ≤ 65536) = false := by simp; omega
    clear g
    go_enter Try.func7, Try.ntmps7
    go_wp2_with (first
      | (go_at_call 35; (with_reducible refine (W1.out _ (Below.refl _ _)).mono ?_); rintro e w1 ⟨B, d, rfl, hcB, hCB, hB⟩; have X1 := Aside0.mk hCB; have XC := Aside0.mk hcB; have HB1 := Aside0.mk hB; clear hcB hCB hB)
      | (go_at_call 36; (with_reducible refine (W2.out _ HB1.out).mono ?_); rintro e w2 ⟨D, f, rfl, hcD, hCD, hB⟩; have Y1 := Aside0.mk hCD; have YC := Aside0.mk hcD; have X2 := Aside0.mk (Kd.C_below X1.out hB); have HB2 := Aside0.mk (below_step HB1.out hB); clear hcD hCD hB)
      | (go_at_call 37; (with_reducible refine (same_rd X2.out XC.out Y1.out YC.out).mono ?_); rintro e w3 ⟨rfl, hB⟩; have HB3 := Aside0.mk (below_step HB2.out hB); clear hB)
      | (go_at_call 38; (with_reducible refine (frame_Size.calls n s _ S1.out).mono ?_); rintro e w4 ⟨rfl, hd⟩; have HB4 := Aside0.mk (below_step HB3.out hd.below); clear hd)
      | (go_at_call 39; (with_reducible refine (tallymanref10_Size.calls n s _ S2.out).mono ?_); rintro e w5 ⟨rfl, hd⟩; have HB5 := Aside0.mk (below_step HB4.out hd.below); clear hd)
      | (go_at_call 34; (with_reducible refine (alive7 _).mono ?_); rintro e w6 ⟨rfl, hB⟩; have HB6 := Aside0.mk (below_step HB5.out hB); clear hB))
    go_ret
    exact ⟨rfl, HB6.out⟩
set_option maxHeartbeats 2000000 in
set_option maxRecDepth 100000 in
theorem writes_none (A0 : Option Addr) (c0 nb : Nat) (A1 : Option Addr) (c1 np : Nat) (n : Int) (w : World) (h : 300 < nb ∨ (300 < np ∧ np ≤ 65536)) (m1 : nb ≤ 9223372036854775807) (m2 : np ≤ 9223372036854775807) :
    Calls Try.prog 7 #[.slice A0 nb c0, .slice A1 np c1, .int .i64 n] w fun e w' => e = .returned (.bool true) ∧ Below w.heap.size w w' := by
  by_cases g : 300 < nb
  · have t1 : decide ((300 : Int) < nb) = true := by simp; omega
    clear h g
    go_enter Try.func7, Try.ntmps7
    go_wp2_with (go_at_call 34; (with_reducible refine (alive7 _).mono ?_); rintro e w6 ⟨rfl, hB⟩)
    go_ret
    exact ⟨rfl, hB⟩
  · have t1 : decide ((300 : Int) < nb) = false := by simp; omega
    have t2 : decide ((300 : Int) < np) = true := by simp; omega
    have t3 : decide ((np : Int) ≤ 65536) = true := by simp; omega
    clear h g
    go_enter Try.func7, Try.ntmps7
    go_wp2_with (go_at_call 34; (with_reducible refine (alive7 _).mono ?_); rintro e w6 ⟨rfl, hB⟩)
    go_ret
    exact ⟨rfl, hB⟩
def tallymanlaw10_FrameWrites.Pure : Prop := True
theorem tallymanlaw10_FrameWrites.walk (P : tallymanlaw10_FrameWrites.Pure) (a0 : Option Addr) (len0 cap0 : Nat) (z0 : List Int) (a1 : Option Addr) (len1 cap1 : Nat) (z1 : List Int) (n : Int) (w : World) (w0 : (a0 = none ∧ len0 = 0 ∧ cap0 = 0 ∧ z0 = []) ∨ ∃ x, a0 = some x ∧ len0 ≤ cap0 ∧ cap0 ≤ maxLen ∧ z0.length = cap0 ∧ (∀ i, i < z0.length → w.cell? (x.add i) = some (.int .u8 (z0.getD i 0))) ∧ ∀ n ∈ z0, (Lit.int .u8 n).wf = true) (y0 : len0 * 1 ≤ 140737488351232)
    (w1 : (a1 = none ∧ len1 = 0 ∧ cap1 = 0 ∧ z1 = []) ∨ ∃ x, a1 = some x ∧ len1 ≤ cap1 ∧ cap1 ≤ maxLen ∧ z1.length = cap1 ∧ (∀ i, i < z1.length → w.cell? (x.add i) = some (.int .u8 (z1.getD i 0))) ∧ ∀ n ∈ z1, (Lit.int .u8 n).wf = true) (y1 : len1 * 1 ≤ 140737488351232) (w2 : (Lit.int .i64 n).wf = true) :
    Calls Try.prog 7 #[.slice a0 len0 cap0, .slice a1 len1 cap1, .int .i64 n] w fun e w' => e = .returned (.bool true) ∧ Below w.heap.size w w' := by
  obtain ⟨b, rfl, hr0, hm0, hw0, hc0⟩ := ReadsInt.ofRowC w0
  obtain ⟨p, rfl, hr1, hm1, hw1, hc1⟩ := ReadsInt.ofRowC w1
  have C0 : Kd.C (Kd.int .u8) w a0 b.length b := Kd.C_of_reads (d := (0 : Int)) (h1 := fun _ => rfl) hr0
  have C1 : Kd.C (Kd.int .u8) w a1 p.length p := Kd.C_of_reads (d := (0 : Int)) (h1 := fun _ => rfl) hr1
  by_cases g : 300 < b.length ∨ (300 < p.length ∧ p.length ≤ 65536)
  · exact writes_none a0 cap0 b.length a1 cap1 p.length n w g (Kd.C_max C0) (Kd.C_max C1)
  obtain ⟨s, h1, h2⟩ : ∃ s, frame_Size.f n = some s ∧ tallymanref10_Size.f n = some s := by
    unfold frame_Size.f tallymanref10_Size.f
    split
    · exact ⟨_, rfl, rfl⟩
    · split
      · exact ⟨_, rfl, rfl⟩
      · exact ⟨_, rfl, rfl⟩
  by_cases gp : p.length ≤ 300
  · obtain ⟨k, hk⟩ := Ev.rounds (refwrite_ev b p (by omega) gp (bytes_of hw1))
    exact writes_path a0 cap0 b a1 cap1 p (b ++ recP p) 0 n s w C0 hc0 C1 hc1 (by omega) (.inl gp) (fun W hW => write_C a0 cap0 b a1 cap1 p _ rfl W (Kd.C_below C0 hW) hc0 (Kd.C_below C1 hW) hc1 (by omega) (by omega)) (fun W hW => refwrite_C hk (Kd.C_below C0 hW) hc0 (Kd.C_below C1 hW) hc1) h1 h2
  · have hk : tallymanref10_Write.f 0 b p = some ([], 15) := by unfold tallymanref10_Write.f; rw [if_pos (by omega)]
    exact writes_path a0 cap0 b a1 cap1 p [] 15 n s w C0 hc0 C1 hc1 (by omega) (.inr (by omega)) (fun W hW => write_big a0 cap0 b.length a1 cap1 p.length W (by omega) (Kd.C_max C1)) (fun W hW => refwrite_C hk (Kd.C_below C0 hW) hc0 (Kd.C_below C1 hW) hc1) h1 h2
end Go.Proofs.Ytajgillnkkkgjaa.P
end
section
namespace Go.Proofs.Ytajgillnkkkgjaa.Pure
open Go.RowKit Go.Proofs.Ytajgillnkkkgjaa.P Go.Proofs.YtajgillnkkkgjaaW.PrintWords Go.Proofs.YtajgillnkkkgjaaW.PrintLast
/-- The walk needs nothing else. -/
theorem FrameWrites : tallymanlaw10_FrameWrites.Pure := trivial
end Go.Proofs.Ytajgillnkkkgjaa.Pure
end
