import Derived.Test.YtopblnecdabcgaaP0
import Derived.Test.YtopblnecdabcgaaH
import Derived.Scope
import Derived.Lib.Mul64
import Derived.Laws.Bits64b
import Derived.Laws.Externs
import Derived.Shelf.Abstract
namespace Go.Proofs.Ytopblnecdabcgaa.P
open Go.RowKit Go.Proofs.YtopblnecdabcgaaW.PrintWords Go.Proofs.YtopblnecdabcgaaW.PrintLast Go.Proofs.YtopblnecdabcgaaW.PrintMore Go.Proofs.Ytopblnecdabcgaa.H
set_option linter.unusedVariables false
set_option linter.unusedSimpArgs false
attribute [local go_sem] max2_int min2_int max_two min_two max_three min_three max_four min_four
namespace SatM
theorem maskN (a : Nat) (ha : a < 18446744073709551616) : bits .and .u64 (a : Int) 4294967295 = ((a % 4294967296 : Nat) : Int) := by
  have h := bits_and_u64_nat a 4294967295 ha (by omega)
  have e : a &&& 4294967295 = a % 4294967296 := Nat.and_two_pow_sub_one_eq_mod a 32
  rw [e] at h
  exact h
theorem divN (a : Nat) : (a : Int) / 4294967296 = ((a / 4294967296 : Nat) : Int) := by omega
theorem mulN (a b : Nat) : (a : Int) * (b : Int) = ((a * b : Nat) : Int) := (Int.natCast_mul a b).symm
theorem addN (a b : Nat) : (a : Int) + (b : Int) = ((a + b : Nat) : Int) := (Int.natCast_add a b).symm
theorem wrapN (a : Nat) (ha : a < 18446744073709551616) : IntKind.u64.wrap (a : Int) = (a : Int) := by rw [IntKind.wrap_u64]; omega
theorem wrapM (a : Nat) : IntKind.u64.wrap (a : Int) = ((a % 18446744073709551616 : Nat) : Int) := by rw [IntKind.wrap_u64]; omega
end SatM
set_option maxHeartbeats 1000000 in
theorem mul64_calls (x y : Nat) (hx : x < 18446744073709551616) (hy : y < 18446744073709551616) (w : World) :
    Calls Try.prog 105 #[.int .u64 x, .int .u64 y] w fun e w' => e = .returned (.tuple #[.int .u64 ((x * y / 18446744073709551616 : Nat) : Int), .int .u64 ((x * y % 18446744073709551616 : Nat) : Int)]) ∧ w' = w := by
  obtain ⟨bd, bt, bw, hhi⟩ := Lib.mul64_hi x y hx hy
  have ba := Lib.half_mul_le (a := x / 4294967296) (b := y / 4294967296) (by omega) (by omega)
  have bb := Lib.half_mul_le (a := x / 4294967296) (b := y % 4294967296) (by omega) (by omega)
  have bc := Lib.half_mul_le (a := x % 4294967296) (b := y / 4294967296) (by omega) (by omega)
  have ba' : x / 4294967296 * (y / 4294967296) < 18446744073709551616 := by omega
  have bb' : x / 4294967296 * (y % 4294967296) < 18446744073709551616 := by omega
  have bc' : x % 4294967296 * (y / 4294967296) < 18446744073709551616 := by omega
  have bh1 : x / 4294967296 * (y / 4294967296) + (x / 4294967296 * (y % 4294967296) + x % 4294967296 * (y % 4294967296) / 4294967296) / 4294967296 < 18446744073709551616 := by omega
  have bh : x / 4294967296 * (y / 4294967296) + (x / 4294967296 * (y % 4294967296) + x % 4294967296 * (y % 4294967296) / 4294967296) / 4294967296 + ((x / 4294967296 * (y % 4294967296) + x % 4294967296 * (y % 4294967296) / 4294967296) % 4294967296 + x % 4294967296 * (y / 4294967296)) / 4294967296 < 18446744073709551616 := by omega
  go_enter Try.func105, Try.ntmps105
  go_wp2
  simp only [SatM.maskN x hx, SatM.maskN y hy, SatM.divN, SatM.mulN, SatM.addN, SatM.wrapN _ bd, SatM.wrapN _ bb', SatM.wrapN _ bt, SatM.maskN _ bt, SatM.wrapN _ bc', SatM.wrapN _ bw, SatM.wrapN _ ba', SatM.wrapN _ bh1, SatM.wrapN _ bh, SatM.wrapM (x * y)]
  rw [hhi]
  go_ret2
  exact ⟨rfl, rfl⟩
theorem add64_run (x y : Int) (hx : 0 ≤ x) (hy : 0 ≤ y) (w : World) : (callFunc 103 #[.int .u64 x, .int .u64 y, .int .u64 0]).run Try.prog w = .ok (.value (.tuple #[.int .u64 ((x + y) % 18446744073709551616), .int .u64 ((x + y) / 18446744073709551616)])) w := by
  rw [run_callFunc_extern Try.func103 (by kernel_rfl) (by kernel_rfl) (by kernel_rfl) (e := add64Entry) (by kernel_rfl), run_add64 x y 0 hx hy (by omega) (by omega)]
  simp only [Result.andThen, Int.add_zero]
def ClosurePost (op : Int → Int → Int) (a b : Int) (w : World) (e : Ending) (w' : World) : Prop := e = .returned (.tuple #[.int .u64 (op a b % 18446744073709551616), .bool (decide (op a b < 18446744073709551616))]) ∧ w' = w
theorem addC_calls (a b : Int) (ha0 : 0 ≤ a) (hb0 : 0 ≤ b) (w : World) : Calls Try.prog 102 #[.int .u64 a, .int .u64 b] w (ClosurePost (· + ·) a b w) := by
  go_enter Try.func102, Try.ntmps102
  go_wp2_with (simp only [add64_run a b ha0 hb0])
  go_ret2
  refine ⟨?_, rfl⟩
  have : ((a + b) / 18446744073709551616 == 0) = decide (a + b < 18446744073709551616) := by
    rw [Bool.eq_iff_iff, beq_iff_eq, decide_eq_true_iff]
    omega
  rw [this]
  rfl
theorem mulC_calls (a b : Nat) (ha : a < 18446744073709551616) (hb : b < 18446744073709551616) (w : World) : Calls Try.prog 104 #[.int .u64 a, .int .u64 b] w (ClosurePost (· * ·) a b w) := by
  go_enter Try.func104, Try.ntmps104
  go_wp2_with (go_at_call 105; refine (mul64_calls a b ha hb _).mono ?_; rintro e w' ⟨rfl, rfl⟩)
  go_ret2
  refine ⟨?_, rfl⟩
  have h1 : ((a * b % 18446744073709551616 : Nat) : Int) = ((a : Int) * b) % 18446744073709551616 := by rw [← Int.natCast_mul]; omega
  have h2 : (((a * b / 18446744073709551616 : Nat) : Int) == 0) = decide ((a : Int) * b < 18446744073709551616) := by
    rw [← Int.natCast_mul, Bool.eq_iff_iff, beq_iff_eq, decide_eq_true_iff]
    generalize a * b = p
    omega
  refine (congrArg Ending.returned (congrArg Value.tuple ?_) : Ending.returned (.tuple #[.int .u64 ((a * b % 18446744073709551616 : Nat) : Int), .bool (((a * b / 18446744073709551616 : Nat) : Int) == 0)]) = _)
  rw [h1, h2]
theorem high_calls (x : Int) (hx : -9223372036854775808 ≤ x ∧ x < 9223372036854775808) (w : World) : Calls Try.prog 101 #[.int .i64 x] w fun e w' => e = .returned (.int .u64 (mx x 0)) ∧ w' = w := by
  obtain ⟨j, hj⟩ : ∃ j : Int, mx x 0 = j := ⟨_, rfl⟩
  have hj0 : 0 ≤ j := by rw [← hj]; unfold mx; split <;> omega
  have hj1 : j < 18446744073709551616 := by rw [← hj]; unfold mx; split <;> omega
  have hj_ : (if x < 0 then 0 else x) = j := hj
  rw [hj]
  clear hj
  go_enter Try.func101, Try.ntmps101
  go_wp2
  go_ret
  exact ⟨rfl, rfl⟩
/-- What the code folds: the numbers put together till they are too great. -/
def foldG (op : Int → Int → Int) (m s : Int) : List Int → Int
  | [] => s
  | x :: l => if op s (mx x 0) ≤ m then foldG op m (op s (mx x 0)) l else m
def FoldPost (op : Int → Int → Int) (m s : Int) (l : List Int) (w : World) (e : Ending) (w' : World) : Prop := e = .returned (.int .i64 (foldG op m s l)) ∧ Below w.heap.size w w'
set_option maxHeartbeats 1000000 in
set_option maxRecDepth 100000 in
theorem fold_calls (fn : Nat) (op : Int → Int → Int) (he : ∀ args w, (callFunc fn args).run Try.prog w = .ok (.enter fn args) w) (hop : ∀ a b, 0 ≤ a → 0 ≤ b → 0 ≤ op a b)
    (hfn : ∀ (a b : Int) (w : World), 0 ≤ a → a < 18446744073709551616 → 0 ≤ b → b < 18446744073709551616 → Calls Try.prog fn #[.int .u64 a, .int .u64 b] w (ClosurePost op a b w))
    (m s0 : Int) (hm0 : 0 ≤ m) (hm : m < 9223372036854775808) (hs0 : 0 ≤ s0) (A : Option Addr) (c : Nat) (l : List Int) (w : World) (hr : Kd.C (Kd.int .i64) w A l.length l) (hc : l.length ≤ c)
    (hw : ∀ x ∈ l, -9223372036854775808 ≤ x ∧ x < 9223372036854775808) (hl : l.length < 9223372036854775807) :
    Calls Try.prog 100 #[.int .u64 m, .int .u64 s0, .slice A l.length c, .func (.func fn) #[] #[]] w (FoldPost op m (mn s0 m) l w) := by
  have HR := Aside0.mk hr; clear hr
  have HFN := Aside0.mk hfn; clear hfn
  have HOP := Aside0.mk hop; clear hop
  have HW := Aside0.mk hw; clear hw
  obtain ⟨j, hj⟩ : ∃ j : Int, mn s0 m = j := ⟨_, rfl⟩
  have hj0 : 0 ≤ j := by rw [← hj]; unfold mn; split <;> omega
  have hj1 : j ≤ m := by rw [← hj]; unfold mn; split <;> omega
  have hj_ : (if m < s0 then m else s0) = j := by rw [← hj]; rfl
  rw [hj]
  clear hj
  go_enter Try.func100, Try.ntmps100
  go_wp2
  refine wp_scope_enter 0 rfl ?_
  go_wp2
  go_step3
  simp only [Exit.then]
  rename_i hk
  refine hk _ _ ?_
  clear hk
  refine wp_label_slots 0 (by rfl) ([8, 9, 10, 11, 12, 16, 17, 18, 19, 20, 21, 22, 23, 24, 25, 26, 27, 28, 29, 30, 31, 32, 33, 34, 35, 36, 37, 38, 39, 40, 41, 42, 43] : List Nat) (fun n us wr => ∃ (i : Nat) (s : Int), i ≤ l.length ∧ Aside0 (n = l.length - i) ∧ us.getD 1 undef = .int .u64 s ∧ us.getD 2 undef = .int .i64 i ∧ 0 ≤ s ∧ s ≤ m ∧ Aside0 (foldG op m s (l.drop i) = foldG op m j l) ∧ Aside0 (Below w.heap.size w wr)) l.length ?_ ?_
  · refine ⟨0, j, by omega, ⟨rfl⟩, rfl, rfl, hj0, hj1, ⟨rfl⟩, ⟨Below.refl _ _⟩⟩
  · rintro n us wr hln ⟨i, s, hi, HN, h5, h6, hs1, hs2, HU, HB⟩ J K hJ hK
    simp only [List.length_cons, List.length_nil] at hln
    match us, hln with
    | u8 :: u9 :: u10 :: u11 :: u12 :: u16 :: u17 :: u18 :: u19 :: u20 :: u21 :: u22 :: u23 :: u24 :: u25 :: u26 :: u27 :: u28 :: u29 :: u30 :: u31 :: u32 :: u33 :: u34 :: u35 :: u36 :: u37 :: u38 :: u39 :: u40 :: u41 :: u42 :: u43 :: [], _ =>
    rename_i hx; clear hx
    simp only [List.getD_cons_succ, List.getD_cons_zero] at h5 h6
    subst h5 h6
    simp only [putS, Act.put, List.setIfInBounds_toArray, List.set_cons_zero, List.set_cons_succ]
    have hJ2 := fun (k : Nat) (v8 v9 v10 v11 v12 v16 v17 v18 v19 v20 v21 v22 v23 v24 v25 v26 v27 v28 v29 v30 v31 v32 v33 v34 v35 v36 v37 v38 v39 v40 v41 v42 v43 : Value) (w' : World) => hJ k (v8 :: v9 :: v10 :: v11 :: v12 :: v16 :: v17 :: v18 :: v19 :: v20 :: v21 :: v22 :: v23 :: v24 :: v25 :: v26 :: v27 :: v28 :: v29 :: v30 :: v31 :: v32 :: v33 :: v34 :: v35 :: v36 :: v37 :: v38 :: v39 :: v40 :: v41 :: v42 :: v43 :: []) _ w' rfl rfl
    clear hJ
    simp only [putS, Act.put, List.setIfInBounds_toArray, List.set_cons_zero, List.set_cons_succ] at hJ2
    have HJ := Aside0.mk hJ2; clear hJ2
    have HK := Aside0.mk hK; clear hK
    by_cases hlt : i < l.length
    · have hb : ((i : Int) == (l.length : Int)) = false := by simp; omega
      have HR2 := Aside0.mk (Kd.C_below HR.out HB.out)
      obtain ⟨ad, hA, hcell⟩ := Kd.at_int HR2.out i (by omega) (by omega)
      subst hA
      rw [Int.toNat_natCast] at hcell
      obtain ⟨x, hx⟩ : ∃ x, x = rd l i := ⟨_, rfl⟩
      rw [← hx] at hcell
      have hxl : x = l[i] := by rw [hx, rd, List.getD_eq_getElem?_getD, Int.toNat_natCast, List.getElem?_eq_getElem hlt]; rfl
      have hwx := HW.out x (by rw [hxl]; exact List.getElem_mem hlt)
      have hm1 : 0 ≤ mx x 0 := by unfold mx; split <;> omega
      have hm2 : mx x 0 < 18446744073709551616 := by unfold mx; split <;> omega
      have hsm : s < 18446744073709551616 := by omega
      have hd : l.drop i = x :: l.drop (i + 1) := by rw [List.drop_eq_getElem_cons hlt, hxl]
      have hU := HU.out
      rw [hd, foldG] at hU
      have hp := HOP.out s (mx x 0) hs1 hm1
      obtain ⟨p, hpe⟩ : ∃ p, p = op s (mx x 0) := ⟨_, rfl⟩
      have HC := Aside0.mk (fun w => HFN.out s (mx x 0) w hs1 hsm hm1 hm2)
      unfold ClosurePost at HC
      rw [← hpe] at hU hp HC
      have hpd : (p % 18446744073709551616 ≤ m ∧ p < 18446744073709551616) ↔ p ≤ m := by omega
      have HU2 := Aside0.mk hU
      have HPE := Aside0.mk hpe
      have HX := Aside0.mk hx
      have HD := Aside0.mk hd
      have HWX := Aside0.mk hwx
      clear hU hpe hx hxl hd hwx HU
      by_cases hpm : p ≤ m
      · have t1 : decide (p < 18446744073709551616) = true := by simp; omega
        have t2 : decide (p % 18446744073709551616 ≤ m) = true := by simp; omega
        rw [t1] at HC
        go_wp2_with (first | (go_at_call 101; refine (high_calls x HWX.out _).mono ?_; rintro e w' ⟨rfl, rfl⟩) | (go_at_fn fn; refine (HC.out _).mono ?_; rintro e w' ⟨rfl, rfl⟩))
        go_step3
        refine ⟨rfl, HK.out _ _ (Handed.intro (l.length - (i + 1)) ?_ (HJ.out _ _ _ _ _ _ _ _ _ _ _ _ _ _ _ _ _ _ _ _ _ _ _ _ _ _ _ _ _ _ _ _ _ _ _ ⟨i + 1, _, by omega, ⟨rfl⟩, rfl, rfl, ?_, ?_, ⟨?_⟩, HB⟩))⟩
        · have := HN.out; omega
        · omega
        · omega
        · have := HU2.out
          rw [if_pos hpm] at this
          rw [← this]
          congr 1
          omega
      · have hfin : m = foldG op m j l := by rw [← HU2.out, if_neg hpm]
        have HF := Aside0.mk hfin
        clear hfin HU2
        by_cases hpb : p < 18446744073709551616
        · have t1 : decide (p < 18446744073709551616) = true := by simp; omega
          have t2 : decide (p % 18446744073709551616 ≤ m) = false := by simp; omega
          rw [t1] at HC
          clear hpd
          go_wp2_with (first | (go_at_call 101; refine (high_calls x HWX.out _).mono ?_; rintro e w' ⟨rfl, rfl⟩) | (go_at_fn fn; refine (HC.out _).mono ?_; rintro e w' ⟨rfl, rfl⟩))
          simp only [Exit.jump]
          go_ret
          refine ⟨?_, HB.out⟩
          rw [← HF.out]
          rfl
        · have t1 : decide (p < 18446744073709551616) = false := by simp; omega
          rw [t1] at HC
          clear hpd
          go_wp2_with (first | (go_at_call 101; refine (high_calls x HWX.out _).mono ?_; rintro e w' ⟨rfl, rfl⟩) | (go_at_fn fn; refine (HC.out _).mono ?_; rintro e w' ⟨rfl, rfl⟩))
          simp only [Exit.jump]
          go_ret
          refine ⟨?_, HB.out⟩
          rw [← HF.out]
          rfl
    · obtain rfl : i = l.length := by omega
      have hb : ((l.length : Int) == (l.length : Int)) = true := by simp
      have hfin := HU.out
      rw [List.drop_length, foldG] at hfin
      have HF := Aside0.mk hfin; clear hfin HU
      go_wp2
      simp only [Exit.jump]
      go_ret
      refine ⟨?_, HB.out⟩
      rw [← HF.out]
      rfl

def i64ok (x : Int) : Prop := -9223372036854775808 ≤ x ∧ x < 9223372036854775808
instance (x : Int) : Decidable (i64ok x) := inferInstanceAs (Decidable (_ ∧ _))
def sat_Add.f (a0 : Int) (l1 : List Int) : Option (Int) := if i64ok a0 ∧ (∀ x ∈ l1, i64ok x) ∧ l1.length < 9223372036854775807 then some (foldG (· + ·) (mx a0 0) 0 l1) else none
def sat_Mul.f (a0 : Int) (l1 : List Int) : Option (Int) := if i64ok a0 ∧ (∀ x ∈ l1, i64ok x) ∧ l1.length < 9223372036854775807 then
  some (if (∃ x ∈ l1, x ≤ 0) then 0 else foldG (· * ·) (mx a0 0) (mn 1 (mx a0 0)) l1) else none
theorem sat_Add.calls (a0 : Int) (A1 : Option Addr) (c1 : Nat) (l1 : List Int) (r : Int) (w : World) (hr1 : Kd.C (Kd.int .i64) w A1 l1.length l1) (hc1 : l1.length ≤ c1) (h : sat_Add.f a0 l1 = some r) :
    Calls Try.prog 69 #[.int .i64 a0, .slice A1 l1.length c1] w fun e w' => e = .returned (.int .i64 r) ∧ Below w.heap.size w w' := by
  unfold sat_Add.f at h
  split at h
  case isFalse => cases h
  rename_i hb
  obtain ⟨hb0, hb1, hb2⟩ := hb
  have hr := Option.some.inj h
  have HF := Aside0.mk hr; clear h hr
  have HR := Aside0.mk hr1; clear hr1
  have HW := Aside0.mk hb1; clear hb1
  have hm0 : 0 ≤ mx a0 0 := by unfold mx; split <;> omega
  have hm1 : mx a0 0 < 9223372036854775808 := by unfold mx; unfold i64ok at hb0; split <;> omega
  have h0 : mn 0 (mx a0 0) = 0 := by unfold mn; split <;> omega
  go_enter Try.func69, Try.ntmps69
  go_wp2_with (first | (go_at_call 101; refine (high_calls a0 hb0 _).mono ?_; rintro e w' ⟨rfl, rfl⟩) | (go_at_call 100; refine (fold_calls 102 (· + ·) (enters_of Try.func102 (by kernel_rfl) rfl) (fun a b ha hb => Int.add_nonneg ha hb) (fun a b w ha _ hb _ => addC_calls a b ha hb w) (mx a0 0) 0 hm0 hm1 (by omega) A1 c1 l1 _ HR.out hc1 HW.out hb2).mono ?_; rintro e w' ⟨rfl, hB⟩; have HB := Aside0.mk hB; clear hB))
  go_ret
  refine ⟨?_, HB.out⟩
  rw [← HF.out]
  rfl
set_option maxHeartbeats 1000000 in
theorem sat_Mul.calls (a0 : Int) (A1 : Option Addr) (c1 : Nat) (l1 : List Int) (r : Int) (w : World) (hr1 : Kd.C (Kd.int .i64) w A1 l1.length l1) (hc1 : l1.length ≤ c1) (h : sat_Mul.f a0 l1 = some r) :
    Calls Try.prog 71 #[.int .i64 a0, .slice A1 l1.length c1] w fun e w' => e = .returned (.int .i64 r) ∧ Below w.heap.size w w' := by
  unfold sat_Mul.f at h
  split at h
  case isFalse => cases h
  rename_i hb
  obtain ⟨hb0, hb1, hb2⟩ := hb
  have hr := Option.some.inj h
  have HF := Aside0.mk hr; clear h hr
  have HR := Aside0.mk hr1; clear hr1
  have HW := Aside0.mk hb1; clear hb1
  have hm0 : 0 ≤ mx a0 0 := by unfold mx; split <;> omega
  have hm1 : mx a0 0 < 9223372036854775808 := by unfold mx; unfold i64ok at hb0; split <;> omega
  go_enter Try.func71, Try.ntmps71
  go_wp2
  go_loop [6, 9] (fun v6 v9 => ∃ i : Nat, i ≤ l1.length ∧ v9 = .int .i64 i ∧ (∀ x ∈ l1.take i, 0 < x)) (fun _ v9 => l1.length - (intOf v9).toNat)
  case atStart => exact ⟨0, by omega, rfl, by simp⟩
  case round =>
    obtain ⟨i, hi, rfl, hpos⟩ := hrel
    have HP := Aside0.mk hpos; clear hpos
    by_cases hlt : i < l1.length
    · obtain ⟨ad, hA, hcell⟩ := Kd.at_int HR.out i (by omega) (by omega)
      subst hA
      rw [Int.toNat_natCast] at hcell
      obtain ⟨x, hx⟩ : ∃ x, x = rd l1 i := ⟨_, rfl⟩
      rw [← hx] at hcell
      have hxl : x = l1[i] := by rw [hx, rd, List.getD_eq_getElem?_getD, Int.toNat_natCast, List.getElem?_eq_getElem hlt]; rfl
      have HX := Aside0.mk hxl; clear hxl hx
      by_cases hx0 : x ≤ 0
      · have t1 : decide (x ≤ 0) = true := by simp [hx0]
        go_wp2
        go_ret
        refine ⟨?_, Below.refl _ _⟩
        rw [← HF.out, if_pos ⟨x, by rw [HX.out]; exact List.getElem_mem hlt, hx0⟩]
        rfl
      · have t1 : decide (x ≤ 0) = false := by simp; omega
        go_wp2
        go_round
        case rel =>
          refine ⟨i + 1, by omega, by go_num, ?_⟩
          intro y hy
          rw [List.take_succ_eq_append_getElem hlt, List.mem_append] at hy
          rcases hy with hy | hy
          · exact HP.out y hy
          · rw [List.mem_singleton] at hy; rw [hy, ← HX.out]; omega
        case measure => simp [intOf]; omega
    · obtain rfl : i = l1.length := by omega
      go_wp2_with (first | (go_at_call 101; refine (high_calls a0 hb0 _).mono ?_; rintro e w' ⟨rfl, rfl⟩) | (go_at_call 100; refine (fold_calls 104 (· * ·) (enters_of Try.func104 (by kernel_rfl) rfl) (fun a b ha hb => Int.mul_nonneg ha hb) (fun a b w ha ha' hb hb' => (by obtain ⟨a, rfl⟩ := Int.eq_ofNat_of_zero_le ha; obtain ⟨b, rfl⟩ := Int.eq_ofNat_of_zero_le hb; exact mulC_calls a b (by omega) (by omega) w)) (mx a0 0) 1 hm0 hm1 (by omega) A1 c1 l1 _ HR.out hc1 HW.out hb2).mono ?_; rintro e w' ⟨rfl, hB⟩; have HB := Aside0.mk hB; clear hB))
      go_ret
      refine ⟨?_, HB.out⟩
      have hp := HP.out
      rw [List.take_length] at hp
      rw [← HF.out, if_neg (by rintro ⟨x, hx, h0⟩; have := hp x hx; omega)]
      rfl
end Go.Proofs.Ytopblnecdabcgaa.P
