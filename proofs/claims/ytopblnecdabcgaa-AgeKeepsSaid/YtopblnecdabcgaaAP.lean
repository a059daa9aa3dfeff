/- Aged priorities: what the code and the document come to. -/
import Derived.Test.YtopblnecdabcgaaS2
import Derived.Test.YtopblnecdabcgaaF13
import Derived.Test.YtopblnecdabcgaaF14
import Derived.Test.YtopblnecdabcgaaF15
import Derived.Test.YtopblnecdabcgaaF17
import Derived.Test.YtopblnecdabcgaaF18
import Derived.Test.YtopblnecdabcgaaF19
namespace Go.Proofs.Ytopblnecdabcgaa.P
open Go.Proofs.Ytopblnecdabcgaa.B Go.RowKit Go.Proofs.YtopblnecdabcgaaW.PrintWords Go.Proofs.YtopblnecdabcgaaW.PrintLast Go.Proofs.YtopblnecdabcgaaW.PrintMore
set_option linter.unusedVariables false
set_option linter.unusedSimpArgs false
theorem clip_code (n m : Int) (hm : 0 ≤ m) : sat_Clip.f n 0 m = some (clp n m) := by
  unfold sat_Clip.f clp mn
  by_cases h1 : n < 0
  · rw [if_pos h1, if_pos h1]
  · rw [if_neg h1, if_neg h1]
theorem clock_code (n : Int) : age_clock.f n = some (clp n 2147483647) := by
  unfold age_clock.f; rw [clip_code _ _ (by decide)]; rfl
theorem speed_code (n : Int) : age_speed.f n = some (clp n 1048576) := by
  unfold age_speed.f; rw [clip_code _ _ (by decide)]; rfl
theorem less_code (a b : Int) (ha : 0 ≤ a ∧ a ≤ 2147483647) (hb : 0 ≤ b ∧ b ≤ 2147483647) : sat_Less.f a b = some (mx (a - b) 0) := by
  unfold sat_Less.f
  have e1 : mx a 0 = a := by unfold mx; omega
  have e2 : mx b 0 = b := by unfold mx; omega
  rw [e1, e2]
  unfold mn mx
  congr 1
  split <;> rw [n64 (by omega) (by omega)] <;> split <;> omega
theorem add2 (m a b : Int) (hm : 0 ≤ m ∧ m < 9223372036854775808) (ha : 0 ≤ a ∧ a < 4611686018427387904) (hb : 0 ≤ b ∧ b < 4611686018427387904) : sat_Add.f m [a, b] = some (mn (a + b) m) := by
  have hl : ∀ x ∈ [a, b], i64ok x := fun x hx => by
    unfold i64ok
    simp only [List.mem_cons, List.not_mem_nil, or_false] at hx
    rcases hx with rfl | rfl <;> omega
  unfold sat_Add.f
  rw [if_pos ⟨by unfold i64ok; omega, hl, by simp⟩]
  have e1 : mx a 0 = a := by unfold mx; omega
  have e2 : mx b 0 = b := by unfold mx; omega
  have e3 : mx m 0 = m := by unfold mx; omega
  rw [foldG, foldG, foldG, e1, e2, e3]
  unfold mn
  congr 1
  split <;> (try split) <;> (try split) <;> omega
theorem mul2 (m a b : Int) (hm : 1 ≤ m ∧ m < 9223372036854775808) (ha : 0 ≤ a ∧ a < 9223372036854775808) (hb : 0 ≤ b ∧ b < 9223372036854775808) : sat_Mul.f m [a, b] = some (mn (a * b) m) := by
  have hl : ∀ x ∈ [a, b], i64ok x := fun x hx => by
    unfold i64ok
    simp only [List.mem_cons, List.not_mem_nil, or_false] at hx
    rcases hx with rfl | rfl <;> omega
  unfold sat_Mul.f
  rw [if_pos ⟨by unfold i64ok; omega, hl, by simp⟩]
  have e1 : mx a 0 = a := by unfold mx; omega
  have e2 : mx b 0 = b := by unfold mx; omega
  have e3 : mx m 0 = m := by unfold mx; omega
  have e4 : mn 1 m = 1 := by unfold mn; omega
  by_cases h0 : a ≤ 0 ∨ b ≤ 0
  · rw [if_pos (by rcases h0 with h | h; exact ⟨a, by simp, h⟩; exact ⟨b, by simp, h⟩)]
    have : a * b = 0 := by
      rcases h0 with h | h
      · rw [show a = 0 by omega, Int.zero_mul]
      · rw [show b = 0 by omega, Int.mul_zero]
    rw [this]
    unfold mn
    congr 1
    omega
  · rw [if_neg (by rintro ⟨x, hx, hx0⟩; simp only [List.mem_cons, List.not_mem_nil, or_false] at hx; rcases hx with rfl | rfl <;> omega)]
    rw [e3, e4, foldG, foldG, foldG, e1, e2, Int.one_mul]
    have h1 : a * 1 ≤ a * b := Int.mul_le_mul_of_nonneg_left (by omega) (by omega)
    rw [Int.mul_one] at h1
    generalize a * b = p at *
    unfold mn
    congr 1
    split <;> (try split) <;> (try split) <;> omega
def ageV (s now : Int) : Int := mx (clp now 2147483647 - clp s 2147483647) 0
theorem ageV_in (s now : Int) : 0 ≤ ageV s now ∧ ageV s now ≤ 2147483647 := by
  have h1 := clp_in s 2147483647 (by decide); have h2 := clp_in now 2147483647 (by decide)
  unfold ageV mx; split <;> omega
def ofV (p s now r : Int) : Int := mn (clp p 1048575 + clp r 1048576 * ageV s now) 1048575
theorem prod_in (r a : Int) (hr : 0 ≤ r ∧ r ≤ 1048576) (ha : 0 ≤ a ∧ a ≤ 2147483647) : 0 ≤ r * a ∧ r * a ≤ 2251799812636672 := by
  refine ⟨Int.mul_nonneg hr.1 ha.1, ?_⟩
  have := Int.mul_le_mul hr.2 ha.2 ha.1 (by decide)
  omega
theorem of_code (a b c d now r : Int) : age_Of.f a b c d now r = some (ofV b c now r) := by
  unfold age_Of.f
  have h1 := clp_in now 2147483647 (by decide); have h2 := clp_in c 2147483647 (by decide); have h3 := clp_in b 1048575 (by decide); have h4 := clp_in r 1048576 (by decide); have h5 := ageV_in c now
  have h6 := prod_in _ _ h4 h5
  rw [clock_code, clock_code, speed_code, clip_code _ _ (by decide), Option.bind_some, Option.bind_some, less_code _ _ h1 h2, Option.bind_some, Option.bind_some, Option.bind_some]
  rw [show mx (clp now 2147483647 - clp c 2147483647) 0 = ageV c now from rfl]
  rw [mul2 _ _ _ (by omega) (by omega) (by omega), Option.bind_some, Int.mul_comm]
  unfold ofV
  generalize clp r 1048576 * ageV c now = q at *
  have h7 : 0 ≤ mn q 1048575 ∧ mn q 1048575 ≤ 1048575 := by unfold mn; split <;> omega
  rw [add2 _ _ _ (by omega) (by omega) (by omega), Option.bind_some]
  unfold mn
  congr 1
  split <;> split <;> (try split) <;> omega
theorem of_ref (a b c d now r : Int) : tallymanref14_Of.f a b c d now r = some (ofV b c now r) := by
  unfold tallymanref14_Of.f tallymanref14_Tick.f
  have h1 := clp_in now 2147483647 (by decide); have h2 := clp_in c 2147483647 (by decide); have h3 := clp_in b 1048575 (by decide); have h4 := clp_in r 1048576 (by decide); have h5 := ageV_in c now
  have h6 := prod_in _ _ h4 h5
  rw [fix_ref, clip_ref, rate_ref]
  simp only [Option.bind_some]
  rw [n64 (x := clp now 2147483647 - clp c 2147483647) (by omega) (by omega)]
  rw [show mx (clp now 2147483647 - clp c 2147483647) 0 = ageV c now from rfl, n64 (x := clp r 1048576 * ageV c now) (by omega) (by omega), n64 (by omega) (by omega)]
  rfl
theorem over_code (a b : Int) (ha : 0 ≤ a ∧ a ≤ 1048575) (hb : 1 ≤ b ∧ b ≤ 1048576) : sat_Over.f a b = some (ovr a b) := by
  have h := ovr_in a b ha.1 hb.1
  have e1 : mx a 0 = a := by unfold mx; omega
  have e2 : mx b 1 = b := by unfold mx; omega
  have u : ∀ x : Int, 0 ≤ x → x < 18446744073709551616 → IntKind.u64.wrap x = x := fun x h0 h1 => by rw [IntKind.wrap_u64]; omega
  have h1 := Int.mul_ediv_add_emod a b
  have h2 := Int.emod_nonneg a (show b ≠ 0 by omega)
  have h3 := Int.emod_lt_of_pos a (show 0 < b by omega)
  have h4 := Int.ediv_nonneg ha.1 (show 0 ≤ b by omega)
  have h5 : a / b ≤ a := Int.ediv_le_self _ ha.1
  unfold sat_Over.f sat_high.f
  rw [e1, e2, u a (by omega) (by omega), u b (by omega) (by omega)]
  simp only [Option.bind_some]
  rw [if_neg (by omega), Int.tdiv_eq_ediv_of_nonneg ha.1, u (a / b) (by omega) (by omega), Int.mul_comm (a / b) b]
  unfold ovr at h ⊢
  generalize a / b = q at *
  generalize a % b = r at *
  obtain ⟨p, hp⟩ : ∃ p, b * q = p := ⟨_, rfl⟩
  rw [hp] at h1 ⊢
  have hp0 : 0 ≤ p := by rw [← hp]; exact Int.mul_nonneg (by omega) h4
  rw [u p (by omega) (by omega)]
  by_cases h0 : r = 0
  · rw [if_pos h0] at h
    rw [if_pos h0, if_neg (by omega), n64 (by omega) (by omega)]
  · rw [if_neg h0] at h
    rw [if_neg h0, if_pos (by omega), u _ (by omega) (by omega), n64 (by omega) (by omega)]
theorem full_code (a b c d r : Int) : age_Full.f a b c d r = some (fullV b c r) := by
  unfold age_Full.f fullV
  have h2 := clp_in c 2147483647 (by decide); have h3 := clp_in b 1048575 (by decide); have h4 := clp_in r 1048576 (by decide)
  rw [clip_code _ _ (by decide), clock_code, speed_code]
  simp only [Option.bind_some]
  rw [n64 (x := 1048575 - clp b 1048575) (by omega) (by omega)]
  by_cases c1 : 1048575 - clp b 1048575 = 0
  · rw [if_pos c1, if_pos c1]
  · rw [if_neg c1, if_neg c1]
    by_cases c2 : clp r 1048576 = 0
    · rw [if_pos c2, if_pos c2]
    · have h5 := ovr_in (1048575 - clp b 1048575) (clp r 1048576) (by omega) (by omega)
      rw [if_neg c2, if_neg c2, over_code _ _ (by omega) (by omega), Option.bind_some, add2 _ _ _ (by omega) (by omega) (by omega)]
      rfl
def aheadV (a0 a1 a2 a3 b0 b1 b2 b3 now r : Int) : Bool := if ofV a1 a2 now r = ofV b1 b2 now r then (if a3 = b3 then decide (a0 < b0) else decide (a3 < b3)) else decide (ofV b1 b2 now r < ofV a1 a2 now r)
theorem ahead_ref (a0 a1 a2 a3 b0 b1 b2 b3 now r : Int) : tallymanref14_Ahead.f a0 a1 a2 a3 b0 b1 b2 b3 now r = some (aheadV a0 a1 a2 a3 b0 b1 b2 b3 now r) := by
  unfold tallymanref14_Ahead.f aheadV
  rw [of_ref, of_ref]
  simp only [Option.bind_some]
  split
  · split <;> rfl
  · rfl
def cmpV (a b : Int) : Int := if a < b then -1 else if a > b then 1 else 0
theorem cmp_code (a b : Int) : cmp_Compare_int.f a b = some (cmpV a b) := by
  unfold cmp_Compare_int.f cmp_isNaN_int.f cmpV
  simp
  split
  · rfl
  · split <;> rfl
def orV : List Int → Int
  | [] => 0
  | x :: l => if x = 0 then orV l else x
theorem or_code (l : List Int) (hl : l.length < 1000) (k : Nat) (hk : l.length < k) : cmp_Or_int.f k l = some (orV l) := by
  have key : ∀ (d i k : Nat), i + d = l.length → d < k → cmp_Or_int.l0 k 0 l (l.length : Int) (i : Int) = some (orV (l.drop i)) := by
    intro d
    induction d with
    | zero =>
      intro i k hi hk
      obtain ⟨k, rfl⟩ : ∃ m, k = m + 1 := ⟨k - 1, by omega⟩
      rw [cmp_Or_int.l0, if_neg (by omega), List.drop_eq_nil_of_le (by omega)]; rfl
    | succ d ih =>
      intro i k hi hk
      obtain ⟨k, rfl⟩ : ∃ m, k = m + 1 := ⟨k - 1, by omega⟩
      have hlt : i < l.length := by omega
      have hr : rd l (i : Int) = l[i] := by rw [rd, List.getD_eq_getElem?_getD, Int.toNat_natCast, List.getElem?_eq_getElem hlt]; rfl
      rw [cmp_Or_int.l0, if_pos (by omega), if_pos (by omega), if_pos (by omega), hr, List.drop_eq_getElem_cons hlt, orV]
      by_cases h0 : l[i] = 0
      · rw [if_pos h0, if_pos h0, n64 (by omega) (by omega)]
        exact ih (i + 1) k (by omega) (by omega)
      · rw [if_neg h0, if_neg h0]
  exact key l.length 0 _ (by omega) hk
theorem ahead_code (k : Nat) (hk : 4 ≤ k) (a0 a1 a2 a3 b0 b1 b2 b3 now r : Int) : age_Ahead.f k a0 a1 a2 a3 b0 b1 b2 b3 now r = some (aheadV a0 a1 a2 a3 b0 b1 b2 b3 now r) := by
  unfold age_Ahead.f age_order_hold.f aheadV
  rw [of_code, of_code]
  simp only [Option.bind_some]
  rw [cmp_code, cmp_code, cmp_code]
  simp only [Option.bind_some]
  rw [or_code _ (by simp) k (by simp only [List.length_cons, List.length_nil]; omega)]
  simp only [Option.bind_some, orV]
  generalize ofV b1 b2 now r = p at *
  generalize ofV a1 a2 now r = q at *
  congr 1
  unfold cmpV
  by_cases h1 : q = p
  · subst h1
    rw [if_neg (Int.lt_irrefl _), if_neg (Int.lt_irrefl _), if_pos rfl, if_pos rfl]
    by_cases h2 : a3 = b3
    · subst h2
      rw [if_neg (Int.lt_irrefl _), if_neg (Int.lt_irrefl _), if_pos rfl, if_pos rfl]
      rcases Int.lt_trichotomy a0 b0 with h | h | h
      · simp [h]
      · simp [h]
      · simp [show ¬ a0 < b0 by omega, show a0 > b0 by omega]
    · rw [if_neg h2]
      rcases Int.lt_or_gt_of_ne h2 with h | h
      · simp [h]
      · simp [show ¬ a3 < b3 by omega, show a3 > b3 by omega]
  · rw [if_neg h1]
    rcases Int.lt_or_gt_of_ne h1 with h | h
    · simp [show ¬ p < q by omega, show p > q by omega]
    · simp [show p < q by omega]
theorem alive14 (k : Nat) (hk : 4 ≤ k) : tallymanlaw14_alive.f k = some true := by
  unfold tallymanlaw14_alive.f
  rw [of_code, of_code, full_code, ahead_code k hk]
  decide
end Go.Proofs.Ytopblnecdabcgaa.P
