/- Several texts of this proof in one: what the law's functions come to, and the lemmas (some as the kit's print.sh printed them, what is not used struck). -/
import Derived.Laws.ComplexArith
import Derived.Test.YtpoghhcpoimepaaM2
import Derived.RegionTactic
import Derived.Test.YtpoghhcpoimepaaM3
import Derived.Deep.RegionHeld3
import Derived.Deep.DeepCutAuto
import Derived.Shelf.Abstract
section
/- Whole numbers as floats: sums, differences and products of small ones are exact. -/
namespace Go.Proofs.Ytpoghhcpoimepaa.FX
open Go
set_option linter.unusedVariables false
set_option linter.unusedSimpArgs false
/-- A datum that is the whole number n. -/
def Val (d : Ieee.Datum) (n : Int) : Prop := ∃ s m p, d = .number s m p ∧ m * 2 ^ p.toNat = n.natAbs * 2 ^ (-p).toNat ∧ (n ≠ 0 → s = decide (n < 0))
/-- Bits that are the whole number n. -/
def IsF (b : Nat) (n : Int) : Prop := Val (Ieee.double.read b) n
theorem pow_cancel {a b k : Nat} (h : a * 2 ^ k = b * 2 ^ k) : a = b := Nat.eq_of_mul_eq_mul_right (Nat.two_pow_pos k) h
theorem log2_mul (a k : Nat) (ha : a ≠ 0) : (a * 2 ^ k).log2 = a.log2 + k := by
  have h1 := Nat.log2_self_le ha
  have h2 := Nat.lt_log2_self (n := a)
  have hne : a * 2 ^ k ≠ 0 := Nat.mul_ne_zero ha (Nat.ne_of_gt (Nat.two_pow_pos k))
  rw [Nat.log2_eq_iff hne]
  constructor
  · rw [Nat.pow_add]; exact Nat.mul_le_mul_right _ h1
  · rw [show a.log2 + k + 1 = (a.log2 + 1) + k from by omega, Nat.pow_add]; exact Nat.mul_lt_mul_of_pos_right h2 (Nat.two_pow_pos k)
theorem log2_lt53 (a : Nat) (ha : a ≠ 0) (h : a < 2 ^ 53) : a.log2 < 53 := (Nat.log2_lt ha).2 h
/-- The kept digits of a whole number. -/
def sig (a : Nat) : Nat := a * 2 ^ (52 - a.log2)
theorem sig_range (a : Nat) (ha : a ≠ 0) (h : a < 2 ^ 53) : 4503599627370496 ≤ sig a ∧ sig a < 9007199254740992 := by
  have hl := log2_lt53 a ha h
  have h1 := Nat.log2_self_le ha
  have h2 := Nat.lt_log2_self (n := a)
  unfold sig
  constructor
  · have : 2 ^ a.log2 * 2 ^ (52 - a.log2) ≤ a * 2 ^ (52 - a.log2) := Nat.mul_le_mul_right _ h1
    rw [← Nat.pow_add, show a.log2 + (52 - a.log2) = 52 from by omega] at this
    exact this
  · have : a * 2 ^ (52 - a.log2) < 2 ^ (a.log2 + 1) * 2 ^ (52 - a.log2) := Nat.mul_lt_mul_of_pos_right h2 (Nat.two_pow_pos _)
    rw [← Nat.pow_add, show a.log2 + 1 + (52 - a.log2) = 53 from by omega] at this
    exact this
theorem cut_none (way : Ieee.Toward) (s : Bool) (n : Nat) (hw : way = .even ∨ way = .zero) : way.cut s n 0 = n := by
  unfold Ieee.Toward.cut
  rcases hw with rfl | rfl <;> simp [Nat.mod_one]
theorem cut_exact (way : Ieee.Toward) (s : Bool) (K drop : Nat) (hK : K ≠ 0) (hw : way = .even ∨ way = .zero) : way.cut s (K * 2 ^ drop) drop = K := by
  have hl : drop ≤ (K * 2 ^ drop).log2 + 2 := by rw [log2_mul K drop hK]; omega
  unfold Ieee.Toward.cut
  have hg : (1 <<< min drop ((K * 2 ^ drop).log2 + 2)) = 2 ^ drop := by rw [Nat.min_eq_left hl, Nat.one_shiftLeft]
  have hp := Nat.two_pow_pos drop
  have hr : K * 2 ^ drop % 2 ^ drop = 0 := Nat.mul_mod_left _ _
  simp only [hg, hr, Nat.mul_div_cancel _ hp]
  rcases hw with rfl | rfl
  · have : ¬ (2 ^ drop = 0) := by omega
    simp [this]
  · simp
theorem nearest_int (s : Bool) (m : Nat) (p : Int) (a : Nat) (ha : a ≠ 0) (h53 : a < 2 ^ 53) (hv : m * 2 ^ p.toNat = a * 2 ^ (-p).toNat) :
    Ieee.double.nearest s m p = Ieee.double.word s ((a.log2 + 1022) * 4503599627370496 + sig a) := by
  have hl := log2_lt53 a ha h53
  have hm : m ≠ 0 := by
    rintro rfl
    rw [Nat.zero_mul] at hv
    exact Nat.mul_ne_zero ha (Nat.ne_of_gt (Nat.two_pow_pos _)) hv.symm
  have hlog : p + m.log2 = a.log2 := by
    have := congrArg Nat.log2 hv
    rw [log2_mul m _ hm, log2_mul a _ ha] at this
    omega
  have hS := sig_range a ha h53
  unfold Ieee.Format.nearest
  rw [if_neg hm]
  have hL : Ieee.double.leastPlace = -1074 := by decide
  have hF : Ieee.double.fractionBits = 52 := rfl
  have hB : Ieee.double.binade = 4503599627370496 := by decide
  have hI : Ieee.double.infRung = 9218868437227405312 := by decide
  have hlast : max (p + (m.log2 : Int) - (Ieee.double.fractionBits : Int)) (-1074) = (a.log2 : Int) - 52 := by rw [hF, hlog]; omega
  simp only [hL, hB, hI]
  simp only [hlast]
  have hk : Ieee.Toward.even.cut s (m <<< (p - ((a.log2 : Int) - 52)).toNat) ((a.log2 : Int) - 52 - p).toNat = sig a := by
    rw [Nat.shiftLeft_eq]
    by_cases hp : (a.log2 : Int) - 52 ≤ p
    · rw [show ((a.log2 : Int) - 52 - p).toNat = 0 from by omega, cut_none _ _ _ (.inl rfl)]
      unfold sig
      apply pow_cancel (k := (-p).toNat)
      calc m * 2 ^ (p - ((a.log2 : Int) - 52)).toNat * 2 ^ (-p).toNat = m * 2 ^ p.toNat * 2 ^ (52 - a.log2) := by
            rw [Nat.mul_assoc, ← Nat.pow_add, Nat.mul_assoc, ← Nat.pow_add]; congr 2; omega
        _ = a * 2 ^ (52 - a.log2) * 2 ^ (-p).toNat := by rw [hv, Nat.mul_assoc, Nat.mul_comm (2 ^ (-p).toNat), ← Nat.mul_assoc]
    · rw [show (p - ((a.log2 : Int) - 52)).toNat = 0 from by omega, Nat.pow_zero, Nat.mul_one]
      have hmk : m = sig a * 2 ^ ((a.log2 : Int) - 52 - p).toNat := by
        rw [show p.toNat = 0 from by omega, Nat.pow_zero, Nat.mul_one] at hv
        rw [hv]; unfold sig
        rw [Nat.mul_assoc, ← Nat.pow_add]; congr 2; omega
      rw [hmk, cut_exact _ _ _ _ (by omega) (.inl rfl)]
  rw [hk, show ((a.log2 : Int) - 52 - -1074).toNat = a.log2 + 1022 from by omega, Nat.min_eq_left (by omega)]
theorem read_word (s : Bool) (a : Nat) (ha : a ≠ 0) (h53 : a < 2 ^ 53) : Ieee.double.read (Ieee.double.word s ((a.log2 + 1022) * 4503599627370496 + sig a)) = .number s (sig a) ((a.log2 : Int) - 52) := by
  have hl := log2_lt53 a ha h53
  have hS := sig_range a ha h53
  have hL : Ieee.double.leastPlace = -1074 := by decide
  have hB : Ieee.double.binade = 4503599627370496 := by decide
  have hI : Ieee.double.infRung = 9218868437227405312 := by decide
  have hW : Ieee.double.signWeight = 9223372036854775808 := by decide
  obtain ⟨R, hR⟩ : ∃ R, (a.log2 + 1022) * 4503599627370496 + sig a = R := ⟨_, rfl⟩
  have hw1 : Ieee.double.word s R % 9223372036854775808 = R := by
    unfold Ieee.Format.word; rw [hW]; split <;> omega
  have hw2 : (Ieee.double.word s R / 9223372036854775808 % 2 == 1) = s := by
    unfold Ieee.Format.word; rw [hW]
    cases s with
    | true => simp; omega
    | false => simp; omega
  rw [hR]
  unfold Ieee.Format.read
  simp only [hW, hB, hI, hL, hw1, hw2]
  have h1 : ¬ R < 4503599627370496 := by omega
  have h2 : R < 9218868437227405312 := by omega
  obtain ⟨u, hu⟩ : ∃ u, sig a = 4503599627370496 + u := ⟨sig a - 4503599627370496, by omega⟩
  have hu2 : u < 4503599627370496 := by omega
  have e : R = 4503599627370496 * (a.log2 + 1023) + u := by rw [← hR, hu]; omega
  have h3 : 4503599627370496 + R % 4503599627370496 = sig a := by rw [e, Nat.mul_add_mod, Nat.mod_eq_of_lt hu2, hu]
  have h5 : R / 4503599627370496 = a.log2 + 1023 := by rw [e, Nat.mul_add_div (by decide), Nat.div_eq_of_lt hu2, Nat.add_zero]
  have h4 : (-1074 : Int) + ((R / 4503599627370496 - 1 : Nat) : Int) = (a.log2 : Int) - 52 := by rw [h5]; omega
  rw [if_neg h1, if_pos h2, h3, h4]
theorem write_isF {d : Ieee.Datum} {n : Int} (h : Val d n) (h53 : n.natAbs < 2 ^ 53) : IsF (Ieee.double.write d) n := by
  obtain ⟨s, m, p, rfl, hv, hs⟩ := h
  unfold IsF Ieee.Format.write
  by_cases hn : n = 0
  · subst hn
    have hm : m = 0 := by
      rw [Int.natAbs_zero, Nat.zero_mul] at hv
      rcases Nat.mul_eq_zero.1 hv with h | h
      · exact h
      · exact absurd h (Nat.ne_of_gt (Nat.two_pow_pos _))
    subst hm
    have : Ieee.double.nearest s 0 p = Ieee.double.word s 0 := by unfold Ieee.Format.nearest; rw [if_pos rfl]
    simp only [this]
    cases s
    · exact ⟨false, 0, -1074, by decide, by rw [Int.natAbs_zero, Nat.zero_mul, Nat.zero_mul], fun h => absurd rfl h⟩
    · exact ⟨true, 0, -1074, by decide, by rw [Int.natAbs_zero, Nat.zero_mul, Nat.zero_mul], fun h => absurd rfl h⟩
  · have ha : n.natAbs ≠ 0 := by omega
    have hl := log2_lt53 _ ha h53
    simp only [nearest_int s m p n.natAbs ha h53 hv, read_word s n.natAbs ha h53]
    refine ⟨s, _, _, rfl, ?_, hs⟩
    unfold sig
    rw [show ((n.natAbs.log2 : Int) - 52).toNat = 0 from by omega, Nat.pow_zero, Nat.mul_one]
    congr 2; omega
theorem signed_eq (s : Bool) (m k : Nat) : Ieee.signed s m k = (if s then -1 else 1) * ((m * 2 ^ k : Nat) : Int) := by
  unfold Ieee.signed
  rw [Nat.shiftLeft_eq]
  cases s <;> simp
theorem sgn_abs (n : Int) (s : Bool) (hs : n ≠ 0 → s = decide (n < 0)) : (if s then -1 else 1) * ((n.natAbs : Nat) : Int) = n := by
  by_cases hn : n = 0
  · subst hn; simp
  · rw [hs hn]
    by_cases h : n < 0
    · simp [h]; omega
    · simp [h]; omega
theorem scaled {n : Int} {s : Bool} {m : Nat} {i base : Int} (hv : m * 2 ^ i.toNat = n.natAbs * 2 ^ (-i).toNat) (hs : n ≠ 0 → s = decide (n < 0)) (hb : base ≤ i) :
    Ieee.signed s m (i - base).toNat * ((2 ^ base.toNat : Nat) : Int) = n * ((2 ^ (-base).toNat : Nat) : Int) := by
  rw [signed_eq]
  have h : m * 2 ^ (i - base).toNat * 2 ^ base.toNat = n.natAbs * 2 ^ (-base).toNat := by
    apply pow_cancel (k := (-i).toNat)
    calc m * 2 ^ (i - base).toNat * 2 ^ base.toNat * 2 ^ (-i).toNat = m * 2 ^ i.toNat * 2 ^ (-base).toNat := by
          rw [Nat.mul_assoc, ← Nat.pow_add, Nat.mul_assoc, ← Nat.pow_add, Nat.mul_assoc, ← Nat.pow_add]; congr 2; omega
      _ = n.natAbs * 2 ^ (-base).toNat * 2 ^ (-i).toNat := by rw [hv, Nat.mul_assoc, Nat.mul_comm (2 ^ (-i).toNat), ← Nat.mul_assoc]
  have h2 := congrArg (fun (x : Nat) => (x : Int)) h
  simp only [Int.natCast_mul] at h2 ⊢
  rw [Int.mul_assoc, h2, ← Int.mul_assoc, sgn_abs n s hs]
theorem sum_val {x y : Ieee.Datum} {n k : Int} (hx : Val x n) (hy : Val y k) : ∃ d, x.sum y = some d ∧ Val d (n + k) := by
  obtain ⟨s, m, i, rfl, hv, hs⟩ := hx
  obtain ⟨t, m', j, rfl, hv', hs'⟩ := hy
  refine ⟨_, rfl, _, _, _, rfl, ?_, ?_⟩
  · have e1 := scaled (base := min i j) hv hs (by omega)
    have e2 := scaled (base := min i j) hv' hs' (by omega)
    have e : (Ieee.signed s m (i - min i j).toNat + Ieee.signed t m' (j - min i j).toNat) * ((2 ^ (min i j).toNat : Nat) : Int) = (n + k) * ((2 ^ (-(min i j)).toNat : Nat) : Int) := by rw [Int.add_mul, Int.add_mul, e1, e2]
    have := congrArg Int.natAbs e
    rw [Int.natAbs_mul, Int.natAbs_mul, Int.natAbs_natCast, Int.natAbs_natCast] at this
    exact this
  · intro hn
    have e1 := scaled (base := min i j) hv hs (by omega)
    have e2 := scaled (base := min i j) hv' hs' (by omega)
    have e : (Ieee.signed s m (i - min i j).toNat + Ieee.signed t m' (j - min i j).toNat) * ((2 ^ (min i j).toNat : Nat) : Int) = (n + k) * ((2 ^ (-(min i j)).toNat : Nat) : Int) := by rw [Int.add_mul, Int.add_mul, e1, e2]
    generalize Ieee.signed s m (i - min i j).toNat + Ieee.signed t m' (j - min i j).toNat = T at e ⊢
    have p1 : (0 : Int) < ((2 ^ (min i j).toNat : Nat) : Int) := by have := Nat.two_pow_pos (min i j).toNat; omega
    have p2 : (0 : Int) < ((2 ^ (-(min i j)).toNat : Nat) : Int) := by have := Nat.two_pow_pos (-(min i j)).toNat; omega
    have hT : T ≠ 0 := by
      rintro rfl
      rw [Int.zero_mul] at e
      rcases Int.mul_eq_zero.1 e.symm with h | h
      · exact hn h
      · omega
    rw [if_neg hT]
    have : T < 0 ↔ n + k < 0 := by
      constructor
      · intro h
        have h1 := Int.mul_neg_of_neg_of_pos h p1
        rw [e] at h1
        exact Decidable.byContradiction fun h2 => by have := Int.mul_nonneg (show 0 ≤ n + k by omega) (Int.le_of_lt p2); omega
      · intro h
        have h1 := Int.mul_neg_of_neg_of_pos h p2
        rw [← e] at h1
        exact Decidable.byContradiction fun h2 => by have := Int.mul_nonneg (show 0 ≤ T by omega) (Int.le_of_lt p1); omega
    simp [this]
theorem product_val {x y : Ieee.Datum} {n k : Int} (hx : Val x n) (hy : Val y k) : ∃ d, x.product y = some d ∧ Val d (n * k) := by
  obtain ⟨s, m, i, rfl, hv, hs⟩ := hx
  obtain ⟨t, m', j, rfl, hv', hs'⟩ := hy
  refine ⟨_, rfl, _, _, _, rfl, ?_, ?_⟩
  · rw [Int.natAbs_mul]
    apply pow_cancel (k := (-i).toNat + (-j).toNat)
    calc m * m' * 2 ^ (i + j).toNat * 2 ^ ((-i).toNat + (-j).toNat) = (m * 2 ^ i.toNat) * (m' * 2 ^ j.toNat) * 2 ^ (-(i + j)).toNat := by
          rw [Nat.mul_assoc (m * m'), ← Nat.pow_add, show m * 2 ^ i.toNat * (m' * 2 ^ j.toNat) * 2 ^ (-(i + j)).toNat = m * m' * (2 ^ i.toNat * 2 ^ j.toNat * 2 ^ (-(i + j)).toNat) from by simp only [Nat.mul_assoc, Nat.mul_left_comm, Nat.mul_comm], ← Nat.pow_add, ← Nat.pow_add]
          congr 2; omega
      _ = n.natAbs * k.natAbs * 2 ^ (-(i + j)).toNat * 2 ^ ((-i).toNat + (-j).toNat) := by
          rw [hv, hv', Nat.pow_add]; simp only [Nat.mul_assoc, Nat.mul_left_comm, Nat.mul_comm]
  · intro hn
    have h1 : n ≠ 0 := by rintro rfl; simp at hn
    have h2 : k ≠ 0 := by rintro rfl; simp at hn
    rw [hs h1, hs' h2]
    have hn' : 0 < n ∨ n < 0 := by omega
    have hk' : 0 < k ∨ k < 0 := by omega
    have sg : ∀ x : Int, 0 < x → decide (x < 0) = false := fun x h => decide_eq_false (by omega)
    have sl : ∀ x : Int, x < 0 → decide (x < 0) = true := fun x h => decide_eq_true h
    rcases hn' with a | a <;> rcases hk' with b | b
    · rw [sg _ a, sg _ b, sg _ (Int.mul_pos a b)]; rfl
    · rw [sg _ a, sl _ b, sl _ (Int.mul_neg_of_pos_of_neg a b)]; rfl
    · rw [sl _ a, sg _ b, sl _ (Int.mul_neg_of_neg_of_pos a b)]; rfl
    · rw [sl _ a, sl _ b, sg _ (Int.mul_pos_of_neg_of_neg a b)]; rfl
theorem opp_val {x : Ieee.Datum} {n : Int} (hx : Val x n) : Val x.opposite (-n) := by
  obtain ⟨s, m, i, rfl, hv, hs⟩ := hx
  refine ⟨!s, m, i, rfl, by rw [Int.natAbs_neg]; exact hv, fun h => ?_⟩
  have hn : n ≠ 0 := by omega
  rw [hs hn]
  by_cases h : n < 0
  · simp [h]; omega
  · simp [h]; omega
theorem isF_add {a b : Nat} {n k : Int} (hx : IsF a n) (hy : IsF b k) (h : (n + k).natAbs < 2 ^ 53) : ∃ c, floatBits .add .f64 a b = some c ∧ IsF c (n + k) := by
  obtain ⟨d, hd, hv⟩ := sum_val hx hy
  exact ⟨_, by show Option.map Ieee.double.write ((Ieee.double.read a).sum (Ieee.double.read b)) = _; rw [hd]; rfl, write_isF hv h⟩
theorem isF_sub {a b : Nat} {n k : Int} (hx : IsF a n) (hy : IsF b k) (h : (n - k).natAbs < 2 ^ 53) : ∃ c, floatBits .sub .f64 a b = some c ∧ IsF c (n - k) := by
  obtain ⟨d, hd, hv⟩ := sum_val hx (opp_val hy)
  rw [← Int.sub_eq_add_neg] at hv
  exact ⟨_, by show Option.map Ieee.double.write ((Ieee.double.read a).sum (Ieee.double.read b).opposite) = _; rw [hd]; rfl, write_isF hv h⟩
theorem isF_mul {a b : Nat} {n k : Int} (hx : IsF a n) (hy : IsF b k) (h : (n * k).natAbs < 2 ^ 53) : ∃ c, floatBits .mul .f64 a b = some c ∧ IsF c (n * k) := by
  obtain ⟨d, hd, hv⟩ := product_val hx hy
  exact ⟨_, by show Option.map Ieee.double.write ((Ieee.double.read a).product (Ieee.double.read b)) = _; rw [hd]; rfl, write_isF hv h⟩
theorem isF_of (n : Int) (h : n.natAbs < 2 ^ 53) : IsF (floatOfInt .f64 n) n := by
  refine write_isF (d := .number (n < 0) n.natAbs 0) ⟨_, _, _, rfl, by simp, fun _ => rfl⟩ h
theorem isF_int {b : Nat} {n : Int} (h : IsF b n) (h0 : -9223372036854775808 ≤ n) (h1 : n ≤ 9223372036854775807) : floatToIntVal .f64 b .i64 = some n := by
  obtain ⟨s, m, p, hd, hv, hs⟩ := h
  have hz : (FloatKind.f64.decode b).toInt .zero = some n := by
    show (Ieee.double.read b).toInt .zero = some n
    rw [hd]
    unfold Ieee.Datum.toInt Ieee.Datum.integral
    simp only []
    rw [Nat.shiftLeft_eq, hv]
    have hc : Ieee.Toward.zero.cut s (n.natAbs * 2 ^ (-p).toNat) (-p).toNat = n.natAbs := by
      by_cases hn : n.natAbs = 0
      · rw [hn, Nat.zero_mul]; unfold Ieee.Toward.cut; simp
      · exact cut_exact _ _ _ _ hn (.inr rfl)
    rw [hc, signed_eq, Nat.pow_zero, Nat.mul_one, sgn_abs n s hs]
  unfold floatToIntVal
  rw [hz]
  simp only []
  rw [if_pos ⟨by show (-9223372036854775808 : Int) ≤ n; exact h0, by show n ≤ (9223372036854775807 : Int); exact h1⟩]
end Go.Proofs.Ytpoghhcpoimepaa.FX
end
section
/- Several texts in one. -/
namespace Go.Proofs.Ytpoghhcpoimepaa.P
open Go.RowKit Go.Proofs.YtpoghhcpoimepaaW.PrintWords Go.Proofs.YtpoghhcpoimepaaW.PrintLast Go.Proofs.YtpoghhcpoimepaaW.PrintMore Go.Proofs.Ytpoghhcpoimepaa.FX
attribute [local go_sem] max2_int min2_int max_two min_two max_three min_three max_four min_four
set_option linter.unusedVariables false
set_option linter.unusedSimpArgs false
def AggPost (x y : Int) (w : World) (e : Ending) (w' : World) : Prop := e = .returned (.agg #[.int .i64 x, .int .i64 y]) ∧ Below w.heap.size w w'
end Go.Proofs.Ytpoghhcpoimepaa.P
end
section
/- Floats that are no infinity: sums, differences and products of bounded ones are bounded. -/
namespace Go.Proofs.Ytpoghhcpoimepaa.FX
open Go
set_option linter.unusedVariables false
set_option exponentiation.threshold 2000
set_option linter.unusedSimpArgs false
/-- A number below 2 ^ e. -/
def Bdd (d : Ieee.Datum) (e : Nat) : Prop := ∃ s m p, d = .number s m p ∧ m * 2 ^ p.toNat < 2 ^ e * 2 ^ (-p).toNat
def Bd (b e : Nat) : Prop := Bdd (Ieee.double.read b) e
theorem Bdd.mono {d : Ieee.Datum} {e f : Nat} (h : Bdd d e) (hf : e ≤ f) : Bdd d f := by
  obtain ⟨s, m, p, rfl, hv⟩ := h
  exact ⟨s, m, p, rfl, Nat.lt_of_lt_of_le hv (Nat.mul_le_mul_right _ (Nat.pow_le_pow_right (by decide) hf))⟩
theorem Bd.mono {b e f : Nat} (h : Bd b e) (hf : e ≤ f) : Bd b f := Bdd.mono h hf
end Go.Proofs.Ytpoghhcpoimepaa.FX
end
section
/- Operations of a drawn region that are not wanted (their guard is false), taken all at once. -/
namespace Go.Proofs.Ytpoghhcpoimepaa.P
open Go.RowKit Go.Proofs.YtpoghhcpoimepaaW.PrintWords Go.Proofs.YtpoghhcpoimepaaW.PrintLast Go.Proofs.YtpoghhcpoimepaaW.PrintMore
set_option linter.unusedVariables false
set_option linter.unusedSimpArgs false
end Go.Proofs.Ytpoghhcpoimepaa.P
end
section
/- fence.Right$1: two edges, side by side, of a ring. -/
namespace Go.Proofs.Ytpoghhcpoimepaa.P
open Go.Proofs.Ytpoghhcpoimepaa.B Go.RowKit Go.Proofs.YtpoghhcpoimepaaW.PrintWords Go.Proofs.YtpoghhcpoimepaaW.PrintLast Go.Proofs.YtpoghhcpoimepaaW.PrintMore Go.Proofs.Ytpoghhcpoimepaa.FX Go.Proofs.Ytpoghhcpoimepaa.H
set_option linter.unusedVariables false
set_option linter.unusedSimpArgs false
attribute [local go_sem high] eqA24
abbrev RtS (w0 : World) (g : Nat) (lx ly ax ay bx by' : Int) (w' : World) : Prop :=
  Aside0 (w'.heap[g]? = some (.cells #[.int .i64 lx, .int .i64 ly] 24 (0, 0))) ∧ Aside0 (w'.heap[w0.heap.size]? = some (.cells #[.int .i64 ax, .int .i64 ay] 24 (0, 0))) ∧ Aside0 (w'.heap[w0.heap.size + 1]? = some (.cells #[.int .i64 bx, .int .i64 by'] 24 (0, 0))) ∧ Aside0 (Below g w0 w') ∧ w'.cell? ⟨g, 0, none⟩ = some (.int .i64 lx) ∧ w'.cell? ⟨g, 1, none⟩ = some (.int .i64 ly) ∧ w'.cell? ⟨w0.heap.size, 0, none⟩ = some (.int .i64 ax) ∧ w'.cell? ⟨w0.heap.size, 1, none⟩ = some (.int .i64 ay) ∧ w'.cell? ⟨w0.heap.size + 1, 0, none⟩ = some (.int .i64 bx) ∧ w'.cell? ⟨w0.heap.size + 1, 1, none⟩ = some (.int .i64 by') ∧ w'.frozen? ⟨g, 0, none⟩ = false ∧ w'.frozen? ⟨g, 1, none⟩ = false
theorem RtS.mk {w0 : World} {g : Nat} {lx ly ax ay bx by' : Int} {w' : World} (h0 : w'.heap[g]? = some (.cells #[.int .i64 lx, .int .i64 ly] 24 (0, 0))) (h1 : w'.heap[w0.heap.size]? = some (.cells #[.int .i64 ax, .int .i64 ay] 24 (0, 0))) (h2 : w'.heap[w0.heap.size + 1]? = some (.cells #[.int .i64 bx, .int .i64 by'] 24 (0, 0))) (hB : Below g w0 w') : RtS w0 g lx ly ax ay bx by' w' :=
  ⟨⟨h0⟩, ⟨h1⟩, ⟨h2⟩, ⟨hB⟩, blk_cell h0 0, blk_cell h0 1, blk_cell h1 0, blk_cell h1 1, blk_cell h2 0, blk_cell h2 1, blk_frozen h0 0, blk_frozen h0 1⟩
theorem RtS.drew {w0 : World} {g : Nat} {lx ly ax ay bx by' : Int} {w1 : World} (h : RtS w0 g lx ly ax ay bx by' w1) : RtS w0 g lx ly ax ay bx by' w1.drew :=
  RtS.mk h.1.out h.2.1.out h.2.2.1.out h.2.2.2.1.out.drew
end Go.Proofs.Ytpoghhcpoimepaa.P
end
section
/- fence.edges: through a ring's edges. -/
namespace Go.Proofs.Ytpoghhcpoimepaa.P
open Go.Proofs.Ytpoghhcpoimepaa.B Go.RowKit Go.Proofs.YtpoghhcpoimepaaW.PrintWords Go.Proofs.YtpoghhcpoimepaaW.PrintLast Go.Proofs.YtpoghhcpoimepaaW.PrintMore Go.Proofs.Ytpoghhcpoimepaa.FX Go.Proofs.Ytpoghhcpoimepaa.H
set_option linter.unusedVariables false
set_option linter.unusedSimpArgs false
end Go.Proofs.Ytpoghhcpoimepaa.P
end
section
/- Floats: the other sign; comparisons; complex sums and products of whole numbers. -/
namespace Go.Proofs.Ytpoghhcpoimepaa.FX
open Go
set_option linter.unusedVariables false
set_option linter.unusedSimpArgs false
theorem isF_zero : IsF 0 0 := by
  exact ⟨false, 0, -1074, by decide, by rw [Int.natAbs_zero, Nat.zero_mul, Nat.zero_mul], fun h => absurd rfl h⟩
end Go.Proofs.Ytpoghhcpoimepaa.FX
end
section
/- The closures of fence.Area and fence.Cell. -/
namespace Go.Proofs.Ytpoghhcpoimepaa.P
open Go.Proofs.Ytpoghhcpoimepaa.B Go.RowKit Go.Proofs.YtpoghhcpoimepaaW.PrintWords Go.Proofs.YtpoghhcpoimepaaW.PrintLast Go.Proofs.YtpoghhcpoimepaaW.PrintMore Go.Proofs.Ytpoghhcpoimepaa.FX Go.Proofs.Ytpoghhcpoimepaa.H
set_option linter.unusedVariables false
set_option linter.unusedSimpArgs false
theorem run_store_complex {P : Program} {w : World} {ad : Addr} {m : Mode} (k : FloatKind) (a b : Nat) : (store ad (.complex k a b) m).run P w = stored P w ad (.complex k a b) m := run_store P w ad _ m rfl
attribute [local go_sem] max2_int min2_int max_two min_two run_store_complex
abbrev ArS (w0 : World) (g sr si : Nat) (ax ay bx by' : Int) (w' : World) : Prop :=
  Aside0 (w'.heap[g]? = some (.cells #[.complex .f64 sr si] 61 (0, 0))) ∧ Aside0 (w'.heap[w0.heap.size]? = some (.cells #[.int .i64 ax, .int .i64 ay] 24 (0, 0))) ∧ Aside0 (w'.heap[w0.heap.size + 1]? = some (.cells #[.int .i64 bx, .int .i64 by'] 24 (0, 0))) ∧ Aside0 (Below g w0 w') ∧ w'.cell? ⟨g, 0, none⟩ = some (.complex .f64 sr si) ∧ w'.cell? ⟨w0.heap.size, 0, none⟩ = some (.int .i64 ax) ∧ w'.cell? ⟨w0.heap.size, 1, none⟩ = some (.int .i64 ay) ∧ w'.cell? ⟨w0.heap.size + 1, 0, none⟩ = some (.int .i64 bx) ∧ w'.cell? ⟨w0.heap.size + 1, 1, none⟩ = some (.int .i64 by') ∧ w'.frozen? ⟨g, 0, none⟩ = false
theorem ArS.mk {w0 : World} {g sr si : Nat} {ax ay bx by' : Int} {w' : World} (h0 : w'.heap[g]? = some (.cells #[.complex .f64 sr si] 61 (0, 0))) (h1 : w'.heap[w0.heap.size]? = some (.cells #[.int .i64 ax, .int .i64 ay] 24 (0, 0))) (h2 : w'.heap[w0.heap.size + 1]? = some (.cells #[.int .i64 bx, .int .i64 by'] 24 (0, 0))) (hB : Below g w0 w') : ArS w0 g sr si ax ay bx by' w' :=
  ⟨⟨h0⟩, ⟨h1⟩, ⟨h2⟩, ⟨hB⟩, blk_cell h0 0, blk_cell h1 0, blk_cell h1 1, blk_cell h2 0, blk_cell h2 1, blk_frozen h0 0⟩
theorem ArS.drew {w0 : World} {g sr si : Nat} {ax ay bx by' : Int} {w1 : World} (h : ArS w0 g sr si ax ay bx by' w1) : ArS w0 g sr si ax ay bx by' w1.drew :=
  ArS.mk h.1.out h.2.1.out h.2.2.1.out h.2.2.2.1.out.drew
end Go.Proofs.Ytpoghhcpoimepaa.P
end
section
/- gauss.Turn. -/
namespace Go.Proofs.Ytpoghhcpoimepaa.P
open Go.Proofs.Ytpoghhcpoimepaa.B Go.RowKit Go.Proofs.YtpoghhcpoimepaaW.PrintWords Go.Proofs.YtpoghhcpoimepaaW.PrintLast Go.Proofs.YtpoghhcpoimepaaW.PrintMore Go.Proofs.Ytpoghhcpoimepaa.FX Go.Proofs.Ytpoghhcpoimepaa.H
set_option linter.unusedVariables false
set_option linter.unusedSimpArgs false
theorem and_three (n : Int) : bits .and .i64 n 3 = n % 4 := by
  show IntKind.i64.wrap (((BitVec.ofInt 64 n &&& BitVec.ofInt 64 3).toNat : Nat) : Int) = _
  rw [BitVec.toNat_and, BitVec.toNat_ofInt, BitVec.toNat_ofInt, show ((3 : Int) % ((2 ^ 64 : Nat) : Int)).toNat = 2 ^ 2 - 1 from by decide, Nat.and_two_pow_sub_one_eq_mod, wrap_i64]
  unfold wrap64
  omega
theorem isF_one : IsF 4607182418800017408 1 := ⟨false, 2 ^ 52, -52, by decide, by decide, fun _ => rfl⟩
end Go.Proofs.Ytpoghhcpoimepaa.P
end
section
/- Several texts in one. -/
section
/- Motions: numbers of the plane. -/
namespace Go.Proofs.Ytpoghhcpoimepaa.P
open Go.Proofs.Ytpoghhcpoimepaa.B Go.RowKit Go.Proofs.YtpoghhcpoimepaaW.PrintWords Go.Proofs.YtpoghhcpoimepaaW.PrintLast Go.Proofs.YtpoghhcpoimepaaW.PrintMore Go.Proofs.Ytpoghhcpoimepaa.FX Go.Proofs.Ytpoghhcpoimepaa.H
set_option linter.unusedVariables false
set_option linter.unusedSimpArgs false
/-- A product of numbers of the plane. -/
theorem cmul_run {a b c d : Nat} {x y u v : Int} (ha : IsF a x) (hb : IsF b y) (hc : IsF c u) (hd : IsF d v) (h1 : (x * u).natAbs < 2 ^ 51) (h2 : (y * v).natAbs < 2 ^ 51) (h3 : (x * v).natAbs < 2 ^ 51) (h4 : (y * u).natAbs < 2 ^ 51) :
    ∃ re im, IsF re (x * u - y * v) ∧ IsF im (x * v + y * u) ∧ ∀ (P : Program) (t : TypeId) (W : World), (binOp .mul t (.complex .f64 a b) (.complex .f64 c d)).run P W = .ok (.complex .f64 re im) W := by
  obtain ⟨p1, f1, g1⟩ := isF_mul ha hc (by omega)
  obtain ⟨p2, f2, g2⟩ := isF_mul hb hd (by omega)
  obtain ⟨re, f3, hre⟩ := isF_sub g1 g2 (by omega)
  obtain ⟨p3, f4, g3⟩ := isF_mul ha hd (by omega)
  obtain ⟨p4, f5, g4⟩ := isF_mul hb hc (by omega)
  obtain ⟨im, f6, him⟩ := isF_add g3 g4 (by omega)
  exact ⟨re, im, hre, him, fun P t W => run_complex_mul W t _ _ _ _ re im (by unfold cMulBits; rw [f1, Option.bind_some, f2, Option.bind_some, f3, Option.bind_some, f4, Option.bind_some, f5, Option.bind_some, f6, Option.bind_some])⟩
theorem cadd_run {a b c d : Nat} {x y u v : Int} (ha : IsF a x) (hb : IsF b y) (hc : IsF c u) (hd : IsF d v) (h1 : (x + u).natAbs < 2 ^ 53) (h2 : (y + v).natAbs < 2 ^ 53) :
    ∃ re im, IsF re (x + u) ∧ IsF im (y + v) ∧ ∀ (P : Program) (t : TypeId) (W : World), (binOp .add t (.complex .f64 a b) (.complex .f64 c d)).run P W = .ok (.complex .f64 re im) W := by
  obtain ⟨re, f1, hre⟩ := isF_add ha hc h1
  obtain ⟨im, f2, him⟩ := isF_add hb hd h2
  exact ⟨re, im, hre, him, fun P t W => run_complex_sum W .add (.inl rfl) t .f64 _ _ _ _ re im (by unfold cSumBits; rw [f1, Option.bind_some, f2, Option.bind_some])⟩
theorem order_is {a b : Nat} {n k : Int} (ha : IsF a n) (hb : IsF b k) : Ieee.double.order a b = some (compare n k) := by
  obtain ⟨s, m, i, hd, hv, hs⟩ := ha
  obtain ⟨t, m', j, hd', hv', hs'⟩ := hb
  unfold Ieee.Format.order
  rw [hd, hd']
  show some (compare (Ieee.signed s m (i - min i j).toNat) (Ieee.signed t m' (j - min i j).toNat)) = _
  have e1 := scaled (base := min i j) hv hs (by omega)
  have e2 := scaled (base := min i j) hv' hs' (by omega)
  have p1 : (0 : Int) < ((2 ^ (min i j).toNat : Nat) : Int) := by have := Nat.two_pow_pos (min i j).toNat; omega
  have p2 : (0 : Int) < ((2 ^ (-(min i j)).toNat : Nat) : Int) := by have := Nat.two_pow_pos (-(min i j)).toNat; omega
  generalize Ieee.signed s m (i - min i j).toNat = X at *
  generalize Ieee.signed t m' (j - min i j).toNat = Y at *
  congr 1
  have lt : X < Y ↔ n < k := by
    constructor
    · intro h
      have := Int.mul_lt_mul_of_pos_right h p1
      rw [e1, e2] at this
      exact Int.lt_of_mul_lt_mul_right this (Int.le_of_lt p2)
    · intro h
      have := Int.mul_lt_mul_of_pos_right h p2
      rw [← e1, ← e2] at this
      exact Int.lt_of_mul_lt_mul_right this (Int.le_of_lt p1)
  have gt : Y < X ↔ k < n := by
    constructor
    · intro h
      have := Int.mul_lt_mul_of_pos_right h p1
      rw [e1, e2] at this
      exact Int.lt_of_mul_lt_mul_right this (Int.le_of_lt p2)
    · intro h
      have := Int.mul_lt_mul_of_pos_right h p2
      rw [← e1, ← e2] at this
      exact Int.lt_of_mul_lt_mul_right this (Int.le_of_lt p1)
  show compareOfLessAndEq X Y = compareOfLessAndEq n k
  unfold compareOfLessAndEq
  by_cases h1 : X < Y
  · rw [if_pos h1, if_pos (lt.1 h1)]
  · rw [if_neg h1, if_neg (fun h => h1 (lt.2 h))]
    by_cases h2 : Y < X
    · rw [if_neg (by omega), if_neg (by have := gt.1 h2; omega)]
    · have h3 : X = Y := by omega
      have h4 : ¬ k < n := fun h => h2 (gt.2 h)
      have h5 : ¬ n < k := fun h => h1 (lt.2 h)
      rw [if_pos h3, if_pos (by omega)]
end Go.Proofs.Ytpoghhcpoimepaa.P
end
section
/- Motions: quarters, and moves one behind the other. -/
namespace Go.Proofs.Ytpoghhcpoimepaa.P
open Go.Proofs.Ytpoghhcpoimepaa.B Go.RowKit Go.Proofs.YtpoghhcpoimepaaW.PrintWords Go.Proofs.YtpoghhcpoimepaaW.PrintLast Go.Proofs.YtpoghhcpoimepaaW.PrintMore Go.Proofs.Ytpoghhcpoimepaa.FX Go.Proofs.Ytpoghhcpoimepaa.H
set_option linter.unusedVariables false
set_option linter.unusedSimpArgs false
theorem floatEq_is {a b : Nat} {n k : Int} (ha : IsF a n) (hb : IsF b k) : Op.floatEq .f64 a b = (n == k) := by
  show (Ieee.double.order a b == some .eq) = _
  rw [order_is ha hb]
  show (some (compareOfLessAndEq n k) == some .eq) = _
  unfold compareOfLessAndEq
  by_cases h1 : n < k
  · rw [if_pos h1, show (n == k) = false from by simp; omega]; rfl
  · rw [if_neg h1]
    by_cases h2 : n = k
    · rw [if_pos h2, h2]; simp
    · rw [if_neg h2, show (n == k) = false from by simp; omega]; rfl
/-- A quarter's number. -/
def ip : Nat → Int × Int
  | 0 => (1, 0)
  | m + 1 => (-(ip m).2, (ip m).1)
theorem isF_neg1 : IsF 13830554455654793216 (-1) := ⟨true, 2 ^ 52, -52, by decide, by decide, fun _ => rfl⟩
theorem ip_small (m : Nat) : ((ip m).1.natAbs ≤ 1 ∧ (ip m).2.natAbs ≤ 1) ∧ (m < 4 → ((ip m).1 = 1 ∧ (ip m).2 = 0 ↔ m = 0)) := by
  constructor
  · induction m with
    | zero => decide
    | succ m ih => rw [ip]; simp only []; omega
  · intro h
    match m, h with
    | 0, _ => decide
    | 1, _ => decide
    | 2, _ => decide
    | 3, _ => decide
end Go.Proofs.Ytpoghhcpoimepaa.P
end
section
/- Motions: moves one behind the other, and what undoes one. -/
namespace Go.Proofs.Ytpoghhcpoimepaa.P
open Go.Proofs.Ytpoghhcpoimepaa.B Go.RowKit Go.Proofs.YtpoghhcpoimepaaW.PrintWords Go.Proofs.YtpoghhcpoimepaaW.PrintLast Go.Proofs.YtpoghhcpoimepaaW.PrintMore Go.Proofs.Ytpoghhcpoimepaa.FX Go.Proofs.Ytpoghhcpoimepaa.H
set_option linter.unusedVariables false
set_option linter.unusedSimpArgs false
attribute [local go_sem] run_store_complex
def cm (x y : Int × Int) : Int × Int := (x.1 * y.1 - x.2 * y.2, x.1 * y.2 + x.2 * y.1)
def near (n : Nat) (x : Int × Int) : Prop := x.1.natAbs ≤ n ∧ x.2.natAbs ≤ n
theorem near_mul {n : Nat} {x y : Int} (h1 : x.natAbs ≤ n) (h2 : y.natAbs ≤ 1) : (x * y).natAbs ≤ n := by
  rw [Int.natAbs_mul]
  exact Nat.le_trans (Nat.mul_le_mul h1 h2) (by omega)
theorem move_new2 (w : World) (o1 o2 : Obj) : ((w.alloc o1).alloc o2).heap[w.heap.size + 1]? = some o2 := by
  have h := blk_new (w.alloc o1) o2
  rw [alloc_size] at h
  exact h
end Go.Proofs.Ytpoghhcpoimepaa.P
end
section
/- Motions: a move as a motion. -/
namespace Go.Proofs.Ytpoghhcpoimepaa.P
open Go.Proofs.Ytpoghhcpoimepaa.B Go.RowKit Go.Proofs.YtpoghhcpoimepaaW.PrintWords Go.Proofs.YtpoghhcpoimepaaW.PrintLast Go.Proofs.YtpoghhcpoimepaaW.PrintMore Go.Proofs.Ytpoghhcpoimepaa.FX Go.Proofs.Ytpoghhcpoimepaa.H
set_option linter.unusedVariables false
set_option linter.unusedSimpArgs false
attribute [local go_sem] run_store_complex
abbrev MoS (w0 : World) (a b c d : Nat) (w' : World) : Prop :=
  Aside0 (w'.heap[w0.heap.size]? = some (.cells #[.complex .f64 a b, .complex .f64 c d] 109 (0, 0))) ∧ Aside0 (w'.heap[w0.heap.size + 1]? = some (.cells #[.int .i64 0, .int .i64 0, .int .i64 0] 34 (0, 0))) ∧ Aside0 (Below w0.heap.size w0 w') ∧
  w'.cell? ⟨w0.heap.size, 0, none⟩ = some (.complex .f64 a b) ∧ w'.cell? ⟨w0.heap.size, 1, none⟩ = some (.complex .f64 c d) ∧ w'.cell? ⟨w0.heap.size + 1, 0, none⟩ = some (.int .i64 0) ∧ w'.cell? ⟨w0.heap.size + 1, 1, none⟩ = some (.int .i64 0) ∧ w'.cell? ⟨w0.heap.size + 1, 2, none⟩ = some (.int .i64 0) ∧
  w'.frozen? ⟨w0.heap.size + 1, 0, none⟩ = false ∧ w'.frozen? ⟨w0.heap.size + 1, 1, none⟩ = false ∧ w'.frozen? ⟨w0.heap.size + 1, 2, none⟩ = false
theorem MoS.mk {w0 : World} {a b c d : Nat} {w' : World} (h1 : w'.heap[w0.heap.size]? = some (.cells #[.complex .f64 a b, .complex .f64 c d] 109 (0, 0))) (h2 : w'.heap[w0.heap.size + 1]? = some (.cells #[.int .i64 0, .int .i64 0, .int .i64 0] 34 (0, 0))) (h3 : Below w0.heap.size w0 w') : MoS w0 a b c d w' :=
  ⟨⟨h1⟩, ⟨h2⟩, ⟨h3⟩, blk_cell h1 0, blk_cell h1 1, blk_cell h2 0, blk_cell h2 1, blk_cell h2 2, blk_frozen h2 0, blk_frozen h2 1, blk_frozen h2 2⟩
theorem MoS.drew {w0 : World} {a b c d : Nat} {w1 : World} (h : MoS w0 a b c d w1) : MoS w0 a b c d w1.drew := MoS.mk h.1.out h.2.1.out (below_drew h.2.2.1.out)
end Go.Proofs.Ytpoghhcpoimepaa.P
end
end
section
/- Walks: where they end (plain), and walk.quarter. -/
namespace Go.Proofs.Ytpoghhcpoimepaa.P
open Go.Proofs.Ytpoghhcpoimepaa.B Go.RowKit Go.Proofs.YtpoghhcpoimepaaW.PrintWords Go.Proofs.YtpoghhcpoimepaaW.PrintLast Go.Proofs.YtpoghhcpoimepaaW.PrintMore Go.Proofs.Ytpoghhcpoimepaa.FX Go.Proofs.Ytpoghhcpoimepaa.H
set_option linter.unusedVariables false
set_option linter.unusedSimpArgs false
def qre (q : Nat) : Nat := if q = 0 then 4607182418800017408 else if q = 2 then 13830554455654793216 else 0
def qim (q : Nat) : Nat := if q = 1 then 4607182418800017408 else if q = 3 then 13830554455654793216 else 0
theorem q_is (q : Nat) (h : q < 4) : IsF (qre q) (ip q).1 ∧ IsF (qim q) (ip q).2 := by
  match q, h with
  | 0, _ => exact ⟨isF_one, isF_zero⟩
  | 1, _ => exact ⟨isF_zero, isF_one⟩
  | 2, _ => exact ⟨isF_neg1, isF_zero⟩
  | 3, _ => exact ⟨isF_zero, isF_neg1⟩
set_option maxHeartbeats 1000000 in
set_option maxRecDepth 100000 in
theorem quarter_calls (n : Int) (w : World) : Calls Try.prog 74 #[.int .i64 n] w fun e w' => e = .returned (.complex .f64 (qre (n % 4).toNat) (qim (n % 4).toNat)) ∧ Below w.heap.size w w' := by
  have hand := and_three n
  have hq : n % 4 = 0 ∨ n % 4 = 1 ∨ n % 4 = 2 ∨ n % 4 = 3 := by omega
  rcases hq with h | h | h | h <;> rw [h] at hand ⊢ <;> clear h
  · have e1 : ∀ W : World, (Instr.index 120 (.agg #[.complex .f64 4607182418800017408 0, .complex .f64 0 4607182418800017408, .complex .f64 13830554455654793216 0, .complex .f64 0 13830554455654793216]) (.int .i64 0)).run Try.prog W = .ok (.complex .f64 4607182418800017408 0) W := fun W => by kernel_rfl
    go_enter Try.func74, Try.ntmps74
    go_wp2
    go_ret
    exact ⟨rfl, Below.refl _ _⟩
  · have e1 : ∀ W : World, (Instr.index 120 (.agg #[.complex .f64 4607182418800017408 0, .complex .f64 0 4607182418800017408, .complex .f64 13830554455654793216 0, .complex .f64 0 13830554455654793216]) (.int .i64 1)).run Try.prog W = .ok (.complex .f64 0 4607182418800017408) W := fun W => by kernel_rfl
    go_enter Try.func74, Try.ntmps74
    go_wp2
    go_ret
    exact ⟨rfl, Below.refl _ _⟩
  · have e1 : ∀ W : World, (Instr.index 120 (.agg #[.complex .f64 4607182418800017408 0, .complex .f64 0 4607182418800017408, .complex .f64 13830554455654793216 0, .complex .f64 0 13830554455654793216]) (.int .i64 2)).run Try.prog W = .ok (.complex .f64 13830554455654793216 0) W := fun W => by kernel_rfl
    go_enter Try.func74, Try.ntmps74
    go_wp2
    go_ret
    exact ⟨rfl, Below.refl _ _⟩
  · have e1 : ∀ W : World, (Instr.index 120 (.agg #[.complex .f64 4607182418800017408 0, .complex .f64 0 4607182418800017408, .complex .f64 13830554455654793216 0, .complex .f64 0 13830554455654793216]) (.int .i64 3)).run Try.prog W = .ok (.complex .f64 0 13830554455654793216) W := fun W => by kernel_rfl
    go_enter Try.func74, Try.ntmps74
    go_wp2
    go_ret
    exact ⟨rfl, Below.refl _ _⟩
/-- A move: the quarter that one looks to, and where one stands. -/
def stepW (s : Nat × Int × Int) (k n : Int) : Nat × Int × Int :=
  if k = 3 then ((s.1 + ofV k n) % 4, s.2) else if k = 4 then ((s.1 + 3 * ofV k n) % 4, s.2) else if k = 2 then (s.1, s.2.1 - ofV k n * (ip s.1).1, s.2.2 - ofV k n * (ip s.1).2) else (s.1, s.2.1 + ofV k n * (ip s.1).1, s.2.2 + ofV k n * (ip s.1).2)
def foldW (l : List S56) : Nat × Int × Int := l.foldl (fun s m => stepW s m.f0 m.f1) (0, 0, 0)
theorem foldW_snoc (l : List S56) (m : S56) : foldW (l ++ [m]) = stepW (foldW l) m.f0 m.f1 := by unfold foldW; rw [List.foldl_append]; rfl
theorem ipmul (q : Nat) (m : Nat) (hm : m ≤ 1048576) : ((m * (ip q).1 : Int).natAbs ≤ 1048576) ∧ ((m * (ip q).2 : Int).natAbs ≤ 1048576) := by
  have h := (ip_small q).1
  constructor
  · rw [Int.natAbs_mul]; exact Nat.le_trans (Nat.mul_le_mul_left _ h.1) (by omega)
  · rw [Int.natAbs_mul]; exact Nat.le_trans (Nat.mul_le_mul_left _ h.2) (by omega)
theorem stepW_near (s : Nat × Int × Int) (k n : Int) (B : Nat) (h : near B s.2) : near (B + 1048576) (stepW s k n).2 := by
  obtain ⟨q, x, y⟩ := s
  have h3 := ipmul q (ofV k n) (ofV_le k n)
  obtain ⟨h1, h2⟩ := h
  unfold stepW near
  simp only [] at h1 h2 ⊢
  generalize (ofV k n : Int) * (ip q).1 = A at *
  generalize (ofV k n : Int) * (ip q).2 = C at *
  by_cases c3 : k = 3
  · rw [if_pos c3]; simp only []; omega
  · by_cases c4 : k = 4
    · rw [if_neg c3, if_pos c4]; simp only []; omega
    · by_cases c2 : k = 2
      · rw [if_neg c3, if_neg c4, if_pos c2]; simp only []; omega
      · rw [if_neg c3, if_neg c4, if_neg c2]; simp only []; omega
theorem stepW_lt (s : Nat × Int × Int) (k n : Int) (h : s.1 < 4) : (stepW s k n).1 < 4 := by
  unfold stepW
  split
  · exact Nat.mod_lt _ (by omega)
  · split
    · exact Nat.mod_lt _ (by omega)
    · split <;> exact h
theorem fold_ok : ∀ (l : List S56) (s : Nat × Int × Int) (B : Nat), s.1 < 4 → near B s.2 → (l.foldl (fun s m => stepW s m.f0 m.f1) s).1 < 4 ∧ near (B + l.length * 1048576) (l.foldl (fun s m => stepW s m.f0 m.f1) s).2 := by
  intro l
  induction l with
  | nil => intro s B h1 h2; exact ⟨h1, by rw [List.length_nil, Nat.zero_mul, Nat.add_zero]; exact h2⟩
  | cons m l ih =>
    intro s B h1 h2
    have := ih (stepW s m.f0 m.f1) (B + 1048576) (stepW_lt _ _ _ h1) (stepW_near _ _ _ _ h2)
    rw [List.foldl_cons, List.length_cons, show B + (l.length + 1) * 1048576 = B + 1048576 + l.length * 1048576 by omega]
    exact this
theorem foldW_ok (l : List S56) : (foldW l).1 < 4 ∧ near (l.length * 1048576) (foldW l).2 := by
  have := fold_ok l (0, 0, 0) 0 (by decide) ⟨by decide, by decide⟩
  rwa [Nat.zero_add] at this
end Go.Proofs.Ytpoghhcpoimepaa.P
end
section
/- walk.walker.do. -/
namespace Go.Proofs.Ytpoghhcpoimepaa.P
open Go.Proofs.Ytpoghhcpoimepaa.B Go.RowKit Go.Proofs.YtpoghhcpoimepaaW.PrintWords Go.Proofs.YtpoghhcpoimepaaW.PrintLast Go.Proofs.YtpoghhcpoimepaaW.PrintMore Go.Proofs.Ytpoghhcpoimepaa.FX Go.Proofs.Ytpoghhcpoimepaa.H
set_option linter.unusedVariables false
set_option linter.unusedSimpArgs false
attribute [local go_sem] run_store_complex
abbrev WkS (w0 : World) (g ar ai lr li : Nat) (w' : World) : Prop :=
  Aside0 (w'.heap[g]? = some (.cells #[.complex .f64 ar ai, .complex .f64 lr li] 101 (0, 0))) ∧ Aside0 (Below g w0 w') ∧ w'.cell? ⟨g, 0, none⟩ = some (.complex .f64 ar ai) ∧ w'.cell? ⟨g, 1, none⟩ = some (.complex .f64 lr li) ∧ w'.frozen? ⟨g, 0, none⟩ = false ∧ w'.frozen? ⟨g, 1, none⟩ = false
theorem WkS.mk {w0 : World} {g ar ai lr li : Nat} {w' : World} (h0 : w'.heap[g]? = some (.cells #[.complex .f64 ar ai, .complex .f64 lr li] 101 (0, 0))) (hB : Below g w0 w') : WkS w0 g ar ai lr li w' :=
  ⟨⟨h0⟩, ⟨hB⟩, blk_cell h0 0, blk_cell h0 1, blk_frozen h0 0, blk_frozen h0 1⟩
theorem WkS.keep {w0 : World} {g ar ai lr li : Nat} {w1 w2 : World} (h : WkS w0 g ar ai lr li w1) (hb : Below w1.heap.size w1 w2) : WkS w0 g ar ai lr li w2 :=
  WkS.mk (blk_keep h.1.out hb) (h.2.1.out.trans (hb.mono (Nat.le_of_lt (lt_blk h.1.out))))
theorem WkS.drew {w0 : World} {g ar ai lr li : Nat} {w1 : World} (h : WkS w0 g ar ai lr li w1) : WkS w0 g ar ai lr li w1.drew :=
  WkS.mk h.1.out h.2.1.out.drew
def DoPost (g : Nat) (w : World) (ar ai lr li : Nat) (e : Ending) (w' : World) : Prop := e = .returned (.tuple #[]) ∧ w'.heap[g]? = some (.cells #[.complex .f64 ar ai, .complex .f64 lr li] 101 (0, 0)) ∧ Below g w w'
set_option maxHeartbeats 2000000 in
set_option maxRecDepth 100000 in
theorem do_left (g ar ai lr li re im : Nat) (n : Int) (m q : Nat) (f : Value) (w : World) (hg : w.heap[g]? = some (.cells #[.complex .f64 ar ai, .complex .f64 lr li] 101 (0, 0))) (hof : walk_often.f 3 n = some (m : Int)) (hm : m ≤ 1048576) (hq : (((m : Int)) % 4).toNat = q)
    (e1 : ∀ W : World, (binOp .mul 61 (.complex .f64 lr li) (.complex .f64 (qre q) (qim q))).run Try.prog W = .ok (.complex .f64 re im) W) :
    Calls Try.prog 73 #[.pointer (some ⟨g, 0, none⟩), .agg #[.int .i64 3, .int .i64 n], f] w (DoPost g w ar ai re im) := by
  have HG := Aside0.mk hg; clear hg
  have HOF := Aside0.mk hof; clear hof
  have HQ := fun W => Aside0.mk (quarter_calls ((m : Int)) W)
  rw [hq] at HQ
  clear hq
  have hng : IntKind.i64.wrap (-(m : Int)) = -(m : Int) := by rw [IntKind.wrap_i64]; omega
  go_enter Try.func73, Try.ntmps73
  go_wp2_with (go_at_call 60; (with_reducible refine (walk_often.calls 3 n _ _ HOF.out).mono ?_); rintro e w1 ⟨rfl, hb1⟩; have bk1 := blk_keep (blk_new w (.cells #[.int .i64 3, .int .i64 n] 56)) hb1; have hc0 := blk_cell bk1 0; have HS := WkS.mk (w0 := w) (blk_keep (blk_keep HG.out (below_alloc (Below.refl _ _) _)) hb1) ((below_step (below_alloc (Below.refl _ _) _) hb1).mono (Nat.le_of_lt (lt_blk HG.out))); clear hb1 bk1)
  refine start_ (n := 10) (S := WkS w g ar ai lr li) (ds := [9]) #[false, false, false, false, false, false, false, false, false, false] (by kernel_rfl) rfl rfl (WkS.drew HS) (fun hHeld => ?_)
  clear HS
  refine pure_ (i := 0) (N := some 14) (v := ?_) (a' := ?_) #[true, false, false, false, false, false, false, false, false, false] rfl rfl (by kernel_rfl) (fun _ _ _ h => h) (Or.inl ⟨by rfl, ?_⟩) ?_ ?_
  rotate_left
  · intro w'
    go_simp
    with_reducible rfl
  rotate_left
  · simp only [Act.put, List.setIfInBounds_toArray, List.set_cons_zero, List.set_cons_succ]
    rfl
  refine pure_ (i := 1) (N := some 15) (v := ?_) (a' := ?_) #[true, true, false, false, false, false, false, false, false, false] rfl rfl (by kernel_rfl) (fun _ _ _ h => h) (Or.inl ⟨by rfl, ?_⟩) ?_ ?_
  rotate_left
  · intro w'
    go_simp
    with_reducible rfl
  rotate_left
  · simp only [Act.put, List.setIfInBounds_toArray, List.set_cons_zero, List.set_cons_succ]
    rfl
  refine pure_ (i := 2) (N := some 16) (v := ?_) (a' := ?_) #[true, true, true, false, false, false, false, false, false, false] rfl rfl (by kernel_rfl) (fun _ _ _ h => h) (Or.inl ⟨by rfl, ?_⟩) ?_ ?_
  rotate_left
  · intro w'
    go_simp
    with_reducible rfl
  rotate_left
  · simp only [Act.put, List.setIfInBounds_toArray, List.set_cons_zero, List.set_cons_succ]
    rfl
  refine take_ (i := 3) (N := some 17) (v := ?_) (a' := ?_) #[true, true, true, true, false, false, false, false, false, false] rfl rfl (by kernel_rfl) (fun _ _ _ h => h) (Or.inl ⟨by rfl, ?_⟩) hHeld ?_ ?_
  rotate_left
  · rintro w' ⟨_, _, k1, k2, k3, k4⟩
    go_simp
    with_reducible rfl
  rotate_left
  · simp only [Act.put, List.setIfInBounds_toArray, List.set_cons_zero, List.set_cons_succ]
    rfl
  refine pure_ (i := 4) (N := some 18) (v := ?_) (a' := ?_) #[true, true, true, true, true, false, false, false, false, false] rfl rfl (by kernel_rfl) (fun _ _ _ h => h) (Or.inl ⟨by rfl, ?_⟩) ?_ ?_
  rotate_left
  · intro w'
    go_simp
    with_reducible rfl
  rotate_left
  · simp only [Act.put, List.setIfInBounds_toArray, List.set_cons_zero, List.set_cons_succ]
    rfl
  refine one_ (i := 5) (N := some 19) #[true, true, true, true, true, true, false, false, false, false] rfl rfl (by kernel_rfl) (by decide) (fun K_ hK => ?_)
  refine goes_ Try.func74 (by kernel_rfl) rfl #[.int .i64 ((m : Int))] (by rfl) rfl rfl (by (try simp only [List.map_toArray, List.map_cons, List.map_nil]); first | done | rfl) ?_
  with_reducible refine (((HQ _).out)).mono ?_
  rintro e w2 ⟨rfl, hb⟩
  refine ⟨_, rfl, ?_⟩
  refine hK.out _ _ (WkS.keep hHeld hb) (fun hHeld => ?_)
  clear hK hb
  refine norm_ (a' := ?_) ?_ ?_
  rotate_left
  · show Act.put _ (some 19) _ = _
    simp only [Act.put, List.setIfInBounds_toArray, List.set_cons_zero, List.set_cons_succ]
    rfl
  refine pure_ (i := 6) (N := some 20) (v := ?_) (a' := ?_) #[true, true, true, true, true, true, true, false, false, false] rfl rfl (by kernel_rfl) (fun _ _ _ h => h) (Or.inl ⟨by rfl, ?_⟩) ?_ ?_
  rotate_left
  · intro w'
    go_simp
    with_reducible rfl
  rotate_left
  · simp only [Act.put, List.setIfInBounds_toArray, List.set_cons_zero, List.set_cons_succ]
    rfl
  refine pure_ (i := 7) (N := some 21) (v := ?_) (a' := ?_) #[true, true, true, true, true, true, true, true, false, false] rfl rfl (by kernel_rfl) (fun _ _ _ h => h) (Or.inl ⟨by rfl, ?_⟩) ?_ ?_
  rotate_left
  · intro w'
    go_simp
    with_reducible rfl
  rotate_left
  · simp only [Act.put, List.setIfInBounds_toArray, List.set_cons_zero, List.set_cons_succ]
    rfl
  refine pure_ (i := 8) (N := some 22) (v := ?_) (a' := ?_) #[true, true, true, true, true, true, true, true, true, false] rfl rfl (by kernel_rfl) (fun _ _ _ h => h) (Or.inl ⟨by rfl, ?_⟩) ?_ ?_
  rotate_left
  · intro w'
    go_simp
    with_reducible rfl
  rotate_left
  · simp only [Act.put, List.setIfInBounds_toArray, List.set_cons_zero, List.set_cons_succ]
    rfl
  refine last_ (i := 9) (N := none) #[true, true, true, true, true, true, true, true, true, true] rfl rfl (by kernel_rfl) (by decide) (fun K_ hK => ?_)
  have HS := hHeld
  obtain ⟨_, _, k1, k2, k3, k4⟩ := hHeld
  rw [if_pos (by rfl)]
  go_wp2
  refine hK.out _ _ ?_
  refine done_ (by kernel_rfl) ?_
  go_wp2
  refine bodyPost_ret (v := .tuple #[]) (by simp [results, Try.results73, go_sem]) rfl ?_
  exact ⟨rfl, blk_set HS.1.out 1 _, HS.2.1.out.setCell (Nat.le_refl g) _⟩
set_option maxHeartbeats 2000000 in
set_option maxRecDepth 100000 in
theorem do_right (g ar ai lr li re im : Nat) (n : Int) (m q : Nat) (f : Value) (w : World) (hg : w.heap[g]? = some (.cells #[.complex .f64 ar ai, .complex .f64 lr li] 101 (0, 0))) (hof : walk_often.f 4 n = some (m : Int)) (hm : m ≤ 1048576) (hq : ((-(m : Int)) % 4).toNat = q)
    (e1 : ∀ W : World, (binOp .mul 61 (.complex .f64 lr li) (.complex .f64 (qre q) (qim q))).run Try.prog W = .ok (.complex .f64 re im) W) :
    Calls Try.prog 73 #[.pointer (some ⟨g, 0, none⟩), .agg #[.int .i64 4, .int .i64 n], f] w (DoPost g w ar ai re im) := by
  have HG := Aside0.mk hg; clear hg
  have HOF := Aside0.mk hof; clear hof
  have HQ := fun W => Aside0.mk (quarter_calls (-(m : Int)) W)
  rw [hq] at HQ
  clear hq
  have hng : IntKind.i64.wrap (-(m : Int)) = -(m : Int) := by rw [IntKind.wrap_i64]; omega
  go_enter Try.func73, Try.ntmps73
  go_wp2_with (go_at_call 60; (with_reducible refine (walk_often.calls 4 n _ _ HOF.out).mono ?_); rintro e w1 ⟨rfl, hb1⟩; have bk1 := blk_keep (blk_new w (.cells #[.int .i64 4, .int .i64 n] 56)) hb1; have hc0 := blk_cell bk1 0; have HS := WkS.mk (w0 := w) (blk_keep (blk_keep HG.out (below_alloc (Below.refl _ _) _)) hb1) ((below_step (below_alloc (Below.refl _ _) _) hb1).mono (Nat.le_of_lt (lt_blk HG.out))); clear hb1 bk1)
  refine start_ (n := 11) (S := WkS w g ar ai lr li) (ds := [10]) #[false, false, false, false, false, false, false, false, false, false, false] (by kernel_rfl) rfl rfl (WkS.drew HS) (fun hHeld => ?_)
  clear HS
  refine pure_ (i := 0) (N := some 25) (v := ?_) (a' := ?_) #[true, false, false, false, false, false, false, false, false, false, false] rfl rfl (by kernel_rfl) (fun _ _ _ h => h) (Or.inl ⟨by rfl, ?_⟩) ?_ ?_
  rotate_left
  · intro w'
    go_simp
    with_reducible rfl
  rotate_left
  · simp only [Act.put, List.setIfInBounds_toArray, List.set_cons_zero, List.set_cons_succ]
    rfl
  refine pure_ (i := 1) (N := some 26) (v := ?_) (a' := ?_) #[true, true, false, false, false, false, false, false, false, false, false] rfl rfl (by kernel_rfl) (fun _ _ _ h => h) (Or.inl ⟨by rfl, ?_⟩) ?_ ?_
  rotate_left
  · intro w'
    go_simp
    with_reducible rfl
  rotate_left
  · simp only [Act.put, List.setIfInBounds_toArray, List.set_cons_zero, List.set_cons_succ]
    rfl
  refine pure_ (i := 2) (N := some 27) (v := ?_) (a' := ?_) #[true, true, true, false, false, false, false, false, false, false, false] rfl rfl (by kernel_rfl) (fun _ _ _ h => h) (Or.inl ⟨by rfl, ?_⟩) ?_ ?_
  rotate_left
  · intro w'
    go_simp
    with_reducible rfl
  rotate_left
  · simp only [Act.put, List.setIfInBounds_toArray, List.set_cons_zero, List.set_cons_succ]
    rfl
  refine take_ (i := 3) (N := some 28) (v := ?_) (a' := ?_) #[true, true, true, true, false, false, false, false, false, false, false] rfl rfl (by kernel_rfl) (fun _ _ _ h => h) (Or.inl ⟨by rfl, ?_⟩) hHeld ?_ ?_
  rotate_left
  · rintro w' ⟨_, _, k1, k2, k3, k4⟩
    go_simp
    with_reducible rfl
  rotate_left
  · simp only [Act.put, List.setIfInBounds_toArray, List.set_cons_zero, List.set_cons_succ]
    rfl
  refine pure_ (i := 4) (N := some 29) (v := ?_) (a' := ?_) #[true, true, true, true, true, false, false, false, false, false, false] rfl rfl (by kernel_rfl) (fun _ _ _ h => h) (Or.inl ⟨by rfl, ?_⟩) ?_ ?_
  rotate_left
  · intro w'
    go_simp
    with_reducible rfl
  rotate_left
  · simp only [Act.put, List.setIfInBounds_toArray, List.set_cons_zero, List.set_cons_succ]
    rfl
  refine pure_ (i := 5) (N := some 30) (v := ?_) (a' := ?_) #[true, true, true, true, true, true, false, false, false, false, false] rfl rfl (by kernel_rfl) (fun _ _ _ h => h) (Or.inl ⟨by rfl, ?_⟩) ?_ ?_
  rotate_left
  · intro w'
    go_simp
    with_reducible rfl
  rotate_left
  · simp only [Act.put, List.setIfInBounds_toArray, List.set_cons_zero, List.set_cons_succ]
    rfl
  refine one_ (i := 6) (N := some 31) #[true, true, true, true, true, true, true, false, false, false, false] rfl rfl (by kernel_rfl) (by decide) (fun K_ hK => ?_)
  refine goes_ Try.func74 (by kernel_rfl) rfl #[.int .i64 (-(m : Int))] (by rfl) rfl rfl (by (try simp only [List.map_toArray, List.map_cons, List.map_nil]); first | done | rfl) ?_
  with_reducible refine (((HQ _).out)).mono ?_
  rintro e w2 ⟨rfl, hb⟩
  refine ⟨_, rfl, ?_⟩
  refine hK.out _ _ (WkS.keep hHeld hb) (fun hHeld => ?_)
  clear hK hb
  refine norm_ (a' := ?_) ?_ ?_
  rotate_left
  · show Act.put _ (some 31) _ = _
    simp only [Act.put, List.setIfInBounds_toArray, List.set_cons_zero, List.set_cons_succ]
    rfl
  refine pure_ (i := 7) (N := some 32) (v := ?_) (a' := ?_) #[true, true, true, true, true, true, true, true, false, false, false] rfl rfl (by kernel_rfl) (fun _ _ _ h => h) (Or.inl ⟨by rfl, ?_⟩) ?_ ?_
  rotate_left
  · intro w'
    go_simp
    with_reducible rfl
  rotate_left
  · simp only [Act.put, List.setIfInBounds_toArray, List.set_cons_zero, List.set_cons_succ]
    rfl
  refine pure_ (i := 8) (N := some 33) (v := ?_) (a' := ?_) #[true, true, true, true, true, true, true, true, true, false, false] rfl rfl (by kernel_rfl) (fun _ _ _ h => h) (Or.inl ⟨by rfl, ?_⟩) ?_ ?_
  rotate_left
  · intro w'
    go_simp
    with_reducible rfl
  rotate_left
  · simp only [Act.put, List.setIfInBounds_toArray, List.set_cons_zero, List.set_cons_succ]
    rfl
  refine pure_ (i := 9) (N := some 34) (v := ?_) (a' := ?_) #[true, true, true, true, true, true, true, true, true, true, false] rfl rfl (by kernel_rfl) (fun _ _ _ h => h) (Or.inl ⟨by rfl, ?_⟩) ?_ ?_
  rotate_left
  · intro w'
    go_simp
    with_reducible rfl
  rotate_left
  · simp only [Act.put, List.setIfInBounds_toArray, List.set_cons_zero, List.set_cons_succ]
    rfl
  refine last_ (i := 10) (N := none) #[true, true, true, true, true, true, true, true, true, true, true] rfl rfl (by kernel_rfl) (by decide) (fun K_ hK => ?_)
  have HS := hHeld
  obtain ⟨_, _, k1, k2, k3, k4⟩ := hHeld
  rw [if_pos (by rfl)]
  go_wp2
  refine hK.out _ _ ?_
  refine done_ (by kernel_rfl) ?_
  go_wp2
  refine bodyPost_ret (v := .tuple #[]) (by simp [results, Try.results73, go_sem]) rfl ?_
  exact ⟨rfl, blk_set HS.1.out 1 _, HS.2.1.out.setCell (Nat.le_refl g) _⟩
set_option maxHeartbeats 4000000 in
set_option maxRecDepth 100000 in
theorem do_goes (g ar ai lr li sb : Nat) (k n : Int) (m : Nat) (s1 s2 t1 t2 r1 r2 : Nat) (w : World) (hg : w.heap[g]? = some (.cells #[.complex .f64 ar ai, .complex .f64 lr li] 101 (0, 0))) (hof : walk_often.f k n = some (m : Int)) (hm : m ≤ 1048576) (hk3 : k ≠ 3) (hk4 : k ≠ 4) (hsb : sb = if k = 2 then 13830554455654793216 else 4607182418800017408)
    (e1 : ∀ W : World, (binOp .mul 61 (.complex .f64 lr li) (.complex .f64 sb 0)).run Try.prog W = .ok (.complex .f64 s1 s2) W)
    (e2 : ∀ W : World, (binOp .mul 61 (.complex .f64 s1 s2) (.complex .f64 (floatOfInt .f64 (m : Int)) 0)).run Try.prog W = .ok (.complex .f64 t1 t2) W)
    (e3 : ∀ W : World, (binOp .add 61 (.complex .f64 ar ai) (.complex .f64 t1 t2)).run Try.prog W = .ok (.complex .f64 r1 r2) W) :
    Calls Try.prog 73 #[.pointer (some ⟨g, 0, none⟩), .agg #[.int .i64 k, .int .i64 n], .nilFunc] w (DoPost g w r1 r2 lr li) := by
  have HG := Aside0.mk hg; clear hg
  have HOF := Aside0.mk hof; clear hof
  have k3 : (k == 3) = false := beq_eq_false_iff_ne.2 hk3
  have k4 : (k == 4) = false := beq_eq_false_iff_ne.2 hk4
  clear hk3 hk4
  have e0 : ∀ W : World, (binOp .eql 106 .nilFunc .nilFunc).run Try.prog W = .ok (.bool true) W := fun W => by rfl
  by_cases hk2 : k = 2
  · rw [if_pos hk2] at hsb
    subst hsb
    subst hk2
    go_enter Try.func73, Try.ntmps73
    go_wp2_with (go_at_call 60; (with_reducible refine (walk_often.calls 2 n _ _ HOF.out).mono ?_); rintro e w1 ⟨rfl, hb1⟩; have bk1 := blk_keep (blk_new w (.cells #[.int .i64 2, .int .i64 n] 56)) hb1; have hc0 := blk_cell bk1 0; have HS := WkS.mk (w0 := w) (blk_keep (blk_keep HG.out (below_alloc (Below.refl _ _) _)) hb1) ((below_step (below_alloc (Below.refl _ _) _) hb1).mono (Nat.le_of_lt (lt_blk HG.out))); clear hb1 bk1)
    refine start_ (n := 18) (S := WkS w g ar ai lr li) (ds := [17]) #[false, false, false, false, false, false, false, false, false, false, false, false, false, false, false, false, false, false] (by kernel_rfl) rfl rfl (WkS.drew HS) (fun hHeld => ?_)
    clear HS
    refine pure_ (i := 0) (N := some 39) (v := ?_) (a' := ?_) #[true, false, false, false, false, false, false, false, false, false, false, false, false, false, false, false, false, false] rfl rfl (by kernel_rfl) (fun _ _ _ h => h) (Or.inl ⟨by rfl, ?_⟩) ?_ ?_
    rotate_left
    · intro w'
      go_simp
      with_reducible rfl
    rotate_left
    · simp only [Act.put, List.setIfInBounds_toArray, List.set_cons_zero, List.set_cons_succ]
      rfl
    refine pure_ (i := 1) (N := some 40) (v := ?_) (a' := ?_) #[true, true, false, false, false, false, false, false, false, false, false, false, false, false, false, false, false, false] rfl rfl (by kernel_rfl) (fun _ _ _ h => h) (Or.inl ⟨by rfl, ?_⟩) ?_ ?_
    rotate_left
    · intro w'
      go_simp
      with_reducible rfl
    rotate_left
    · simp only [Act.put, List.setIfInBounds_toArray, List.set_cons_zero, List.set_cons_succ]
      rfl
    refine pure_ (i := 2) (N := some 41) (v := ?_) (a' := ?_) #[true, true, true, false, false, false, false, false, false, false, false, false, false, false, false, false, false, false] rfl rfl (by kernel_rfl) (fun _ _ _ h => h) (Or.inl ⟨by rfl, ?_⟩) ?_ ?_
    rotate_left
    · intro w'
      go_simp
      with_reducible rfl
    rotate_left
    · simp only [Act.put, List.setIfInBounds_toArray, List.set_cons_zero, List.set_cons_succ]
      rfl
    refine take_ (i := 3) (N := some 42) (v := ?_) (a' := ?_) #[true, true, true, true, false, false, false, false, false, false, false, false, false, false, false, false, false, false] rfl rfl (by kernel_rfl) (fun _ _ _ h => h) (Or.inl ⟨by rfl, ?_⟩) hHeld ?_ ?_
    rotate_left
    · rintro w' ⟨_, _, k1, k2, k3, k4⟩
      go_simp
      with_reducible rfl
    rotate_left
    · simp only [Act.put, List.setIfInBounds_toArray, List.set_cons_zero, List.set_cons_succ]
      rfl
    refine pure_ (i := 4) (N := some 43) (v := ?_) (a' := ?_) #[true, true, true, true, true, false, false, false, false, false, false, false, false, false, false, false, false, false] rfl rfl (by kernel_rfl) (fun _ _ _ h => h) (Or.inl ⟨by rfl, ?_⟩) ?_ ?_
    rotate_left
    · intro w'
      go_simp
      with_reducible rfl
    rotate_left
    · simp only [Act.put, List.setIfInBounds_toArray, List.set_cons_zero, List.set_cons_succ]
      rfl
    refine pure_ (i := 5) (N := some 44) (v := ?_) (a' := ?_) #[true, true, true, true, true, true, false, false, false, false, false, false, false, false, false, false, false, false] rfl rfl (by kernel_rfl) (fun _ _ _ h => h) (Or.inl ⟨by rfl, ?_⟩) ?_ ?_
    rotate_left
    · intro w'
      go_simp
      with_reducible rfl
    rotate_left
    · simp only [Act.put, List.setIfInBounds_toArray, List.set_cons_zero, List.set_cons_succ]
      rfl
    refine pure_ (i := 6) (N := some 45) (v := ?_) (a' := ?_) #[true, true, true, true, true, true, true, false, false, false, false, false, false, false, false, false, false, false] rfl rfl (by kernel_rfl) (fun _ _ _ h => h) (Or.inl ⟨by rfl, ?_⟩) ?_ ?_
    rotate_left
    · intro w'
      go_simp
      with_reducible rfl
    rotate_left
    · simp only [Act.put, List.setIfInBounds_toArray, List.set_cons_zero, List.set_cons_succ]
      rfl
    refine take_ (i := 7) (N := some 46) (v := ?_) (a' := ?_) #[true, true, true, true, true, true, true, true, false, false, false, false, false, false, false, false, false, false] rfl rfl (by kernel_rfl) (fun _ _ _ h => h) (Or.inl ⟨by rfl, ?_⟩) hHeld ?_ ?_
    rotate_left
    · rintro w' ⟨_, _, k1, k2, k3, k4⟩
      go_simp
      with_reducible rfl
    rotate_left
    · simp only [Act.put, List.setIfInBounds_toArray, List.set_cons_zero, List.set_cons_succ]
      rfl
    refine pure_ (i := 8) (N := some 47) (v := ?_) (a' := ?_) #[true, true, true, true, true, true, true, true, true, false, false, false, false, false, false, false, false, false] rfl rfl (by kernel_rfl) (fun _ _ _ h => h) (Or.inl ⟨by rfl, ?_⟩) ?_ ?_
    rotate_left
    · intro w'
      go_simp
      with_reducible rfl
    rotate_left
    · simp only [Act.put, List.setIfInBounds_toArray, List.set_cons_zero, List.set_cons_succ]
      rfl
    refine pure_ (i := 9) (N := some 48) (v := ?_) (a' := ?_) #[true, true, true, true, true, true, true, true, true, true, false, false, false, false, false, false, false, false] rfl rfl (by kernel_rfl) (fun _ _ _ h => h) (Or.inl ⟨by rfl, ?_⟩) ?_ ?_
    rotate_left
    · intro w'
      go_simp
      with_reducible rfl
    rotate_left
    · simp only [Act.put, List.setIfInBounds_toArray, List.set_cons_zero, List.set_cons_succ]
      rfl
    refine pure_ (i := 10) (N := some 49) (v := ?_) (a' := ?_) #[true, true, true, true, true, true, true, true, true, true, true, false, false, false, false, false, false, false] rfl rfl (by kernel_rfl) (fun _ _ _ h => h) (Or.inl ⟨by rfl, ?_⟩) ?_ ?_
    rotate_left
    · intro w'
      go_simp
      with_reducible rfl
    rotate_left
    · simp only [Act.put, List.setIfInBounds_toArray, List.set_cons_zero, List.set_cons_succ]
      rfl
    refine pure_ (i := 11) (N := some 50) (v := ?_) (a' := ?_) #[true, true, true, true, true, true, true, true, true, true, true, true, false, false, false, false, false, false] rfl rfl (by kernel_rfl) (fun _ _ _ h => h) (Or.inl ⟨by rfl, ?_⟩) ?_ ?_
    rotate_left
    · intro w'
      go_simp
      with_reducible rfl
    rotate_left
    · simp only [Act.put, List.setIfInBounds_toArray, List.set_cons_zero, List.set_cons_succ]
      rfl
    refine pure_ (i := 12) (N := some 51) (v := ?_) (a' := ?_) #[true, true, true, true, true, true, true, true, true, true, true, true, true, false, false, false, false, false] rfl rfl (by kernel_rfl) (fun _ _ _ h => h) (Or.inl ⟨by rfl, ?_⟩) ?_ ?_
    rotate_left
    · intro w'
      go_simp
      with_reducible rfl
    rotate_left
    · simp only [Act.put, List.setIfInBounds_toArray, List.set_cons_zero, List.set_cons_succ]
      rfl
    refine pure_ (i := 13) (N := some 52) (v := ?_) (a' := ?_) #[true, true, true, true, true, true, true, true, true, true, true, true, true, true, false, false, false, false] rfl rfl (by kernel_rfl) (fun _ _ _ h => h) (Or.inl ⟨by rfl, ?_⟩) ?_ ?_
    rotate_left
    · intro w'
      go_simp
      with_reducible rfl
    rotate_left
    · simp only [Act.put, List.setIfInBounds_toArray, List.set_cons_zero, List.set_cons_succ]
      rfl
    refine pure_ (i := 14) (N := some 53) (v := ?_) (a' := ?_) #[true, true, true, true, true, true, true, true, true, true, true, true, true, true, true, false, false, false] rfl rfl (by kernel_rfl) (fun _ _ _ h => h) (Or.inl ⟨by rfl, ?_⟩) ?_ ?_
    rotate_left
    · intro w'
      go_simp
      with_reducible rfl
    rotate_left
    · simp only [Act.put, List.setIfInBounds_toArray, List.set_cons_zero, List.set_cons_succ]
      rfl
    refine pure_ (i := 15) (N := some 54) (v := ?_) (a' := ?_) #[true, true, true, true, true, true, true, true, true, true, true, true, true, true, true, true, false, false] rfl rfl (by kernel_rfl) (fun _ _ _ h => h) (Or.inl ⟨by rfl, ?_⟩) ?_ ?_
    rotate_left
    · intro w'
      go_simp
      with_reducible rfl
    rotate_left
    · simp only [Act.put, List.setIfInBounds_toArray, List.set_cons_zero, List.set_cons_succ]
      rfl
    refine pure_ (i := 16) (N := some 55) (v := ?_) (a' := ?_) #[true, true, true, true, true, true, true, true, true, true, true, true, true, true, true, true, true, false] rfl rfl (by kernel_rfl) (fun _ _ _ h => h) (Or.inl ⟨by rfl, ?_⟩) ?_ ?_
    rotate_left
    · intro w'
      go_simp
      with_reducible rfl
    rotate_left
    · simp only [Act.put, List.setIfInBounds_toArray, List.set_cons_zero, List.set_cons_succ]
      rfl
    refine last_ (i := 17) (N := none) #[true, true, true, true, true, true, true, true, true, true, true, true, true, true, true, true, true, true] rfl rfl (by kernel_rfl) (by decide) (fun K_ hK => ?_)
    have HS := hHeld
    obtain ⟨_, _, k1, k2, k3, k4⟩ := hHeld
    rw [if_pos (by rfl)]
    go_wp2
    refine hK.out _ _ ?_
    refine done_ (by kernel_rfl) ?_
    go_wp2
    refine bodyPost_ret (v := .tuple #[]) (by simp [results, Try.results73, go_sem]) rfl ?_
    exact ⟨rfl, blk_set HS.1.out 0 _, HS.2.1.out.setCell (Nat.le_refl g) _⟩
  · rw [if_neg hk2] at hsb
    subst hsb
    have k2 : (k == 2) = false := beq_eq_false_iff_ne.2 hk2
    clear hk2
    go_enter Try.func73, Try.ntmps73
    go_wp2_with (go_at_call 60; (with_reducible refine (walk_often.calls k n _ _ HOF.out).mono ?_); rintro e w1 ⟨rfl, hb1⟩; have bk1 := blk_keep (blk_new w (.cells #[.int .i64 k, .int .i64 n] 56)) hb1; have hc0 := blk_cell bk1 0; have HS := WkS.mk (w0 := w) (blk_keep (blk_keep HG.out (below_alloc (Below.refl _ _) _)) hb1) ((below_step (below_alloc (Below.refl _ _) _) hb1).mono (Nat.le_of_lt (lt_blk HG.out))); clear hb1 bk1)
    refine start_ (n := 18) (S := WkS w g ar ai lr li) (ds := [17]) #[false, false, false, false, false, false, false, false, false, false, false, false, false, false, false, false, false, false] (by kernel_rfl) rfl rfl (WkS.drew HS) (fun hHeld => ?_)
    clear HS
    refine pure_ (i := 0) (N := some 39) (v := ?_) (a' := ?_) #[true, false, false, false, false, false, false, false, false, false, false, false, false, false, false, false, false, false] rfl rfl (by kernel_rfl) (fun _ _ _ h => h) (Or.inl ⟨by rfl, ?_⟩) ?_ ?_
    rotate_left
    · intro w'
      go_simp
      with_reducible rfl
    rotate_left
    · simp only [Act.put, List.setIfInBounds_toArray, List.set_cons_zero, List.set_cons_succ]
      rfl
    refine pure_ (i := 1) (N := some 40) (v := ?_) (a' := ?_) #[true, true, false, false, false, false, false, false, false, false, false, false, false, false, false, false, false, false] rfl rfl (by kernel_rfl) (fun _ _ _ h => h) (Or.inl ⟨by rfl, ?_⟩) ?_ ?_
    rotate_left
    · intro w'
      go_simp
      with_reducible rfl
    rotate_left
    · simp only [Act.put, List.setIfInBounds_toArray, List.set_cons_zero, List.set_cons_succ]
      rfl
    refine pure_ (i := 2) (N := some 41) (v := ?_) (a' := ?_) #[true, true, true, false, false, false, false, false, false, false, false, false, false, false, false, false, false, false] rfl rfl (by kernel_rfl) (fun _ _ _ h => h) (Or.inl ⟨by rfl, ?_⟩) ?_ ?_
    rotate_left
    · intro w'
      go_simp
      with_reducible rfl
    rotate_left
    · simp only [Act.put, List.setIfInBounds_toArray, List.set_cons_zero, List.set_cons_succ]
      rfl
    refine take_ (i := 3) (N := some 42) (v := ?_) (a' := ?_) #[true, true, true, true, false, false, false, false, false, false, false, false, false, false, false, false, false, false] rfl rfl (by kernel_rfl) (fun _ _ _ h => h) (Or.inl ⟨by rfl, ?_⟩) hHeld ?_ ?_
    rotate_left
    · rintro w' ⟨_, _, k1, k2, k3, k4⟩
      go_simp
      with_reducible rfl
    rotate_left
    · simp only [Act.put, List.setIfInBounds_toArray, List.set_cons_zero, List.set_cons_succ]
      rfl
    refine pure_ (i := 4) (N := some 43) (v := ?_) (a' := ?_) #[true, true, true, true, true, false, false, false, false, false, false, false, false, false, false, false, false, false] rfl rfl (by kernel_rfl) (fun _ _ _ h => h) (Or.inl ⟨by rfl, ?_⟩) ?_ ?_
    rotate_left
    · intro w'
      go_simp
      with_reducible rfl
    rotate_left
    · simp only [Act.put, List.setIfInBounds_toArray, List.set_cons_zero, List.set_cons_succ]
      rfl
    refine pure_ (i := 5) (N := some 44) (v := ?_) (a' := ?_) #[true, true, true, true, true, true, false, false, false, false, false, false, false, false, false, false, false, false] rfl rfl (by kernel_rfl) (fun _ _ _ h => h) (Or.inl ⟨by rfl, ?_⟩) ?_ ?_
    rotate_left
    · intro w'
      go_simp
      with_reducible rfl
    rotate_left
    · simp only [Act.put, List.setIfInBounds_toArray, List.set_cons_zero, List.set_cons_succ]
      rfl
    refine pure_ (i := 6) (N := some 45) (v := ?_) (a' := ?_) #[true, true, true, true, true, true, true, false, false, false, false, false, false, false, false, false, false, false] rfl rfl (by kernel_rfl) (fun _ _ _ h => h) (Or.inl ⟨by rfl, ?_⟩) ?_ ?_
    rotate_left
    · intro w'
      go_simp
      with_reducible rfl
    rotate_left
    · simp only [Act.put, List.setIfInBounds_toArray, List.set_cons_zero, List.set_cons_succ]
      rfl
    refine take_ (i := 7) (N := some 46) (v := ?_) (a' := ?_) #[true, true, true, true, true, true, true, true, false, false, false, false, false, false, false, false, false, false] rfl rfl (by kernel_rfl) (fun _ _ _ h => h) (Or.inl ⟨by rfl, ?_⟩) hHeld ?_ ?_
    rotate_left
    · rintro w' ⟨_, _, k1, k2, k3, k4⟩
      go_simp
      with_reducible rfl
    rotate_left
    · simp only [Act.put, List.setIfInBounds_toArray, List.set_cons_zero, List.set_cons_succ]
      rfl
    refine pure_ (i := 8) (N := some 47) (v := ?_) (a' := ?_) #[true, true, true, true, true, true, true, true, true, false, false, false, false, false, false, false, false, false] rfl rfl (by kernel_rfl) (fun _ _ _ h => h) (Or.inl ⟨by rfl, ?_⟩) ?_ ?_
    rotate_left
    · intro w'
      go_simp
      with_reducible rfl
    rotate_left
    · simp only [Act.put, List.setIfInBounds_toArray, List.set_cons_zero, List.set_cons_succ]
      rfl
    refine pure_ (i := 9) (N := some 48) (v := ?_) (a' := ?_) #[true, true, true, true, true, true, true, true, true, true, false, false, false, false, false, false, false, false] rfl rfl (by kernel_rfl) (fun _ _ _ h => h) (Or.inl ⟨by rfl, ?_⟩) ?_ ?_
    rotate_left
    · intro w'
      go_simp
      with_reducible rfl
    rotate_left
    · simp only [Act.put, List.setIfInBounds_toArray, List.set_cons_zero, List.set_cons_succ]
      rfl
    refine pure_ (i := 10) (N := some 49) (v := ?_) (a' := ?_) #[true, true, true, true, true, true, true, true, true, true, true, false, false, false, false, false, false, false] rfl rfl (by kernel_rfl) (fun _ _ _ h => h) (Or.inl ⟨by rfl, ?_⟩) ?_ ?_
    rotate_left
    · intro w'
      go_simp
      with_reducible rfl
    rotate_left
    · simp only [Act.put, List.setIfInBounds_toArray, List.set_cons_zero, List.set_cons_succ]
      rfl
    refine pure_ (i := 11) (N := some 50) (v := ?_) (a' := ?_) #[true, true, true, true, true, true, true, true, true, true, true, true, false, false, false, false, false, false] rfl rfl (by kernel_rfl) (fun _ _ _ h => h) (Or.inl ⟨by rfl, ?_⟩) ?_ ?_
    rotate_left
    · intro w'
      go_simp
      with_reducible rfl
    rotate_left
    · simp only [Act.put, List.setIfInBounds_toArray, List.set_cons_zero, List.set_cons_succ]
      rfl
    refine pure_ (i := 12) (N := some 51) (v := ?_) (a' := ?_) #[true, true, true, true, true, true, true, true, true, true, true, true, true, false, false, false, false, false] rfl rfl (by kernel_rfl) (fun _ _ _ h => h) (Or.inl ⟨by rfl, ?_⟩) ?_ ?_
    rotate_left
    · intro w'
      go_simp
      with_reducible rfl
    rotate_left
    · simp only [Act.put, List.setIfInBounds_toArray, List.set_cons_zero, List.set_cons_succ]
      rfl
    refine pure_ (i := 13) (N := some 52) (v := ?_) (a' := ?_) #[true, true, true, true, true, true, true, true, true, true, true, true, true, true, false, false, false, false] rfl rfl (by kernel_rfl) (fun _ _ _ h => h) (Or.inl ⟨by rfl, ?_⟩) ?_ ?_
    rotate_left
    · intro w'
      go_simp
      with_reducible rfl
    rotate_left
    · simp only [Act.put, List.setIfInBounds_toArray, List.set_cons_zero, List.set_cons_succ]
      rfl
    refine pure_ (i := 14) (N := some 53) (v := ?_) (a' := ?_) #[true, true, true, true, true, true, true, true, true, true, true, true, true, true, true, false, false, false] rfl rfl (by kernel_rfl) (fun _ _ _ h => h) (Or.inl ⟨by rfl, ?_⟩) ?_ ?_
    rotate_left
    · intro w'
      go_simp
      with_reducible rfl
    rotate_left
    · simp only [Act.put, List.setIfInBounds_toArray, List.set_cons_zero, List.set_cons_succ]
      rfl
    refine pure_ (i := 15) (N := some 54) (v := ?_) (a' := ?_) #[true, true, true, true, true, true, true, true, true, true, true, true, true, true, true, true, false, false] rfl rfl (by kernel_rfl) (fun _ _ _ h => h) (Or.inl ⟨by rfl, ?_⟩) ?_ ?_
    rotate_left
    · intro w'
      go_simp
      with_reducible rfl
    rotate_left
    · simp only [Act.put, List.setIfInBounds_toArray, List.set_cons_zero, List.set_cons_succ]
      rfl
    refine pure_ (i := 16) (N := some 55) (v := ?_) (a' := ?_) #[true, true, true, true, true, true, true, true, true, true, true, true, true, true, true, true, true, false] rfl rfl (by kernel_rfl) (fun _ _ _ h => h) (Or.inl ⟨by rfl, ?_⟩) ?_ ?_
    rotate_left
    · intro w'
      go_simp
      with_reducible rfl
    rotate_left
    · simp only [Act.put, List.setIfInBounds_toArray, List.set_cons_zero, List.set_cons_succ]
      rfl
    refine last_ (i := 17) (N := none) #[true, true, true, true, true, true, true, true, true, true, true, true, true, true, true, true, true, true] rfl rfl (by kernel_rfl) (by decide) (fun K_ hK => ?_)
    have HS := hHeld
    obtain ⟨_, _, k1, k2, k3, k4⟩ := hHeld
    rw [if_pos (by rfl)]
    go_wp2
    refine hK.out _ _ ?_
    refine done_ (by kernel_rfl) ?_
    go_wp2
    refine bodyPost_ret (v := .tuple #[]) (by simp [results, Try.results73, go_sem]) rfl ?_
    exact ⟨rfl, blk_set HS.1.out 0 _, HS.2.1.out.setCell (Nat.le_refl g) _⟩
end Go.Proofs.Ytpoghhcpoimepaa.P
end
section
/- Motions: a motion as a move. -/
namespace Go.Proofs.Ytpoghhcpoimepaa.P
open Go.Proofs.Ytpoghhcpoimepaa.B Go.RowKit Go.Proofs.YtpoghhcpoimepaaW.PrintWords Go.Proofs.YtpoghhcpoimepaaW.PrintLast Go.Proofs.YtpoghhcpoimepaaW.PrintMore Go.Proofs.Ytpoghhcpoimepaa.FX Go.Proofs.Ytpoghhcpoimepaa.H
set_option linter.unusedVariables false
set_option linter.unusedSimpArgs false
attribute [local go_sem] run_store_complex
abbrev OfS (w0 : World) (n x y : Int) (w' : World) : Prop :=
  Aside0 (w'.heap[w0.heap.size]? = some (.cells #[.int .i64 n, .int .i64 x, .int .i64 y] 34 (0, 0))) ∧ Aside0 (w'.heap[w0.heap.size + 1]? = some (.cells #[.complex .f64 0 0, .complex .f64 0 0] 109 (0, 0))) ∧ Aside0 (Below w0.heap.size w0 w') ∧
  w'.cell? ⟨w0.heap.size, 0, none⟩ = some (.int .i64 n) ∧ w'.cell? ⟨w0.heap.size, 1, none⟩ = some (.int .i64 x) ∧ w'.cell? ⟨w0.heap.size, 2, none⟩ = some (.int .i64 y)
theorem OfS.mk {w0 : World} {n x y : Int} {w' : World} (h1 : w'.heap[w0.heap.size]? = some (.cells #[.int .i64 n, .int .i64 x, .int .i64 y] 34 (0, 0))) (h2 : w'.heap[w0.heap.size + 1]? = some (.cells #[.complex .f64 0 0, .complex .f64 0 0] 109 (0, 0))) (h3 : Below w0.heap.size w0 w') : OfS w0 n x y w' :=
  ⟨⟨h1⟩, ⟨h2⟩, ⟨h3⟩, blk_cell h1 0, blk_cell h1 1, blk_cell h1 2⟩
theorem OfS.drew {w0 : World} {n x y : Int} {w1 : World} (h : OfS w0 n x y w1) : OfS w0 n x y w1.drew := OfS.mk h.1.out h.2.1.out (below_drew h.2.2.1.out)
abbrev O2S (w0 : World) (g3 g4 : Nat) (A1 A2 F1 F2 : Int) (w' : World) : Prop :=
  Aside0 (w'.heap[g3]? = some (.cells #[.int .i64 A1, .int .i64 A2] 24 (0, 0))) ∧ Aside0 (w'.heap[g4]? = some (.cells #[.int .i64 F1, .int .i64 F2] 24 (0, 0))) ∧ Aside0 (w'.heap[w0.heap.size + 1]? = some (.cells #[.complex .f64 0 0, .complex .f64 0 0] 109 (0, 0))) ∧ Aside0 (Below w0.heap.size w0 w') ∧
  w'.cell? ⟨g3, 0, none⟩ = some (.int .i64 A1) ∧ w'.cell? ⟨g3, 1, none⟩ = some (.int .i64 A2) ∧ w'.cell? ⟨g4, 0, none⟩ = some (.int .i64 F1) ∧ w'.cell? ⟨g4, 1, none⟩ = some (.int .i64 F2) ∧
  w'.cell? ⟨w0.heap.size + 1, 0, none⟩ = some (.complex .f64 0 0) ∧ w'.cell? ⟨w0.heap.size + 1, 1, none⟩ = some (.complex .f64 0 0) ∧ w'.frozen? ⟨w0.heap.size + 1, 0, none⟩ = false ∧ w'.frozen? ⟨w0.heap.size + 1, 1, none⟩ = false
theorem O2S.mk {w0 : World} {g3 g4 : Nat} {A1 A2 F1 F2 : Int} {w' : World} (h1 : w'.heap[g3]? = some (.cells #[.int .i64 A1, .int .i64 A2] 24 (0, 0))) (h2 : w'.heap[g4]? = some (.cells #[.int .i64 F1, .int .i64 F2] 24 (0, 0))) (h3 : w'.heap[w0.heap.size + 1]? = some (.cells #[.complex .f64 0 0, .complex .f64 0 0] 109 (0, 0))) (h4 : Below w0.heap.size w0 w') : O2S w0 g3 g4 A1 A2 F1 F2 w' :=
  ⟨⟨h1⟩, ⟨h2⟩, ⟨h3⟩, ⟨h4⟩, blk_cell h1 0, blk_cell h1 1, blk_cell h2 0, blk_cell h2 1, blk_cell h3 0, blk_cell h3 1, blk_frozen h3 0, blk_frozen h3 1⟩
theorem O2S.drew {w0 : World} {g3 g4 : Nat} {A1 A2 F1 F2 : Int} {w1 : World} (h : O2S w0 g3 g4 A1 A2 F1 F2 w1) : O2S w0 g3 g4 A1 A2 F1 F2 w1.drew := O2S.mk h.1.out h.2.1.out h.2.2.1.out (below_drew h.2.2.2.1.out)
end Go.Proofs.Ytpoghhcpoimepaa.P
end
section
/- Several texts in one. -/
section
/- Motions: Fix and Back. -/
namespace Go.Proofs.Ytpoghhcpoimepaa.P
open Go.Proofs.Ytpoghhcpoimepaa.B Go.RowKit Go.Proofs.YtpoghhcpoimepaaW.PrintWords Go.Proofs.YtpoghhcpoimepaaW.PrintLast Go.Proofs.YtpoghhcpoimepaaW.PrintMore Go.Proofs.Ytpoghhcpoimepaa.FX Go.Proofs.Ytpoghhcpoimepaa.H
set_option linter.unusedVariables false
set_option linter.unusedSimpArgs false
attribute [local go_sem] run_store_complex
theorem near_le {m n : Nat} {p : Int × Int} (h : near m p) (hmn : m ≤ n) : near n p := ⟨Nat.le_trans h.1 hmn, Nat.le_trans h.2 hmn⟩
end Go.Proofs.Ytpoghhcpoimepaa.P
end
section
/- Motions: Then. -/
namespace Go.Proofs.Ytpoghhcpoimepaa.P
open Go.Proofs.Ytpoghhcpoimepaa.B Go.RowKit Go.Proofs.YtpoghhcpoimepaaW.PrintWords Go.Proofs.YtpoghhcpoimepaaW.PrintLast Go.Proofs.YtpoghhcpoimepaaW.PrintMore Go.Proofs.Ytpoghhcpoimepaa.FX Go.Proofs.Ytpoghhcpoimepaa.H
set_option linter.unusedVariables false
set_option linter.unusedSimpArgs false
attribute [local go_sem] run_store_complex
abbrev ThS (w0 : World) (n x y n' x' y' : Int) (w' : World) : Prop :=
  Aside0 (w'.heap[w0.heap.size]? = some (.cells #[.int .i64 n, .int .i64 x, .int .i64 y] 34 (0, 0))) ∧ Aside0 (w'.heap[w0.heap.size + 1]? = some (.cells #[.int .i64 n', .int .i64 x', .int .i64 y'] 34 (0, 0))) ∧ Aside0 (w'.heap[w0.heap.size + 1 + 1]? = some (.cells #[.int .i64 0, .int .i64 0, .int .i64 0] 34 (0, 0))) ∧ Aside0 (Below w0.heap.size w0 w') ∧ w'.cell? ⟨w0.heap.size, 0, none⟩ = some (.int .i64 n) ∧ w'.cell? ⟨w0.heap.size, 1, none⟩ = some (.int .i64 x) ∧ w'.cell? ⟨w0.heap.size, 2, none⟩ = some (.int .i64 y) ∧ w'.cell? ⟨w0.heap.size + 1, 0, none⟩ = some (.int .i64 n') ∧ w'.cell? ⟨w0.heap.size + 1, 1, none⟩ = some (.int .i64 x') ∧ w'.cell? ⟨w0.heap.size + 1, 2, none⟩ = some (.int .i64 y') ∧ w'.cell? ⟨w0.heap.size + 1 + 1, 0, none⟩ = some (.int .i64 0) ∧ w'.cell? ⟨w0.heap.size + 1 + 1, 1, none⟩ = some (.int .i64 0) ∧ w'.cell? ⟨w0.heap.size + 1 + 1, 2, none⟩ = some (.int .i64 0) ∧ w'.frozen? ⟨w0.heap.size + 1 + 1, 0, none⟩ = false ∧ w'.frozen? ⟨w0.heap.size + 1 + 1, 1, none⟩ = false ∧ w'.frozen? ⟨w0.heap.size + 1 + 1, 2, none⟩ = false
theorem ThS.mk {w0 : World} {n x y n' x' y' : Int} {w' : World} (h0 : w'.heap[w0.heap.size]? = some (.cells #[.int .i64 n, .int .i64 x, .int .i64 y] 34 (0, 0))) (h1 : w'.heap[w0.heap.size + 1]? = some (.cells #[.int .i64 n', .int .i64 x', .int .i64 y'] 34 (0, 0))) (h2 : w'.heap[w0.heap.size + 1 + 1]? = some (.cells #[.int .i64 0, .int .i64 0, .int .i64 0] 34 (0, 0))) (hB : Below w0.heap.size w0 w') : ThS w0 n x y n' x' y' w' :=
  ⟨⟨h0⟩, ⟨h1⟩, ⟨h2⟩, ⟨hB⟩, blk_cell h0 0, blk_cell h0 1, blk_cell h0 2, blk_cell h1 0, blk_cell h1 1, blk_cell h1 2, blk_cell h2 0, blk_cell h2 1, blk_cell h2 2, blk_frozen h2 0, blk_frozen h2 1, blk_frozen h2 2⟩
theorem ThS.drew {w0 : World} {n x y n' x' y' : Int} {w1 : World} (h : ThS w0 n x y n' x' y' w1) : ThS w0 n x y n' x' y' w1.drew :=
  ThS.mk h.1.out h.2.1.out h.2.2.1.out (below_drew h.2.2.2.1.out)
theorem cm_ip (a b : Nat) (ha : a < 4) (hb : b < 4) : cm (ip a) (ip b) = ip ((a + b) % 4) := by
  have h1 : a = 0 ∨ a = 1 ∨ a = 2 ∨ a = 3 := by omega
  have h2 : b = 0 ∨ b = 1 ∨ b = 2 ∨ b = 3 := by omega
  rcases h1 with h | h | h | h <;> rcases h2 with h' | h' | h' | h' <;> rw [h, h'] <;> decide
end Go.Proofs.Ytpoghhcpoimepaa.P
end
section
/- Motions: Do. -/
namespace Go.Proofs.Ytpoghhcpoimepaa.P
open Go.Proofs.Ytpoghhcpoimepaa.B Go.RowKit Go.Proofs.YtpoghhcpoimepaaW.PrintWords Go.Proofs.YtpoghhcpoimepaaW.PrintLast Go.Proofs.YtpoghhcpoimepaaW.PrintMore Go.Proofs.Ytpoghhcpoimepaa.FX Go.Proofs.Ytpoghhcpoimepaa.H
set_option linter.unusedVariables false
set_option linter.unusedSimpArgs false
attribute [local go_sem] run_store_complex
abbrev DoS (w0 : World) (g : Nat) (a b c d : Nat) (u v : Int) (w' : World) : Prop :=
  Aside0 (w'.heap[w0.heap.size + 1]? = some (.cells #[.int .i64 u, .int .i64 v] 24 (0, 0))) ∧ Aside0 (w'.heap[w0.heap.size + 1 + 1]? = some (.cells #[.int .i64 0, .int .i64 0] 24 (0, 0))) ∧ Aside0 (w'.heap[g]? = some (.cells #[.complex .f64 a b, .complex .f64 c d] 109 (0, 0))) ∧ Aside0 (Below w0.heap.size w0 w') ∧ w'.cell? ⟨w0.heap.size + 1, 0, none⟩ = some (.int .i64 u) ∧ w'.cell? ⟨w0.heap.size + 1, 1, none⟩ = some (.int .i64 v) ∧ w'.cell? ⟨w0.heap.size + 1 + 1, 0, none⟩ = some (.int .i64 0) ∧ w'.cell? ⟨w0.heap.size + 1 + 1, 1, none⟩ = some (.int .i64 0) ∧ w'.cell? ⟨g, 0, none⟩ = some (.complex .f64 a b) ∧ w'.cell? ⟨g, 1, none⟩ = some (.complex .f64 c d) ∧ w'.frozen? ⟨w0.heap.size + 1 + 1, 0, none⟩ = false ∧ w'.frozen? ⟨w0.heap.size + 1 + 1, 1, none⟩ = false
theorem DoS.mk {w0 : World} {g : Nat} {a b c d : Nat} {u v : Int} {w' : World} (h0 : w'.heap[w0.heap.size + 1]? = some (.cells #[.int .i64 u, .int .i64 v] 24 (0, 0))) (h1 : w'.heap[w0.heap.size + 1 + 1]? = some (.cells #[.int .i64 0, .int .i64 0] 24 (0, 0))) (h2 : w'.heap[g]? = some (.cells #[.complex .f64 a b, .complex .f64 c d] 109 (0, 0))) (hB : Below w0.heap.size w0 w') : DoS w0 g a b c d u v w' :=
  ⟨⟨h0⟩, ⟨h1⟩, ⟨h2⟩, ⟨hB⟩, blk_cell h0 0, blk_cell h0 1, blk_cell h1 0, blk_cell h1 1, blk_cell h2 0, blk_cell h2 1, blk_frozen h1 0, blk_frozen h1 1⟩
theorem DoS.drew {w0 : World} {g : Nat} {a b c d : Nat} {u v : Int} {w1 : World} (h : DoS w0 g a b c d u v w1) : DoS w0 g a b c d u v w1.drew :=
  DoS.mk h.1.out h.2.1.out h.2.2.1.out (below_drew h.2.2.2.1.out)
end Go.Proofs.Ytpoghhcpoimepaa.P
end
end
section
/- walk.End. -/
namespace Go.Proofs.Ytpoghhcpoimepaa.P
open Go.Proofs.Ytpoghhcpoimepaa.B Go.RowKit Go.Proofs.YtpoghhcpoimepaaW.PrintWords Go.Proofs.YtpoghhcpoimepaaW.PrintLast Go.Proofs.YtpoghhcpoimepaaW.PrintMore Go.Proofs.Ytpoghhcpoimepaa.FX Go.Proofs.Ytpoghhcpoimepaa.H
set_option linter.unusedVariables false
set_option linter.unusedSimpArgs false
/-- The walker, in memory. -/
def WkI (g : Nat) (s : Nat × Int × Int) (W : World) : Prop := ∃ ar ai lr li, W.heap[g]? = some (.cells #[.complex .f64 ar ai, .complex .f64 lr li] 101 (0, 0)) ∧ IsF ar s.2.1 ∧ IsF ai s.2.2 ∧ IsF lr (ip s.1).1 ∧ IsF li (ip s.1).2
theorem WkI.keep {g : Nat} {s : Nat × Int × Int} {W W' : World} (h : WkI g s W) (hb : Below W.heap.size W W') : WkI g s W' := by
  obtain ⟨ar, ai, lr, li, h1, h2⟩ := h
  exact ⟨ar, ai, lr, li, blk_keep h1 hb, h2⟩
theorem do_nil (g : Nat) (s : Nat × Int × Int) (k n : Int) (w : World) (hI : WkI g s w) (hq : s.1 < 4) (hb : near 2000000000000 s.2) :
    Calls Try.prog 73 #[.pointer (some ⟨g, 0, none⟩), .agg #[.int .i64 k, .int .i64 n], .nilFunc] w fun e w' => e = .returned (.tuple #[]) ∧ WkI g (stepW s k n) w' ∧ Below g w w' := by
  obtain ⟨ar, ai, lr, li, hg, h1, h2, h3, h4⟩ := hI
  obtain ⟨q, x, y⟩ := s
  simp only [] at hq hb h1 h2 h3 h4
  have hm := ofV_le k n
  have sm := ip_small q
  by_cases c3 : k = 3
  · subst c3
    obtain ⟨q1, q2⟩ := q_is ((ofV 3 n : Int) % 4).toNat (by omega)
    obtain ⟨sr, si⟩ := (ip_small ((ofV 3 n : Int) % 4).toNat).1
    obtain ⟨re, im, r1, r2, hrun⟩ := cmul_run h3 h4 q1 q2 (by have := near_mul (n := 1) sm.1.1 sr; omega) (by have := near_mul (n := 1) sm.1.2 si; omega) (by have := near_mul (n := 1) sm.1.1 si; omega) (by have := near_mul (n := 1) sm.1.2 sr; omega)
    refine (do_left g ar ai lr li re im n (ofV 3 n) _ .nilFunc w hg (often_v 3 n) hm rfl (fun W => hrun Try.prog 61 W)).mono ?_
    rintro e w' ⟨rfl, h5, h6⟩
    have hc := cm_ip q ((ofV 3 n : Int) % 4).toNat hq (by omega)
    have hs : stepW (q, x, y) 3 n = ((q + ((ofV 3 n : Int) % 4).toNat) % 4, x, y) := by unfold stepW; rw [if_pos rfl]; simp only [Prod.mk.injEq, and_true]; omega
    refine ⟨rfl, ⟨ar, ai, re, im, h5, ?_⟩, h6⟩
    rw [hs]
    simp only []
    rw [← hc]
    exact ⟨h1, h2, r1, r2⟩
  by_cases c4 : k = 4
  · subst c4
    obtain ⟨q1, q2⟩ := q_is (-(ofV 4 n : Int) % 4).toNat (by omega)
    obtain ⟨sr, si⟩ := (ip_small (-(ofV 4 n : Int) % 4).toNat).1
    obtain ⟨re, im, r1, r2, hrun⟩ := cmul_run h3 h4 q1 q2 (by have := near_mul (n := 1) sm.1.1 sr; omega) (by have := near_mul (n := 1) sm.1.2 si; omega) (by have := near_mul (n := 1) sm.1.1 si; omega) (by have := near_mul (n := 1) sm.1.2 sr; omega)
    refine (do_right g ar ai lr li re im n (ofV 4 n) _ .nilFunc w hg (often_v 4 n) hm rfl (fun W => hrun Try.prog 61 W)).mono ?_
    rintro e w' ⟨rfl, h5, h6⟩
    have hc := cm_ip q (-(ofV 4 n : Int) % 4).toNat hq (by omega)
    have hs : stepW (q, x, y) 4 n = ((q + (-(ofV 4 n : Int) % 4).toNat) % 4, x, y) := by unfold stepW; rw [if_neg (by decide), if_pos rfl]; simp only [Prod.mk.injEq, and_true]; omega
    refine ⟨rfl, ⟨ar, ai, re, im, h5, ?_⟩, h6⟩
    rw [hs]
    simp only []
    rw [← hc]
    exact ⟨h1, h2, r1, r2⟩
  have hp := ipmul q (ofV k n) hm
  obtain ⟨hb1, hb2⟩ := hb
  simp only [] at hb1 hb2
  by_cases c2 : k = 2
  · have hs : stepW (q, x, y) k n = (q, x + (-(ip q).1) * (ofV k n : Int), y + (-(ip q).2) * (ofV k n : Int)) := by
      unfold stepW; rw [if_neg c3, if_neg c4, if_pos c2]
      simp only [Int.neg_mul, Int.mul_comm (ofV k n : Int), Int.sub_eq_add_neg]
    obtain ⟨s1, s2, a1, a2, hr1⟩ := cmul_run h3 h4 isF_neg1 isF_zero (by omega) (by omega) (by omega) (by omega)
    rw [show (ip q).1 * -1 - (ip q).2 * 0 = -(ip q).1 by omega] at a1
    rw [show (ip q).1 * 0 + (ip q).2 * -1 = -(ip q).2 by omega] at a2
    rw [Int.mul_comm, Int.mul_comm (ofV k n : Int)] at hp
    have n1 : -(ip q).1 * (ofV k n : Int) = -((ip q).1 * (ofV k n : Int)) := Int.neg_mul _ _
    have n2 : -(ip q).2 * (ofV k n : Int) = -((ip q).2 * (ofV k n : Int)) := Int.neg_mul _ _
    obtain ⟨t1, t2, b1, b2, hr2⟩ := cmul_run a1 a2 (isF_of (ofV k n : Int) (by omega)) isF_zero (by rw [n1]; omega) (by omega) (by omega) (by rw [n2]; omega)
    rw [Int.mul_zero, Int.sub_zero] at b1
    rw [Int.mul_zero, Int.zero_add] at b2
    obtain ⟨r1, r2, d1, d2, hr3⟩ := cadd_run h1 h2 b1 b2 (by rw [n1]; omega) (by rw [n2]; omega)
    refine (do_goes g ar ai lr li 13830554455654793216 k n (ofV k n) s1 s2 t1 t2 r1 r2 w hg (often_v k n) hm c3 c4 (by rw [if_pos c2]) (fun W => hr1 Try.prog 61 W) (fun W => hr2 Try.prog 61 W) (fun W => hr3 Try.prog 61 W)).mono ?_
    rintro e w' ⟨rfl, h5, h6⟩
    refine ⟨rfl, ⟨r1, r2, lr, li, h5, ?_⟩, h6⟩
    rw [hs]
    exact ⟨d1, d2, h3, h4⟩
  · have hs : stepW (q, x, y) k n = (q, x + (ip q).1 * (ofV k n : Int), y + (ip q).2 * (ofV k n : Int)) := by
      unfold stepW; rw [if_neg c3, if_neg c4, if_neg c2]
      simp only [Int.mul_comm (ofV k n : Int)]
    obtain ⟨s1, s2, a1, a2, hr1⟩ := cmul_run h3 h4 isF_one isF_zero (by omega) (by omega) (by omega) (by omega)
    rw [show (ip q).1 * 1 - (ip q).2 * 0 = (ip q).1 by omega] at a1
    rw [show (ip q).1 * 0 + (ip q).2 * 1 = (ip q).2 by omega] at a2
    rw [Int.mul_comm, Int.mul_comm (ofV k n : Int)] at hp
    obtain ⟨t1, t2, b1, b2, hr2⟩ := cmul_run a1 a2 (isF_of (ofV k n : Int) (by omega)) isF_zero (by omega) (by omega) (by omega) (by omega)
    rw [Int.mul_zero, Int.sub_zero] at b1
    rw [Int.mul_zero, Int.zero_add] at b2
    obtain ⟨r1, r2, d1, d2, hr3⟩ := cadd_run h1 h2 b1 b2 (by omega) (by omega)
    refine (do_goes g ar ai lr li 4607182418800017408 k n (ofV k n) s1 s2 t1 t2 r1 r2 w hg (often_v k n) hm c3 c4 (by rw [if_neg c2]) (fun W => hr1 Try.prog 61 W) (fun W => hr2 Try.prog 61 W) (fun W => hr3 Try.prog 61 W)).mono ?_
    rintro e w' ⟨rfl, h5, h6⟩
    refine ⟨rfl, ⟨r1, r2, lr, li, h5, ?_⟩, h6⟩
    rw [hs]
    exact ⟨d1, d2, h3, h4⟩
set_option maxRecDepth 100000 in
theorem wpoint_at {a b : Nat} {x y : Int} (w : World) (ha : IsF a x) (hb : IsF b y) (hx : x.natAbs < 2 ^ 53) (hy : y.natAbs < 2 ^ 53) : Calls Try.prog 75 #[.complex .f64 a b] w (AggPost x y w) := by
  have ha := isF_int ha (by omega) (by omega)
  have hb := isF_int hb (by omega) (by omega)
  have e1 : ∀ W : World, (convert 63 3 (.float .f64 a)).run Try.prog W = .ok (.int .i64 x) W := fun W => run_convert_float_int W 63 3 .f64 .i64 a x (by rw [Try.underlying63]; rfl) Try.underlying3 ha
  have e2 : ∀ W : World, (convert 63 3 (.float .f64 b)).run Try.prog W = .ok (.int .i64 y) W := fun W => run_convert_float_int W 63 3 .f64 .i64 b y (by rw [Try.underlying63]; rfl) Try.underlying3 hb
  go_enter Try.func75, Try.ntmps75
  go_wp2
  refine bodyPost_ret (results_cell_row rfl _ _ w.heap.size 24 #[.int .i64 x, .int .i64 y] (0, 0) _ rfl (blk_new w _) Try.underlying24 rfl (by kernel_rfl)) rfl ?_
  exact ⟨rfl, below_alloc (Below.refl _ _) _⟩
theorem cne_run {a b c d : Nat} {x y u v : Int} (ha : IsF a x) (hb : IsF b y) (hc : IsF c u) (hd : IsF d v) (W : World) : (binOp .neq 61 (.complex .f64 a b) (.complex .f64 c d)).run Try.prog W = .ok (.bool (!(x == u && y == v))) W := by
  have e : (binOp .neq 61 (.complex .f64 a b) (.complex .f64 c d)).run Try.prog W = .ok (.bool (!(Op.floatEq .f64 a c && Op.floatEq .f64 b d))) W := by rfl
  rw [e, floatEq_is ha hc, floatEq_is hb hd]
theorem ip_ne : ∀ t q : Nat, t < 4 → q < 4 → ((ip t).1 == (ip q).1 && (ip t).2 == (ip q).2) = decide (t = q) := by
  intro t q ht hq
  have h1 : t = 0 ∨ t = 1 ∨ t = 2 ∨ t = 3 := by omega
  have h2 : q = 0 ∨ q = 1 ∨ q = 2 ∨ q = 3 := by omega
  rcases h1 with h | h | h | h <;> rcases h2 with h' | h' | h' | h' <;> rw [h, h'] <;> decide
def EndPost (w : World) (r : Nat × Int × Int) (e : Ending) (w' : World) : Prop := e = .returned (.agg #[.int .i64 r.1, .int .i64 r.2.1, .int .i64 r.2.2]) ∧ Below w.heap.size w w'
set_option maxHeartbeats 4000000 in
set_option maxRecDepth 100000 in
theorem end_calls (A : Option Addr) (c : Nat) (l : List S56) (w : World) (hC : Kd.C k56 w A l.length l) (hl : l.length ≤ 1000) : Calls Try.prog 40 #[.slice A l.length c] w (EndPost w (foldW l)) := by
  have HC := Aside0.mk hC; clear hC
  go_enter Try.func40, Try.ntmps40
  go_wp2
  refine wp_scope_enter 0 rfl ?_
  go_wp2
  go_loopw [11] (fun v wr => ∃ i : Nat, i ≤ l.length ∧ v = .int .i64 i ∧ Aside0 (WkI (w.heap.size + 1) (foldW (l.take i)) wr) ∧ Aside0 (wr.heap[w.heap.size]? = some (.cells #[.int .i64 0, .int .i64 0, .int .i64 0] 34 (0, 0))) ∧ Aside0 (Below w.heap.size w wr)) (fun v _ => l.length - (intOf v).toNat)
  case atStart => exact ⟨0, by omega, rfl, ⟨⟨0, 0, 4607182418800017408, 0, move_new2 w _ _, isF_zero, isF_zero, isF_one, isF_zero⟩⟩, ⟨blk_keep (blk_new w _) (below_alloc (Below.refl _ _) _)⟩, ⟨below_alloc (below_alloc (Below.refl _ _) _) _⟩⟩
  case round =>
    obtain ⟨i, hi, rfl, HI, HG, HB⟩ := hrel
    by_cases hlt : i < l.length
    · obtain ⟨ad, hA, x0, x1⟩ := at_T56 (Kd.C_below HC.out HB.out) (i : Int) (by omega) (by omega)
      subst hA
      rw [Int.toNat_natCast, rd56 l i hlt] at x0 x1
      have HT := Aside0.mk (show foldW (l.take (i + 1)) = stepW (foldW (l.take i)) l[i].f0 l[i].f1 by rw [take_more l i hlt, foldW_snoc])
      have hok := foldW_ok (l.take i)
      have hln : (l.take i).length ≤ 1000 := by rw [List.length_take]; omega
      have HN := Aside0.mk (near_le (n := 2000000000000) hok.2 (by omega))
      have HQ := Aside0.mk hok.1
      obtain ⟨k, hk⟩ : ∃ k, l[i].f0 = k := ⟨_, rfl⟩
      obtain ⟨n, hn⟩ : ∃ n, l[i].f1 = n := ⟨_, rfl⟩
      have HT := Aside0.mk (by have := HT.out; rw [hk, hn] at this; exact this)
      rw [hk] at x0
      rw [hn] at x1
      clear hk hn hok hln
      go_wp2_with (go_at_call 73; (with_reducible refine (do_nil (w.heap.size + 1) (foldW (l.take i)) k n _ (WkI.keep HI.out (below_alloc (Below.refl _ _) _)) HQ.out HN.out).mono ?_); rintro e w1 ⟨rfl, hI1, hb1⟩; have hbb := (below_alloc (Below.refl wr.heap.size wr) (.cells #[.int .i64 k, .int .i64 n] 56)); have HG1 := Aside0.mk ((hb1.block w.heap.size (by omega)).trans (blk_keep HG.out hbb)); have HI1 := Aside0.mk hI1; have HB1 := Aside0.mk ((below_step HB.out hbb).trans (hb1.mono (by omega))); clear hI1 hb1 hbb)
      go_roundw
      case rel => exact ⟨i + 1, by omega, by go_num, ⟨by rw [HT.out]; exact HI1.out⟩, HG1, HB1⟩
      case measure => simp [intOf]; omega
    · obtain rfl : i = l.length := by omega
      have HI := Aside0.mk (by have := HI.out; rw [List.take_length] at this; exact this)
      have hok := foldW_ok l
      obtain ⟨⟨q, X, Y⟩, hr⟩ : ∃ r, foldW l = r := ⟨_, rfl⟩
      have HI := Aside0.mk (by have := HI.out; rw [hr] at this; exact this)
      rw [hr] at hok
      have HR := Aside0.mk hr
      obtain ⟨hq4, hn1, hn2⟩ := hok
      simp only [] at hq4 hn1 hn2
      clear hr HC
      go_wp2
      go_step3
      simp only [Exit.then]
      rename_i hk
      refine hk _ _ ?_
      clear hk
      refine wp_label_slots 0 (by rfl) ([6, 19, 20, 21, 22, 23, 24, 25, 26, 27] : List Nat) (fun n us wr => ∃ (t : Nat), t ≤ q ∧ n = q - t ∧ us.getD 0 undef = .int .i64 t ∧ Aside0 (WkI (w.heap.size + 1) (q, X, Y) wr) ∧ Aside0 (wr.heap[w.heap.size]? = some (.cells #[.int .i64 0, .int .i64 0, .int .i64 0] 34 (0, 0))) ∧ Aside0 (Below w.heap.size w wr)) (q) ?_ ?_
      · refine ⟨0, Nat.zero_le _, rfl, rfl, HI, HG, HB⟩
      · rintro n us wr hln ⟨t, htq, rfl, h6, HI, HG, HB⟩ J K hJ hK
        simp only [List.length_cons, List.length_nil] at hln
        match us, hln with
        | u6 :: u19 :: u20 :: u21 :: u22 :: u23 :: u24 :: u25 :: u26 :: u27 :: [], _ =>
        rename_i hx; clear hx
        simp only [List.getD_cons_succ, List.getD_cons_zero] at h6
        subst h6
        simp only [putS, Act.put, List.setIfInBounds_toArray, List.set_cons_zero, List.set_cons_succ]
        have hJ2 := fun (k : Nat) (v6 v19 v20 v21 v22 v23 v24 v25 v26 v27 : Value) (w' : World) => hJ k (v6 :: v19 :: v20 :: v21 :: v22 :: v23 :: v24 :: v25 :: v26 :: v27 :: []) _ w' rfl rfl
        clear hJ
        simp only [putS, Act.put, List.setIfInBounds_toArray, List.set_cons_zero, List.set_cons_succ] at hJ2
        have HJ := Aside0.mk hJ2; clear hJ2
        have HK := Aside0.mk hK; clear hK
        obtain ⟨ar, ai, lr, li, hg, h1, h2, h3, h4⟩ := HI.out
        simp only [] at h1 h2 h3 h4
        have HQ := fun W => Aside0.mk (quarter_calls (t : Int) W)
        rw [show ((t : Int) % 4).toNat = t by omega] at HQ
        have HS : WkS wr (w.heap.size + 1) ar ai lr li wr := WkS.mk hg (Below.refl _ _)
        have hHG0 := blk_drew HG.out
        have hWB0 := below_drew HB.out
        have q2 := q_is t (by omega)
        have e1 : ∀ W : World, (binOp .neq 61 (.complex .f64 (qre t) (qim t)) (.complex .f64 lr li)).run Try.prog W = .ok (.bool (!(decide (t = q)))) W := fun W => by rw [cne_run q2.1 q2.2 h3 h4, ip_ne t q (by omega) hq4]
        have HX := Aside0.mk h1
        have HY := Aside0.mk h2
        have HL := Aside0.mk (show IsF lr (ip q).1 ∧ IsF li (ip q).2 from ⟨h3, h4⟩)
        clear h1 h2 h3 h4 hg q2 HI
        by_cases htq2 : t = q
        · rw [decide_eq_true htq2] at e1
          subst htq2
          have HP := fun W => Aside0.mk (wpoint_at W HX.out HY.out (by omega) (by omega))
          go_wp2
          refine start_ (n := 7) (S := WkS wr (w.heap.size + 1) ar ai lr li) (ds := []) #[false, false, false, false, false, false, false] (by kernel_rfl) rfl rfl (WkS.drew HS) (fun hHeld => ?_)
          clear HS
          refine pure_ (i := 0) (N := some 19) (v := ?_) (a' := ?_) #[true, false, false, false, false, false, false] rfl rfl (by kernel_rfl) (fun _ _ _ h => h) (Or.inl ⟨by rfl, ?_⟩) ?_ ?_
          rotate_left
          · intro w'
            go_simp
            with_reducible rfl
          rotate_left
          · simp only [Act.put, List.setIfInBounds_toArray, List.set_cons_zero, List.set_cons_succ]
            rfl
          refine pure_ (i := 2) (N := some 21) (v := ?_) (a' := ?_) #[true, false, true, false, false, false, false] rfl rfl (by kernel_rfl) (fun _ _ _ h => h) (Or.inl ⟨by rfl, ?_⟩) ?_ ?_
          rotate_left
          · intro w'
            go_simp
            with_reducible rfl
          rotate_left
          · simp only [Act.put, List.setIfInBounds_toArray, List.set_cons_zero, List.set_cons_succ]
            rfl
          refine pure_ (i := 3) (N := some 22) (v := ?_) (a' := ?_) #[true, false, true, true, false, false, false] rfl rfl (by kernel_rfl) (fun _ _ _ h => h) (Or.inl ⟨by rfl, ?_⟩) ?_ ?_
          rotate_left
          · intro w'
            go_simp
            with_reducible rfl
          rotate_left
          · simp only [Act.put, List.setIfInBounds_toArray, List.set_cons_zero, List.set_cons_succ]
            rfl
          refine pure_ (i := 4) (N := some 23) (v := ?_) (a' := ?_) #[true, false, true, true, true, false, false] rfl rfl (by kernel_rfl) (fun _ _ _ h => h) (Or.inl ⟨by rfl, ?_⟩) ?_ ?_
          rotate_left
          · intro w'
            go_simp
            with_reducible rfl
          rotate_left
          · simp only [Act.put, List.setIfInBounds_toArray, List.set_cons_zero, List.set_cons_succ]
            rfl
          refine take_ (i := 5) (N := some 24) (v := ?_) (a' := ?_) #[true, false, true, true, true, true, false] rfl rfl (by kernel_rfl) (fun _ _ _ h => h) (Or.inl ⟨by rfl, ?_⟩) hHeld ?_ ?_
          rotate_left
          · rintro w' ⟨_, _, k1, k2, k3, k4⟩
            go_simp
            with_reducible rfl
          rotate_left
          · simp only [Act.put, List.setIfInBounds_toArray, List.set_cons_zero, List.set_cons_succ]
            rfl
          refine one_ (i := 1) (N := some 20) #[true, true, true, true, true, true, false] rfl rfl (by kernel_rfl) (by decide) (fun K_ hK => ?_)
          refine goes_ Try.func74 (by kernel_rfl) rfl #[.int .i64 (t : Int)] (by rfl) rfl rfl (by (try simp only [List.map_toArray, List.map_cons, List.map_nil]); first | done | rfl) ?_
          with_reducible refine ((HQ _).out).mono ?_
          rintro e w2 ⟨rfl, hb⟩
          refine ⟨_, rfl, ?_⟩
          have hHG := blk_keep hHG0 hb
          have hWB := hWB0.trans (hb.mono hWB0.size)
          refine hK.out _ _ (WkS.keep hHeld hb) (fun hHeld => ?_)
          clear hK hb hHG0 hWB0
          refine norm_ (a' := ?_) ?_ ?_
          rotate_left
          · show Act.put _ (some 20) _ = _
            simp only [Act.put, List.setIfInBounds_toArray, List.set_cons_zero, List.set_cons_succ]
            rfl
          refine pure_ (i := 6) (N := some 25) (v := ?_) (a' := ?_) #[true, true, true, true, true, true, true] rfl rfl (by kernel_rfl) (fun _ _ _ h => h) (Or.inl ⟨by rfl, ?_⟩) ?_ ?_
          rotate_left
          · intro w'
            go_simp
            with_reducible rfl
          rotate_left
          · simp only [Act.put, List.setIfInBounds_toArray, List.set_cons_zero, List.set_cons_succ]
            rfl
          refine done_ (by kernel_rfl) ?_
          have HHG := Aside0.mk hHG
          have HWB := Aside0.mk hWB
          clear hHG hWB
          obtain ⟨_, _, k1, k2, k3, k4⟩ := hHeld
          go_wp2_with (go_at_call 75; (with_reducible refine (HP _).out.mono ?_); rintro e w3 ⟨rfl, hb3⟩; have HG3 := Aside0.mk (blk_keep HHG.out hb3); have hc0 := blk_cell HG3.out 0; have hc1 := blk_cell HG3.out 1; have hc2 := blk_cell HG3.out 2; have hf0 := blk_frozen HG3.out 0; have hf1 := blk_frozen HG3.out 1; have hf2 := blk_frozen HG3.out 2; have HB3 := Aside0.mk (below_step HWB.out hb3); clear hb3)
          simp only [Exit.jump]
          refine bodyPost_ret (results_cell_row rfl _ _ w.heap.size 34 #[.int .i64 t, .int .i64 X, .int .i64 Y] (0, 0) _ rfl (blk_put (cs := #[.int .i64 t, .int .i64 X, .int .i64 0]) (blk_put (cs := #[.int .i64 t, .int .i64 0, .int .i64 0]) (blk_put (cs := #[.int .i64 0, .int .i64 0, .int .i64 0]) HG3.out 0 _ rfl) 1 _ rfl) 2 _ rfl) Try.underlying34 rfl (by kernel_rfl)) rfl ?_
          exact ⟨by rw [HR.out], below_set (below_set (below_set HB3.out (by omega)) (by omega)) (by omega)⟩
        · rw [decide_eq_false htq2] at e1
          go_wp2
          refine start_ (n := 7) (S := WkS wr (w.heap.size + 1) ar ai lr li) (ds := []) #[false, false, false, false, false, false, false] (by kernel_rfl) rfl rfl (WkS.drew HS) (fun hHeld => ?_)
          clear HS
          refine pure_ (i := 0) (N := some 19) (v := ?_) (a' := ?_) #[true, false, false, false, false, false, false] rfl rfl (by kernel_rfl) (fun _ _ _ h => h) (Or.inl ⟨by rfl, ?_⟩) ?_ ?_
          rotate_left
          · intro w'
            go_simp
            with_reducible rfl
          rotate_left
          · simp only [Act.put, List.setIfInBounds_toArray, List.set_cons_zero, List.set_cons_succ]
            rfl
          refine pure_ (i := 2) (N := some 21) (v := ?_) (a' := ?_) #[true, false, true, false, false, false, false] rfl rfl (by kernel_rfl) (fun _ _ _ h => h) (Or.inl ⟨by rfl, ?_⟩) ?_ ?_
          rotate_left
          · intro w'
            go_simp
            with_reducible rfl
          rotate_left
          · simp only [Act.put, List.setIfInBounds_toArray, List.set_cons_zero, List.set_cons_succ]
            rfl
          refine pure_ (i := 3) (N := some 22) (v := ?_) (a' := ?_) #[true, false, true, true, false, false, false] rfl rfl (by kernel_rfl) (fun _ _ _ h => h) (Or.inl ⟨by rfl, ?_⟩) ?_ ?_
          rotate_left
          · intro w'
            go_simp
            with_reducible rfl
          rotate_left
          · simp only [Act.put, List.setIfInBounds_toArray, List.set_cons_zero, List.set_cons_succ]
            rfl
          refine pure_ (i := 4) (N := some 23) (v := ?_) (a' := ?_) #[true, false, true, true, true, false, false] rfl rfl (by kernel_rfl) (fun _ _ _ h => h) (Or.inl ⟨by rfl, ?_⟩) ?_ ?_
          rotate_left
          · intro w'
            go_simp
            with_reducible rfl
          rotate_left
          · simp only [Act.put, List.setIfInBounds_toArray, List.set_cons_zero, List.set_cons_succ]
            rfl
          refine take_ (i := 5) (N := some 24) (v := ?_) (a' := ?_) #[true, false, true, true, true, true, false] rfl rfl (by kernel_rfl) (fun _ _ _ h => h) (Or.inl ⟨by rfl, ?_⟩) hHeld ?_ ?_
          rotate_left
          · rintro w' ⟨_, _, k1, k2, k3, k4⟩
            go_simp
            with_reducible rfl
          rotate_left
          · simp only [Act.put, List.setIfInBounds_toArray, List.set_cons_zero, List.set_cons_succ]
            rfl
          refine one_ (i := 1) (N := some 20) #[true, true, true, true, true, true, false] rfl rfl (by kernel_rfl) (by decide) (fun K_ hK => ?_)
          refine goes_ Try.func74 (by kernel_rfl) rfl #[.int .i64 (t : Int)] (by rfl) rfl rfl (by (try simp only [List.map_toArray, List.map_cons, List.map_nil]); first | done | rfl) ?_
          with_reducible refine ((HQ _).out).mono ?_
          rintro e w2 ⟨rfl, hb⟩
          refine ⟨_, rfl, ?_⟩
          have hHG := blk_keep hHG0 hb
          have hWB := hWB0.trans (hb.mono hWB0.size)
          refine hK.out _ _ (WkS.keep hHeld hb) (fun hHeld => ?_)
          clear hK hb hHG0 hWB0
          refine norm_ (a' := ?_) ?_ ?_
          rotate_left
          · show Act.put _ (some 20) _ = _
            simp only [Act.put, List.setIfInBounds_toArray, List.set_cons_zero, List.set_cons_succ]
            rfl
          refine pure_ (i := 6) (N := some 25) (v := ?_) (a' := ?_) #[true, true, true, true, true, true, true] rfl rfl (by kernel_rfl) (fun _ _ _ h => h) (Or.inl ⟨by rfl, ?_⟩) ?_ ?_
          rotate_left
          · intro w'
            go_simp
            with_reducible rfl
          rotate_left
          · simp only [Act.put, List.setIfInBounds_toArray, List.set_cons_zero, List.set_cons_succ]
            rfl
          refine done_ (by kernel_rfl) ?_
          go_wp2
          go_step3
          exact ⟨rfl, HK.out _ _ (Handed.intro (q - (t + 1)) (by omega) (HJ.out _ _ _ _ _ _ _ _ _ _ _ _ ⟨t + 1, by omega, rfl, by go_num, ⟨⟨ar, ai, lr, li, hHeld.1.out, HX.out, HY.out, HL.out.1, HL.out.2⟩⟩, ⟨hHG⟩, ⟨hWB⟩⟩))⟩
def walk_End.f (l0 : List (S56)) : Option (Int × Int × Int) := if l0.length ≤ 1000 then some ((foldW l0).1, (foldW l0).2.1, (foldW l0).2.2) else none
theorem walk_End.calls (A0 : Option Addr) (c0 : Nat) (l0 : List (S56)) (r1 : Int) (r2 : Int) (r3 : Int) (w : World) (hr0 : Kd.C k56 w A0 l0.length l0) (hc0 : l0.length ≤ c0) (h : walk_End.f l0 = some (r1, r2, r3)) :
    Calls Try.prog 40 #[.slice A0 l0.length c0] w fun e w' => e = .returned (.agg #[.int .i64 r1, .int .i64 r2, .int .i64 r3]) ∧ Below w.heap.size w w' := by
  unfold walk_End.f at h
  split at h
  · rename_i hl
    have h2 := end_calls A0 c0 l0 w hr0 hl
    have h3 := Option.some.inj h
    injection h3 with a b
    injection b with b c
    unfold EndPost at h2
    rw [a, b, c] at h2
    exact h2
  · cases h
end Go.Proofs.Ytpoghhcpoimepaa.P
end
section
-- printed by the session's own call of print.py. Not trusted: Lean checks it.
namespace Go.Proofs.Ytpoghhcpoimepaa.P
open Go.RowKit Go.Proofs.YtpoghhcpoimepaaW.PrintWords Go.Proofs.YtpoghhcpoimepaaW.PrintLast Go.Proofs.YtpoghhcpoimepaaW.PrintMore
attribute [local go_sem] max2_int min2_int max_two min_two max_three min_three max_four min_four
set_option linter.unusedVariables false
set_option linter.unusedSimpArgs false
attribute [local go_sem high] eqA34
/-! ### tallymanlaw05_alive: function 28 -/
def tallymanlaw05_alive.f (k : Nat)  : Option (Bool) := (walk_Parse.f (⟨#[70, 50, 76, 70, 51]⟩ : ByteArray)).bind fun bt101 => ((walk_Short.f k (([(⟨1, 2⟩ : S56), (⟨3, 4⟩ : S56), (⟨1, 3⟩ : S56)] : List (S56)))).bind fun bt109 => (if bt101.2.1 = 0 then ((walk_End.f bt101.1).bind fun bt113 => (if (bt113.1 == 1 && ((bt113.2.1 == 2 && (bt113.2.2 == 3)))) = true then (if bt109.2 = 0 then ((walk_Text.f bt109.1).bind fun t116 => (some (t116.toList == ([70, 53] : List UInt8)))) else (some false)) else (some false))) else (some false)))
theorem tallymanlaw05_alive.mono : ∀ k, LeO (tallymanlaw05_alive.f k ) (tallymanlaw05_alive.f (k + 1) ) := by
  intro  k
  unfold tallymanlaw05_alive.f
  repeat' first
      | (with_reducible exact walk_Short.mono _ _)
      | (with_reducible exact LeO.refl _)
      | (with_reducible exact LeO.none _)
      | (with_reducible refine LeO.ite ?_ ?_)
      | (with_reducible refine LeO.bind ?_ (fun _ => ?_))
      | exact walk_Short.mono _ _
      | exact LeO.none _
      | refine LeO.ite ?_ ?_
      | refine LeO.bind ?_ (fun _ => ?_)
set_option maxHeartbeats 8000000 in
set_option maxRecDepth 100000 in
theorem tallymanlaw05_alive.calls (k : Nat)  (r : Bool) (w : World) (h : tallymanlaw05_alive.f k  = some r) :
    Calls Try.prog 28 #[] w fun e w' => e = .returned (.bool r) ∧ Below w.heap.size w w' := by
  have hu56 := Try.underlying56
  have hu24 := Try.underlying24
  have hu34 := Try.underlying34
  have HB := Aside0.mk (Below.refl w.heap.size w)
  have H : ((walk_Parse.f (⟨#[70, 50, 76, 70, 51]⟩ : ByteArray)).bind fun bt101 => ((walk_Short.f k (([(⟨1, 2⟩ : S56), (⟨3, 4⟩ : S56), (⟨1, 3⟩ : S56)] : List (S56)))).bind fun bt109 => (if bt101.2.1 = 0 then ((walk_End.f bt101.1).bind fun bt113 => (if (bt113.1 == 1 && ((bt113.2.1 == 2 && (bt113.2.2 == 3)))) = true then (if bt109.2 = 0 then ((walk_Text.f bt109.1).bind fun t116 => (some (t116.toList == ([70, 53] : List UInt8)))) else (some false)) else (some false))) else (some false)))) = some r := h
  clear h
  replace H := Option.bind_eq_some_iff.mp H
  obtain ⟨⟨t101, t102, t103⟩, A10, H⟩ := H
  replace H : ((walk_Short.f k (([(⟨1, 2⟩ : S56), (⟨3, 4⟩ : S56), (⟨1, 3⟩ : S56)] : List (S56)))).bind fun bt109 => (if t102 = 0 then ((walk_End.f t101).bind fun bt113 => (if (bt113.1 == 1 && ((bt113.2.1 == 2 && (bt113.2.2 == 3)))) = true then (if bt109.2 = 0 then ((walk_Text.f bt109.1).bind fun t116 => (some (t116.toList == ([70, 53] : List UInt8)))) else (some false)) else (some false))) else (some false))) = some r := H
  have A1 := Aside0.mk A10
  clear A10
  obtain ⟨y106, hy106⟩ : ∃ y_ : List (S56), y_ = (([(⟨1, 2⟩ : S56), (⟨3, 4⟩ : S56), (⟨1, 3⟩ : S56)] : List (S56))) := ⟨_, rfl⟩
  replace H : ((walk_Short.f k y106).bind fun bt109 => (if t102 = 0 then ((walk_End.f t101).bind fun bt113 => (if (bt113.1 == 1 && ((bt113.2.1 == 2 && (bt113.2.2 == 3)))) = true then (if bt109.2 = 0 then ((walk_Text.f bt109.1).bind fun t116 => (some (t116.toList == ([70, 53] : List UInt8)))) else (some false)) else (some false))) else (some false))) = some r := by first | (rw [hy106]; with_reducible exact H) | (have H2_ := (Option.bind_some _ _).symm.trans H; rw [hy106]; with_reducible exact H2_) | (have H2_ := (Option.bind_some _ _).symm.trans H; with_reducible exact H2_) | with_reducible exact H | (rw [hy106]; exact H) | exact H
  have Ny106 := Aside0.mk hy106
  clear hy106
  replace H := Option.bind_eq_some_iff.mp H
  obtain ⟨⟨t109, t110⟩, A20, H⟩ := H
  replace H : (if t102 = 0 then ((walk_End.f t101).bind fun bt113 => (if (bt113.1 == 1 && ((bt113.2.1 == 2 && (bt113.2.2 == 3)))) = true then (if t110 = 0 then ((walk_Text.f t109).bind fun t116 => (some (t116.toList == ([70, 53] : List UInt8)))) else (some false)) else (some false))) else (some false)) = some r := H
  have A2 := Aside0.mk A20
  clear A20
  by_cases c3 : t102 = 0
  · rw [if_pos c3] at H
    have c3b0 : (t102 == 0) = true := beq_iff_eq.mpr c3
    have c3b1 : (t102 != 0) = false := bne_eq_false_iff_eq.mpr c3
    clear c3
    replace H := Option.bind_eq_some_iff.mp H
    obtain ⟨⟨t113, t114, t115⟩, A40, H⟩ := H
    replace H : (if (t113 == 1 && ((t114 == 2 && (t115 == 3)))) = true then (if t110 = 0 then ((walk_Text.f t109).bind fun t116 => (some (t116.toList == ([70, 53] : List UInt8)))) else (some false)) else (some false)) = some r := H
    have A4 := Aside0.mk A40
    clear A40
    by_cases c5 : (t113 == 1 && ((t114 == 2 && (t115 == 3)))) = true
    · rw [if_pos c5] at H
      have c5b0 : (t113 == 1 && ((t114 == 2 && (t115 == 3)))) = true := c5
      (try (have c5b1 : decide (t113 = 1 && ((t114 == 2 && (t115 == 3)))) = true := by simpa using c5))
      (try (have c5b2 : (t113 == 1 && ((t114 == 2 && (t115 == 3)))) = true := by simpa using c5))
      clear c5
      by_cases c6 : t110 = 0
      · rw [if_pos c6] at H
        have c6b0 : (t110 == 0) = true := beq_iff_eq.mpr c6
        have c6b1 : (t110 != 0) = false := bne_eq_false_iff_eq.mpr c6
        clear c6
        replace H := Option.bind_eq_some_iff.mp H
        obtain ⟨t116, A70, H⟩ := H
        replace H : (some (t116.toList == ([70, 53] : List UInt8))) = some r := H
        have A7 := Aside0.mk A70
        clear A70
        obtain rfl := Option.some.inj H
        go_enter Try.func28, Try.ntmps28
        go_wp2_with (first | ((with_reducible refine gate_callee (f := 29) rfl ?_); refine goesL_ (some 7) rfl rfl Try.func29 (by kernel_rfl) rfl #[.string (⟨#[70, 50, 76, 70, 51]⟩ : ByteArray)] rfl (by (try simp only [List.map_toArray, List.map_cons, List.map_nil]); first | done | rfl | (simp only [List.length_drop, List.length_take]; rfl)) ?_; (with_reducible refine (walk_Parse.calls (⟨#[70, 50, 76, 70, 51]⟩ : ByteArray) t101 t102 t103 _ A1.out).mono ?_); rintro e w8 ⟨v104, rfl, ho0, hb⟩; refine ⟨_, rfl, ?_⟩; have n0_ := Aside0.mk (Kd.R_lower ho0 (below_size (by repeat (first | (with_reducible first | exact HB.out | apply below_alloc | apply pw_below_drewN | apply below_drew1) | exact HB.out)))); have n1_ := Aside0.mk (below_step (by repeat (first | (with_reducible first | exact HB.out | apply below_alloc | apply pw_below_drewN | apply below_drew1) | exact HB.out)) hb); clear HB; have HO105 := n0_; have HB := n1_; clear n0_ n1_; (try clear hb); (try clear hb2); (try clear hk); (try clear hi); (try clear ho0)) | ((with_reducible refine gate_dst (N := 15) rfl ?_); refine Kd.R_lit k56 _ 56 ?hg (N := 15) ?hd (xs := ([(⟨1, 2⟩ : S56), (⟨3, 4⟩ : S56), (⟨1, 3⟩ : S56)] : List (S56))) (inner := [.int .i64 1, .int .i64 2, .int .i64 3, .int .i64 4, .int .i64 1, .int .i64 3]) (ok := fun _ => True) (okp := fun _ => True) ?hr ?hp (fun _ hk => hk) trivial (Below.refl _ _) (Nat.le_refl _) (by simp) ?_; (case hd => rfl); (case hg => rfl); (case hr => first | (go_simp; done) | (go_simp; rfl)); (case hp => exact (Reps.c2 (show Kd.M k56 _ _ _ (⟨1, 2⟩ : S56) [.int .i64 1, .int .i64 2] from (k56_mkM _ _ _ (⟨1, 2⟩ : S56) )) (Reps.c2 (show Kd.M k56 _ _ _ (⟨3, 4⟩ : S56) [.int .i64 3, .int .i64 4] from (k56_mkM _ _ _ (⟨3, 4⟩ : S56) )) (Reps.c2 (show Kd.M k56 _ _ _ (⟨1, 3⟩ : S56) [.int .i64 1, .int .i64 3] from (k56_mkM _ _ _ (⟨1, 3⟩ : S56) )) (Reps.none _ _))))); intro v107 w9 ho10 hb hg_ hnew_; clear hg_ hnew_; (first | rw [← Ny106.out] at ho10 | (simp only [Int.reduceToNat] at ho10; rw [← Ny106.out] at ho10)); have n0_ := Aside0.mk (Kd.R_elder' (by (with_reducible repeat (first | apply Kd.R_alloc | apply Kd.R_drewN | apply Kd.R_drew)); exact HO105.out) (Kd.R_base ho10) hb); have n1_ := Aside0.mk (Kd.R_lower (Kd.R_new' ho10 (Kd.R_lt (by (with_reducible repeat (first | apply Kd.R_alloc | apply Kd.R_drewN | apply Kd.R_drew)); exact HO105.out))) (below_size (by repeat (first | (with_reducible first | exact HB.out | apply below_alloc | apply pw_below_drewN | apply below_drew1) | exact HB.out)))); have n2_ := Aside0.mk (below_step (by repeat (first | (with_reducible first | exact HB.out | apply below_alloc | apply pw_below_drewN | apply below_drew1) | exact HB.out)) hb); clear HO105; clear HB; have HO105 := n0_; have HO108 := n1_; have HB := n2_; clear n0_ n1_ n2_; clear hb ho10; obtain ⟨Ao11, co11, eo11⟩ := Kd.R_slice HO108.out; subst eo11) | ((with_reducible refine gate_callee (f := 34) rfl ?_); refine goesL_ (some 16) rfl rfl Try.func34 (by kernel_rfl) rfl #[.slice Ao11 y106.length co11] rfl (by (try simp only [List.map_toArray, List.map_cons, List.map_nil]); first | done | rfl | (simp only [List.length_drop, List.length_take]; rfl)) ?_; (with_reducible refine (walk_Short.calls k _ _ y106 t109 t110 _ ?side1 ?side2 A2.out).mono ?_); (case side1 => repeat (first | exact (Kd.R_reads' HO108.out).2.2 | (with_reducible refine Kd.C_alloc ?_ _) | (with_reducible refine Kd.C_drewN ?_ _) | (with_reducible refine Kd.C_drew ?_))); (case side2 => exact (Kd.R_reads' HO108.out).2.1); rintro e w12 ⟨v111, rfl, ho0, hb⟩; refine ⟨_, rfl, ?_⟩; have n0_ := Aside0.mk (Kd.R_elder' (by (with_reducible repeat (first | apply Kd.R_alloc | apply Kd.R_drewN | apply Kd.R_drew)); exact HO105.out) (Kd.R_base ho0) hb); have n1_ := Aside0.mk (Kd.R_elder' (by (with_reducible repeat (first | apply Kd.R_alloc | apply Kd.R_drewN | apply Kd.R_drew)); exact HO108.out) (Kd.R_base ho0) hb); have n2_ := Aside0.mk (Kd.R_lower (Kd.R_new' (Kd.R_new' ho0 (Kd.R_lt (by (with_reducible repeat (first | apply Kd.R_alloc | apply Kd.R_drewN | apply Kd.R_drew)); exact HO105.out))) (Kd.R_lt (by (with_reducible repeat (first | apply Kd.R_alloc | apply Kd.R_drewN | apply Kd.R_drew)); exact HO108.out))) (below_size (by repeat (first | (with_reducible first | exact HB.out | apply below_alloc | apply pw_below_drewN | apply below_drew1) | exact HB.out)))); have n3_ := Aside0.mk (below_step (by repeat (first | (with_reducible first | exact HB.out | apply below_alloc | apply pw_below_drewN | apply below_drew1) | exact HB.out)) hb); clear HO105; clear HO108; clear HB; have HO105 := n0_; have HO108 := n1_; have HO112 := n2_; have HB := n3_; clear n0_ n1_ n2_ n3_; (try clear hb); (try clear hb2); (try clear hk); (try clear hi); (try clear ho0); obtain ⟨Ao13, co13, eo13⟩ := Kd.R_slice HO105.out; subst eo13) | (go_at_call 40; (with_reducible refine (walk_End.calls _ _ t101 t113 t114 t115 _ ?side1 ?side2 A4.out).mono ?_); (case side1 => repeat (first | exact (Kd.R_reads' HO105.out).2.2 | (with_reducible refine Kd.C_alloc ?_ _) | (with_reducible refine Kd.C_drewN ?_ _) | (with_reducible refine Kd.C_drew ?_))); (case side2 => exact (Kd.R_reads' HO105.out).2.1); rintro e w14 ⟨rfl, hb⟩; have n0_ := Aside0.mk (Kd.R_below (by (with_reducible repeat (first | apply Kd.R_alloc | apply Kd.R_drewN | apply Kd.R_drew)); exact HO105.out) hb); have n1_ := Aside0.mk (Kd.R_below (by (with_reducible repeat (first | apply Kd.R_alloc | apply Kd.R_drewN | apply Kd.R_drew)); exact HO108.out) hb); have n2_ := Aside0.mk (Kd.R_below (by (with_reducible repeat (first | apply Kd.R_alloc | apply Kd.R_drewN | apply Kd.R_drew)); exact HO112.out) hb); have n3_ := Aside0.mk (below_step (by repeat (first | (with_reducible first | exact HB.out | apply below_alloc | apply pw_below_drewN | apply below_drew1) | exact HB.out)) hb); clear HO105; clear HO108; clear HO112; clear HB; have HO105 := n0_; have HO108 := n1_; have HO112 := n2_; have HB := n3_; clear n0_ n1_ n2_ n3_; (try clear hb); (try clear hb2); (try clear hk); (try clear hi); obtain ⟨Ao15, co15, eo15⟩ := Kd.R_slice HO112.out; subst eo15) | (go_at_call 31; (with_reducible refine (walk_Text.calls _ _ t109 t116 _ ?side1 ?side2 A7.out).mono ?_); (case side1 => repeat (first | exact (Kd.R_reads' HO112.out).2.2 | (with_reducible refine Kd.C_alloc ?_ _) | (with_reducible refine Kd.C_drewN ?_ _) | (with_reducible refine Kd.C_drew ?_))); (case side2 => exact (Kd.R_reads' HO112.out).2.1); rintro e w16 ⟨rfl, hb⟩; have n0_ := Aside0.mk (Kd.R_below (by (with_reducible repeat (first | apply Kd.R_alloc | apply Kd.R_drewN | apply Kd.R_drew)); exact HO105.out) hb); have n1_ := Aside0.mk (Kd.R_below (by (with_reducible repeat (first | apply Kd.R_alloc | apply Kd.R_drewN | apply Kd.R_drew)); exact HO108.out) hb); have n2_ := Aside0.mk (Kd.R_below (by (with_reducible repeat (first | apply Kd.R_alloc | apply Kd.R_drewN | apply Kd.R_drew)); exact HO112.out) hb); have n3_ := Aside0.mk (below_step (by repeat (first | (with_reducible first | exact HB.out | apply below_alloc | apply pw_below_drewN | apply below_drew1) | exact HB.out)) hb); clear HO105; clear HO108; clear HO112; clear HB; have HO105 := n0_; have HO108 := n1_; have HO112 := n2_; have HB := n3_; clear n0_ n1_ n2_ n3_; (try clear hb); (try clear hb2); (try clear hk); (try clear hi)))
        go_ret
        exact ⟨by first | rfl | ((repeat first | rw [Int.tdiv_eq_ediv_of_nonneg (by omega)] | rw [Int.tmod_eq_emod_of_nonneg (by omega)]); rfl) | (simp [errW_none, errW_some] <;> rfl) | (simp [*, errW_none, errW_some] <;> rfl), by repeat (first | (with_reducible first | exact HB.out | apply below_alloc | apply pw_below_drewN | apply below_drew1) | exact HB.out)⟩
      · rw [if_neg c6] at H
        have c6b0 : (t110 == 0) = false := beq_eq_false_iff_ne.mpr c6
        have c6b1 : (t110 != 0) = true := bne_iff_ne.mpr c6
        obtain rfl := Option.some.inj H
        go_enter Try.func28, Try.ntmps28
        go_wp2_with (first | ((with_reducible refine gate_callee (f := 29) rfl ?_); refine goesL_ (some 7) rfl rfl Try.func29 (by kernel_rfl) rfl #[.string (⟨#[70, 50, 76, 70, 51]⟩ : ByteArray)] rfl (by (try simp only [List.map_toArray, List.map_cons, List.map_nil]); first | done | rfl | (simp only [List.length_drop, List.length_take]; rfl)) ?_; (with_reducible refine (walk_Parse.calls (⟨#[70, 50, 76, 70, 51]⟩ : ByteArray) t101 t102 t103 _ A1.out).mono ?_); rintro e w17 ⟨v104, rfl, ho0, hb⟩; refine ⟨_, rfl, ?_⟩; have n0_ := Aside0.mk (Kd.R_lower ho0 (below_size (by repeat (first | (with_reducible first | exact HB.out | apply below_alloc | apply pw_below_drewN | apply below_drew1) | exact HB.out)))); have n1_ := Aside0.mk (below_step (by repeat (first | (with_reducible first | exact HB.out | apply below_alloc | apply pw_below_drewN | apply below_drew1) | exact HB.out)) hb); clear HB; have HO105 := n0_; have HB := n1_; clear n0_ n1_; (try clear hb); (try clear hb2); (try clear hk); (try clear hi); (try clear ho0)) | ((with_reducible refine gate_dst (N := 15) rfl ?_); refine Kd.R_lit k56 _ 56 ?hg (N := 15) ?hd (xs := ([(⟨1, 2⟩ : S56), (⟨3, 4⟩ : S56), (⟨1, 3⟩ : S56)] : List (S56))) (inner := [.int .i64 1, .int .i64 2, .int .i64 3, .int .i64 4, .int .i64 1, .int .i64 3]) (ok := fun _ => True) (okp := fun _ => True) ?hr ?hp (fun _ hk => hk) trivial (Below.refl _ _) (Nat.le_refl _) (by simp) ?_; (case hd => rfl); (case hg => rfl); (case hr => first | (go_simp; done) | (go_simp; rfl)); (case hp => exact (Reps.c2 (show Kd.M k56 _ _ _ (⟨1, 2⟩ : S56) [.int .i64 1, .int .i64 2] from (k56_mkM _ _ _ (⟨1, 2⟩ : S56) )) (Reps.c2 (show Kd.M k56 _ _ _ (⟨3, 4⟩ : S56) [.int .i64 3, .int .i64 4] from (k56_mkM _ _ _ (⟨3, 4⟩ : S56) )) (Reps.c2 (show Kd.M k56 _ _ _ (⟨1, 3⟩ : S56) [.int .i64 1, .int .i64 3] from (k56_mkM _ _ _ (⟨1, 3⟩ : S56) )) (Reps.none _ _))))); intro v107 w18 ho19 hb hg_ hnew_; clear hg_ hnew_; (first | rw [← Ny106.out] at ho19 | (simp only [Int.reduceToNat] at ho19; rw [← Ny106.out] at ho19)); have n0_ := Aside0.mk (Kd.R_elder' (by (with_reducible repeat (first | apply Kd.R_alloc | apply Kd.R_drewN | apply Kd.R_drew)); exact HO105.out) (Kd.R_base ho19) hb); have n1_ := Aside0.mk (Kd.R_lower (Kd.R_new' ho19 (Kd.R_lt (by (with_reducible repeat (first | apply Kd.R_alloc | apply Kd.R_drewN | apply Kd.R_drew)); exact HO105.out))) (below_size (by repeat (first | (with_reducible first | exact HB.out | apply below_alloc | apply pw_below_drewN | apply below_drew1) | exact HB.out)))); have n2_ := Aside0.mk (below_step (by repeat (first | (with_reducible first | exact HB.out | apply below_alloc | apply pw_below_drewN | apply below_drew1) | exact HB.out)) hb); clear HO105; clear HB; have HO105 := n0_; have HO108 := n1_; have HB := n2_; clear n0_ n1_ n2_; clear hb ho19; obtain ⟨Ao20, co20, eo20⟩ := Kd.R_slice HO108.out; subst eo20) | ((with_reducible refine gate_callee (f := 34) rfl ?_); refine goesL_ (some 16) rfl rfl Try.func34 (by kernel_rfl) rfl #[.slice Ao20 y106.length co20] rfl (by (try simp only [List.map_toArray, List.map_cons, List.map_nil]); first | done | rfl | (simp only [List.length_drop, List.length_take]; rfl)) ?_; (with_reducible refine (walk_Short.calls k _ _ y106 t109 t110 _ ?side1 ?side2 A2.out).mono ?_); (case side1 => repeat (first | exact (Kd.R_reads' HO108.out).2.2 | (with_reducible refine Kd.C_alloc ?_ _) | (with_reducible refine Kd.C_drewN ?_ _) | (with_reducible refine Kd.C_drew ?_))); (case side2 => exact (Kd.R_reads' HO108.out).2.1); rintro e w21 ⟨v111, rfl, ho0, hb⟩; refine ⟨_, rfl, ?_⟩; have n0_ := Aside0.mk (Kd.R_elder' (by (with_reducible repeat (first | apply Kd.R_alloc | apply Kd.R_drewN | apply Kd.R_drew)); exact HO105.out) (Kd.R_base ho0) hb); have n1_ := Aside0.mk (Kd.R_elder' (by (with_reducible repeat (first | apply Kd.R_alloc | apply Kd.R_drewN | apply Kd.R_drew)); exact HO108.out) (Kd.R_base ho0) hb); have n2_ := Aside0.mk (Kd.R_lower (Kd.R_new' (Kd.R_new' ho0 (Kd.R_lt (by (with_reducible repeat (first | apply Kd.R_alloc | apply Kd.R_drewN | apply Kd.R_drew)); exact HO105.out))) (Kd.R_lt (by (with_reducible repeat (first | apply Kd.R_alloc | apply Kd.R_drewN | apply Kd.R_drew)); exact HO108.out))) (below_size (by repeat (first | (with_reducible first | exact HB.out | apply below_alloc | apply pw_below_drewN | apply below_drew1) | exact HB.out)))); have n3_ := Aside0.mk (below_step (by repeat (first | (with_reducible first | exact HB.out | apply below_alloc | apply pw_below_drewN | apply below_drew1) | exact HB.out)) hb); clear HO105; clear HO108; clear HB; have HO105 := n0_; have HO108 := n1_; have HO112 := n2_; have HB := n3_; clear n0_ n1_ n2_ n3_; (try clear hb); (try clear hb2); (try clear hk); (try clear hi); (try clear ho0); obtain ⟨Ao22, co22, eo22⟩ := Kd.R_slice HO105.out; subst eo22) | (go_at_call 40; (with_reducible refine (walk_End.calls _ _ t101 t113 t114 t115 _ ?side1 ?side2 A4.out).mono ?_); (case side1 => repeat (first | exact (Kd.R_reads' HO105.out).2.2 | (with_reducible refine Kd.C_alloc ?_ _) | (with_reducible refine Kd.C_drewN ?_ _) | (with_reducible refine Kd.C_drew ?_))); (case side2 => exact (Kd.R_reads' HO105.out).2.1); rintro e w23 ⟨rfl, hb⟩; have n0_ := Aside0.mk (Kd.R_below (by (with_reducible repeat (first | apply Kd.R_alloc | apply Kd.R_drewN | apply Kd.R_drew)); exact HO105.out) hb); have n1_ := Aside0.mk (Kd.R_below (by (with_reducible repeat (first | apply Kd.R_alloc | apply Kd.R_drewN | apply Kd.R_drew)); exact HO108.out) hb); have n2_ := Aside0.mk (Kd.R_below (by (with_reducible repeat (first | apply Kd.R_alloc | apply Kd.R_drewN | apply Kd.R_drew)); exact HO112.out) hb); have n3_ := Aside0.mk (below_step (by repeat (first | (with_reducible first | exact HB.out | apply below_alloc | apply pw_below_drewN | apply below_drew1) | exact HB.out)) hb); clear HO105; clear HO108; clear HO112; clear HB; have HO105 := n0_; have HO108 := n1_; have HO112 := n2_; have HB := n3_; clear n0_ n1_ n2_ n3_; (try clear hb); (try clear hb2); (try clear hk); (try clear hi)))
        go_ret
        exact ⟨by first | rfl | ((repeat first | rw [Int.tdiv_eq_ediv_of_nonneg (by omega)] | rw [Int.tmod_eq_emod_of_nonneg (by omega)]); rfl) | (simp [errW_none, errW_some] <;> rfl) | (simp [*, errW_none, errW_some] <;> rfl), by repeat (first | (with_reducible first | exact HB.out | apply below_alloc | apply pw_below_drewN | apply below_drew1) | exact HB.out)⟩
    · rw [if_neg c5] at H
      have c5b0 : (t113 == 1 && ((t114 == 2 && (t115 == 3)))) = false := by simpa using c5
      (try (have c5b1 : decide (t113 = 1 && ((t114 == 2 && (t115 == 3)))) = false := by simpa using c5))
      (try (have c5b2 : (t113 == 1 && ((t114 == 2 && (t115 == 3)))) = false := by simpa using c5))
      (try (have c5b3 : ¬ (t113 = 1 && ((t114 == 2 && (t115 == 3)))) := by simpa using c5))
      clear c5
      obtain rfl := Option.some.inj H
      go_enter Try.func28, Try.ntmps28
      go_wp2_with (first | ((with_reducible refine gate_callee (f := 29) rfl ?_); refine goesL_ (some 7) rfl rfl Try.func29 (by kernel_rfl) rfl #[.string (⟨#[70, 50, 76, 70, 51]⟩ : ByteArray)] rfl (by (try simp only [List.map_toArray, List.map_cons, List.map_nil]); first | done | rfl | (simp only [List.length_drop, List.length_take]; rfl)) ?_; (with_reducible refine (walk_Parse.calls (⟨#[70, 50, 76, 70, 51]⟩ : ByteArray) t101 t102 t103 _ A1.out).mono ?_); rintro e w24 ⟨v104, rfl, ho0, hb⟩; refine ⟨_, rfl, ?_⟩; have n0_ := Aside0.mk (Kd.R_lower ho0 (below_size (by repeat (first | (with_reducible first | exact HB.out | apply below_alloc | apply pw_below_drewN | apply below_drew1) | exact HB.out)))); have n1_ := Aside0.mk (below_step (by repeat (first | (with_reducible first | exact HB.out | apply below_alloc | apply pw_below_drewN | apply below_drew1) | exact HB.out)) hb); clear HB; have HO105 := n0_; have HB := n1_; clear n0_ n1_; (try clear hb); (try clear hb2); (try clear hk); (try clear hi); (try clear ho0)) | ((with_reducible refine gate_dst (N := 15) rfl ?_); refine Kd.R_lit k56 _ 56 ?hg (N := 15) ?hd (xs := ([(⟨1, 2⟩ : S56), (⟨3, 4⟩ : S56), (⟨1, 3⟩ : S56)] : List (S56))) (inner := [.int .i64 1, .int .i64 2, .int .i64 3, .int .i64 4, .int .i64 1, .int .i64 3]) (ok := fun _ => True) (okp := fun _ => True) ?hr ?hp (fun _ hk => hk) trivial (Below.refl _ _) (Nat.le_refl _) (by simp) ?_; (case hd => rfl); (case hg => rfl); (case hr => first | (go_simp; done) | (go_simp; rfl)); (case hp => exact (Reps.c2 (show Kd.M k56 _ _ _ (⟨1, 2⟩ : S56) [.int .i64 1, .int .i64 2] from (k56_mkM _ _ _ (⟨1, 2⟩ : S56) )) (Reps.c2 (show Kd.M k56 _ _ _ (⟨3, 4⟩ : S56) [.int .i64 3, .int .i64 4] from (k56_mkM _ _ _ (⟨3, 4⟩ : S56) )) (Reps.c2 (show Kd.M k56 _ _ _ (⟨1, 3⟩ : S56) [.int .i64 1, .int .i64 3] from (k56_mkM _ _ _ (⟨1, 3⟩ : S56) )) (Reps.none _ _))))); intro v107 w25 ho26 hb hg_ hnew_; clear hg_ hnew_; (first | rw [← Ny106.out] at ho26 | (simp only [Int.reduceToNat] at ho26; rw [← Ny106.out] at ho26)); have n0_ := Aside0.mk (Kd.R_elder' (by (with_reducible repeat (first | apply Kd.R_alloc | apply Kd.R_drewN | apply Kd.R_drew)); exact HO105.out) (Kd.R_base ho26) hb); have n1_ := Aside0.mk (Kd.R_lower (Kd.R_new' ho26 (Kd.R_lt (by (with_reducible repeat (first | apply Kd.R_alloc | apply Kd.R_drewN | apply Kd.R_drew)); exact HO105.out))) (below_size (by repeat (first | (with_reducible first | exact HB.out | apply below_alloc | apply pw_below_drewN | apply below_drew1) | exact HB.out)))); have n2_ := Aside0.mk (below_step (by repeat (first | (with_reducible first | exact HB.out | apply below_alloc | apply pw_below_drewN | apply below_drew1) | exact HB.out)) hb); clear HO105; clear HB; have HO105 := n0_; have HO108 := n1_; have HB := n2_; clear n0_ n1_ n2_; clear hb ho26; obtain ⟨Ao27, co27, eo27⟩ := Kd.R_slice HO108.out; subst eo27) | ((with_reducible refine gate_callee (f := 34) rfl ?_); refine goesL_ (some 16) rfl rfl Try.func34 (by kernel_rfl) rfl #[.slice Ao27 y106.length co27] rfl (by (try simp only [List.map_toArray, List.map_cons, List.map_nil]); first | done | rfl | (simp only [List.length_drop, List.length_take]; rfl)) ?_; (with_reducible refine (walk_Short.calls k _ _ y106 t109 t110 _ ?side1 ?side2 A2.out).mono ?_); (case side1 => repeat (first | exact (Kd.R_reads' HO108.out).2.2 | (with_reducible refine Kd.C_alloc ?_ _) | (with_reducible refine Kd.C_drewN ?_ _) | (with_reducible refine Kd.C_drew ?_))); (case side2 => exact (Kd.R_reads' HO108.out).2.1); rintro e w28 ⟨v111, rfl, ho0, hb⟩; refine ⟨_, rfl, ?_⟩; have n0_ := Aside0.mk (Kd.R_elder' (by (with_reducible repeat (first | apply Kd.R_alloc | apply Kd.R_drewN | apply Kd.R_drew)); exact HO105.out) (Kd.R_base ho0) hb); have n1_ := Aside0.mk (Kd.R_elder' (by (with_reducible repeat (first | apply Kd.R_alloc | apply Kd.R_drewN | apply Kd.R_drew)); exact HO108.out) (Kd.R_base ho0) hb); have n2_ := Aside0.mk (Kd.R_lower (Kd.R_new' (Kd.R_new' ho0 (Kd.R_lt (by (with_reducible repeat (first | apply Kd.R_alloc | apply Kd.R_drewN | apply Kd.R_drew)); exact HO105.out))) (Kd.R_lt (by (with_reducible repeat (first | apply Kd.R_alloc | apply Kd.R_drewN | apply Kd.R_drew)); exact HO108.out))) (below_size (by repeat (first | (with_reducible first | exact HB.out | apply below_alloc | apply pw_below_drewN | apply below_drew1) | exact HB.out)))); have n3_ := Aside0.mk (below_step (by repeat (first | (with_reducible first | exact HB.out | apply below_alloc | apply pw_below_drewN | apply below_drew1) | exact HB.out)) hb); clear HO105; clear HO108; clear HB; have HO105 := n0_; have HO108 := n1_; have HO112 := n2_; have HB := n3_; clear n0_ n1_ n2_ n3_; (try clear hb); (try clear hb2); (try clear hk); (try clear hi); (try clear ho0); obtain ⟨Ao29, co29, eo29⟩ := Kd.R_slice HO105.out; subst eo29) | (go_at_call 40; (with_reducible refine (walk_End.calls _ _ t101 t113 t114 t115 _ ?side1 ?side2 A4.out).mono ?_); (case side1 => repeat (first | exact (Kd.R_reads' HO105.out).2.2 | (with_reducible refine Kd.C_alloc ?_ _) | (with_reducible refine Kd.C_drewN ?_ _) | (with_reducible refine Kd.C_drew ?_))); (case side2 => exact (Kd.R_reads' HO105.out).2.1); rintro e w30 ⟨rfl, hb⟩; have n0_ := Aside0.mk (Kd.R_below (by (with_reducible repeat (first | apply Kd.R_alloc | apply Kd.R_drewN | apply Kd.R_drew)); exact HO105.out) hb); have n1_ := Aside0.mk (Kd.R_below (by (with_reducible repeat (first | apply Kd.R_alloc | apply Kd.R_drewN | apply Kd.R_drew)); exact HO108.out) hb); have n2_ := Aside0.mk (Kd.R_below (by (with_reducible repeat (first | apply Kd.R_alloc | apply Kd.R_drewN | apply Kd.R_drew)); exact HO112.out) hb); have n3_ := Aside0.mk (below_step (by repeat (first | (with_reducible first | exact HB.out | apply below_alloc | apply pw_below_drewN | apply below_drew1) | exact HB.out)) hb); clear HO105; clear HO108; clear HO112; clear HB; have HO105 := n0_; have HO108 := n1_; have HO112 := n2_; have HB := n3_; clear n0_ n1_ n2_ n3_; (try clear hb); (try clear hb2); (try clear hk); (try clear hi)))
      go_ret
      exact ⟨by first | rfl | ((repeat first | rw [Int.tdiv_eq_ediv_of_nonneg (by omega)] | rw [Int.tmod_eq_emod_of_nonneg (by omega)]); rfl) | (simp [errW_none, errW_some] <;> rfl) | (simp [*, errW_none, errW_some] <;> rfl), by repeat (first | (with_reducible first | exact HB.out | apply below_alloc | apply pw_below_drewN | apply below_drew1) | exact HB.out)⟩
  · rw [if_neg c3] at H
    have c3b0 : (t102 == 0) = false := beq_eq_false_iff_ne.mpr c3
    have c3b1 : (t102 != 0) = true := bne_iff_ne.mpr c3
    obtain rfl := Option.some.inj H
    go_enter Try.func28, Try.ntmps28
    go_wp2_with (first | ((with_reducible refine gate_callee (f := 29) rfl ?_); refine goesL_ (some 7) rfl rfl Try.func29 (by kernel_rfl) rfl #[.string (⟨#[70, 50, 76, 70, 51]⟩ : ByteArray)] rfl (by (try simp only [List.map_toArray, List.map_cons, List.map_nil]); first | done | rfl | (simp only [List.length_drop, List.length_take]; rfl)) ?_; (with_reducible refine (walk_Parse.calls (⟨#[70, 50, 76, 70, 51]⟩ : ByteArray) t101 t102 t103 _ A1.out).mono ?_); rintro e w31 ⟨v104, rfl, ho0, hb⟩; refine ⟨_, rfl, ?_⟩; have n0_ := Aside0.mk (Kd.R_lower ho0 (below_size (by repeat (first | (with_reducible first | exact HB.out | apply below_alloc | apply pw_below_drewN | apply below_drew1) | exact HB.out)))); have n1_ := Aside0.mk (below_step (by repeat (first | (with_reducible first | exact HB.out | apply below_alloc | apply pw_below_drewN | apply below_drew1) | exact HB.out)) hb); clear HB; have HO105 := n0_; have HB := n1_; clear n0_ n1_; (try clear hb); (try clear hb2); (try clear hk); (try clear hi); (try clear ho0)) | ((with_reducible refine gate_dst (N := 15) rfl ?_); refine Kd.R_lit k56 _ 56 ?hg (N := 15) ?hd (xs := ([(⟨1, 2⟩ : S56), (⟨3, 4⟩ : S56), (⟨1, 3⟩ : S56)] : List (S56))) (inner := [.int .i64 1, .int .i64 2, .int .i64 3, .int .i64 4, .int .i64 1, .int .i64 3]) (ok := fun _ => True) (okp := fun _ => True) ?hr ?hp (fun _ hk => hk) trivial (Below.refl _ _) (Nat.le_refl _) (by simp) ?_; (case hd => rfl); (case hg => rfl); (case hr => first | (go_simp; done) | (go_simp; rfl)); (case hp => exact (Reps.c2 (show Kd.M k56 _ _ _ (⟨1, 2⟩ : S56) [.int .i64 1, .int .i64 2] from (k56_mkM _ _ _ (⟨1, 2⟩ : S56) )) (Reps.c2 (show Kd.M k56 _ _ _ (⟨3, 4⟩ : S56) [.int .i64 3, .int .i64 4] from (k56_mkM _ _ _ (⟨3, 4⟩ : S56) )) (Reps.c2 (show Kd.M k56 _ _ _ (⟨1, 3⟩ : S56) [.int .i64 1, .int .i64 3] from (k56_mkM _ _ _ (⟨1, 3⟩ : S56) )) (Reps.none _ _))))); intro v107 w32 ho33 hb hg_ hnew_; clear hg_ hnew_; (first | rw [← Ny106.out] at ho33 | (simp only [Int.reduceToNat] at ho33; rw [← Ny106.out] at ho33)); have n0_ := Aside0.mk (Kd.R_elder' (by (with_reducible repeat (first | apply Kd.R_alloc | apply Kd.R_drewN | apply Kd.R_drew)); exact HO105.out) (Kd.R_base ho33) hb); have n1_ := Aside0.mk (Kd.R_lower (Kd.R_new' ho33 (Kd.R_lt (by (with_reducible repeat (first | apply Kd.R_alloc | apply Kd.R_drewN | apply Kd.R_drew)); exact HO105.out))) (below_size (by repeat (first | (with_reducible first | exact HB.out | apply below_alloc | apply pw_below_drewN | apply below_drew1) | exact HB.out)))); have n2_ := Aside0.mk (below_step (by repeat (first | (with_reducible first | exact HB.out | apply below_alloc | apply pw_below_drewN | apply below_drew1) | exact HB.out)) hb); clear HO105; clear HB; have HO105 := n0_; have HO108 := n1_; have HB := n2_; clear n0_ n1_ n2_; clear hb ho33; obtain ⟨Ao34, co34, eo34⟩ := Kd.R_slice HO108.out; subst eo34) | ((with_reducible refine gate_callee (f := 34) rfl ?_); refine goesL_ (some 16) rfl rfl Try.func34 (by kernel_rfl) rfl #[.slice Ao34 y106.length co34] rfl (by (try simp only [List.map_toArray, List.map_cons, List.map_nil]); first | done | rfl | (simp only [List.length_drop, List.length_take]; rfl)) ?_; (with_reducible refine (walk_Short.calls k _ _ y106 t109 t110 _ ?side1 ?side2 A2.out).mono ?_); (case side1 => repeat (first | exact (Kd.R_reads' HO108.out).2.2 | (with_reducible refine Kd.C_alloc ?_ _) | (with_reducible refine Kd.C_drewN ?_ _) | (with_reducible refine Kd.C_drew ?_))); (case side2 => exact (Kd.R_reads' HO108.out).2.1); rintro e w35 ⟨v111, rfl, ho0, hb⟩; refine ⟨_, rfl, ?_⟩; have n0_ := Aside0.mk (Kd.R_elder' (by (with_reducible repeat (first | apply Kd.R_alloc | apply Kd.R_drewN | apply Kd.R_drew)); exact HO105.out) (Kd.R_base ho0) hb); have n1_ := Aside0.mk (Kd.R_elder' (by (with_reducible repeat (first | apply Kd.R_alloc | apply Kd.R_drewN | apply Kd.R_drew)); exact HO108.out) (Kd.R_base ho0) hb); have n2_ := Aside0.mk (Kd.R_lower (Kd.R_new' (Kd.R_new' ho0 (Kd.R_lt (by (with_reducible repeat (first | apply Kd.R_alloc | apply Kd.R_drewN | apply Kd.R_drew)); exact HO105.out))) (Kd.R_lt (by (with_reducible repeat (first | apply Kd.R_alloc | apply Kd.R_drewN | apply Kd.R_drew)); exact HO108.out))) (below_size (by repeat (first | (with_reducible first | exact HB.out | apply below_alloc | apply pw_below_drewN | apply below_drew1) | exact HB.out)))); have n3_ := Aside0.mk (below_step (by repeat (first | (with_reducible first | exact HB.out | apply below_alloc | apply pw_below_drewN | apply below_drew1) | exact HB.out)) hb); clear HO105; clear HO108; clear HB; have HO105 := n0_; have HO108 := n1_; have HO112 := n2_; have HB := n3_; clear n0_ n1_ n2_ n3_; (try clear hb); (try clear hb2); (try clear hk); (try clear hi); (try clear ho0)))
    go_ret
    exact ⟨by first | rfl | ((repeat first | rw [Int.tdiv_eq_ediv_of_nonneg (by omega)] | rw [Int.tmod_eq_emod_of_nonneg (by omega)]); rfl) | (simp [errW_none, errW_some] <;> rfl) | (simp [*, errW_none, errW_some] <;> rfl), by repeat (first | (with_reducible first | exact HB.out | apply below_alloc | apply pw_below_drewN | apply below_drew1) | exact HB.out)⟩
end Go.Proofs.Ytpoghhcpoimepaa.P
end
section
-- printed by the session's own call of print.py. Not trusted: Lean checks it.
namespace Go.Proofs.Ytpoghhcpoimepaa.P
open Go.RowKit Go.Proofs.YtpoghhcpoimepaaW.PrintWords Go.Proofs.YtpoghhcpoimepaaW.PrintLast Go.Proofs.YtpoghhcpoimepaaW.PrintMore
attribute [local go_sem] max2_int min2_int max_two min_two max_three min_three max_four min_four
set_option linter.unusedVariables false
set_option linter.unusedSimpArgs false
/-! ### tallymanref05_kind: function 59 -/
def tallymanref05_kind.l0 : Nat → Int → Int → Option (Int)
  | 0, _, _ => none
  | k + 1, x0, x3 => if x3 ≤ 4 then (if 0 ≤ (wrap64 (x3 - 1)) then (if (wrap64 (x3 - 1)) < 4 then (if (bt (⟨#[70, 66, 76, 82]⟩ : ByteArray) (wrap64 (x3 - 1))) = x0 then (some x3) else (tallymanref05_kind.l0 k x0 (wrap64 (x3 + 1)))) else (none)) else (none)) else (some 0)
def tallymanref05_kind.f (k : Nat) (a0 : Int) : Option (Int) := tallymanref05_kind.l0 k a0 1
theorem tallymanref05_kind.mono_l : ∀ k, (∀ y0 y1, LeO (tallymanref05_kind.l0 k y0 y1) (tallymanref05_kind.l0 (k + 1) y0 y1))
  | 0 => fun _ _ r h => by simp [tallymanref05_kind.l0] at h
  | k + 1 => by
    have ih0 := tallymanref05_kind.mono_l k
    · intro y0 y1
      unfold tallymanref05_kind.l0
      repeat' first
      | (with_reducible exact ih0 _ _)
      | (with_reducible exact LeO.refl _)
      | (with_reducible exact LeO.none _)
      | (with_reducible refine LeO.ite ?_ ?_)
      | (with_reducible refine LeO.bind ?_ (fun _ => ?_))
      | exact ih0 _ _
      | exact LeO.none _
      | refine LeO.ite ?_ ?_
      | refine LeO.bind ?_ (fun _ => ?_)
theorem tallymanref05_kind.mono : ∀ a0 k, LeO (tallymanref05_kind.f k a0) (tallymanref05_kind.f (k + 1) a0) := by
  intro a0 k
  have ih0 := tallymanref05_kind.mono_l k
  unfold tallymanref05_kind.f
  repeat' first
      | (with_reducible exact ih0 _ _)
      | (with_reducible exact LeO.refl _)
      | (with_reducible exact LeO.none _)
      | (with_reducible refine LeO.ite ?_ ?_)
      | (with_reducible refine LeO.bind ?_ (fun _ => ?_))
      | exact ih0 _ _
      | exact LeO.none _
      | refine LeO.ite ?_ ?_
      | refine LeO.bind ?_ (fun _ => ?_)
end Go.Proofs.Ytpoghhcpoimepaa.P
end
section
-- printed by the session's own call of print.py. Not trusted: Lean checks it.
namespace Go.Proofs.Ytpoghhcpoimepaa.P
open Go.RowKit Go.Proofs.YtpoghhcpoimepaaW.PrintWords Go.Proofs.YtpoghhcpoimepaaW.PrintLast Go.Proofs.YtpoghhcpoimepaaW.PrintMore
attribute [local go_sem] max2_int min2_int max_two min_two max_three min_three max_four min_four
set_option linter.unusedVariables false
set_option linter.unusedSimpArgs false
/-! ### tallymanref05_Parse: function 30 -/
mutual
def tallymanref05_Parse.l0 : Nat → ByteArray → List (S56) → Int → Option ((List (S56)) × Int × Int)
  | 0, _, _, _ => none
  | k + 1, x0, x5, x6 => if x6 < (x0.size : Int) then (if 0 ≤ x6 then ((tallymanref05_kind.f k (bt x0 x6)).bind fun t101 => (if t101 = 0 then (some (([] : List (S56)), 3, x6)) else (tallymanref05_Parse.l1 k x0 x5 (wrap64 (x6 + 1)) t101 0 0))) else (none)) else (some (x5, 0, 0))
def tallymanref05_Parse.l1 : Nat → ByteArray → List (S56) → Int → Int → Int → Int → Option ((List (S56)) × Int × Int)
  | 0, _, _, _, _, _, _ => none
  | k + 1, x0, x5, x6, x7, x8, x9 => if x6 < (x0.size : Int) then (if 0 ≤ x6 then (if (bt x0 x6) ≥ 48 then (tallymanref05_Parse.j2 k x0 x5 x6 x7 x8 x9 (decide ((bt x0 x6) ≤ 57))) else (tallymanref05_Parse.j2 k x0 x5 x6 x7 x8 x9 false)) else (none)) else (tallymanref05_Parse.j2 k x0 x5 x6 x7 x8 x9 false)
def tallymanref05_Parse.j2 : Nat → ByteArray → List (S56) → Int → Int → Int → Int → Bool → Option ((List (S56)) × Int × Int)
  | 0, _, _, _, _, _, _, _ => none
  | k + 1, x0, x5, x6, x7, x8, x9, x38 => if x38 = true then (if x9 = 0 then (if 0 ≤ x6 then (if x6 < (x0.size : Int) then (tallymanref05_Parse.j3 k x0 x5 x6 x7 x8 x9 ((bt x0 x6) == 48)) else (none)) else (none)) else (tallymanref05_Parse.j3 k x0 x5 x6 x7 x8 x9 false)) else (if x5.length < 8796093022208 then (tallymanref05_Parse.l0 k x0 (x5 ++ [(⟨x7, mx x8 1⟩ : S56)]) x6) else (none))
def tallymanref05_Parse.j3 : Nat → ByteArray → List (S56) → Int → Int → Int → Int → Bool → Option ((List (S56)) × Int × Int)
  | 0, _, _, _, _, _, _, _ => none
  | k + 1, x0, x5, x6, x7, x8, x9, x46 => if x46 = true then (some (([] : List (S56)), 3, x6)) else (if x9 = 3 then (some (([] : List (S56)), 2, x6)) else (if 0 ≤ x6 then (if x6 < (x0.size : Int) then (tallymanref05_Parse.l1 k x0 x5 (wrap64 (x6 + 1)) x7 (wrap64 ((wrap64 (10 * x8)) + (((bt x0 x6) - 48) % 256))) (wrap64 (x9 + 1))) else (none)) else (none)))
end
def tallymanref05_Parse.f (k : Nat) (a0 : ByteArray) : Option ((List (S56)) × Int × Int) := tallymanref05_Parse.l0 k a0 ([] : List (S56)) 0
theorem tallymanref05_Parse.mono_l : ∀ k, (∀ y0 y1 y2, LeO (tallymanref05_Parse.l0 k y0 y1 y2) (tallymanref05_Parse.l0 (k + 1) y0 y1 y2)) ∧ (∀ y0 y1 y2 y3 y4 y5, LeO (tallymanref05_Parse.l1 k y0 y1 y2 y3 y4 y5) (tallymanref05_Parse.l1 (k + 1) y0 y1 y2 y3 y4 y5)) ∧ (∀ y0 y1 y2 y3 y4 y5 y6, LeO (tallymanref05_Parse.j2 k y0 y1 y2 y3 y4 y5 y6) (tallymanref05_Parse.j2 (k + 1) y0 y1 y2 y3 y4 y5 y6)) ∧ (∀ y0 y1 y2 y3 y4 y5 y6, LeO (tallymanref05_Parse.j3 k y0 y1 y2 y3 y4 y5 y6) (tallymanref05_Parse.j3 (k + 1) y0 y1 y2 y3 y4 y5 y6))
  | 0 => ⟨fun _ _ _ r h => by simp [tallymanref05_Parse.l0] at h, fun _ _ _ _ _ _ r h => by simp [tallymanref05_Parse.l1] at h, fun _ _ _ _ _ _ _ r h => by simp [tallymanref05_Parse.j2] at h, fun _ _ _ _ _ _ _ r h => by simp [tallymanref05_Parse.j3] at h⟩
  | k + 1 => by
    obtain ⟨ih0, ih1, ih2, ih3⟩ := tallymanref05_Parse.mono_l k
    refine ⟨?_, ?_, ?_, ?_⟩
    · intro y0 y1 y2
      unfold tallymanref05_Parse.l0
      repeat' first
      | (with_reducible exact ih0 _ _ _)
      | (with_reducible exact ih1 _ _ _ _ _ _)
      | (with_reducible exact ih2 _ _ _ _ _ _ _)
      | (with_reducible exact ih3 _ _ _ _ _ _ _)
      | (with_reducible exact tallymanref05_kind.mono _ _)
      | (with_reducible exact LeO.refl _)
      | (with_reducible exact LeO.none _)
      | (with_reducible refine LeO.ite ?_ ?_)
      | (with_reducible refine LeO.bind ?_ (fun _ => ?_))
      | exact ih0 _ _ _
      | exact ih1 _ _ _ _ _ _
      | exact ih2 _ _ _ _ _ _ _
      | exact ih3 _ _ _ _ _ _ _
      | exact tallymanref05_kind.mono _ _
      | exact LeO.none _
      | refine LeO.ite ?_ ?_
      | refine LeO.bind ?_ (fun _ => ?_)
    · intro y0 y1 y2 y3 y4 y5
      unfold tallymanref05_Parse.l1
      repeat' first
      | (with_reducible exact ih0 _ _ _)
      | (with_reducible exact ih1 _ _ _ _ _ _)
      | (with_reducible exact ih2 _ _ _ _ _ _ _)
      | (with_reducible exact ih3 _ _ _ _ _ _ _)
      | (with_reducible exact tallymanref05_kind.mono _ _)
      | (with_reducible exact LeO.refl _)
      | (with_reducible exact LeO.none _)
      | (with_reducible refine LeO.ite ?_ ?_)
      | (with_reducible refine LeO.bind ?_ (fun _ => ?_))
      | exact ih0 _ _ _
      | exact ih1 _ _ _ _ _ _
      | exact ih2 _ _ _ _ _ _ _
      | exact ih3 _ _ _ _ _ _ _
      | exact tallymanref05_kind.mono _ _
      | exact LeO.none _
      | refine LeO.ite ?_ ?_
      | refine LeO.bind ?_ (fun _ => ?_)
    · intro y0 y1 y2 y3 y4 y5 y6
      unfold tallymanref05_Parse.j2
      repeat' first
      | (with_reducible exact ih0 _ _ _)
      | (with_reducible exact ih1 _ _ _ _ _ _)
      | (with_reducible exact ih2 _ _ _ _ _ _ _)
      | (with_reducible exact ih3 _ _ _ _ _ _ _)
      | (with_reducible exact tallymanref05_kind.mono _ _)
      | (with_reducible exact LeO.refl _)
      | (with_reducible exact LeO.none _)
      | (with_reducible refine LeO.ite ?_ ?_)
      | (with_reducible refine LeO.bind ?_ (fun _ => ?_))
      | exact ih0 _ _ _
      | exact ih1 _ _ _ _ _ _
      | exact ih2 _ _ _ _ _ _ _
      | exact ih3 _ _ _ _ _ _ _
      | exact tallymanref05_kind.mono _ _
      | exact LeO.none _
      | refine LeO.ite ?_ ?_
      | refine LeO.bind ?_ (fun _ => ?_)
    · intro y0 y1 y2 y3 y4 y5 y6
      unfold tallymanref05_Parse.j3
      repeat' first
      | (with_reducible exact ih0 _ _ _)
      | (with_reducible exact ih1 _ _ _ _ _ _)
      | (with_reducible exact ih2 _ _ _ _ _ _ _)
      | (with_reducible exact ih3 _ _ _ _ _ _ _)
      | (with_reducible exact tallymanref05_kind.mono _ _)
      | (with_reducible exact LeO.refl _)
      | (with_reducible exact LeO.none _)
      | (with_reducible refine LeO.ite ?_ ?_)
      | (with_reducible refine LeO.bind ?_ (fun _ => ?_))
      | exact ih0 _ _ _
      | exact ih1 _ _ _ _ _ _
      | exact ih2 _ _ _ _ _ _ _
      | exact ih3 _ _ _ _ _ _ _
      | exact tallymanref05_kind.mono _ _
      | exact LeO.none _
      | refine LeO.ite ?_ ?_
      | refine LeO.bind ?_ (fun _ => ?_)
theorem tallymanref05_Parse.mono : ∀ a0 k, LeO (tallymanref05_Parse.f k a0) (tallymanref05_Parse.f (k + 1) a0) := by
  intro a0 k
  obtain ⟨ih0, ih1, ih2, ih3⟩ := tallymanref05_Parse.mono_l k
  unfold tallymanref05_Parse.f
  repeat' first
      | (with_reducible exact ih0 _ _ _)
      | (with_reducible exact ih1 _ _ _ _ _ _)
      | (with_reducible exact ih2 _ _ _ _ _ _ _)
      | (with_reducible exact ih3 _ _ _ _ _ _ _)
      | (with_reducible exact tallymanref05_kind.mono _ _)
      | (with_reducible exact LeO.refl _)
      | (with_reducible exact LeO.none _)
      | (with_reducible refine LeO.ite ?_ ?_)
      | (with_reducible refine LeO.bind ?_ (fun _ => ?_))
      | exact ih0 _ _ _
      | exact ih1 _ _ _ _ _ _
      | exact ih2 _ _ _ _ _ _ _
      | exact ih3 _ _ _ _ _ _ _
      | exact tallymanref05_kind.mono _ _
      | exact LeO.none _
      | refine LeO.ite ?_ ?_
      | refine LeO.bind ?_ (fun _ => ?_)
end Go.Proofs.Ytpoghhcpoimepaa.P
end
section
-- printed by the session's own call of print.py. Not trusted: Lean checks it.
namespace Go.Proofs.Ytpoghhcpoimepaa.P
open Go.RowKit Go.Proofs.YtpoghhcpoimepaaW.PrintWords Go.Proofs.YtpoghhcpoimepaaW.PrintLast Go.Proofs.YtpoghhcpoimepaaW.PrintMore
attribute [local go_sem] max2_int min2_int max_two min_two max_three min_three max_four min_four
set_option linter.unusedVariables false
set_option linter.unusedSimpArgs false
/-! ### tallymanref02_Clip: function 92 -/
def tallymanref02_Clip.f (a0 : Int) (a1 : Int) (a2 : Int) : Option (Int) := if a0 < a1 then (some a1) else (if a0 > a2 then (some a2) else (some a0))
set_option maxHeartbeats 8000000 in
set_option maxRecDepth 100000 in
theorem tallymanref02_Clip.calls (a0 : Int) (a1 : Int) (a2 : Int) (r : Int) (w : World) (h : tallymanref02_Clip.f a0 a1 a2 = some r) :
    Calls Try.prog 92 #[.int .i64 a0, .int .i64 a1, .int .i64 a2] w fun e w' => e = .returned (.int .i64 r) ∧ Drawn0 w w' := by
  have H : (if a0 < a1 then (some a1) else (if a0 > a2 then (some a2) else (some a0))) = some r := h
  clear h
  by_cases c4 : a0 < a1
  · rw [if_pos c4] at H
    have c4b0 : decide (a0 < a1) = true := decide_eq_true c4
    clear c4
    obtain rfl := Option.some.inj H
    go_enter Try.func92, Try.ntmps92
    go_wp2
    go_ret
    exact ⟨by first | rfl | ((repeat first | rw [Int.tdiv_eq_ediv_of_nonneg (by omega)] | rw [Int.tmod_eq_emod_of_nonneg (by omega)]); rfl) | (simp; done) | (simp [*]; done), by repeat (first | exact Drawn0.refl _ | apply Drawn0.step)⟩
  · rw [if_neg c4] at H
    have c4b0 : decide (a0 < a1) = false := decide_eq_false c4
    clear c4
    by_cases c5 : a0 > a2
    · rw [if_pos c5] at H
      have c5b0 : decide (a2 < a0) = true := decide_eq_true c5
      clear c5
      obtain rfl := Option.some.inj H
      go_enter Try.func92, Try.ntmps92
      go_wp2
      go_ret
      exact ⟨by first | rfl | ((repeat first | rw [Int.tdiv_eq_ediv_of_nonneg (by omega)] | rw [Int.tmod_eq_emod_of_nonneg (by omega)]); rfl) | (simp; done) | (simp [*]; done), by repeat (first | exact Drawn0.refl _ | apply Drawn0.step)⟩
    · rw [if_neg c5] at H
      have c5b0 : decide (a2 < a0) = false := decide_eq_false c5
      clear c5
      obtain rfl := Option.some.inj H
      go_enter Try.func92, Try.ntmps92
      go_wp2
      go_ret
      exact ⟨by first | rfl | ((repeat first | rw [Int.tdiv_eq_ediv_of_nonneg (by omega)] | rw [Int.tmod_eq_emod_of_nonneg (by omega)]); rfl) | (simp; done) | (simp [*]; done), by repeat (first | exact Drawn0.refl _ | apply Drawn0.step)⟩
end Go.Proofs.Ytpoghhcpoimepaa.P
end
