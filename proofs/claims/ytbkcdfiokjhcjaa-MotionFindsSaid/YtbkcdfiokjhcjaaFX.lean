/- Whole numbers as floats: sums, differences and products of small ones are exact. -/
import Derived.Laws.ComplexArith
namespace Go.Proofs.Ytbkcdfiokjhcjaa.FX
open Go
set_option linter.unusedVariables false
set_option linter.unusedSimpArgs false
/-- A datum that is the whole number n. -/
def Val (d : Ieee.Datum) (n : Int) : Prop := ∃ s m p, d = .number s m p ∧ m * 2 ^ p.toNat = n.natAbs * 2 ^ (-p).toNat ∧ (n ≠ 0 → s = decide (n < 0))
/-- Bits that are the whole number n. -/
def IsF (b : Nat) (n : Int) : Prop := Val (Ieee.double.read b) n
theorem pow_cancel {a b k : Nat} (h : a * 2 ^ k = b * 2 ^ k) : a = b := Nat.eq_of_mul_eq_mul_right (Nat.two_pow_pos k) h
theorem log2_mul (a k : Nat) (ha : a ≠ 0) : (a * 2 ^ k).log2 = a.log2 + k := by
  have h1 := Nat.log2_self_le ha
  have h2 := Nat.lt_log2_self (n := a)
  have hne : a * 2 ^ k ≠ 0 := Nat.mul_ne_zero ha (Nat.ne_of_gt (Nat.two_pow_pos k))
  rw [Nat.log2_eq_iff hne]
  constructor
  · rw [Nat.pow_add]; exact Nat.mul_le_mul_right _ h1
  · rw [show a.log2 + k + 1 = (a.log2 + 1) + k from by omega, Nat.pow_add]; exact Nat.mul_lt_mul_of_pos_right h2 (Nat.two_pow_pos k)
theorem log2_lt53 (a : Nat) (ha : a ≠ 0) (h : a < 2 ^ 53) : a.log2 < 53 := (Nat.log2_lt ha).2 h
/-- The kept digits of a whole number. -/
def sig (a : Nat) : Nat := a * 2 ^ (52 - a.log2)
theorem sig_range (a : Nat) (ha : a ≠ 0) (h : a < 2 ^ 53) : 4503599627370496 ≤ sig a ∧ sig a < 9007199254740992 := by
  have hl := log2_lt53 a ha h
  have h1 := Nat.log2_self_le ha
  have h2 := Nat.lt_log2_self (n := a)
  unfold sig
  constructor
  · have : 2 ^ a.log2 * 2 ^ (52 - a.log2) ≤ a * 2 ^ (52 - a.log2) := Nat.mul_le_mul_right _ h1
    rw [← Nat.pow_add, show a.log2 + (52 - a.log2) = 52 from by omega] at this
    exact this
  · have : a * 2 ^ (52 - a.log2) < 2 ^ (a.log2 + 1) * 2 ^ (52 - a.log2) := Nat.mul_lt_mul_of_pos_right h2 (Nat.two_pow_pos _)
    rw [← Nat.pow_add, show a.log2 + 1 + (52 - a.log2) = 53 from by omega] at this
    exact this
theorem cut_none (way : Ieee.Toward) (s : Bool) (n : Nat) (hw : way = .even ∨ way = .zero) : way.cut s n 0 = n := by
  unfold Ieee.Toward.cut
  rcases hw with rfl | rfl <;> simp [Nat.mod_one]
theorem cut_exact (way : Ieee.Toward) (s : Bool) (K drop : Nat) (hK : K ≠ 0) (hw : way = .even ∨ way = .zero) : way.cut s (K * 2 ^ drop) drop = K := by
  have hl : drop ≤ (K * 2 ^ drop).log2 + 2 := by rw [log2_mul K drop hK]; omega
  unfold Ieee.Toward.cut
  have hg : (1 <<< min drop ((K * 2 ^ drop).log2 + 2)) = 2 ^ drop := by rw [Nat.min_eq_left hl, Nat.one_shiftLeft]
  have hp := Nat.two_pow_pos drop
  have hr : K * 2 ^ drop % 2 ^ drop = 0 := Nat.mul_mod_left _ _
  simp only [hg, hr, Nat.mul_div_cancel _ hp]
  rcases hw with rfl | rfl
  · have : ¬ (2 ^ drop = 0) := by omega
    simp [this]
  · simp
theorem nearest_int (s : Bool) (m : Nat) (p : Int) (a : Nat) (ha : a ≠ 0) (h53 : a < 2 ^ 53) (hv : m * 2 ^ p.toNat = a * 2 ^ (-p).toNat) :
    Ieee.double.nearest s m p = Ieee.double.word s ((a.log2 + 1022) * 4503599627370496 + sig a) := by
  have hl := log2_lt53 a ha h53
  have hm : m ≠ 0 := by
    rintro rfl
    rw [Nat.zero_mul] at hv
    exact Nat.mul_ne_zero ha (Nat.ne_of_gt (Nat.two_pow_pos _)) hv.symm
  have hlog : p + m.log2 = a.log2 := by
    have := congrArg Nat.log2 hv
    rw [log2_mul m _ hm, log2_mul a _ ha] at this
    omega
  have hS := sig_range a ha h53
  unfold Ieee.Format.nearest
  rw [if_neg hm]
  have hL : Ieee.double.leastPlace = -1074 := by decide
  have hF : Ieee.double.fractionBits = 52 := rfl
  have hB : Ieee.double.binade = 4503599627370496 := by decide
  have hI : Ieee.double.infRung = 9218868437227405312 := by decide
  have hlast : max (p + (m.log2 : Int) - (Ieee.double.fractionBits : Int)) (-1074) = (a.log2 : Int) - 52 := by rw [hF, hlog]; omega
  simp only [hL, hB, hI]
  simp only [hlast]
  have hk : Ieee.Toward.even.cut s (m <<< (p - ((a.log2 : Int) - 52)).toNat) ((a.log2 : Int) - 52 - p).toNat = sig a := by
    rw [Nat.shiftLeft_eq]
    by_cases hp : (a.log2 : Int) - 52 ≤ p
    · rw [show ((a.log2 : Int) - 52 - p).toNat = 0 from by omega, cut_none _ _ _ (.inl rfl)]
      unfold sig
      apply pow_cancel (k := (-p).toNat)
      calc m * 2 ^ (p - ((a.log2 : Int) - 52)).toNat * 2 ^ (-p).toNat = m * 2 ^ p.toNat * 2 ^ (52 - a.log2) := by
            rw [Nat.mul_assoc, ← Nat.pow_add, Nat.mul_assoc, ← Nat.pow_add]; congr 2; omega
        _ = a * 2 ^ (52 - a.log2) * 2 ^ (-p).toNat := by rw [hv, Nat.mul_assoc, Nat.mul_comm (2 ^ (-p).toNat), ← Nat.mul_assoc]
    · rw [show (p - ((a.log2 : Int) - 52)).toNat = 0 from by omega, Nat.pow_zero, Nat.mul_one]
      have hmk : m = sig a * 2 ^ ((a.log2 : Int) - 52 - p).toNat := by
        rw [show p.toNat = 0 from by omega, Nat.pow_zero, Nat.mul_one] at hv
        rw [hv]; unfold sig
        rw [Nat.mul_assoc, ← Nat.pow_add]; congr 2; omega
      rw [hmk, cut_exact _ _ _ _ (by omega) (.inl rfl)]
  rw [hk, show ((a.log2 : Int) - 52 - -1074).toNat = a.log2 + 1022 from by omega, Nat.min_eq_left (by omega)]
theorem read_word (s : Bool) (a : Nat) (ha : a ≠ 0) (h53 : a < 2 ^ 53) : Ieee.double.read (Ieee.double.word s ((a.log2 + 1022) * 4503599627370496 + sig a)) = .number s (sig a) ((a.log2 : Int) - 52) := by
  have hl := log2_lt53 a ha h53
  have hS := sig_range a ha h53
  have hL : Ieee.double.leastPlace = -1074 := by decide
  have hB : Ieee.double.binade = 4503599627370496 := by decide
  have hI : Ieee.double.infRung = 9218868437227405312 := by decide
  have hW : Ieee.double.signWeight = 9223372036854775808 := by decide
  obtain ⟨R, hR⟩ : ∃ R, (a.log2 + 1022) * 4503599627370496 + sig a = R := ⟨_, rfl⟩
  have hw1 : Ieee.double.word s R % 9223372036854775808 = R := by
    unfold Ieee.Format.word; rw [hW]; split <;> omega
  have hw2 : (Ieee.double.word s R / 9223372036854775808 % 2 == 1) = s := by
    unfold Ieee.Format.word; rw [hW]
    cases s with
    | true => simp; omega
    | false => simp; omega
  rw [hR]
  unfold Ieee.Format.read
  simp only [hW, hB, hI, hL, hw1, hw2]
  have h1 : ¬ R < 4503599627370496 := by omega
  have h2 : R < 9218868437227405312 := by omega
  obtain ⟨u, hu⟩ : ∃ u, sig a = 4503599627370496 + u := ⟨sig a - 4503599627370496, by omega⟩
  have hu2 : u < 4503599627370496 := by omega
  have e : R = 4503599627370496 * (a.log2 + 1023) + u := by rw [← hR, hu]; omega
  have h3 : 4503599627370496 + R % 4503599627370496 = sig a := by rw [e, Nat.mul_add_mod, Nat.mod_eq_of_lt hu2, hu]
  have h5 : R / 4503599627370496 = a.log2 + 1023 := by rw [e, Nat.mul_add_div (by decide), Nat.div_eq_of_lt hu2, Nat.add_zero]
  have h4 : (-1074 : Int) + ((R / 4503599627370496 - 1 : Nat) : Int) = (a.log2 : Int) - 52 := by rw [h5]; omega
  rw [if_neg h1, if_pos h2, h3, h4]
theorem write_isF {d : Ieee.Datum} {n : Int} (h : Val d n) (h53 : n.natAbs < 2 ^ 53) : IsF (Ieee.double.write d) n := by
  obtain ⟨s, m, p, rfl, hv, hs⟩ := h
  unfold IsF Ieee.Format.write
  by_cases hn : n = 0
  · subst hn
    have hm : m = 0 := by
      rw [Int.natAbs_zero, Nat.zero_mul] at hv
      rcases Nat.mul_eq_zero.1 hv with h | h
      · exact h
      · exact absurd h (Nat.ne_of_gt (Nat.two_pow_pos _))
    subst hm
    have : Ieee.double.nearest s 0 p = Ieee.double.word s 0 := by unfold Ieee.Format.nearest; rw [if_pos rfl]
    simp only [this]
    cases s
    · exact ⟨false, 0, -1074, by decide, by rw [Int.natAbs_zero, Nat.zero_mul, Nat.zero_mul], fun h => absurd rfl h⟩
    · exact ⟨true, 0, -1074, by decide, by rw [Int.natAbs_zero, Nat.zero_mul, Nat.zero_mul], fun h => absurd rfl h⟩
  · have ha : n.natAbs ≠ 0 := by omega
    have hl := log2_lt53 _ ha h53
    simp only [nearest_int s m p n.natAbs ha h53 hv, read_word s n.natAbs ha h53]
    refine ⟨s, _, _, rfl, ?_, hs⟩
    unfold sig
    rw [show ((n.natAbs.log2 : Int) - 52).toNat = 0 from by omega, Nat.pow_zero, Nat.mul_one]
    congr 2; omega
theorem signed_eq (s : Bool) (m k : Nat) : Ieee.signed s m k = (if s then -1 else 1) * ((m * 2 ^ k : Nat) : Int) := by
  unfold Ieee.signed
  rw [Nat.shiftLeft_eq]
  cases s <;> simp
theorem sgn_abs (n : Int) (s : Bool) (hs : n ≠ 0 → s = decide (n < 0)) : (if s then -1 else 1) * ((n.natAbs : Nat) : Int) = n := by
  by_cases hn : n = 0
  · subst hn; simp
  · rw [hs hn]
    by_cases h : n < 0
    · simp [h]; omega
    · simp [h]; omega
theorem scaled {n : Int} {s : Bool} {m : Nat} {i base : Int} (hv : m * 2 ^ i.toNat = n.natAbs * 2 ^ (-i).toNat) (hs : n ≠ 0 → s = decide (n < 0)) (hb : base ≤ i) :
    Ieee.signed s m (i - base).toNat * ((2 ^ base.toNat : Nat) : Int) = n * ((2 ^ (-base).toNat : Nat) : Int) := by
  rw [signed_eq]
  have h : m * 2 ^ (i - base).toNat * 2 ^ base.toNat = n.natAbs * 2 ^ (-base).toNat := by
    apply pow_cancel (k := (-i).toNat)
    calc m * 2 ^ (i - base).toNat * 2 ^ base.toNat * 2 ^ (-i).toNat = m * 2 ^ i.toNat * 2 ^ (-base).toNat := by
          rw [Nat.mul_assoc, ← Nat.pow_add, Nat.mul_assoc, ← Nat.pow_add, Nat.mul_assoc, ← Nat.pow_add]; congr 2; omega
      _ = n.natAbs * 2 ^ (-base).toNat * 2 ^ (-i).toNat := by rw [hv, Nat.mul_assoc, Nat.mul_comm (2 ^ (-i).toNat), ← Nat.mul_assoc]
  have h2 := congrArg (fun (x : Nat) => (x : Int)) h
  simp only [Int.natCast_mul] at h2 ⊢
  rw [Int.mul_assoc, h2, ← Int.mul_assoc, sgn_abs n s hs]
theorem sum_val {x y : Ieee.Datum} {n k : Int} (hx : Val x n) (hy : Val y k) : ∃ d, x.sum y = some d ∧ Val d (n + k) := by
  obtain ⟨s, m, i, rfl, hv, hs⟩ := hx
  obtain ⟨t, m', j, rfl, hv', hs'⟩ := hy
  refine ⟨_, rfl, _, _, _, rfl, ?_, ?_⟩
  · have e1 := scaled (base := min i j) hv hs (by omega)
    have e2 := scaled (base := min i j) hv' hs' (by omega)
    have e : (Ieee.signed s m (i - min i j).toNat + Ieee.signed t m' (j - min i j).toNat) * ((2 ^ (min i j).toNat : Nat) : Int) = (n + k) * ((2 ^ (-(min i j)).toNat : Nat) : Int) := by rw [Int.add_mul, Int.add_mul, e1, e2]
    have := congrArg Int.natAbs e
    rw [Int.natAbs_mul, Int.natAbs_mul, Int.natAbs_natCast, Int.natAbs_natCast] at this
    exact this
  · intro hn
    have e1 := scaled (base := min i j) hv hs (by omega)
    have e2 := scaled (base := min i j) hv' hs' (by omega)
    have e : (Ieee.signed s m (i - min i j).toNat + Ieee.signed t m' (j - min i j).toNat) * ((2 ^ (min i j).toNat : Nat) : Int) = (n + k) * ((2 ^ (-(min i j)).toNat : Nat) : Int) := by rw [Int.add_mul, Int.add_mul, e1, e2]
    generalize Ieee.signed s m (i - min i j).toNat + Ieee.signed t m' (j - min i j).toNat = T at e ⊢
    have p1 : (0 : Int) < ((2 ^ (min i j).toNat : Nat) : Int) := by have := Nat.two_pow_pos (min i j).toNat; omega
    have p2 : (0 : Int) < ((2 ^ (-(min i j)).toNat : Nat) : Int) := by have := Nat.two_pow_pos (-(min i j)).toNat; omega
    have hT : T ≠ 0 := by
      rintro rfl
      rw [Int.zero_mul] at e
      rcases Int.mul_eq_zero.1 e.symm with h | h
      · exact hn h
      · omega
    rw [if_neg hT]
    have : T < 0 ↔ n + k < 0 := by
      constructor
      · intro h
        have h1 := Int.mul_neg_of_neg_of_pos h p1
        rw [e] at h1
        exact Decidable.byContradiction fun h2 => by have := Int.mul_nonneg (show 0 ≤ n + k by omega) (Int.le_of_lt p2); omega
      · intro h
        have h1 := Int.mul_neg_of_neg_of_pos h p2
        rw [← e] at h1
        exact Decidable.byContradiction fun h2 => by have := Int.mul_nonneg (show 0 ≤ T by omega) (Int.le_of_lt p1); omega
    simp [this]
theorem product_val {x y : Ieee.Datum} {n k : Int} (hx : Val x n) (hy : Val y k) : ∃ d, x.product y = some d ∧ Val d (n * k) := by
  obtain ⟨s, m, i, rfl, hv, hs⟩ := hx
  obtain ⟨t, m', j, rfl, hv', hs'⟩ := hy
  refine ⟨_, rfl, _, _, _, rfl, ?_, ?_⟩
  · rw [Int.natAbs_mul]
    apply pow_cancel (k := (-i).toNat + (-j).toNat)
    calc m * m' * 2 ^ (i + j).toNat * 2 ^ ((-i).toNat + (-j).toNat) = (m * 2 ^ i.toNat) * (m' * 2 ^ j.toNat) * 2 ^ (-(i + j)).toNat := by
          rw [Nat.mul_assoc (m * m'), ← Nat.pow_add, show m * 2 ^ i.toNat * (m' * 2 ^ j.toNat) * 2 ^ (-(i + j)).toNat = m * m' * (2 ^ i.toNat * 2 ^ j.toNat * 2 ^ (-(i + j)).toNat) from by simp only [Nat.mul_assoc, Nat.mul_left_comm, Nat.mul_comm], ← Nat.pow_add, ← Nat.pow_add]
          congr 2; omega
      _ = n.natAbs * k.natAbs * 2 ^ (-(i + j)).toNat * 2 ^ ((-i).toNat + (-j).toNat) := by
          rw [hv, hv', Nat.pow_add]; simp only [Nat.mul_assoc, Nat.mul_left_comm, Nat.mul_comm]
  · intro hn
    have h1 : n ≠ 0 := by rintro rfl; simp at hn
    have h2 : k ≠ 0 := by rintro rfl; simp at hn
    rw [hs h1, hs' h2]
    have hn' : 0 < n ∨ n < 0 := by omega
    have hk' : 0 < k ∨ k < 0 := by omega
    have sg : ∀ x : Int, 0 < x → decide (x < 0) = false := fun x h => decide_eq_false (by omega)
    have sl : ∀ x : Int, x < 0 → decide (x < 0) = true := fun x h => decide_eq_true h
    rcases hn' with a | a <;> rcases hk' with b | b
    · rw [sg _ a, sg _ b, sg _ (Int.mul_pos a b)]; rfl
    · rw [sg _ a, sl _ b, sl _ (Int.mul_neg_of_pos_of_neg a b)]; rfl
    · rw [sl _ a, sg _ b, sl _ (Int.mul_neg_of_neg_of_pos a b)]; rfl
    · rw [sl _ a, sl _ b, sg _ (Int.mul_pos_of_neg_of_neg a b)]; rfl
theorem opp_val {x : Ieee.Datum} {n : Int} (hx : Val x n) : Val x.opposite (-n) := by
  obtain ⟨s, m, i, rfl, hv, hs⟩ := hx
  refine ⟨!s, m, i, rfl, by rw [Int.natAbs_neg]; exact hv, fun h => ?_⟩
  have hn : n ≠ 0 := by omega
  rw [hs hn]
  by_cases h : n < 0
  · simp [h]; omega
  · simp [h]; omega
theorem isF_add {a b : Nat} {n k : Int} (hx : IsF a n) (hy : IsF b k) (h : (n + k).natAbs < 2 ^ 53) : ∃ c, floatBits .add .f64 a b = some c ∧ IsF c (n + k) := by
  obtain ⟨d, hd, hv⟩ := sum_val hx hy
  exact ⟨_, by show Option.map Ieee.double.write ((Ieee.double.read a).sum (Ieee.double.read b)) = _; rw [hd]; rfl, write_isF hv h⟩
theorem isF_sub {a b : Nat} {n k : Int} (hx : IsF a n) (hy : IsF b k) (h : (n - k).natAbs < 2 ^ 53) : ∃ c, floatBits .sub .f64 a b = some c ∧ IsF c (n - k) := by
  obtain ⟨d, hd, hv⟩ := sum_val hx (opp_val hy)
  rw [← Int.sub_eq_add_neg] at hv
  exact ⟨_, by show Option.map Ieee.double.write ((Ieee.double.read a).sum (Ieee.double.read b).opposite) = _; rw [hd]; rfl, write_isF hv h⟩
theorem isF_mul {a b : Nat} {n k : Int} (hx : IsF a n) (hy : IsF b k) (h : (n * k).natAbs < 2 ^ 53) : ∃ c, floatBits .mul .f64 a b = some c ∧ IsF c (n * k) := by
  obtain ⟨d, hd, hv⟩ := product_val hx hy
  exact ⟨_, by show Option.map Ieee.double.write ((Ieee.double.read a).product (Ieee.double.read b)) = _; rw [hd]; rfl, write_isF hv h⟩
theorem isF_of (n : Int) (h : n.natAbs < 2 ^ 53) : IsF (floatOfInt .f64 n) n := by
  refine write_isF (d := .number (n < 0) n.natAbs 0) ⟨_, _, _, rfl, by simp, fun _ => rfl⟩ h
theorem isF_int {b : Nat} {n : Int} (h : IsF b n) (h0 : -9223372036854775808 ≤ n) (h1 : n ≤ 9223372036854775807) : floatToIntVal .f64 b .i64 = some n := by
  obtain ⟨s, m, p, hd, hv, hs⟩ := h
  have hz : (FloatKind.f64.decode b).toInt .zero = some n := by
    show (Ieee.double.read b).toInt .zero = some n
    rw [hd]
    unfold Ieee.Datum.toInt Ieee.Datum.integral
    simp only []
    rw [Nat.shiftLeft_eq, hv]
    have hc : Ieee.Toward.zero.cut s (n.natAbs * 2 ^ (-p).toNat) (-p).toNat = n.natAbs := by
      by_cases hn : n.natAbs = 0
      · rw [hn, Nat.zero_mul]; unfold Ieee.Toward.cut; simp
      · exact cut_exact _ _ _ _ hn (.inr rfl)
    rw [hc, signed_eq, Nat.pow_zero, Nat.mul_one, sgn_abs n s hs]
  unfold floatToIntVal
  rw [hz]
  simp only []
  rw [if_pos ⟨by show (-9223372036854775808 : Int) ≤ n; exact h0, by show n ≤ (9223372036854775807 : Int); exact h1⟩]
end Go.Proofs.Ytbkcdfiokjhcjaa.FX
