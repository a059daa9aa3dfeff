/- Several texts of this proof in one: what the law's functions come to, and the lemmas (some as the kit's print.sh printed them, what is not used struck). -/
import Derived.Laws.ComplexArith
import Derived.Test.YtpoghhcpoimepaaProg
import Derived.Below
import Derived.Deep.Draws
import Derived.Deep.AppendLies
import Derived.Maps.AppendAt
import Derived.OwnWalk
import Derived.Laws.BytesArg
import Derived.Laws.MakeOwn
import Derived.Laws.OwnMore
import Derived.Deep.OwnRows
import Derived.Tactics
import Derived.Lib.ConvBytes
import Derived.Laws.Slices
import Derived.WalkKit
import Derived.KernelRfl
import Derived.RowKit3
import Derived.Deep.LoopGhost
import Derived.Deep.QuietTactic
import Derived.BigQuiet
import Derived.WideLaws
import Derived.Deep.DeepCutAuto
import Derived.Deep.CutBlock
import Derived.Deep.RegionHeld3
import Derived.Laws.Rows
import Derived.Lib.AppendStr
import Derived.ArgAppend
import Derived.Laws.IdiomCopy
import Derived.OrdersHeld
import Derived.Laws.BitsLemmas
import Derived.RowKit
import Derived.Test.YtpoghhcpoimepaaM1
import Derived.ScopeJumps
import Derived.RegionTactic
import Derived.Shelf.Abstract
section
/- Whole numbers as floats: sums, differences and products of small ones are exact. -/
namespace Go.Proofs.Ytpoghhcpoimepaa.FX
open Go
set_option linter.unusedVariables false
set_option linter.unusedSimpArgs false
/-- A datum that is the whole number n. -/
def Val (d : Ieee.Datum) (n : Int) : Prop := ∃ s m p, d = .number s m p ∧ m * 2 ^ p.toNat = n.natAbs * 2 ^ (-p).toNat ∧ (n ≠ 0 → s = decide (n < 0))
/-- Bits that are the whole number n. -/
def IsF (b : Nat) (n : Int) : Prop := Val (Ieee.double.read b) n
theorem pow_cancel {a b k : Nat} (h : a * 2 ^ k = b * 2 ^ k) : a = b := Nat.eq_of_mul_eq_mul_right (Nat.two_pow_pos k) h
theorem log2_mul (a k : Nat) (ha : a ≠ 0) : (a * 2 ^ k).log2 = a.log2 + k := by
  have h1 := Nat.log2_self_le ha
  have h2 := Nat.lt_log2_self (n := a)
  have hne : a * 2 ^ k ≠ 0 := Nat.mul_ne_zero ha (Nat.ne_of_gt (Nat.two_pow_pos k))
  rw [Nat.log2_eq_iff hne]
  constructor
  · rw [Nat.pow_add]; exact Nat.mul_le_mul_right _ h1
  · rw [show a.log2 + k + 1 = (a.log2 + 1) + k from by omega, Nat.pow_add]; exact Nat.mul_lt_mul_of_pos_right h2 (Nat.two_pow_pos k)
theorem log2_lt53 (a : Nat) (ha : a ≠ 0) (h : a < 2 ^ 53) : a.log2 < 53 := (Nat.log2_lt ha).2 h
/-- The kept digits of a whole number. -/
def sig (a : Nat) : Nat := a * 2 ^ (52 - a.log2)
theorem sig_range (a : Nat) (ha : a ≠ 0) (h : a < 2 ^ 53) : 4503599627370496 ≤ sig a ∧ sig a < 9007199254740992 := by
  have hl := log2_lt53 a ha h
  have h1 := Nat.log2_self_le ha
  have h2 := Nat.lt_log2_self (n := a)
  unfold sig
  constructor
  · have : 2 ^ a.log2 * 2 ^ (52 - a.log2) ≤ a * 2 ^ (52 - a.log2) := Nat.mul_le_mul_right _ h1
    rw [← Nat.pow_add, show a.log2 + (52 - a.log2) = 52 from by omega] at this
    exact this
  · have : a * 2 ^ (52 - a.log2) < 2 ^ (a.log2 + 1) * 2 ^ (52 - a.log2) := Nat.mul_lt_mul_of_pos_right h2 (Nat.two_pow_pos _)
    rw [← Nat.pow_add, show a.log2 + 1 + (52 - a.log2) = 53 from by omega] at this
    exact this
theorem cut_none (way : Ieee.Toward) (s : Bool) (n : Nat) (hw : way = .even ∨ way = .zero) : way.cut s n 0 = n := by
  unfold Ieee.Toward.cut
  rcases hw with rfl | rfl <;> simp [Nat.mod_one]
theorem cut_exact (way : Ieee.Toward) (s : Bool) (K drop : Nat) (hK : K ≠ 0) (hw : way = .even ∨ way = .zero) : way.cut s (K * 2 ^ drop) drop = K := by
  have hl : drop ≤ (K * 2 ^ drop).log2 + 2 := by rw [log2_mul K drop hK]; omega
  unfold Ieee.Toward.cut
  have hg : (1 <<< min drop ((K * 2 ^ drop).log2 + 2)) = 2 ^ drop := by rw [Nat.min_eq_left hl, Nat.one_shiftLeft]
  have hp := Nat.two_pow_pos drop
  have hr : K * 2 ^ drop % 2 ^ drop = 0 := Nat.mul_mod_left _ _
  simp only [hg, hr, Nat.mul_div_cancel _ hp]
  rcases hw with rfl | rfl
  · have : ¬ (2 ^ drop = 0) := by omega
    simp [this]
  · simp
theorem nearest_int (s : Bool) (m : Nat) (p : Int) (a : Nat) (ha : a ≠ 0) (h53 : a < 2 ^ 53) (hv : m * 2 ^ p.toNat = a * 2 ^ (-p).toNat) :
    Ieee.double.nearest s m p = Ieee.double.word s ((a.log2 + 1022) * 4503599627370496 + sig a) := by
  have hl := log2_lt53 a ha h53
  have hm : m ≠ 0 := by
    rintro rfl
    rw [Nat.zero_mul] at hv
    exact Nat.mul_ne_zero ha (Nat.ne_of_gt (Nat.two_pow_pos _)) hv.symm
  have hlog : p + m.log2 = a.log2 := by
    have := congrArg Nat.log2 hv
    rw [log2_mul m _ hm, log2_mul a _ ha] at this
    omega
  have hS := sig_range a ha h53
  unfold Ieee.Format.nearest
  rw [if_neg hm]
  have hL : Ieee.double.leastPlace = -1074 := by decide
  have hF : Ieee.double.fractionBits = 52 := rfl
  have hB : Ieee.double.binade = 4503599627370496 := by decide
  have hI : Ieee.double.infRung = 9218868437227405312 := by decide
  have hlast : max (p + (m.log2 : Int) - (Ieee.double.fractionBits : Int)) (-1074) = (a.log2 : Int) - 52 := by rw [hF, hlog]; omega
  simp only [hL, hB, hI]
  simp only [hlast]
  have hk : Ieee.Toward.even.cut s (m <<< (p - ((a.log2 : Int) - 52)).toNat) ((a.log2 : Int) - 52 - p).toNat = sig a := by
    rw [Nat.shiftLeft_eq]
    by_cases hp : (a.log2 : Int) - 52 ≤ p
    · rw [show ((a.log2 : Int) - 52 - p).toNat = 0 from by omega, cut_none _ _ _ (.inl rfl)]
      unfold sig
      apply pow_cancel (k := (-p).toNat)
      calc m * 2 ^ (p - ((a.log2 : Int) - 52)).toNat * 2 ^ (-p).toNat = m * 2 ^ p.toNat * 2 ^ (52 - a.log2) := by
            rw [Nat.mul_assoc, ← Nat.pow_add, Nat.mul_assoc, ← Nat.pow_add]; congr 2; omega
        _ = a * 2 ^ (52 - a.log2) * 2 ^ (-p).toNat := by rw [hv, Nat.mul_assoc, Nat.mul_comm (2 ^ (-p).toNat), ← Nat.mul_assoc]
    · rw [show (p - ((a.log2 : Int) - 52)).toNat = 0 from by omega, Nat.pow_zero, Nat.mul_one]
      have hmk : m = sig a * 2 ^ ((a.log2 : Int) - 52 - p).toNat := by
        rw [show p.toNat = 0 from by omega, Nat.pow_zero, Nat.mul_one] at hv
        rw [hv]; unfold sig
        rw [Nat.mul_assoc, ← Nat.pow_add]; congr 2; omega
      rw [hmk, cut_exact _ _ _ _ (by omega) (.inl rfl)]
  rw [hk, show ((a.log2 : Int) - 52 - -1074).toNat = a.log2 + 1022 from by omega, Nat.min_eq_left (by omega)]
theorem read_word (s : Bool) (a : Nat) (ha : a ≠ 0) (h53 : a < 2 ^ 53) : Ieee.double.read (Ieee.double.word s ((a.log2 + 1022) * 4503599627370496 + sig a)) = .number s (sig a) ((a.log2 : Int) - 52) := by
  have hl := log2_lt53 a ha h53
  have hS := sig_range a ha h53
  have hL : Ieee.double.leastPlace = -1074 := by decide
  have hB : Ieee.double.binade = 4503599627370496 := by decide
  have hI : Ieee.double.infRung = 9218868437227405312 := by decide
  have hW : Ieee.double.signWeight = 9223372036854775808 := by decide
  obtain ⟨R, hR⟩ : ∃ R, (a.log2 + 1022) * 4503599627370496 + sig a = R := ⟨_, rfl⟩
  have hw1 : Ieee.double.word s R % 9223372036854775808 = R := by
    unfold Ieee.Format.word; rw [hW]; split <;> omega
  have hw2 : (Ieee.double.word s R / 9223372036854775808 % 2 == 1) = s := by
    unfold Ieee.Format.word; rw [hW]
    cases s with
    | true => simp; omega
    | false => simp; omega
  rw [hR]
  unfold Ieee.Format.read
  simp only [hW, hB, hI, hL, hw1, hw2]
  have h1 : ¬ R < 4503599627370496 := by omega
  have h2 : R < 9218868437227405312 := by omega
  obtain ⟨u, hu⟩ : ∃ u, sig a = 4503599627370496 + u := ⟨sig a - 4503599627370496, by omega⟩
  have hu2 : u < 4503599627370496 := by omega
  have e : R = 4503599627370496 * (a.log2 + 1023) + u := by rw [← hR, hu]; omega
  have h3 : 4503599627370496 + R % 4503599627370496 = sig a := by rw [e, Nat.mul_add_mod, Nat.mod_eq_of_lt hu2, hu]
  have h5 : R / 4503599627370496 = a.log2 + 1023 := by rw [e, Nat.mul_add_div (by decide), Nat.div_eq_of_lt hu2, Nat.add_zero]
  have h4 : (-1074 : Int) + ((R / 4503599627370496 - 1 : Nat) : Int) = (a.log2 : Int) - 52 := by rw [h5]; omega
  rw [if_neg h1, if_pos h2, h3, h4]
theorem write_isF {d : Ieee.Datum} {n : Int} (h : Val d n) (h53 : n.natAbs < 2 ^ 53) : IsF (Ieee.double.write d) n := by
  obtain ⟨s, m, p, rfl, hv, hs⟩ := h
  unfold IsF Ieee.Format.write
  by_cases hn : n = 0
  · subst hn
    have hm : m = 0 := by
      rw [Int.natAbs_zero, Nat.zero_mul] at hv
      rcases Nat.mul_eq_zero.1 hv with h | h
      · exact h
      · exact absurd h (Nat.ne_of_gt (Nat.two_pow_pos _))
    subst hm
    have : Ieee.double.nearest s 0 p = Ieee.double.word s 0 := by unfold Ieee.Format.nearest; rw [if_pos rfl]
    simp only [this]
    cases s
    · exact ⟨false, 0, -1074, by decide, by rw [Int.natAbs_zero, Nat.zero_mul, Nat.zero_mul], fun h => absurd rfl h⟩
    · exact ⟨true, 0, -1074, by decide, by rw [Int.natAbs_zero, Nat.zero_mul, Nat.zero_mul], fun h => absurd rfl h⟩
  · have ha : n.natAbs ≠ 0 := by omega
    have hl := log2_lt53 _ ha h53
    simp only [nearest_int s m p n.natAbs ha h53 hv, read_word s n.natAbs ha h53]
    refine ⟨s, _, _, rfl, ?_, hs⟩
    unfold sig
    rw [show ((n.natAbs.log2 : Int) - 52).toNat = 0 from by omega, Nat.pow_zero, Nat.mul_one]
    congr 2; omega
theorem signed_eq (s : Bool) (m k : Nat) : Ieee.signed s m k = (if s then -1 else 1) * ((m * 2 ^ k : Nat) : Int) := by
  unfold Ieee.signed
  rw [Nat.shiftLeft_eq]
  cases s <;> simp
theorem sgn_abs (n : Int) (s : Bool) (hs : n ≠ 0 → s = decide (n < 0)) : (if s then -1 else 1) * ((n.natAbs : Nat) : Int) = n := by
  by_cases hn : n = 0
  · subst hn; simp
  · rw [hs hn]
    by_cases h : n < 0
    · simp [h]; omega
    · simp [h]; omega
theorem scaled {n : Int} {s : Bool} {m : Nat} {i base : Int} (hv : m * 2 ^ i.toNat = n.natAbs * 2 ^ (-i).toNat) (hs : n ≠ 0 → s = decide (n < 0)) (hb : base ≤ i) :
    Ieee.signed s m (i - base).toNat * ((2 ^ base.toNat : Nat) : Int) = n * ((2 ^ (-base).toNat : Nat) : Int) := by
  rw [signed_eq]
  have h : m * 2 ^ (i - base).toNat * 2 ^ base.toNat = n.natAbs * 2 ^ (-base).toNat := by
    apply pow_cancel (k := (-i).toNat)
    calc m * 2 ^ (i - base).toNat * 2 ^ base.toNat * 2 ^ (-i).toNat = m * 2 ^ i.toNat * 2 ^ (-base).toNat := by
          rw [Nat.mul_assoc, ← Nat.pow_add, Nat.mul_assoc, ← Nat.pow_add, Nat.mul_assoc, ← Nat.pow_add]; congr 2; omega
      _ = n.natAbs * 2 ^ (-base).toNat * 2 ^ (-i).toNat := by rw [hv, Nat.mul_assoc, Nat.mul_comm (2 ^ (-i).toNat), ← Nat.mul_assoc]
  have h2 := congrArg (fun (x : Nat) => (x : Int)) h
  simp only [Int.natCast_mul] at h2 ⊢
  rw [Int.mul_assoc, h2, ← Int.mul_assoc, sgn_abs n s hs]
theorem sum_val {x y : Ieee.Datum} {n k : Int} (hx : Val x n) (hy : Val y k) : ∃ d, x.sum y = some d ∧ Val d (n + k) := by
  obtain ⟨s, m, i, rfl, hv, hs⟩ := hx
  obtain ⟨t, m', j, rfl, hv', hs'⟩ := hy
  refine ⟨_, rfl, _, _, _, rfl, ?_, ?_⟩
  · have e1 := scaled (base := min i j) hv hs (by omega)
    have e2 := scaled (base := min i j) hv' hs' (by omega)
    have e : (Ieee.signed s m (i - min i j).toNat + Ieee.signed t m' (j - min i j).toNat) * ((2 ^ (min i j).toNat : Nat) : Int) = (n + k) * ((2 ^ (-(min i j)).toNat : Nat) : Int) := by rw [Int.add_mul, Int.add_mul, e1, e2]
    have := congrArg Int.natAbs e
    rw [Int.natAbs_mul, Int.natAbs_mul, Int.natAbs_natCast, Int.natAbs_natCast] at this
    exact this
  · intro hn
    have e1 := scaled (base := min i j) hv hs (by omega)
    have e2 := scaled (base := min i j) hv' hs' (by omega)
    have e : (Ieee.signed s m (i - min i j).toNat + Ieee.signed t m' (j - min i j).toNat) * ((2 ^ (min i j).toNat : Nat) : Int) = (n + k) * ((2 ^ (-(min i j)).toNat : Nat) : Int) := by rw [Int.add_mul, Int.add_mul, e1, e2]
    generalize Ieee.signed s m (i - min i j).toNat + Ieee.signed t m' (j - min i j).toNat = T at e ⊢
    have p1 : (0 : Int) < ((2 ^ (min i j).toNat : Nat) : Int) := by have := Nat.two_pow_pos (min i j).toNat; omega
    have p2 : (0 : Int) < ((2 ^ (-(min i j)).toNat : Nat) : Int) := by have := Nat.two_pow_pos (-(min i j)).toNat; omega
    have hT : T ≠ 0 := by
      rintro rfl
      rw [Int.zero_mul] at e
      rcases Int.mul_eq_zero.1 e.symm with h | h
      · exact hn h
      · omega
    rw [if_neg hT]
    have : T < 0 ↔ n + k < 0 := by
      constructor
      · intro h
        have h1 := Int.mul_neg_of_neg_of_pos h p1
        rw [e] at h1
        exact Decidable.byContradiction fun h2 => by have := Int.mul_nonneg (show 0 ≤ n + k by omega) (Int.le_of_lt p2); omega
      · intro h
        have h1 := Int.mul_neg_of_neg_of_pos h p2
        rw [← e] at h1
        exact Decidable.byContradiction fun h2 => by have := Int.mul_nonneg (show 0 ≤ T by omega) (Int.le_of_lt p1); omega
    simp [this]
theorem product_val {x y : Ieee.Datum} {n k : Int} (hx : Val x n) (hy : Val y k) : ∃ d, x.product y = some d ∧ Val d (n * k) := by
  obtain ⟨s, m, i, rfl, hv, hs⟩ := hx
  obtain ⟨t, m', j, rfl, hv', hs'⟩ := hy
  refine ⟨_, rfl, _, _, _, rfl, ?_, ?_⟩
  · rw [Int.natAbs_mul]
    apply pow_cancel (k := (-i).toNat + (-j).toNat)
    calc m * m' * 2 ^ (i + j).toNat * 2 ^ ((-i).toNat + (-j).toNat) = (m * 2 ^ i.toNat) * (m' * 2 ^ j.toNat) * 2 ^ (-(i + j)).toNat := by
          rw [Nat.mul_assoc (m * m'), ← Nat.pow_add, show m * 2 ^ i.toNat * (m' * 2 ^ j.toNat) * 2 ^ (-(i + j)).toNat = m * m' * (2 ^ i.toNat * 2 ^ j.toNat * 2 ^ (-(i + j)).toNat) from by simp only [Nat.mul_assoc, Nat.mul_left_comm, Nat.mul_comm], ← Nat.pow_add, ← Nat.pow_add]
          congr 2; omega
      _ = n.natAbs * k.natAbs * 2 ^ (-(i + j)).toNat * 2 ^ ((-i).toNat + (-j).toNat) := by
          rw [hv, hv', Nat.pow_add]; simp only [Nat.mul_assoc, Nat.mul_left_comm, Nat.mul_comm]
  · intro hn
    have h1 : n ≠ 0 := by rintro rfl; simp at hn
    have h2 : k ≠ 0 := by rintro rfl; simp at hn
    rw [hs h1, hs' h2]
    have hn' : 0 < n ∨ n < 0 := by omega
    have hk' : 0 < k ∨ k < 0 := by omega
    have sg : ∀ x : Int, 0 < x → decide (x < 0) = false := fun x h => decide_eq_false (by omega)
    have sl : ∀ x : Int, x < 0 → decide (x < 0) = true := fun x h => decide_eq_true h
    rcases hn' with a | a <;> rcases hk' with b | b
    · rw [sg _ a, sg _ b, sg _ (Int.mul_pos a b)]; rfl
    · rw [sg _ a, sl _ b, sl _ (Int.mul_neg_of_pos_of_neg a b)]; rfl
    · rw [sl _ a, sg _ b, sl _ (Int.mul_neg_of_neg_of_pos a b)]; rfl
    · rw [sl _ a, sl _ b, sg _ (Int.mul_pos_of_neg_of_neg a b)]; rfl
theorem opp_val {x : Ieee.Datum} {n : Int} (hx : Val x n) : Val x.opposite (-n) := by
  obtain ⟨s, m, i, rfl, hv, hs⟩ := hx
  refine ⟨!s, m, i, rfl, by rw [Int.natAbs_neg]; exact hv, fun h => ?_⟩
  have hn : n ≠ 0 := by omega
  rw [hs hn]
  by_cases h : n < 0
  · simp [h]; omega
  · simp [h]; omega
theorem isF_add {a b : Nat} {n k : Int} (hx : IsF a n) (hy : IsF b k) (h : (n + k).natAbs < 2 ^ 53) : ∃ c, floatBits .add .f64 a b = some c ∧ IsF c (n + k) := by
  obtain ⟨d, hd, hv⟩ := sum_val hx hy
  exact ⟨_, by show Option.map Ieee.double.write ((Ieee.double.read a).sum (Ieee.double.read b)) = _; rw [hd]; rfl, write_isF hv h⟩
theorem isF_sub {a b : Nat} {n k : Int} (hx : IsF a n) (hy : IsF b k) (h : (n - k).natAbs < 2 ^ 53) : ∃ c, floatBits .sub .f64 a b = some c ∧ IsF c (n - k) := by
  obtain ⟨d, hd, hv⟩ := sum_val hx (opp_val hy)
  rw [← Int.sub_eq_add_neg] at hv
  exact ⟨_, by show Option.map Ieee.double.write ((Ieee.double.read a).sum (Ieee.double.read b).opposite) = _; rw [hd]; rfl, write_isF hv h⟩
theorem isF_mul {a b : Nat} {n k : Int} (hx : IsF a n) (hy : IsF b k) (h : (n * k).natAbs < 2 ^ 53) : ∃ c, floatBits .mul .f64 a b = some c ∧ IsF c (n * k) := by
  obtain ⟨d, hd, hv⟩ := product_val hx hy
  exact ⟨_, by show Option.map Ieee.double.write ((Ieee.double.read a).product (Ieee.double.read b)) = _; rw [hd]; rfl, write_isF hv h⟩
theorem isF_of (n : Int) (h : n.natAbs < 2 ^ 53) : IsF (floatOfInt .f64 n) n := by
  refine write_isF (d := .number (n < 0) n.natAbs 0) ⟨_, _, _, rfl, by simp, fun _ => rfl⟩ h
theorem isF_int {b : Nat} {n : Int} (h : IsF b n) (h0 : -9223372036854775808 ≤ n) (h1 : n ≤ 9223372036854775807) : floatToIntVal .f64 b .i64 = some n := by
  obtain ⟨s, m, p, hd, hv, hs⟩ := h
  have hz : (FloatKind.f64.decode b).toInt .zero = some n := by
    show (Ieee.double.read b).toInt .zero = some n
    rw [hd]
    unfold Ieee.Datum.toInt Ieee.Datum.integral
    simp only []
    rw [Nat.shiftLeft_eq, hv]
    have hc : Ieee.Toward.zero.cut s (n.natAbs * 2 ^ (-p).toNat) (-p).toNat = n.natAbs := by
      by_cases hn : n.natAbs = 0
      · rw [hn, Nat.zero_mul]; unfold Ieee.Toward.cut; simp
      · exact cut_exact _ _ _ _ hn (.inr rfl)
    rw [hc, signed_eq, Nat.pow_zero, Nat.mul_one, sgn_abs n s hs]
  unfold floatToIntVal
  rw [hz]
  simp only []
  rw [if_pos ⟨by show (-9223372036854775808 : Int) ≤ n; exact h0, by show n ≤ (9223372036854775807 : Int); exact h1⟩]
end Go.Proofs.Ytpoghhcpoimepaa.FX
end
section
-- printed by the session's own call of print.py. Not trusted: Lean checks it.
namespace Go.Proofs.Ytpoghhcpoimepaa.P
open Go.RowKit Go.Proofs.YtpoghhcpoimepaaW.PrintWords Go.Proofs.YtpoghhcpoimepaaW.PrintLast Go.Proofs.YtpoghhcpoimepaaW.PrintMore
attribute [local go_sem] max2_int min2_int max_two min_two max_three min_three max_four min_four
set_option linter.unusedVariables false
set_option linter.unusedSimpArgs false
def errW : Option Int → Value
  | none => .nilIface
  | some c => .iface 0 (.int .i64 c)
theorem errW_none : errW none = .nilIface := rfl
theorem errW_some (c : Int) : errW (some c) = .iface 0 (.int .i64 c) := rfl
theorem info24 : (Try.prog.info? 24).map (fun i => (i.zero, i.size, i.bytes)) = some (some (.agg #[(.int .i64 0), (.int .i64 0)]), 2, 16) := by kernel_rfl
-- the values' own types
/-! #### struct type 24 -/
structure S24 where
  f0 : Int
  f1 : Int
def z24 : S24 := ⟨(0 : Int), (0 : Int)⟩
def k24 : Kd S24 := Kd.iso (Kd.pair (Kd.int .i64) (Kd.int .i64)) (fun x : S24 => (x.f0, x.f1))
theorem k24_open {w : World} {x : S24} {cs : List Value} (h : k24.K w x cs) : cs = [.int .i64 x.f0, .int .i64 x.f1] := by
  obtain ⟨_, _, rfl, rfl, rfl⟩ := h
  exact rfl
theorem k24_mkM (w : World) (base : Nat) (ok : Nat → Prop) (x : S24)  : k24.M w base ok x [.int .i64 x.f0, .int .i64 x.f1] := ⟨[.int .i64 x.f0], [.int .i64 x.f1], rfl, rfl, rfl⟩
def rd_T24 (xs : List S24) (i : Int) : S24 := xs.getD i.toNat z24
theorem at_T24 {w : World} {A : Option Addr} {n : Nat} {xs : List S24} (h : Kd.C k24 w A n xs) (i : Int) (h0 : 0 ≤ i) (h1 : i < n) : ∃ ad , A = some ad ∧ w.cell? (ad.add (i.toNat * 2)) = some (.int .i64 (rd_T24 xs i).f0) ∧ w.cell? ⟨(ad.add (i.toNat * 2)).block, (ad.add (i.toNat * 2)).off + 1, none⟩ = some (.int .i64 (rd_T24 xs i).f1) := by
  obtain ⟨ad, c, e, _, hK, hc0⟩ := Kd.C_get h z24 i h0 h1
  have hc : ∀ j u, c[j]? = some u → w.cell? (ad.add (i.toNat * 2 + j)) = some u := hc0
  obtain rfl := k24_open hK
  exact ⟨ad, e, hc 0 _ rfl, by rw [← add_field _ _ 1 (by omega)]; exact hc 1 _ rfl⟩
/-! #### struct type 34 -/
structure S34 where
  f0 : Int
  f1 : S24
/-! #### struct type 56 -/
structure S56 where
  f0 : Int
  f1 : Int
/-! #### struct type 87 -/
structure S87 where
  f0 : Bool
  f1 : Int
/-! #### struct type 95 -/
structure S95 where
  f0 : Int
  f1 : Int
end Go.Proofs.Ytpoghhcpoimepaa.P
end
section
/- Small facts of blocks and of worlds that lie below one another. -/
namespace Go.Proofs.Ytpoghhcpoimepaa.P
open Go.RowKit Go.Proofs.YtpoghhcpoimepaaW.PrintWords Go.Proofs.YtpoghhcpoimepaaW.PrintLast Go.Proofs.YtpoghhcpoimepaaW.PrintMore
set_option linter.unusedVariables false
set_option linter.unusedSimpArgs false
theorem blk_keep {w w' : World} {g : Nat} {o : Obj} (h : w.heap[g]? = some o) (hb : Below w.heap.size w w') : w'.heap[g]? = some o := (hb.block g (Array.getElem?_eq_some_iff.1 h).1).trans h
theorem alloc_size (w : World) (o : Obj) : (w.alloc o).heap.size = w.heap.size + 1 := by simp
theorem far1 {W : World} {a b : Nat} {o : Obj} (h : W.heap[b]? = some o) (hne : b ≠ a) (i : Nat) (v : Value) : (W.setCell ⟨a, i, none⟩ v).heap[b]? = some o := by
  rw [Below.heap_setCell _ _ _ b hne]; exact h
theorem far1p {W : World} {n a b : Nat} {o : Obj} (h : W.heap[b]? = some o) (hp : n < a) (hne : b ≠ a) (i : Nat) (v : Value) : (W.setCell ⟨a, i, none⟩ v).heap[b]? = some o := far1 h hne i v
theorem lt_blk {W : World} {g : Nat} {o : Obj} (h : W.heap[g]? = some o) : g < W.heap.size := (Array.getElem?_eq_some_iff.1 h).1
end Go.Proofs.Ytpoghhcpoimepaa.P
end
section
namespace Go.Proofs.Ytpoghhcpoimepaa.H
/-- The code behind label l, run inside its scope, comes to Q. -/
def ScopeGo (P : Program) (c rest : Code) (Q : Exit → Act → World → Prop) (a : Act) (w : World) : Prop :=
  ∀ b k cs, ∃ e a' w', Q e a' w' ∧ Arrives P (lone (b.at a (.code rest :: .inScope c :: k)) cs w) b k cs e a' w'
section
variable {P : Program} {a : Act} {w : World} {Q : Exit → Act → World → Prop}
theorem wp_scope_enter {c rest : Code} (l : Nat) (hf : findLabel c l = some rest) (h : c.wp P (Exit.jump l (ScopeGo P c rest Q) Q) a w) : (Code.scope c).wp P Q a w := by
  intro b k cs
  have hg : gotoIn l (.inScope c :: k) = some (.code rest :: .inScope c :: k) := by simp [gotoIn, hf]
  obtain ⟨e, a₁, w₁, hq, harr⟩ := h b (.inScope c :: k) cs
  cases e with
  | normal => exact ⟨.normal, a₁, w₁, hq, .head step_scope (Steps.trans harr (.one step_inScope))⟩
  | exit id => exact ⟨.exit id, a₁, w₁, hq, fun k' hk => .head step_scope (harr k' (by simp [exitTo, hk]))⟩
  | goto l' =>
    obtain ⟨rfl, hJ'⟩ := hq
    obtain ⟨e₂, a₂, w₂, hq₂, harr₂⟩ := hJ' b k cs
    exact ⟨e₂, a₂, w₂, hq₂, .of_steps (.head step_scope (harr _ hg)) harr₂⟩
  | ret => exact ⟨_, a₁, w₁, hq, .of_steps (.one step_scope) harr⟩
  | panic ch => exact ⟨_, a₁, w₁, hq, .of_steps (.one step_scope) harr⟩
  | outgrown => exact ⟨_, a₁, w₁, hq, .of_steps (.one step_scope) harr⟩
theorem scopeGo_of {c rest : Code} (l : Nat) (I : Nat → Act → World → Prop) (hf : findLabel c l = some rest)
    (pass : ∀ n a w, I n a w → rest.wp P (Exit.jump l (fun a' w' => ∃ n', n' < n ∧ I n' a' w') Q) a w) : ∀ n a w, I n a w → ScopeGo P c rest Q a w := by
  intro n
  induction n using Nat.strongRecOn with
  | _ n ih =>
    intro a w hI b k cs
    have hg : gotoIn l (.inScope c :: k) = some (.code rest :: .inScope c :: k) := by simp [gotoIn, hf]
    obtain ⟨e, a₁, w₁, hq, harr⟩ := pass n a w hI b (.inScope c :: k) cs
    cases e with
    | normal => exact ⟨.normal, a₁, w₁, hq, Steps.trans harr (.one step_inScope)⟩
    | exit id => exact ⟨.exit id, a₁, w₁, hq, fun k' hk => harr k' (by simp [exitTo, hk])⟩
    | goto l' =>
      obtain ⟨rfl, n', hlt, hJ'⟩ := hq
      obtain ⟨e₂, a₂, w₂, hq₂, harr₂⟩ := ih n' hlt a₁ w₁ hJ' b k cs
      exact ⟨e₂, a₂, w₂, hq₂, .of_steps (harr _ hg) harr₂⟩
    | ret => exact ⟨_, a₁, w₁, hq, harr⟩
    | panic ch => exact ⟨_, a₁, w₁, hq, harr⟩
    | outgrown => exact ⟨_, a₁, w₁, hq, harr⟩
def putS (a : Act) : List Tmp → List Value → Act
  | d :: ds, u :: us => putS (a.put (some d) u) ds us
  | _, _ => a
theorem put_self (a : Act) (d : Tmp) : a.put (some d) (a.tmps.getD d undef) = a := by
  cases a with
  | mk tmps defers =>
    simp only [Act.put, Act.mk.injEq, and_true]
    apply Array.ext (by simp)
    intro i h1 h2
    rw [Array.getElem_setIfInBounds]
    split
    · rename_i e; subst e; simp [h2]
    · rfl
theorem putS_self (a : Act) (ds : List Tmp) : putS a ds (ds.map fun d => a.tmps.getD d undef) = a := by
  induction ds with
  | nil => rfl
  | cons d ds ih => rw [List.map_cons, putS, put_self]; exact ih
theorem wp_skip_seq {X : Code} (h : X.wp P Q a w) : (Code.seq .skip X).wp P Q a w := wp_seq (wp_skip h)
/-- At the label: ds: the slots that the code behind it writes. -/
theorem wp_label_slots {c X : Code} (l : Nat) (hf : findLabel c l = some (.seq .skip X)) (ds : List Tmp) (R : Nat → List Value → World → Prop) (n₀ : Nat) (h₀ : R n₀ (ds.map fun d => a.tmps.getD d undef) w)
    (round : ∀ n us w, us.length = ds.length → R n us w → ∀ (J : Nat → Act → World → Prop) (K : Act → World → Prop), (∀ k us' a' w', us'.length = ds.length → putS a ds us' = a' → R k us' w' → J k a' w') → (∀ a' w', Handed J n a' w' → K a' w') →
      X.wp P (Exit.jump l K Q) (putS a ds us) w) : X.wp P (Exit.jump l (ScopeGo P c (.seq .skip X) Q) Q) a w := by
  have hp : ∀ n a' w', (∃ us, us.length = ds.length ∧ a' = putS a ds us ∧ R n us w') → X.wp P (Exit.jump l (fun a'' w'' => ∃ n', n' < n ∧ (∃ us, us.length = ds.length ∧ a'' = putS a ds us ∧ R n' us w'')) Q) a' w' := by
    rintro n _ w ⟨us, hl, rfl, hR⟩
    exact round n us w hl hR _ _ (fun k us' a' w' hl' ha hR' => ⟨us', hl', ha.symm, hR'⟩) (fun _ _ h => h)
  refine wp_mono (hp n₀ a w ⟨_, by simp, (putS_self a ds).symm, h₀⟩) ?_
  intro e a' w' hq
  cases e with
  | goto l' =>
    obtain ⟨rfl, n', _, hI⟩ := hq
    exact ⟨rfl, scopeGo_of l' _ hf (fun n a w h => wp_skip_seq (hp n a w h)) n' a' w' hI⟩
  | normal => exact hq
  | exit id => exact hq
  | ret => exact hq
  | panic ch => exact hq
  | outgrown => exact hq
end
end Go.Proofs.Ytpoghhcpoimepaa.H
end
section
namespace Go.Proofs.Ytpoghhcpoimepaa.B
open Go.RowKit
theorem wrap_i64 (n : Int) : IntKind.i64.wrap n = wrap64 n := by
  simp only [IntKind.wrap, IntKind.bits, IntKind.signed, wrap64, Bool.true_and, ge_iff_le, decide_eq_true_eq]
  by_cases h : (2 : Int) ^ (64 - 1) ≤ n % 2 ^ 64
  · rw [if_pos h]; omega
  · rw [if_neg h]; omega
/-- Exclusive or with nought, and with all ones. -/
theorem xor_zero (k : IntKind) (x : Int) (hx : k.wrap x = x) : bits .xor k x 0 = x := by
  have h1 : BitVec.ofInt k.bits 0 = 0#k.bits := by rfl
  simp only [bits, h1, BitVec.xor_zero]
  rw [BitVec.toNat_ofInt]
  have hw : ∀ n : Int, k.wrap n = k.wrap (n % 2 ^ k.bits) := fun n => by simp only [IntKind.wrap, Int.emod_emod]
  rw [show ((x % ((2 ^ k.bits : Nat) : Int)).toNat : Int) = x % 2 ^ k.bits from by
    rw [Int.toNat_of_nonneg (Int.emod_nonneg _ (by exact_mod_cast (Nat.pos_iff_ne_zero.1 (Nat.two_pow_pos _))))]; norm_cast]
  rw [← hw, hx]
end Go.Proofs.Ytpoghhcpoimepaa.B
end
section
/- Several texts in one. -/
namespace Go.Proofs.Ytpoghhcpoimepaa.P
open Go.RowKit Go.Proofs.YtpoghhcpoimepaaW.PrintWords Go.Proofs.YtpoghhcpoimepaaW.PrintLast Go.Proofs.YtpoghhcpoimepaaW.PrintMore Go.Proofs.Ytpoghhcpoimepaa.FX
attribute [local go_sem] max2_int min2_int max_two min_two max_three min_three max_four min_four
set_option linter.unusedVariables false
set_option linter.unusedSimpArgs false
/-- A part that counts. -/
def fx (n : Int) : Int := if (if 1048576 < n then 1048576 else n) < -1048576 then -1048576 else (if 1048576 < n then 1048576 else n)
theorem fx_le (n : Int) : -1048576 ≤ fx n ∧ fx n ≤ 1048576 := by unfold fx; split <;> split <;> omega
set_option maxRecDepth 100000 in
theorem plane_calls (x y : Int) (w : World) : Calls Try.prog 84 #[.agg #[.int .i64 x, .int .i64 y]] w fun e w' => e = .returned (.complex .f64 (floatOfInt .f64 (fx x)) (floatOfInt .f64 (fx y))) ∧ Below w.heap.size w w' := by
  obtain ⟨fX, hX⟩ : ∃ f, fx x = f := ⟨_, rfl⟩
  obtain ⟨fY, hY⟩ : ∃ f, fx y = f := ⟨_, rfl⟩
  rw [hX, hY]
  unfold fx at hX hY
  obtain ⟨mX, h1⟩ : ∃ m, (if 1048576 < x then 1048576 else x) = m := ⟨_, rfl⟩
  obtain ⟨mY, h2⟩ : ∃ m, (if 1048576 < y then 1048576 else y) = m := ⟨_, rfl⟩
  rw [h1] at hX
  rw [h2] at hY
  go_enter Try.func84, Try.ntmps84
  go_wp2
  go_ret
  exact ⟨rfl, below_alloc (Below.refl _ _) _⟩
set_option maxRecDepth 100000 in
theorem point_calls (a b : Nat) (x y : Int) (w : World) (ha : floatToIntVal .f64 a .i64 = some x) (hb : floatToIntVal .f64 b .i64 = some y) : Calls Try.prog 83 #[.complex .f64 a b] w fun e w' => e = .returned (.agg #[.int .i64 x, .int .i64 y]) ∧ Below w.heap.size w w' := by
  have e1 : ∀ W : World, (convert 63 3 (.float .f64 a)).run Try.prog W = .ok (.int .i64 x) W := fun W => run_convert_float_int W 63 3 .f64 .i64 a x (by rw [Try.underlying63]; rfl) Try.underlying3 ha
  have e2 : ∀ W : World, (convert 63 3 (.float .f64 b)).run Try.prog W = .ok (.int .i64 y) W := fun W => run_convert_float_int W 63 3 .f64 .i64 b y (by rw [Try.underlying63]; rfl) Try.underlying3 hb
  go_enter Try.func83, Try.ntmps83
  go_wp2
  refine bodyPost_ret (results_cell_row rfl _ _ w.heap.size 24 #[.int .i64 x, .int .i64 y] (0, 0) _ rfl (blk_new w _) Try.underlying24 rfl (by kernel_rfl)) rfl ?_
  exact ⟨rfl, below_alloc (Below.refl _ _) _⟩
theorem point_at {a b : Nat} {x y : Int} (w : World) (ha : IsF a x) (hb : IsF b y) (hx : x.natAbs < 2 ^ 53) (hy : y.natAbs < 2 ^ 53) : Calls Try.prog 83 #[.complex .f64 a b] w fun e w' => e = .returned (.agg #[.int .i64 x, .int .i64 y]) ∧ Below w.heap.size w w' :=
  point_calls a b x y w (isF_int ha (by omega) (by omega)) (isF_int hb (by omega) (by omega))
theorem fx_isF (n : Int) : IsF (floatOfInt .f64 (fx n)) (fx n) := isF_of _ (by have := fx_le n; omega)
def AggPost (x y : Int) (w : World) (e : Ending) (w' : World) : Prop := e = .returned (.agg #[.int .i64 x, .int .i64 y]) ∧ Below w.heap.size w w'
set_option maxRecDepth 100000 in
theorem fix_calls (x y : Int) (w : World) : Calls Try.prog 53 #[.agg #[.int .i64 x, .int .i64 y]] w (AggPost (fx x) (fx y) w) := by
  have hx := fx_le x
  have hy := fx_le y
  have HP := fun W => Aside0.mk (point_at (a := floatOfInt .f64 (fx x)) (b := floatOfInt .f64 (fx y)) W (fx_isF x) (fx_isF y) (by omega) (by omega))
  clear hx hy
  go_enter Try.func53, Try.ntmps53
  go_wp2_with (first | (go_at_call 84; (with_reducible refine (plane_calls x y _).mono ?_); rintro e w1 ⟨rfl, hb1⟩; have HB1 := Aside0.mk hb1; clear hb1) | (go_at_call 83; (with_reducible refine ((HP _).out).mono ?_); rintro e w2 ⟨rfl, hb2⟩; have hbk := blk_keep (blk_keep (blk_new (w.alloc (.cells #[.int .i64 x, .int .i64 y] 24)) (.cells #[.int .i64 0, .int .i64 0] 24)) HB1.out) hb2; rw [alloc_size] at hbk; have HBK := Aside0.mk hbk; have hc0 := blk_cell hbk 0; have hc1 := blk_cell hbk 1; have hf0 := blk_frozen hbk 0; have hf1 := blk_frozen hbk 1; have HB2 := Aside0.mk (below_step (below_step (below_alloc (below_alloc (Below.refl w.heap.size w) _) _) HB1.out) hb2); clear hb2 hbk HB1))
  refine bodyPost_ret (results_cell_row rfl _ _ (w.heap.size + 1) 24 #[.int .i64 (fx x), .int .i64 (fx y)] (0, 0) _ rfl (blk_put (cs := #[.int .i64 (fx x), .int .i64 0]) (blk_put (cs := #[.int .i64 0, .int .i64 0]) HBK.out 0 _ rfl) 1 _ rfl) Try.underlying24 rfl (by kernel_rfl)) rfl ?_
  exact ⟨rfl, below_set (below_set HB2.out (by simp)) (by simp)⟩
set_option maxRecDepth 100000 in
theorem fplane_calls (x y : Int) (w : World) : Calls Try.prog 48 #[.agg #[.int .i64 x, .int .i64 y]] w fun e w' => e = .returned (.complex .f64 (floatOfInt .f64 x) (floatOfInt .f64 y)) ∧ Below w.heap.size w w' := by
  go_enter Try.func48, Try.ntmps48
  go_wp2
  go_ret
  exact ⟨rfl, below_alloc (Below.refl _ _) _⟩
end Go.Proofs.Ytpoghhcpoimepaa.P
end
section
/- Floats that are no infinity: sums, differences and products of bounded ones are bounded. -/
namespace Go.Proofs.Ytpoghhcpoimepaa.FX
open Go
set_option linter.unusedVariables false
set_option exponentiation.threshold 2000
set_option linter.unusedSimpArgs false
/-- A number below 2 ^ e. -/
def Bdd (d : Ieee.Datum) (e : Nat) : Prop := ∃ s m p, d = .number s m p ∧ m * 2 ^ p.toNat < 2 ^ e * 2 ^ (-p).toNat
def Bd (b e : Nat) : Prop := Bdd (Ieee.double.read b) e
theorem lt_cancel {a b k : Nat} (h : a * 2 ^ k < b * 2 ^ k) : a < b := Nat.lt_of_mul_lt_mul_right h
theorem Bdd.mono {d : Ieee.Datum} {e f : Nat} (h : Bdd d e) (hf : e ≤ f) : Bdd d f := by
  obtain ⟨s, m, p, rfl, hv⟩ := h
  exact ⟨s, m, p, rfl, Nat.lt_of_lt_of_le hv (Nat.mul_le_mul_right _ (Nat.pow_le_pow_right (by decide) hf))⟩
theorem Bd.mono {b e f : Nat} (h : Bd b e) (hf : e ≤ f) : Bd b f := Bdd.mono h hf
theorem cut_le (s : Bool) (n drop : Nat) (hn : n ≠ 0) (hd : n.log2 ≤ drop + 52) : Ieee.Toward.even.cut s n drop ≤ 9007199254740992 := by
  unfold Ieee.Toward.cut
  have h2 := Nat.lt_log2_self (n := n)
  have low : n / (1 <<< min drop (n.log2 + 2)) < 9007199254740992 := by
    rw [Nat.one_shiftLeft]
    rw [Nat.div_lt_iff_lt_mul (Nat.two_pow_pos _)]
    refine Nat.lt_of_lt_of_le h2 ?_
    rw [show (9007199254740992 : Nat) = 2 ^ 53 from by decide, ← Nat.pow_add]
    exact Nat.pow_le_pow_right (by decide) (by omega)
  simp only []
  generalize n / (1 <<< min drop (n.log2 + 2)) = q at *
  have : ∀ b : Bool, b.toNat ≤ 1 := fun b => by cases b <;> decide
  have := this (decide (1 <<< min drop (n.log2 + 2) < 2 * (n % 1 <<< min drop (n.log2 + 2))) || 1 <<< min drop (n.log2 + 2) == 2 * (n % 1 <<< min drop (n.log2 + 2)) && q % 2 == 1)
  omega
theorem read_rung (s : Bool) (R e : Nat) (h : R < 9218868437227405312) (he : R / 4503599627370496 ≤ e + 1023) : Bdd (Ieee.double.read (Ieee.double.word s R)) (e + 1) := by
  have hL : Ieee.double.leastPlace = -1074 := by decide
  have hB : Ieee.double.binade = 4503599627370496 := by decide
  have hI : Ieee.double.infRung = 9218868437227405312 := by decide
  have hW : Ieee.double.signWeight = 9223372036854775808 := by decide
  have hw1 : Ieee.double.word s R % 9223372036854775808 = R := by
    unfold Ieee.Format.word; rw [hW]; split <;> omega
  unfold Ieee.Format.read
  simp only [hW, hB, hI, hL, hw1]
  by_cases h1 : R < 4503599627370496
  · rw [if_pos h1]
    refine ⟨_, _, _, rfl, ?_⟩
    rw [show ((-1074 : Int)).toNat = 0 from rfl, show (-(-1074 : Int)).toNat = 1074 from rfl, Nat.pow_zero, Nat.mul_one, ← Nat.pow_add]
    exact Nat.lt_of_lt_of_le (show R < 2 ^ 52 from h1) (Nat.pow_le_pow_right (by decide) (by omega))
  · rw [if_neg h1, if_pos h]
    refine ⟨_, _, _, rfl, ?_⟩
    have hq : 1 ≤ R / 4503599627370496 := by omega
    have hr : 4503599627370496 + R % 4503599627370496 < 2 ^ 53 := by have := Nat.mod_lt R (show 0 < 4503599627370496 by decide); omega
    generalize R / 4503599627370496 = q at *
    generalize 4503599627370496 + R % 4503599627370496 = m at *
    refine Nat.lt_of_lt_of_le (Nat.mul_lt_mul_of_pos_right hr (Nat.two_pow_pos _)) ?_
    rw [← Nat.pow_add, ← Nat.pow_add]
    exact Nat.pow_le_pow_right (by decide) (by omega)
theorem rung_fit (s : Bool) (q k e : Nat) (hq : q ≤ e + 1021) (he : e ≤ 1000) (hk : k ≤ 9007199254740992) : Bdd (Ieee.double.read (Ieee.double.word s (min (q * 4503599627370496 + k) 9218868437227405312))) (e + 1) := by
  have h1 : q * 4503599627370496 + k < 9218868437227405312 := by
    have : q * 4503599627370496 ≤ 2021 * 4503599627370496 := Nat.mul_le_mul_right _ (by omega)
    have : q * 4503599627370496 + k ≤ 2021 * 4503599627370496 + 9007199254740992 := Nat.add_le_add this hk
    exact Nat.lt_of_le_of_lt this (by decide)
  rw [Nat.min_eq_left (Nat.le_of_lt h1)]
  refine read_rung s _ e h1 ?_
  have h2 : q * 4503599627370496 + k ≤ (q + 2) * 4503599627370496 := by rw [Nat.add_mul]; exact Nat.add_le_add_left hk _
  have h3 := Nat.div_le_div_right (c := 4503599627370496) h2
  rw [Nat.mul_div_cancel _ (by decide)] at h3
  exact Nat.le_trans h3 (by omega)
theorem write_bd {d : Ieee.Datum} {e : Nat} (h : Bdd d e) (he : e ≤ 1000) : Bd (Ieee.double.write d) (e + 1) := by
  obtain ⟨s, m, p, rfl, hv⟩ := h
  unfold Bd Ieee.Format.write
  simp only []
  by_cases hm : m = 0
  · subst hm
    have : Ieee.double.nearest s 0 p = Ieee.double.word s 0 := by unfold Ieee.Format.nearest; rw [if_pos rfl]
    rw [this]
    exact read_rung s 0 e (by decide) (by simp)
  · have hlog : (m.log2 : Int) + p < e := by
      have h1 := Nat.log2_self_le hm
      have h2 : 2 ^ m.log2 * 2 ^ p.toNat < 2 ^ e * 2 ^ (-p).toNat := Nat.lt_of_le_of_lt (Nat.mul_le_mul_right _ h1) hv
      rw [← Nat.pow_add, ← Nat.pow_add] at h2
      have h3 := (Nat.pow_lt_pow_iff_right (by decide : 1 < 2)).1 h2
      omega
    have hL : Ieee.double.leastPlace = -1074 := by decide
    have hF : Ieee.double.fractionBits = 52 := rfl
    have hB : Ieee.double.binade = 4503599627370496 := by decide
    have hI : Ieee.double.infRung = 9218868437227405312 := by decide
    unfold Ieee.Format.nearest
    rw [if_neg hm]
    simp only [hL, hF, hB, hI]
    obtain ⟨last, hla⟩ : ∃ l, max (p + (m.log2 : Int) - ((52 : Nat) : Int)) (-1074) = l := ⟨_, rfl⟩
    rw [hla]
    have hn : m <<< (p - last).toNat ≠ 0 := by rw [Nat.shiftLeft_eq]; exact Nat.mul_ne_zero hm (Nat.ne_of_gt (Nat.two_pow_pos _))
    have hk := cut_le s (m <<< (p - last).toNat) (last - p).toNat hn (by rw [Nat.shiftLeft_eq, log2_mul m _ hm]; omega)
    generalize Ieee.Toward.even.cut s (m <<< (p - last).toNat) (last - p).toNat = k at *
    obtain ⟨q, hq⟩ : ∃ q, (last - -1074).toNat = q := ⟨_, rfl⟩
    rw [hq]
    have hqe : q ≤ e + 1021 := by omega
    clear hv hn hla hq hlog hm hI hB hF hL
    exact rung_fit s q k e hqe he hk
theorem signed_lt {e : Nat} {s : Bool} {m : Nat} {i base : Int} (hv : m * 2 ^ i.toNat < 2 ^ e * 2 ^ (-i).toNat) (hb : base ≤ i) :
    (Ieee.signed s m (i - base).toNat).natAbs * 2 ^ base.toNat < 2 ^ e * 2 ^ (-base).toNat := by
  have h0 : (Ieee.signed s m (i - base).toNat).natAbs = m * 2 ^ (i - base).toNat := by
    rw [signed_eq]; cases s <;> simp <;> (rw [Int.natAbs_mul]; simp [Int.natAbs_pow])
  rw [h0]
  apply lt_cancel (k := (-i).toNat)
  calc m * 2 ^ (i - base).toNat * 2 ^ base.toNat * 2 ^ (-i).toNat = m * 2 ^ i.toNat * 2 ^ (-base).toNat := by
        rw [Nat.mul_assoc, ← Nat.pow_add, Nat.mul_assoc, ← Nat.pow_add, Nat.mul_assoc, ← Nat.pow_add]; congr 2; omega
    _ < 2 ^ e * 2 ^ (-i).toNat * 2 ^ (-base).toNat := Nat.mul_lt_mul_of_pos_right hv (Nat.two_pow_pos _)
    _ = 2 ^ e * 2 ^ (-base).toNat * 2 ^ (-i).toNat := by rw [Nat.mul_assoc, Nat.mul_comm (2 ^ (-i).toNat), ← Nat.mul_assoc]
theorem sum_bd {x y : Ieee.Datum} {e : Nat} (hx : Bdd x e) (hy : Bdd y e) : ∃ d, x.sum y = some d ∧ Bdd d (e + 1) := by
  obtain ⟨s, m, i, rfl, hv⟩ := hx
  obtain ⟨t, m', j, rfl, hv'⟩ := hy
  refine ⟨_, rfl, _, _, _, rfl, ?_⟩
  have e1 := signed_lt (s := s) (base := min i j) hv (by omega)
  have e2 := signed_lt (s := t) (base := min i j) hv' (by omega)
  generalize Ieee.signed s m (i - min i j).toNat = S at *
  generalize Ieee.signed t m' (j - min i j).toNat = T at *
  have h3 : (S + T).natAbs ≤ S.natAbs + T.natAbs := Int.natAbs_add_le _ _
  have h4 : (S + T).natAbs * 2 ^ (min i j).toNat ≤ (S.natAbs + T.natAbs) * 2 ^ (min i j).toNat := Nat.mul_le_mul_right _ h3
  rw [Nat.add_mul] at h4
  rw [Nat.pow_succ]
  generalize 2 ^ e = E at *
  generalize 2 ^ (-(min i j)).toNat = D at *
  have : E * 2 * D = E * D + E * D := by rw [Nat.mul_assoc, Nat.mul_comm 2 D, ← Nat.mul_assoc]; omega
  omega
theorem product_bd {x y : Ieee.Datum} {e f : Nat} (hx : Bdd x e) (hy : Bdd y f) : ∃ d, x.product y = some d ∧ Bdd d (e + f) := by
  obtain ⟨s, m, i, rfl, hv⟩ := hx
  obtain ⟨t, m', j, rfl, hv'⟩ := hy
  refine ⟨_, rfl, _, _, _, rfl, ?_⟩
  apply lt_cancel (k := (-i).toNat + (-j).toNat)
  calc m * m' * 2 ^ (i + j).toNat * 2 ^ ((-i).toNat + (-j).toNat) = (m * 2 ^ i.toNat) * (m' * 2 ^ j.toNat) * 2 ^ (-(i + j)).toNat := by
        rw [Nat.mul_assoc (m * m'), ← Nat.pow_add, show m * 2 ^ i.toNat * (m' * 2 ^ j.toNat) * 2 ^ (-(i + j)).toNat = m * m' * (2 ^ i.toNat * 2 ^ j.toNat * 2 ^ (-(i + j)).toNat) from by simp only [Nat.mul_assoc, Nat.mul_left_comm, Nat.mul_comm], ← Nat.pow_add, ← Nat.pow_add]
        congr 2; omega
    _ < (2 ^ e * 2 ^ (-i).toNat) * (2 ^ f * 2 ^ (-j).toNat) * 2 ^ (-(i + j)).toNat := Nat.mul_lt_mul_of_pos_right (Nat.mul_lt_mul'' hv hv') (Nat.two_pow_pos _)
    _ = 2 ^ (e + f) * 2 ^ (-(i + j)).toNat * 2 ^ ((-i).toNat + (-j).toNat) := by
        rw [Nat.pow_add, Nat.pow_add]; simp only [Nat.mul_assoc, Nat.mul_left_comm, Nat.mul_comm]
theorem opp_bd {x : Ieee.Datum} {e : Nat} (hx : Bdd x e) : Bdd x.opposite e := by
  obtain ⟨s, m, i, rfl, hv⟩ := hx
  exact ⟨!s, m, i, rfl, hv⟩
theorem bd_add {a b e : Nat} (hx : Bd a e) (hy : Bd b e) (he : e ≤ 900) : ∃ c, floatBits .add .f64 a b = some c ∧ Bd c (e + 2) := by
  obtain ⟨d, hd, hv⟩ := sum_bd hx hy
  exact ⟨_, by show Option.map Ieee.double.write ((Ieee.double.read a).sum (Ieee.double.read b)) = _; rw [hd]; rfl, write_bd hv (by omega)⟩
theorem bd_sub {a b e : Nat} (hx : Bd a e) (hy : Bd b e) (he : e ≤ 900) : ∃ c, floatBits .sub .f64 a b = some c ∧ Bd c (e + 2) := by
  obtain ⟨d, hd, hv⟩ := sum_bd hx (opp_bd hy)
  exact ⟨_, by show Option.map Ieee.double.write ((Ieee.double.read a).sum (Ieee.double.read b).opposite) = _; rw [hd]; rfl, write_bd hv (by omega)⟩
theorem bd_mul {a b e f : Nat} (hx : Bd a e) (hy : Bd b f) (he : e + f ≤ 900) : ∃ c, floatBits .mul .f64 a b = some c ∧ Bd c (e + f + 1) := by
  obtain ⟨d, hd, hv⟩ := product_bd hx hy
  exact ⟨_, by show Option.map Ieee.double.write ((Ieee.double.read a).product (Ieee.double.read b)) = _; rw [hd]; rfl, write_bd hv (by omega)⟩
theorem bd_of (n : Int) (h : n.natAbs ≤ 9223372036854775808) : Bd (floatOfInt .f64 n) 65 :=
  write_bd (d := .number (n < 0) n.natAbs 0) ⟨_, _, _, rfl, by simp; omega⟩ (by decide)
end Go.Proofs.Ytpoghhcpoimepaa.FX
end
section
-- printed by the session's own call of print.py. Not trusted: Lean checks it.
namespace Go.Proofs.Ytpoghhcpoimepaa.P
open Go.RowKit Go.Proofs.YtpoghhcpoimepaaW.PrintWords Go.Proofs.YtpoghhcpoimepaaW.PrintLast Go.Proofs.YtpoghhcpoimepaaW.PrintMore
attribute [local go_sem] max2_int min2_int max_two min_two max_three min_three max_four min_four
set_option linter.unusedVariables false
set_option linter.unusedSimpArgs false
theorem eqA24 (d : Nat) (w : World) (x0 y0 : Int) (x1 y1 : Int) :
    (Op.equalIn (d + 2) 24 (.agg #[.int .i64 x0, .int .i64 x1]) (.agg #[.int .i64 y0, .int .i64 y1])).run Try.prog w = .ok (x0 == y0 && (x1 == y1)) w := by
  refine eqA_of Try.underlying24 (by kernel_rfl) ?_
  refine eqf_cons (by rfl) (by go_simp; rfl) (by go_simp; rfl) (by go_simp) ?_
  exact eqf_last (by rfl) (by go_simp; rfl) (by go_simp; rfl) (by go_simp)
end Go.Proofs.Ytpoghhcpoimepaa.P
end
section
/- Operations of a drawn region that are not wanted (their guard is false), taken all at once. -/
namespace Go.Proofs.Ytpoghhcpoimepaa.P
open Go.RowKit Go.Proofs.YtpoghhcpoimepaaW.PrintWords Go.Proofs.YtpoghhcpoimepaaW.PrintLast Go.Proofs.YtpoghhcpoimepaaW.PrintMore
set_option linter.unusedVariables false
set_option linter.unusedSimpArgs false
def skipL (us : List (Nat × Option Tmp)) (l : Array Bool) : Array Bool := us.foldl (fun l u => l.setIfInBounds u.1 true) l
def skipA (us : List (Nat × Option Tmp)) (a : Act) : Act := us.foldl (fun a u => a.put u.2 undef) a
def skipB (md : Region.Mode) (ops : Array Oper) : List (Nat × Option Tmp) → Array Bool → Bool
  | [], _ => true
  | u :: us, l => (match ops[u.1]? with | some o => o.dst == u.2 | none => false) && anyB md ops l (l.setIfInBounds u.1 true) u.1 && skipB md ops us (l.setIfInBounds u.1 true)
def unwA (ops : Array Oper) : List (Nat × Option Tmp) → Act → Bool
  | [], _ => true
  | u :: us, a => (match ops[u.1]? with | some o => !(Region.wanted o (yielded ops a.tmps)) | none => false) && unwA ops us (a.put u.2 undef)
theorem skips_go {P : Program} {ops : Array Oper} {Q : Exit → Act → World → Prop} {md : Region.Mode} {S : World → Prop} {ds : List Nat} (hQ : ∀ c a d w, Q (.panic c) (Act.put a d undef) w → Q (.panic c) a w) {w : World} {fuel : Nat} : ∀ (us : List (Nat × Option Tmp)) (l : Array Bool) (a : Act), skipB md ops us l = true → unwA ops us a = true →
    wpAnyLast P md ops Q S ds fuel (skipL us l) (skipA us a) w → wpAnyLast P md ops Q S ds (fuel + us.length) l a w := by
  intro us
  induction us with
  | nil => intro l a _ _ h; exact h
  | cons u us ih =>
    intro l a h1 h2 h
    rw [skipB, Bool.and_eq_true, Bool.and_eq_true] at h1
    rw [unwA, Bool.and_eq_true] at h2
    obtain ⟨⟨h3, h4⟩, h5⟩ := h1
    obtain ⟨h6, h7⟩ := h2
    cases ho : ops[u.1]? with
    | none => rw [ho] at h3; cases h3
    | some o =>
      rw [ho] at h3 h6
      have h3 : o.dst = u.2 := by simpa using h3
      exact pure_ (i := u.1) (N := u.2) (v := undef) (l.setIfInBounds u.1 true) ho h3 h4 (fun c a w => hQ c a _ w) (Or.inr ⟨by simpa using h6, rfl⟩) rfl (ih _ _ h5 h7 h)
theorem skips_ {P : Program} {ops : Array Oper} {Q : Exit → Act → World → Prop} {md : Region.Mode} {S : World → Prop} {ds : List Nat} {w : World} {fuel : Nat} (us : List (Nat × Option Tmp)) (k : Nat) (hk : us.length = k) {l : Array Bool} {a a' : Act} (l' : Array Bool) (hQ : ∀ c a d w, Q (.panic c) (Act.put a d undef) w → Q (.panic c) a w)
    (h1 : skipB md ops us l = true) (hl : skipL us l = l') (h2 : unwA ops us a = true) (ha : skipA us a = a') (h : wpAnyLast P md ops Q S ds fuel l' a' w) : wpAnyLast P md ops Q S ds (fuel + k) l a w := by
  subst hk hl ha
  exact skips_go hQ us l a h1 h2 h
/-- What has come up, out of a number's bits. -/
def btB (n m : Nat) : Array Bool := ((List.range n).map fun i => m.testBit i).toArray
end Go.Proofs.Ytpoghhcpoimepaa.P
end
section
/- fence.Right$1: two edges, side by side, of a ring. -/
namespace Go.Proofs.Ytpoghhcpoimepaa.P
open Go.Proofs.Ytpoghhcpoimepaa.B Go.RowKit Go.Proofs.YtpoghhcpoimepaaW.PrintWords Go.Proofs.YtpoghhcpoimepaaW.PrintLast Go.Proofs.YtpoghhcpoimepaaW.PrintMore Go.Proofs.Ytpoghhcpoimepaa.FX Go.Proofs.Ytpoghhcpoimepaa.H
set_option linter.unusedVariables false
set_option linter.unusedSimpArgs false
attribute [local go_sem high] eqA24
abbrev RtS (w0 : World) (g : Nat) (lx ly ax ay bx by' : Int) (w' : World) : Prop :=
  Aside0 (w'.heap[g]? = some (.cells #[.int .i64 lx, .int .i64 ly] 24 (0, 0))) ∧ Aside0 (w'.heap[w0.heap.size]? = some (.cells #[.int .i64 ax, .int .i64 ay] 24 (0, 0))) ∧ Aside0 (w'.heap[w0.heap.size + 1]? = some (.cells #[.int .i64 bx, .int .i64 by'] 24 (0, 0))) ∧ Aside0 (Below g w0 w') ∧ w'.cell? ⟨g, 0, none⟩ = some (.int .i64 lx) ∧ w'.cell? ⟨g, 1, none⟩ = some (.int .i64 ly) ∧ w'.cell? ⟨w0.heap.size, 0, none⟩ = some (.int .i64 ax) ∧ w'.cell? ⟨w0.heap.size, 1, none⟩ = some (.int .i64 ay) ∧ w'.cell? ⟨w0.heap.size + 1, 0, none⟩ = some (.int .i64 bx) ∧ w'.cell? ⟨w0.heap.size + 1, 1, none⟩ = some (.int .i64 by') ∧ w'.frozen? ⟨g, 0, none⟩ = false ∧ w'.frozen? ⟨g, 1, none⟩ = false
theorem RtS.mk {w0 : World} {g : Nat} {lx ly ax ay bx by' : Int} {w' : World} (h0 : w'.heap[g]? = some (.cells #[.int .i64 lx, .int .i64 ly] 24 (0, 0))) (h1 : w'.heap[w0.heap.size]? = some (.cells #[.int .i64 ax, .int .i64 ay] 24 (0, 0))) (h2 : w'.heap[w0.heap.size + 1]? = some (.cells #[.int .i64 bx, .int .i64 by'] 24 (0, 0))) (hB : Below g w0 w') : RtS w0 g lx ly ax ay bx by' w' :=
  ⟨⟨h0⟩, ⟨h1⟩, ⟨h2⟩, ⟨hB⟩, blk_cell h0 0, blk_cell h0 1, blk_cell h1 0, blk_cell h1 1, blk_cell h2 0, blk_cell h2 1, blk_frozen h0 0, blk_frozen h0 1⟩
theorem RtS.keep {w0 : World} {g : Nat} {lx ly ax ay bx by' : Int} {w1 w2 : World} (h : RtS w0 g lx ly ax ay bx by' w1) (hb : Below w1.heap.size w1 w2) : RtS w0 g lx ly ax ay bx by' w2 :=
  RtS.mk (blk_keep h.1.out hb) (blk_keep h.2.1.out hb) (blk_keep h.2.2.1.out hb) (h.2.2.2.1.out.trans (hb.mono (Nat.le_of_lt (lt_blk h.1.out))))
theorem RtS.drew {w0 : World} {g : Nat} {lx ly ax ay bx by' : Int} {w1 : World} (h : RtS w0 g lx ly ax ay bx by' w1) : RtS w0 g lx ly ax ay bx by' w1.drew :=
  RtS.mk h.1.out h.2.1.out h.2.2.1.out h.2.2.2.1.out.drew
set_option maxHeartbeats 2000000 in
set_option maxRecDepth 100000 in
theorem right1_calls (g : Nat) (lx ly ax ay bx by' : Int) (fax fay fbx fby : Int) (re1 im1 re2 im2 m1 re3 im3 : Nat) (p1 p2 p3 p4 p5 p6 : Bool) (w : World) (hg : w.heap[g]? = some (.cells #[.int .i64 lx, .int .i64 ly] 24 (0, 0)))
    (e1 : ∀ W : World, (binOp .sub 61 (.complex .f64 (floatOfInt .f64 ax) (floatOfInt .f64 ay)) (.complex .f64 (floatOfInt .f64 lx) (floatOfInt .f64 ly))).run Try.prog W = .ok (.complex .f64 re1 im1) W)
    (hfa : ∀ W, Calls Try.prog 53 #[.agg #[.int .i64 ax, .int .i64 ay]] W (AggPost fax fay W)) (hfb : ∀ W, Calls Try.prog 53 #[.agg #[.int .i64 bx, .int .i64 by']] W (AggPost fbx fby W))
    (q1 : (fax == ax && (fay == ay)) = p1) (q2 : (fbx == bx && (fby == by')) = p2)
    (q3 : ((!FloatKind.f64.format.order re1 0 == some Ordering.eq) || (!FloatKind.f64.format.order im1 0 == some Ordering.eq)) = p3) (q4 : ((!FloatKind.f64.format.order re2 0 == some Ordering.eq) || (!FloatKind.f64.format.order im2 0 == some Ordering.eq)) = p4)
    (q5 : (FloatKind.f64.format.order m1 0 == some Ordering.eq) = p5) (q6 : (FloatKind.f64.format.order re3 0 == some Ordering.eq) = p6)
    (e3 : ∀ W : World, (binOp .mul 63 (.float .f64 re1) (.float .f64 im1)).run Try.prog W = .ok (.float .f64 m1) W)
    (e4 : ∀ W : World, (binOp .mul 61 (.complex .f64 re1 im1) (.complex .f64 re2 im2)).run Try.prog W = .ok (.complex .f64 re3 im3) W)
    (e2 : ∀ W : World, (binOp .sub 61 (.complex .f64 (floatOfInt .f64 bx) (floatOfInt .f64 by')) (.complex .f64 (floatOfInt .f64 ax) (floatOfInt .f64 ay))).run Try.prog W = .ok (.complex .f64 re2 im2) W) :
    Calls Try.prog 52 #[.agg #[.int .i64 ax, .int .i64 ay], .agg #[.int .i64 bx, .int .i64 by'], .pointer (some ⟨g, 0, none⟩)] w fun e w' => e = .returned (.bool (p1 && (p2 && (p3 && (p4 && (p5 && p6)))))) ∧ w'.heap[g]? = some (.cells #[.int .i64 ax, .int .i64 ay] 24 (0, 0)) ∧ Below g w w' := by
  have hlt := lt_blk hg
  have a1 := blk_new w (.cells #[.int .i64 ax, .int .i64 ay] 24)
  have a2 := blk_new (w.alloc (.cells #[.int .i64 ax, .int .i64 ay] 24)) (.cells #[.int .i64 bx, .int .i64 by'] 24)
  rw [alloc_size] at a2
  have HS : RtS w g lx ly ax ay bx by' ((w.alloc (.cells #[.int .i64 ax, .int .i64 ay] 24)).alloc (.cells #[.int .i64 bx, .int .i64 by'] 24)) := RtS.mk (blk_keep hg (below_alloc (below_alloc (Below.refl _ _) _) _)) (blk_keep a1 (below_alloc (Below.refl _ _) _)) a2 ((below_alloc (below_alloc (Below.refl _ _) _) _).mono (by omega))
  clear a1 a2 hg
  go_enter Try.func52, Try.ntmps52
  go_wp2
  go_region_held3 (RtS w g lx ly ax ay bx by')
    (first | exact RtS.keep (by assumption) hb | exact RtS.drew HS | assumption)
    (first | (go_at_call 48; (with_reducible refine (fplane_calls _ _ _).mono ?_); rintro e w' ⟨rfl, hb⟩))
  clear HS
  rename_i HS
  obtain ⟨_, _, _, _, k1, k2, k3, k4, k5, k6, k7, k8⟩ := id HS
  go_upto_region 3 with fail
  have HS2 : RtS w g ax ay ax ay bx by' ((w'.setCell ⟨g, 0, none⟩ (.int .i64 ax)).setCell ⟨g, 1, none⟩ (.int .i64 ay)) := RtS.mk (blk_set (blk_set HS.1.out 0 _) 1 _) (far1 (far1 HS.2.1.out (by omega) _ _) (by omega) _ _) (far1 (far1 HS.2.2.1.out (by omega) _ _) (by omega) _ _) ((HS.2.2.2.1.out.setCell (Nat.le_refl g) _).setCell (Nat.le_refl g) _)
  clear HS k1 k2 k3 k4 k5 k6 k7 k8
  generalize ((w'.setCell ⟨g, 0, none⟩ (.int .i64 ax)).setCell ⟨g, 1, none⟩ (.int .i64 ay)) = w3 at HS2 ⊢
  have HS := HS2; clear HS2
  have HFA := fun W => Aside0.mk (hfa W); have HFB := fun W => Aside0.mk (hfb W); clear hfa hfb
  refine start_ (n := 34) (S := RtS w g ax ay ax ay bx by') (ds := []) (btB 34 0) (by kernel_rfl) rfl (by kernel_rfl) (RtS.drew HS) (fun hHeld => ?_)
  clear HS
  refine take_ (i := 0) (N := some 19) (v := ?_) (a' := ?_) (btB 34 1) rfl rfl (by kernel_rfl) (fun _ _ _ h => h) (Or.inl ⟨by rfl, ?_⟩) hHeld ?_ ?_
  rotate_left
  · rintro w' ⟨_, _, _, _, k1, k2, k3, k4, k5, k6, k7, k8⟩
    go_simp
    with_reducible rfl
  rotate_left
  · simp only [Act.put, List.setIfInBounds_toArray, List.set_cons_zero, List.set_cons_succ]
    rfl
  refine take_ (i := 2) (N := some 21) (v := ?_) (a' := ?_) (btB 34 5) rfl rfl (by kernel_rfl) (fun _ _ _ h => h) (Or.inl ⟨by rfl, ?_⟩) hHeld ?_ ?_
  rotate_left
  · rintro w' ⟨_, _, _, _, k1, k2, k3, k4, k5, k6, k7, k8⟩
    go_simp
    with_reducible rfl
  rotate_left
  · simp only [Act.put, List.setIfInBounds_toArray, List.set_cons_zero, List.set_cons_succ]
    rfl
  refine one_ (i := 1) (N := some 20) (btB 34 7) rfl rfl (by kernel_rfl) (by decide) (fun K_ hK => ?_)
  refine goes_ Try.func53 (by kernel_rfl) rfl #[.agg #[.int .i64 ax, .int .i64 ay]] (by rfl) rfl rfl (by (try simp only [List.map_toArray, List.map_cons, List.map_nil]); first | done | rfl) ?_
  with_reducible refine ((HFA _).out).mono ?_
  rintro e w2 ⟨rfl, hb⟩
  refine ⟨_, rfl, ?_⟩
  refine hK.out _ _ (RtS.keep hHeld hb) (fun hHeld => ?_)
  clear hK hb
  refine norm_ (a' := ?_) ?_ ?_
  rotate_left
  · show Act.put _ (some 20) _ = _
    simp only [Act.put, List.setIfInBounds_toArray, List.set_cons_zero, List.set_cons_succ]
    rfl
  cases p1
  · skip
    refine pure_ (i := 3) (N := some 22) (v := ?_) (a' := ?_) (btB 34 15) rfl rfl (by kernel_rfl) (fun _ _ _ h => h) (Or.inl ⟨by rfl, ?_⟩) ?_ ?_
    rotate_left
    · intro w'
      go_simp
      with_reducible rfl
    rotate_left
    · simp only [Act.put, List.setIfInBounds_toArray, List.set_cons_zero, List.set_cons_succ]
      rfl
    refine pure_ (i := 4) (N := some 23) (v := ?_) (a' := ?_) (btB 34 31) rfl rfl (by kernel_rfl) (fun _ _ _ h => h) (Or.inl ⟨by rfl, ?_⟩) ?_ ?_
    rotate_left
    · intro w'
      go_simp
      with_reducible rfl
    rotate_left
    · simp only [Act.put, List.setIfInBounds_toArray, List.set_cons_zero, List.set_cons_succ]
      rfl
    refine skips_ (a' := ?_) [(5, some 24), (6, some 25), (7, some 26), (8, some 27)] 4 rfl (btB 34 511) (fun _ _ d _ h => by cases d <;> exact h) (by kernel_rfl) (by kernel_rfl) (by rfl) ?_ ?_
    rotate_left
    · simp only [skipA, List.foldl_cons, List.foldl_nil, Act.put, List.setIfInBounds_toArray, List.set_cons_zero, List.set_cons_succ]
      rfl
    refine pure_ (i := 9) (N := some 28) (v := ?_) (a' := ?_) (btB 34 1023) rfl rfl (by kernel_rfl) (fun _ _ _ h => h) (Or.inl ⟨by rfl, ?_⟩) ?_ ?_
    rotate_left
    · intro w'
      go_simp
      with_reducible rfl
    rotate_left
    · simp only [Act.put, List.setIfInBounds_toArray, List.set_cons_zero, List.set_cons_succ]
      rfl
    refine pure_ (i := 10) (N := some 29) (v := ?_) (a' := ?_) (btB 34 2047) rfl rfl (by kernel_rfl) (fun _ _ _ h => h) (Or.inl ⟨by rfl, ?_⟩) ?_ ?_
    rotate_left
    · intro w'
      go_simp
      with_reducible rfl
    rotate_left
    · simp only [Act.put, List.setIfInBounds_toArray, List.set_cons_zero, List.set_cons_succ]
      rfl
    refine skips_ (a' := ?_) [(11, some 30), (12, some 31)] 2 rfl (btB 34 8191) (fun _ _ d _ h => by cases d <;> exact h) (by kernel_rfl) (by kernel_rfl) (by rfl) ?_ ?_
    rotate_left
    · simp only [skipA, List.foldl_cons, List.foldl_nil, Act.put, List.setIfInBounds_toArray, List.set_cons_zero, List.set_cons_succ]
      rfl
    refine pure_ (i := 13) (N := some 32) (v := ?_) (a' := ?_) (btB 34 16383) rfl rfl (by kernel_rfl) (fun _ _ _ h => h) (Or.inl ⟨by rfl, ?_⟩) ?_ ?_
    rotate_left
    · intro w'
      go_simp
      with_reducible rfl
    rotate_left
    · simp only [Act.put, List.setIfInBounds_toArray, List.set_cons_zero, List.set_cons_succ]
      rfl
    refine pure_ (i := 14) (N := some 33) (v := ?_) (a' := ?_) (btB 34 32767) rfl rfl (by kernel_rfl) (fun _ _ _ h => h) (Or.inl ⟨by rfl, ?_⟩) ?_ ?_
    rotate_left
    · intro w'
      go_simp
      with_reducible rfl
    rotate_left
    · simp only [Act.put, List.setIfInBounds_toArray, List.set_cons_zero, List.set_cons_succ]
      rfl
    refine skips_ (a' := ?_) [(15, some 34), (16, some 35)] 2 rfl (btB 34 131071) (fun _ _ d _ h => by cases d <;> exact h) (by kernel_rfl) (by kernel_rfl) (by rfl) ?_ ?_
    rotate_left
    · simp only [skipA, List.foldl_cons, List.foldl_nil, Act.put, List.setIfInBounds_toArray, List.set_cons_zero, List.set_cons_succ]
      rfl
    refine pure_ (i := 17) (N := some 36) (v := ?_) (a' := ?_) (btB 34 262143) rfl rfl (by kernel_rfl) (fun _ _ _ h => h) (Or.inl ⟨by rfl, ?_⟩) ?_ ?_
    rotate_left
    · intro w'
      go_simp
      with_reducible rfl
    rotate_left
    · simp only [Act.put, List.setIfInBounds_toArray, List.set_cons_zero, List.set_cons_succ]
      rfl
    refine pure_ (i := 18) (N := some 37) (v := ?_) (a' := ?_) (btB 34 524287) rfl rfl (by kernel_rfl) (fun _ _ _ h => h) (Or.inl ⟨by rfl, ?_⟩) ?_ ?_
    rotate_left
    · intro w'
      go_simp
      with_reducible rfl
    rotate_left
    · simp only [Act.put, List.setIfInBounds_toArray, List.set_cons_zero, List.set_cons_succ]
      rfl
    refine skips_ (a' := ?_) [(19, some 38), (20, some 39), (21, some 40), (22, some 41), (23, some 42), (24, some 43)] 6 rfl (btB 34 33554431) (fun _ _ d _ h => by cases d <;> exact h) (by kernel_rfl) (by kernel_rfl) (by rfl) ?_ ?_
    rotate_left
    · simp only [skipA, List.foldl_cons, List.foldl_nil, Act.put, List.setIfInBounds_toArray, List.set_cons_zero, List.set_cons_succ]
      rfl
    refine pure_ (i := 25) (N := some 44) (v := ?_) (a' := ?_) (btB 34 67108863) rfl rfl (by kernel_rfl) (fun _ _ _ h => h) (Or.inl ⟨by rfl, ?_⟩) ?_ ?_
    rotate_left
    · intro w'
      go_simp
      with_reducible rfl
    rotate_left
    · simp only [Act.put, List.setIfInBounds_toArray, List.set_cons_zero, List.set_cons_succ]
      rfl
    refine pure_ (i := 26) (N := some 45) (v := ?_) (a' := ?_) (btB 34 134217727) rfl rfl (by kernel_rfl) (fun _ _ _ h => h) (Or.inl ⟨by rfl, ?_⟩) ?_ ?_
    rotate_left
    · intro w'
      go_simp
      with_reducible rfl
    rotate_left
    · simp only [Act.put, List.setIfInBounds_toArray, List.set_cons_zero, List.set_cons_succ]
      rfl
    refine skips_ (a' := ?_) [(27, some 46), (28, some 47), (29, some 48), (30, some 49), (31, some 50)] 5 rfl (btB 34 4294967295) (fun _ _ d _ h => by cases d <;> exact h) (by kernel_rfl) (by kernel_rfl) (by rfl) ?_ ?_
    rotate_left
    · simp only [skipA, List.foldl_cons, List.foldl_nil, Act.put, List.setIfInBounds_toArray, List.set_cons_zero, List.set_cons_succ]
      rfl
    refine pure_ (i := 32) (N := some 51) (v := ?_) (a' := ?_) (btB 34 8589934591) rfl rfl (by kernel_rfl) (fun _ _ _ h => h) (Or.inl ⟨by rfl, ?_⟩) ?_ ?_
    rotate_left
    · intro w'
      go_simp
      with_reducible rfl
    rotate_left
    · simp only [Act.put, List.setIfInBounds_toArray, List.set_cons_zero, List.set_cons_succ]
      rfl
    refine pure_ (i := 33) (N := some 5) (v := ?_) (a' := ?_) (btB 34 17179869183) rfl rfl (by kernel_rfl) (fun _ _ _ h => h) (Or.inl ⟨by rfl, ?_⟩) ?_ ?_
    rotate_left
    · intro w'
      go_simp
      with_reducible rfl
    rotate_left
    · simp only [Act.put, List.setIfInBounds_toArray, List.set_cons_zero, List.set_cons_succ]
      rfl
    refine done_ (by kernel_rfl) ?_
    go_wp2
    go_ret
    exact ⟨rfl, hHeld.1.out, hHeld.2.2.2.1.out⟩
  · skip
    refine pure_ (i := 3) (N := some 22) (v := ?_) (a' := ?_) (btB 34 15) rfl rfl (by kernel_rfl) (fun _ _ _ h => h) (Or.inl ⟨by rfl, ?_⟩) ?_ ?_
    rotate_left
    · intro w'
      go_simp
      with_reducible rfl
    rotate_left
    · simp only [Act.put, List.setIfInBounds_toArray, List.set_cons_zero, List.set_cons_succ]
      rfl
    refine pure_ (i := 4) (N := some 23) (v := ?_) (a' := ?_) (btB 34 31) rfl rfl (by kernel_rfl) (fun _ _ _ h => h) (Or.inl ⟨by rfl, ?_⟩) ?_ ?_
    rotate_left
    · intro w'
      go_simp
      with_reducible rfl
    rotate_left
    · simp only [Act.put, List.setIfInBounds_toArray, List.set_cons_zero, List.set_cons_succ]
      rfl
    refine take_ (i := 5) (N := some 24) (v := ?_) (a' := ?_) (btB 34 63) rfl rfl (by kernel_rfl) (fun _ _ _ h => h) (Or.inl ⟨by rfl, ?_⟩) hHeld ?_ ?_
    rotate_left
    · rintro w' ⟨_, _, _, _, k1, k2, k3, k4, k5, k6, k7, k8⟩
      go_simp
      with_reducible rfl
    rotate_left
    · simp only [Act.put, List.setIfInBounds_toArray, List.set_cons_zero, List.set_cons_succ]
      rfl
    refine take_ (i := 7) (N := some 26) (v := ?_) (a' := ?_) (btB 34 191) rfl rfl (by kernel_rfl) (fun _ _ _ h => h) (Or.inl ⟨by rfl, ?_⟩) hHeld ?_ ?_
    rotate_left
    · rintro w' ⟨_, _, _, _, k1, k2, k3, k4, k5, k6, k7, k8⟩
      go_simp
      with_reducible rfl
    rotate_left
    · simp only [Act.put, List.setIfInBounds_toArray, List.set_cons_zero, List.set_cons_succ]
      rfl
    refine one_ (i := 6) (N := some 25) (btB 34 255) rfl rfl (by kernel_rfl) (by decide) (fun K_ hK => ?_)
    refine goes_ Try.func53 (by kernel_rfl) rfl #[.agg #[.int .i64 bx, .int .i64 by']] (by rfl) rfl rfl (by (try simp only [List.map_toArray, List.map_cons, List.map_nil]); first | done | rfl) ?_
    with_reducible refine ((HFB _).out).mono ?_
    rintro e w2 ⟨rfl, hb⟩
    refine ⟨_, rfl, ?_⟩
    refine hK.out _ _ (RtS.keep hHeld hb) (fun hHeld => ?_)
    clear hK hb
    refine norm_ (a' := ?_) ?_ ?_
    rotate_left
    · show Act.put _ (some 25) _ = _
      simp only [Act.put, List.setIfInBounds_toArray, List.set_cons_zero, List.set_cons_succ]
      rfl
    cases p2
    · skip
      refine pure_ (i := 8) (N := some 27) (v := ?_) (a' := ?_) (btB 34 511) rfl rfl (by kernel_rfl) (fun _ _ _ h => h) (Or.inl ⟨by rfl, ?_⟩) ?_ ?_
      rotate_left
      · intro w'
        go_simp
        with_reducible rfl
      rotate_left
      · simp only [Act.put, List.setIfInBounds_toArray, List.set_cons_zero, List.set_cons_succ]
        rfl
      refine pure_ (i := 9) (N := some 28) (v := ?_) (a' := ?_) (btB 34 1023) rfl rfl (by kernel_rfl) (fun _ _ _ h => h) (Or.inl ⟨by rfl, ?_⟩) ?_ ?_
      rotate_left
      · intro w'
        go_simp
        with_reducible rfl
      rotate_left
      · simp only [Act.put, List.setIfInBounds_toArray, List.set_cons_zero, List.set_cons_succ]
        rfl
      refine pure_ (i := 10) (N := some 29) (v := ?_) (a' := ?_) (btB 34 2047) rfl rfl (by kernel_rfl) (fun _ _ _ h => h) (Or.inl ⟨by rfl, ?_⟩) ?_ ?_
      rotate_left
      · intro w'
        go_simp
        with_reducible rfl
      rotate_left
      · simp only [Act.put, List.setIfInBounds_toArray, List.set_cons_zero, List.set_cons_succ]
        rfl
      refine skips_ (a' := ?_) [(11, some 30), (12, some 31)] 2 rfl (btB 34 8191) (fun _ _ d _ h => by cases d <;> exact h) (by kernel_rfl) (by kernel_rfl) (by rfl) ?_ ?_
      rotate_left
      · simp only [skipA, List.foldl_cons, List.foldl_nil, Act.put, List.setIfInBounds_toArray, List.set_cons_zero, List.set_cons_succ]
        rfl
      refine pure_ (i := 13) (N := some 32) (v := ?_) (a' := ?_) (btB 34 16383) rfl rfl (by kernel_rfl) (fun _ _ _ h => h) (Or.inl ⟨by rfl, ?_⟩) ?_ ?_
      rotate_left
      · intro w'
        go_simp
        with_reducible rfl
      rotate_left
      · simp only [Act.put, List.setIfInBounds_toArray, List.set_cons_zero, List.set_cons_succ]
        rfl
      refine pure_ (i := 14) (N := some 33) (v := ?_) (a' := ?_) (btB 34 32767) rfl rfl (by kernel_rfl) (fun _ _ _ h => h) (Or.inl ⟨by rfl, ?_⟩) ?_ ?_
      rotate_left
      · intro w'
        go_simp
        with_reducible rfl
      rotate_left
      · simp only [Act.put, List.setIfInBounds_toArray, List.set_cons_zero, List.set_cons_succ]
        rfl
      refine skips_ (a' := ?_) [(15, some 34), (16, some 35)] 2 rfl (btB 34 131071) (fun _ _ d _ h => by cases d <;> exact h) (by kernel_rfl) (by kernel_rfl) (by rfl) ?_ ?_
      rotate_left
      · simp only [skipA, List.foldl_cons, List.foldl_nil, Act.put, List.setIfInBounds_toArray, List.set_cons_zero, List.set_cons_succ]
        rfl
      refine pure_ (i := 17) (N := some 36) (v := ?_) (a' := ?_) (btB 34 262143) rfl rfl (by kernel_rfl) (fun _ _ _ h => h) (Or.inl ⟨by rfl, ?_⟩) ?_ ?_
      rotate_left
      · intro w'
        go_simp
        with_reducible rfl
      rotate_left
      · simp only [Act.put, List.setIfInBounds_toArray, List.set_cons_zero, List.set_cons_succ]
        rfl
      refine pure_ (i := 18) (N := some 37) (v := ?_) (a' := ?_) (btB 34 524287) rfl rfl (by kernel_rfl) (fun _ _ _ h => h) (Or.inl ⟨by rfl, ?_⟩) ?_ ?_
      rotate_left
      · intro w'
        go_simp
        with_reducible rfl
      rotate_left
      · simp only [Act.put, List.setIfInBounds_toArray, List.set_cons_zero, List.set_cons_succ]
        rfl
      refine skips_ (a' := ?_) [(19, some 38), (20, some 39), (21, some 40), (22, some 41), (23, some 42), (24, some 43)] 6 rfl (btB 34 33554431) (fun _ _ d _ h => by cases d <;> exact h) (by kernel_rfl) (by kernel_rfl) (by rfl) ?_ ?_
      rotate_left
      · simp only [skipA, List.foldl_cons, List.foldl_nil, Act.put, List.setIfInBounds_toArray, List.set_cons_zero, List.set_cons_succ]
        rfl
      refine pure_ (i := 25) (N := some 44) (v := ?_) (a' := ?_) (btB 34 67108863) rfl rfl (by kernel_rfl) (fun _ _ _ h => h) (Or.inl ⟨by rfl, ?_⟩) ?_ ?_
      rotate_left
      · intro w'
        go_simp
        with_reducible rfl
      rotate_left
      · simp only [Act.put, List.setIfInBounds_toArray, List.set_cons_zero, List.set_cons_succ]
        rfl
      refine pure_ (i := 26) (N := some 45) (v := ?_) (a' := ?_) (btB 34 134217727) rfl rfl (by kernel_rfl) (fun _ _ _ h => h) (Or.inl ⟨by rfl, ?_⟩) ?_ ?_
      rotate_left
      · intro w'
        go_simp
        with_reducible rfl
      rotate_left
      · simp only [Act.put, List.setIfInBounds_toArray, List.set_cons_zero, List.set_cons_succ]
        rfl
      refine skips_ (a' := ?_) [(27, some 46), (28, some 47), (29, some 48), (30, some 49), (31, some 50)] 5 rfl (btB 34 4294967295) (fun _ _ d _ h => by cases d <;> exact h) (by kernel_rfl) (by kernel_rfl) (by rfl) ?_ ?_
      rotate_left
      · simp only [skipA, List.foldl_cons, List.foldl_nil, Act.put, List.setIfInBounds_toArray, List.set_cons_zero, List.set_cons_succ]
        rfl
      refine pure_ (i := 32) (N := some 51) (v := ?_) (a' := ?_) (btB 34 8589934591) rfl rfl (by kernel_rfl) (fun _ _ _ h => h) (Or.inl ⟨by rfl, ?_⟩) ?_ ?_
      rotate_left
      · intro w'
        go_simp
        with_reducible rfl
      rotate_left
      · simp only [Act.put, List.setIfInBounds_toArray, List.set_cons_zero, List.set_cons_succ]
        rfl
      refine pure_ (i := 33) (N := some 5) (v := ?_) (a' := ?_) (btB 34 17179869183) rfl rfl (by kernel_rfl) (fun _ _ _ h => h) (Or.inl ⟨by rfl, ?_⟩) ?_ ?_
      rotate_left
      · intro w'
        go_simp
        with_reducible rfl
      rotate_left
      · simp only [Act.put, List.setIfInBounds_toArray, List.set_cons_zero, List.set_cons_succ]
        rfl
      refine done_ (by kernel_rfl) ?_
      go_wp2
      go_ret
      exact ⟨rfl, hHeld.1.out, hHeld.2.2.2.1.out⟩
    · skip
      refine pure_ (i := 8) (N := some 27) (v := ?_) (a' := ?_) (btB 34 511) rfl rfl (by kernel_rfl) (fun _ _ _ h => h) (Or.inl ⟨by rfl, ?_⟩) ?_ ?_
      rotate_left
      · intro w'
        go_simp
        with_reducible rfl
      rotate_left
      · simp only [Act.put, List.setIfInBounds_toArray, List.set_cons_zero, List.set_cons_succ]
        rfl
      refine pure_ (i := 9) (N := some 28) (v := ?_) (a' := ?_) (btB 34 1023) rfl rfl (by kernel_rfl) (fun _ _ _ h => h) (Or.inl ⟨by rfl, ?_⟩) ?_ ?_
      rotate_left
      · intro w'
        go_simp
        with_reducible rfl
      rotate_left
      · simp only [Act.put, List.setIfInBounds_toArray, List.set_cons_zero, List.set_cons_succ]
        rfl
      refine pure_ (i := 10) (N := some 29) (v := ?_) (a' := ?_) (btB 34 2047) rfl rfl (by kernel_rfl) (fun _ _ _ h => h) (Or.inl ⟨by rfl, ?_⟩) ?_ ?_
      rotate_left
      · intro w'
        go_simp
        with_reducible rfl
      rotate_left
      · simp only [Act.put, List.setIfInBounds_toArray, List.set_cons_zero, List.set_cons_succ]
        rfl
      refine pure_ (i := 11) (N := some 30) (v := ?_) (a' := ?_) (btB 34 4095) rfl rfl (by kernel_rfl) (fun _ _ _ h => h) (Or.inl ⟨by rfl, ?_⟩) ?_ ?_
      rotate_left
      · intro w'
        go_simp
        with_reducible rfl
      rotate_left
      · simp only [Act.put, List.setIfInBounds_toArray, List.set_cons_zero, List.set_cons_succ]
        rfl
      cases p3
      · skip
        refine pure_ (i := 12) (N := some 31) (v := ?_) (a' := ?_) (btB 34 8191) rfl rfl (by kernel_rfl) (fun _ _ _ h => h) (Or.inl ⟨by rfl, ?_⟩) ?_ ?_
        rotate_left
        · intro w'
          go_simp
          with_reducible rfl
        rotate_left
        · simp only [Act.put, List.setIfInBounds_toArray, List.set_cons_zero, List.set_cons_succ]
          rfl
        refine pure_ (i := 13) (N := some 32) (v := ?_) (a' := ?_) (btB 34 16383) rfl rfl (by kernel_rfl) (fun _ _ _ h => h) (Or.inl ⟨by rfl, ?_⟩) ?_ ?_
        rotate_left
        · intro w'
          go_simp
          with_reducible rfl
        rotate_left
        · simp only [Act.put, List.setIfInBounds_toArray, List.set_cons_zero, List.set_cons_succ]
          rfl
        refine pure_ (i := 14) (N := some 33) (v := ?_) (a' := ?_) (btB 34 32767) rfl rfl (by kernel_rfl) (fun _ _ _ h => h) (Or.inl ⟨by rfl, ?_⟩) ?_ ?_
        rotate_left
        · intro w'
          go_simp
          with_reducible rfl
        rotate_left
        · simp only [Act.put, List.setIfInBounds_toArray, List.set_cons_zero, List.set_cons_succ]
          rfl
        refine skips_ (a' := ?_) [(15, some 34), (16, some 35)] 2 rfl (btB 34 131071) (fun _ _ d _ h => by cases d <;> exact h) (by kernel_rfl) (by kernel_rfl) (by rfl) ?_ ?_
        rotate_left
        · simp only [skipA, List.foldl_cons, List.foldl_nil, Act.put, List.setIfInBounds_toArray, List.set_cons_zero, List.set_cons_succ]
          rfl
        refine pure_ (i := 17) (N := some 36) (v := ?_) (a' := ?_) (btB 34 262143) rfl rfl (by kernel_rfl) (fun _ _ _ h => h) (Or.inl ⟨by rfl, ?_⟩) ?_ ?_
        rotate_left
        · intro w'
          go_simp
          with_reducible rfl
        rotate_left
        · simp only [Act.put, List.setIfInBounds_toArray, List.set_cons_zero, List.set_cons_succ]
          rfl
        refine pure_ (i := 18) (N := some 37) (v := ?_) (a' := ?_) (btB 34 524287) rfl rfl (by kernel_rfl) (fun _ _ _ h => h) (Or.inl ⟨by rfl, ?_⟩) ?_ ?_
        rotate_left
        · intro w'
          go_simp
          with_reducible rfl
        rotate_left
        · simp only [Act.put, List.setIfInBounds_toArray, List.set_cons_zero, List.set_cons_succ]
          rfl
        refine skips_ (a' := ?_) [(19, some 38), (20, some 39), (21, some 40), (22, some 41), (23, some 42), (24, some 43)] 6 rfl (btB 34 33554431) (fun _ _ d _ h => by cases d <;> exact h) (by kernel_rfl) (by kernel_rfl) (by rfl) ?_ ?_
        rotate_left
        · simp only [skipA, List.foldl_cons, List.foldl_nil, Act.put, List.setIfInBounds_toArray, List.set_cons_zero, List.set_cons_succ]
          rfl
        refine pure_ (i := 25) (N := some 44) (v := ?_) (a' := ?_) (btB 34 67108863) rfl rfl (by kernel_rfl) (fun _ _ _ h => h) (Or.inl ⟨by rfl, ?_⟩) ?_ ?_
        rotate_left
        · intro w'
          go_simp
          with_reducible rfl
        rotate_left
        · simp only [Act.put, List.setIfInBounds_toArray, List.set_cons_zero, List.set_cons_succ]
          rfl
        refine pure_ (i := 26) (N := some 45) (v := ?_) (a' := ?_) (btB 34 134217727) rfl rfl (by kernel_rfl) (fun _ _ _ h => h) (Or.inl ⟨by rfl, ?_⟩) ?_ ?_
        rotate_left
        · intro w'
          go_simp
          with_reducible rfl
        rotate_left
        · simp only [Act.put, List.setIfInBounds_toArray, List.set_cons_zero, List.set_cons_succ]
          rfl
        refine skips_ (a' := ?_) [(27, some 46), (28, some 47), (29, some 48), (30, some 49), (31, some 50)] 5 rfl (btB 34 4294967295) (fun _ _ d _ h => by cases d <;> exact h) (by kernel_rfl) (by kernel_rfl) (by rfl) ?_ ?_
        rotate_left
        · simp only [skipA, List.foldl_cons, List.foldl_nil, Act.put, List.setIfInBounds_toArray, List.set_cons_zero, List.set_cons_succ]
          rfl
        refine pure_ (i := 32) (N := some 51) (v := ?_) (a' := ?_) (btB 34 8589934591) rfl rfl (by kernel_rfl) (fun _ _ _ h => h) (Or.inl ⟨by rfl, ?_⟩) ?_ ?_
        rotate_left
        · intro w'
          go_simp
          with_reducible rfl
        rotate_left
        · simp only [Act.put, List.setIfInBounds_toArray, List.set_cons_zero, List.set_cons_succ]
          rfl
        refine pure_ (i := 33) (N := some 5) (v := ?_) (a' := ?_) (btB 34 17179869183) rfl rfl (by kernel_rfl) (fun _ _ _ h => h) (Or.inl ⟨by rfl, ?_⟩) ?_ ?_
        rotate_left
        · intro w'
          go_simp
          with_reducible rfl
        rotate_left
        · simp only [Act.put, List.setIfInBounds_toArray, List.set_cons_zero, List.set_cons_succ]
          rfl
        refine done_ (by kernel_rfl) ?_
        go_wp2
        go_ret
        exact ⟨rfl, hHeld.1.out, hHeld.2.2.2.1.out⟩
      · skip
        refine pure_ (i := 12) (N := some 31) (v := ?_) (a' := ?_) (btB 34 8191) rfl rfl (by kernel_rfl) (fun _ _ _ h => h) (Or.inl ⟨by rfl, ?_⟩) ?_ ?_
        rotate_left
        · intro w'
          go_simp
          with_reducible rfl
        rotate_left
        · simp only [Act.put, List.setIfInBounds_toArray, List.set_cons_zero, List.set_cons_succ]
          rfl
        refine pure_ (i := 13) (N := some 32) (v := ?_) (a' := ?_) (btB 34 16383) rfl rfl (by kernel_rfl) (fun _ _ _ h => h) (Or.inl ⟨by rfl, ?_⟩) ?_ ?_
        rotate_left
        · intro w'
          go_simp
          with_reducible rfl
        rotate_left
        · simp only [Act.put, List.setIfInBounds_toArray, List.set_cons_zero, List.set_cons_succ]
          rfl
        refine pure_ (i := 14) (N := some 33) (v := ?_) (a' := ?_) (btB 34 32767) rfl rfl (by kernel_rfl) (fun _ _ _ h => h) (Or.inl ⟨by rfl, ?_⟩) ?_ ?_
        rotate_left
        · intro w'
          go_simp
          with_reducible rfl
        rotate_left
        · simp only [Act.put, List.setIfInBounds_toArray, List.set_cons_zero, List.set_cons_succ]
          rfl
        refine pure_ (i := 15) (N := some 34) (v := ?_) (a' := ?_) (btB 34 65535) rfl rfl (by kernel_rfl) (fun _ _ _ h => h) (Or.inl ⟨by rfl, ?_⟩) ?_ ?_
        rotate_left
        · intro w'
          go_simp
          with_reducible rfl
        rotate_left
        · simp only [Act.put, List.setIfInBounds_toArray, List.set_cons_zero, List.set_cons_succ]
          rfl
        cases p4
        · skip
          refine pure_ (i := 16) (N := some 35) (v := ?_) (a' := ?_) (btB 34 131071) rfl rfl (by kernel_rfl) (fun _ _ _ h => h) (Or.inl ⟨by rfl, ?_⟩) ?_ ?_
          rotate_left
          · intro w'
            go_simp
            with_reducible rfl
          rotate_left
          · simp only [Act.put, List.setIfInBounds_toArray, List.set_cons_zero, List.set_cons_succ]
            rfl
          refine pure_ (i := 17) (N := some 36) (v := ?_) (a' := ?_) (btB 34 262143) rfl rfl (by kernel_rfl) (fun _ _ _ h => h) (Or.inl ⟨by rfl, ?_⟩) ?_ ?_
          rotate_left
          · intro w'
            go_simp
            with_reducible rfl
          rotate_left
          · simp only [Act.put, List.setIfInBounds_toArray, List.set_cons_zero, List.set_cons_succ]
            rfl
          refine pure_ (i := 18) (N := some 37) (v := ?_) (a' := ?_) (btB 34 524287) rfl rfl (by kernel_rfl) (fun _ _ _ h => h) (Or.inl ⟨by rfl, ?_⟩) ?_ ?_
          rotate_left
          · intro w'
            go_simp
            with_reducible rfl
          rotate_left
          · simp only [Act.put, List.setIfInBounds_toArray, List.set_cons_zero, List.set_cons_succ]
            rfl
          refine skips_ (a' := ?_) [(19, some 38), (20, some 39), (21, some 40), (22, some 41), (23, some 42), (24, some 43)] 6 rfl (btB 34 33554431) (fun _ _ d _ h => by cases d <;> exact h) (by kernel_rfl) (by kernel_rfl) (by rfl) ?_ ?_
          rotate_left
          · simp only [skipA, List.foldl_cons, List.foldl_nil, Act.put, List.setIfInBounds_toArray, List.set_cons_zero, List.set_cons_succ]
            rfl
          refine pure_ (i := 25) (N := some 44) (v := ?_) (a' := ?_) (btB 34 67108863) rfl rfl (by kernel_rfl) (fun _ _ _ h => h) (Or.inl ⟨by rfl, ?_⟩) ?_ ?_
          rotate_left
          · intro w'
            go_simp
            with_reducible rfl
          rotate_left
          · simp only [Act.put, List.setIfInBounds_toArray, List.set_cons_zero, List.set_cons_succ]
            rfl
          refine pure_ (i := 26) (N := some 45) (v := ?_) (a' := ?_) (btB 34 134217727) rfl rfl (by kernel_rfl) (fun _ _ _ h => h) (Or.inl ⟨by rfl, ?_⟩) ?_ ?_
          rotate_left
          · intro w'
            go_simp
            with_reducible rfl
          rotate_left
          · simp only [Act.put, List.setIfInBounds_toArray, List.set_cons_zero, List.set_cons_succ]
            rfl
          refine skips_ (a' := ?_) [(27, some 46), (28, some 47), (29, some 48), (30, some 49), (31, some 50)] 5 rfl (btB 34 4294967295) (fun _ _ d _ h => by cases d <;> exact h) (by kernel_rfl) (by kernel_rfl) (by rfl) ?_ ?_
          rotate_left
          · simp only [skipA, List.foldl_cons, List.foldl_nil, Act.put, List.setIfInBounds_toArray, List.set_cons_zero, List.set_cons_succ]
            rfl
          refine pure_ (i := 32) (N := some 51) (v := ?_) (a' := ?_) (btB 34 8589934591) rfl rfl (by kernel_rfl) (fun _ _ _ h => h) (Or.inl ⟨by rfl, ?_⟩) ?_ ?_
          rotate_left
          · intro w'
            go_simp
            with_reducible rfl
          rotate_left
          · simp only [Act.put, List.setIfInBounds_toArray, List.set_cons_zero, List.set_cons_succ]
            rfl
          refine pure_ (i := 33) (N := some 5) (v := ?_) (a' := ?_) (btB 34 17179869183) rfl rfl (by kernel_rfl) (fun _ _ _ h => h) (Or.inl ⟨by rfl, ?_⟩) ?_ ?_
          rotate_left
          · intro w'
            go_simp
            with_reducible rfl
          rotate_left
          · simp only [Act.put, List.setIfInBounds_toArray, List.set_cons_zero, List.set_cons_succ]
            rfl
          refine done_ (by kernel_rfl) ?_
          go_wp2
          go_ret
          exact ⟨rfl, hHeld.1.out, hHeld.2.2.2.1.out⟩
        · skip
          refine pure_ (i := 16) (N := some 35) (v := ?_) (a' := ?_) (btB 34 131071) rfl rfl (by kernel_rfl) (fun _ _ _ h => h) (Or.inl ⟨by rfl, ?_⟩) ?_ ?_
          rotate_left
          · intro w'
            go_simp
            with_reducible rfl
          rotate_left
          · simp only [Act.put, List.setIfInBounds_toArray, List.set_cons_zero, List.set_cons_succ]
            rfl
          refine pure_ (i := 17) (N := some 36) (v := ?_) (a' := ?_) (btB 34 262143) rfl rfl (by kernel_rfl) (fun _ _ _ h => h) (Or.inl ⟨by rfl, ?_⟩) ?_ ?_
          rotate_left
          · intro w'
            go_simp
            with_reducible rfl
          rotate_left
          · simp only [Act.put, List.setIfInBounds_toArray, List.set_cons_zero, List.set_cons_succ]
            rfl
          refine pure_ (i := 18) (N := some 37) (v := ?_) (a' := ?_) (btB 34 524287) rfl rfl (by kernel_rfl) (fun _ _ _ h => h) (Or.inl ⟨by rfl, ?_⟩) ?_ ?_
          rotate_left
          · intro w'
            go_simp
            with_reducible rfl
          rotate_left
          · simp only [Act.put, List.setIfInBounds_toArray, List.set_cons_zero, List.set_cons_succ]
            rfl
          refine pure_ (i := 19) (N := some 38) (v := ?_) (a' := ?_) (btB 34 1048575) rfl rfl (by kernel_rfl) (fun _ _ _ h => h) (Or.inl ⟨by rfl, ?_⟩) ?_ ?_
          rotate_left
          · intro w'
            go_simp
            with_reducible rfl
          rotate_left
          · simp only [Act.put, List.setIfInBounds_toArray, List.set_cons_zero, List.set_cons_succ]
            rfl
          refine pure_ (i := 20) (N := some 39) (v := ?_) (a' := ?_) (btB 34 2097151) rfl rfl (by kernel_rfl) (fun _ _ _ h => h) (Or.inl ⟨by rfl, ?_⟩) ?_ ?_
          rotate_left
          · intro w'
            go_simp
            with_reducible rfl
          rotate_left
          · simp only [Act.put, List.setIfInBounds_toArray, List.set_cons_zero, List.set_cons_succ]
            rfl
          refine pure_ (i := 21) (N := some 40) (v := ?_) (a' := ?_) (btB 34 4194303) rfl rfl (by kernel_rfl) (fun _ _ _ h => h) (Or.inl ⟨by rfl, ?_⟩) ?_ ?_
          rotate_left
          · intro w'
            go_simp
            with_reducible rfl
          rotate_left
          · simp only [Act.put, List.setIfInBounds_toArray, List.set_cons_zero, List.set_cons_succ]
            rfl
          refine pure_ (i := 22) (N := some 41) (v := ?_) (a' := ?_) (btB 34 8388607) rfl rfl (by kernel_rfl) (fun _ _ _ h => h) (Or.inl ⟨by rfl, ?_⟩) ?_ ?_
          rotate_left
          · intro w'
            go_simp
            with_reducible rfl
          rotate_left
          · simp only [Act.put, List.setIfInBounds_toArray, List.set_cons_zero, List.set_cons_succ]
            rfl
          refine pure_ (i := 23) (N := some 42) (v := ?_) (a' := ?_) (btB 34 16777215) rfl rfl (by kernel_rfl) (fun _ _ _ h => h) (Or.inl ⟨by rfl, ?_⟩) ?_ ?_
          rotate_left
          · intro w'
            go_simp
            with_reducible rfl
          rotate_left
          · simp only [Act.put, List.setIfInBounds_toArray, List.set_cons_zero, List.set_cons_succ]
            rfl
          cases p5
          · skip
            refine pure_ (i := 24) (N := some 43) (v := ?_) (a' := ?_) (btB 34 33554431) rfl rfl (by kernel_rfl) (fun _ _ _ h => h) (Or.inl ⟨by rfl, ?_⟩) ?_ ?_
            rotate_left
            · intro w'
              go_simp
              with_reducible rfl
            rotate_left
            · simp only [Act.put, List.setIfInBounds_toArray, List.set_cons_zero, List.set_cons_succ]
              rfl
            refine pure_ (i := 25) (N := some 44) (v := ?_) (a' := ?_) (btB 34 67108863) rfl rfl (by kernel_rfl) (fun _ _ _ h => h) (Or.inl ⟨by rfl, ?_⟩) ?_ ?_
            rotate_left
            · intro w'
              go_simp
              with_reducible rfl
            rotate_left
            · simp only [Act.put, List.setIfInBounds_toArray, List.set_cons_zero, List.set_cons_succ]
              rfl
            refine pure_ (i := 26) (N := some 45) (v := ?_) (a' := ?_) (btB 34 134217727) rfl rfl (by kernel_rfl) (fun _ _ _ h => h) (Or.inl ⟨by rfl, ?_⟩) ?_ ?_
            rotate_left
            · intro w'
              go_simp
              with_reducible rfl
            rotate_left
            · simp only [Act.put, List.setIfInBounds_toArray, List.set_cons_zero, List.set_cons_succ]
              rfl
            refine skips_ (a' := ?_) [(27, some 46), (28, some 47), (29, some 48), (30, some 49), (31, some 50)] 5 rfl (btB 34 4294967295) (fun _ _ d _ h => by cases d <;> exact h) (by kernel_rfl) (by kernel_rfl) (by rfl) ?_ ?_
            rotate_left
            · simp only [skipA, List.foldl_cons, List.foldl_nil, Act.put, List.setIfInBounds_toArray, List.set_cons_zero, List.set_cons_succ]
              rfl
            refine pure_ (i := 32) (N := some 51) (v := ?_) (a' := ?_) (btB 34 8589934591) rfl rfl (by kernel_rfl) (fun _ _ _ h => h) (Or.inl ⟨by rfl, ?_⟩) ?_ ?_
            rotate_left
            · intro w'
              go_simp
              with_reducible rfl
            rotate_left
            · simp only [Act.put, List.setIfInBounds_toArray, List.set_cons_zero, List.set_cons_succ]
              rfl
            refine pure_ (i := 33) (N := some 5) (v := ?_) (a' := ?_) (btB 34 17179869183) rfl rfl (by kernel_rfl) (fun _ _ _ h => h) (Or.inl ⟨by rfl, ?_⟩) ?_ ?_
            rotate_left
            · intro w'
              go_simp
              with_reducible rfl
            rotate_left
            · simp only [Act.put, List.setIfInBounds_toArray, List.set_cons_zero, List.set_cons_succ]
              rfl
            refine done_ (by kernel_rfl) ?_
            go_wp2
            go_ret
            exact ⟨rfl, hHeld.1.out, hHeld.2.2.2.1.out⟩
          · skip
            refine pure_ (i := 24) (N := some 43) (v := ?_) (a' := ?_) (btB 34 33554431) rfl rfl (by kernel_rfl) (fun _ _ _ h => h) (Or.inl ⟨by rfl, ?_⟩) ?_ ?_
            rotate_left
            · intro w'
              go_simp
              with_reducible rfl
            rotate_left
            · simp only [Act.put, List.setIfInBounds_toArray, List.set_cons_zero, List.set_cons_succ]
              rfl
            refine pure_ (i := 25) (N := some 44) (v := ?_) (a' := ?_) (btB 34 67108863) rfl rfl (by kernel_rfl) (fun _ _ _ h => h) (Or.inl ⟨by rfl, ?_⟩) ?_ ?_
            rotate_left
            · intro w'
              go_simp
              with_reducible rfl
            rotate_left
            · simp only [Act.put, List.setIfInBounds_toArray, List.set_cons_zero, List.set_cons_succ]
              rfl
            refine pure_ (i := 26) (N := some 45) (v := ?_) (a' := ?_) (btB 34 134217727) rfl rfl (by kernel_rfl) (fun _ _ _ h => h) (Or.inl ⟨by rfl, ?_⟩) ?_ ?_
            rotate_left
            · intro w'
              go_simp
              with_reducible rfl
            rotate_left
            · simp only [Act.put, List.setIfInBounds_toArray, List.set_cons_zero, List.set_cons_succ]
              rfl
            refine pure_ (i := 27) (N := some 46) (v := ?_) (a' := ?_) (btB 34 268435455) rfl rfl (by kernel_rfl) (fun _ _ _ h => h) (Or.inl ⟨by rfl, ?_⟩) ?_ ?_
            rotate_left
            · intro w'
              go_simp
              with_reducible rfl
            rotate_left
            · simp only [Act.put, List.setIfInBounds_toArray, List.set_cons_zero, List.set_cons_succ]
              rfl
            refine pure_ (i := 28) (N := some 47) (v := ?_) (a' := ?_) (btB 34 536870911) rfl rfl (by kernel_rfl) (fun _ _ _ h => h) (Or.inl ⟨by rfl, ?_⟩) ?_ ?_
            rotate_left
            · intro w'
              go_simp
              with_reducible rfl
            rotate_left
            · simp only [Act.put, List.setIfInBounds_toArray, List.set_cons_zero, List.set_cons_succ]
              rfl
            refine pure_ (i := 29) (N := some 48) (v := ?_) (a' := ?_) (btB 34 1073741823) rfl rfl (by kernel_rfl) (fun _ _ _ h => h) (Or.inl ⟨by rfl, ?_⟩) ?_ ?_
            rotate_left
            · intro w'
              go_simp
              with_reducible rfl
            rotate_left
            · simp only [Act.put, List.setIfInBounds_toArray, List.set_cons_zero, List.set_cons_succ]
              rfl
            refine pure_ (i := 30) (N := some 49) (v := ?_) (a' := ?_) (btB 34 2147483647) rfl rfl (by kernel_rfl) (fun _ _ _ h => h) (Or.inl ⟨by rfl, ?_⟩) ?_ ?_
            rotate_left
            · intro w'
              go_simp
              with_reducible rfl
            rotate_left
            · simp only [Act.put, List.setIfInBounds_toArray, List.set_cons_zero, List.set_cons_succ]
              rfl
            cases p6
            · skip
              refine pure_ (i := 31) (N := some 50) (v := ?_) (a' := ?_) (btB 34 4294967295) rfl rfl (by kernel_rfl) (fun _ _ _ h => h) (Or.inl ⟨by rfl, ?_⟩) ?_ ?_
              rotate_left
              · intro w'
                go_simp
                with_reducible rfl
              rotate_left
              · simp only [Act.put, List.setIfInBounds_toArray, List.set_cons_zero, List.set_cons_succ]
                rfl
              refine pure_ (i := 32) (N := some 51) (v := ?_) (a' := ?_) (btB 34 8589934591) rfl rfl (by kernel_rfl) (fun _ _ _ h => h) (Or.inl ⟨by rfl, ?_⟩) ?_ ?_
              rotate_left
              · intro w'
                go_simp
                with_reducible rfl
              rotate_left
              · simp only [Act.put, List.setIfInBounds_toArray, List.set_cons_zero, List.set_cons_succ]
                rfl
              refine pure_ (i := 33) (N := some 5) (v := ?_) (a' := ?_) (btB 34 17179869183) rfl rfl (by kernel_rfl) (fun _ _ _ h => h) (Or.inl ⟨by rfl, ?_⟩) ?_ ?_
              rotate_left
              · intro w'
                go_simp
                with_reducible rfl
              rotate_left
              · simp only [Act.put, List.setIfInBounds_toArray, List.set_cons_zero, List.set_cons_succ]
                rfl
              refine done_ (by kernel_rfl) ?_
              go_wp2
              go_ret
              exact ⟨rfl, hHeld.1.out, hHeld.2.2.2.1.out⟩
            · skip
              refine pure_ (i := 31) (N := some 50) (v := ?_) (a' := ?_) (btB 34 4294967295) rfl rfl (by kernel_rfl) (fun _ _ _ h => h) (Or.inl ⟨by rfl, ?_⟩) ?_ ?_
              rotate_left
              · intro w'
                go_simp
                with_reducible rfl
              rotate_left
              · simp only [Act.put, List.setIfInBounds_toArray, List.set_cons_zero, List.set_cons_succ]
                rfl
              refine pure_ (i := 32) (N := some 51) (v := ?_) (a' := ?_) (btB 34 8589934591) rfl rfl (by kernel_rfl) (fun _ _ _ h => h) (Or.inl ⟨by rfl, ?_⟩) ?_ ?_
              rotate_left
              · intro w'
                go_simp
                with_reducible rfl
              rotate_left
              · simp only [Act.put, List.setIfInBounds_toArray, List.set_cons_zero, List.set_cons_succ]
                rfl
              refine pure_ (i := 33) (N := some 5) (v := ?_) (a' := ?_) (btB 34 17179869183) rfl rfl (by kernel_rfl) (fun _ _ _ h => h) (Or.inl ⟨by rfl, ?_⟩) ?_ ?_
              rotate_left
              · intro w'
                go_simp
                with_reducible rfl
              rotate_left
              · simp only [Act.put, List.setIfInBounds_toArray, List.set_cons_zero, List.set_cons_succ]
                rfl
              refine done_ (by kernel_rfl) ?_
              go_wp2
              go_ret
              exact ⟨rfl, hHeld.1.out, hHeld.2.2.2.1.out⟩
end Go.Proofs.Ytpoghhcpoimepaa.P
end
section
/- fence.edges: through a ring's edges. -/
namespace Go.Proofs.Ytpoghhcpoimepaa.P
open Go.Proofs.Ytpoghhcpoimepaa.B Go.RowKit Go.Proofs.YtpoghhcpoimepaaW.PrintWords Go.Proofs.YtpoghhcpoimepaaW.PrintLast Go.Proofs.YtpoghhcpoimepaaW.PrintMore Go.Proofs.Ytpoghhcpoimepaa.FX Go.Proofs.Ytpoghhcpoimepaa.H
set_option linter.unusedVariables false
set_option linter.unusedSimpArgs false
def BoolPost (T F : World → Prop) (e : Ending) (w' : World) : Prop := ∃ b : Bool, e = .returned (.bool b) ∧ (b = true → T w') ∧ (b = false → F w')
theorem rd_T24_get (l : List S24) (i : Nat) (h : i < l.length) : rd_T24 l (i : Int) = l[i] := by
  rw [rd_T24, List.getD_eq_getElem?_getD, Int.toNat_natCast, List.getElem?_eq_getElem h]; rfl
set_option maxHeartbeats 1000000 in
set_option maxRecDepth 100000 in
theorem edges1_calls (fn : Nat) (c1 : Value) (I : Nat → World → Prop) (F : World → Prop) (he : ∀ args w, (callFunc fn args).run Try.prog w = .ok (.enter fn args) w) (A : Option Addr) (c : Nat) (l : List S24)
    (hC : ∀ i W, I i W → Kd.C k24 W A l.length l) (hK : ∀ i W W', I i W → Below W.heap.size W W' → I i W')
    (hs : ∀ (i : Nat) (hi : i < l.length) (W : World), I i W → Calls Try.prog fn #[.agg #[.int .i64 (l[i]).f0, .int .i64 (l[i]).f1], .agg #[.int .i64 (rd_T24 l (((i + 1) % l.length : Nat) : Int)).f0, .int .i64 (rd_T24 l (((i + 1) % l.length : Nat) : Int)).f1], c1] W fun e W' => ∃ b : Bool, e = .returned (.bool b) ∧ (b = true → I (i + 1) W') ∧ (b = false → F W'))
    (w : World) (h0 : I 0 w) : Calls Try.prog 46 #[.slice A l.length c, .func (.func fn) #[] #[c1]] w (BoolPost (I l.length) F) := by
  have hmax := Kd.C_max (hC 0 w h0)
  have HC := fun i W h => Aside0.mk (hC i W h); clear hC
  have HK := fun i W W' h hb => Aside0.mk (hK i W W' h hb); clear hK
  have HST := fun i hi W h => Aside0.mk (hs i hi W h); clear hs
  have H0 := Aside0.mk h0; clear h0
  go_enter Try.func46, Try.ntmps46
  go_wp2
  go_loopw [9] (fun v wr => ∃ i : Nat, i ≤ l.length ∧ v = .int .i64 i ∧ Aside0 (I i wr)) (fun v _ => l.length - (intOf v).toNat)
  case atStart => exact ⟨0, by omega, rfl, H0⟩
  case round =>
    obtain ⟨i, hi, rfl, HI⟩ := hrel
    by_cases hlt : i < l.length
    · obtain ⟨ad, hA, x0, x1⟩ := at_T24 (HC i wr HI.out).out (i : Int) (by omega) (by omega)
      subst hA
      rw [Int.toNat_natCast] at x0 x1
      have hx := rd_T24_get l i hlt
      have HS := HST i hlt
      obtain ⟨j, hj⟩ : ∃ j, (i + 1) % l.length = j := ⟨_, rfl⟩
      have hjl : j < l.length := by rw [← hj]; exact Nat.mod_lt _ (by omega)
      obtain ⟨ad', hA', y0, y1⟩ := at_T24 (HC i wr HI.out).out (j : Int) (by omega) (by omega)
      obtain rfl := Option.some.inj hA'
      clear hA'
      rw [Int.toNat_natCast] at y0 y1
      have hjt : Int.tmod ((i : Int) + 1) (l.length : Int) = (j : Int) := by
        rw [Int.tmod_eq_emod_of_nonneg (by omega), ← hj]; rfl
      have hne : ¬ l = [] := by rintro rfl; simp at hlt
      have hwr : IntKind.i64.wrap ((i : Int) + 1) = (i : Int) + 1 := by rw [IntKind.wrap_i64]; have := hmax; omega
      have hje : ((i : Int) + 1) % (l.length : Int) = (j : Int) := by rw [← hj]; rfl
      go_upto_region 4 with fail
      have bx := blk_new wr (.cells #[.int .i64 l[i].f0, .int .i64 l[i].f1] 24)
      have hI2 := (HK i wr (wr.alloc (.cells #[.int .i64 l[i].f0, .int .i64 l[i].f1] 24)).drew HI.out (below_drew (below_alloc (Below.refl _ _) _))).out
      have hb1 : Below wr.heap.size wr (wr.alloc (.cells #[.int .i64 l[i].f0, .int .i64 l[i].f1] 24)).drew := below_drew (below_alloc (Below.refl _ _) _)
      have z0 := (hb1.cell (World.block_lt_of_cell? wr _ y0)).trans y0; have z1 := (hb1.cell (World.block_lt_of_cell? wr _ y1)).trans y1
      refine start_ (n := 12) (S := fun w' => w'.cell? ⟨wr.heap.size, 0, none⟩ = some (.int .i64 l[i].f0) ∧ w'.cell? ⟨wr.heap.size, 1, none⟩ = some (.int .i64 l[i].f1) ∧ w'.cell? (ad.add (j * 2)) = some (.int .i64 (rd_T24 l (j : Int)).f0) ∧ w'.cell? ⟨(ad.add (j * 2)).block, (ad.add (j * 2)).off + 1, none⟩ = some (.int .i64 (rd_T24 l (j : Int)).f1)) (ds := [10]) #[false, false, false, false, false, false, false, false, false, false, false, false] (by kernel_rfl) rfl rfl ⟨blk_cell bx 0, blk_cell bx 1, z0, z1⟩ (fun hHeld => ?_)
      have HST2 := Aside0.mk (HS _ hI2).out
      rw [hj] at HST2
      generalize (wr.alloc (.cells #[.int .i64 l[i].f0, .int .i64 l[i].f1] 24)).drew = w2 at hHeld HST2 ⊢
      clear bx hI2 hb1 z0 z1
      refine pure_ (i := 0) (N := some 14) (v := ?_) (a' := ?_) #[true, false, false, false, false, false, false, false, false, false, false, false] rfl rfl (by kernel_rfl) (fun _ _ _ h => h) (Or.inl ⟨by rfl, ?_⟩) ?_ ?_
      rotate_left
      · intro w'
        go_simp
        with_reducible rfl
      rotate_left
      · simp only [Act.put, List.setIfInBounds_toArray, List.set_cons_zero, List.set_cons_succ]
        rfl
      refine take_ (i := 1) (N := some 15) (v := ?_) (a' := ?_) #[true, true, false, false, false, false, false, false, false, false, false, false] rfl rfl (by kernel_rfl) (fun _ _ _ h => h) (Or.inl ⟨by rfl, ?_⟩) hHeld ?_ ?_
      rotate_left
      · rintro w' ⟨k1, k2, k3, k4⟩
        go_simp
        with_reducible rfl
      rotate_left
      · simp only [Act.put, List.setIfInBounds_toArray, List.set_cons_zero, List.set_cons_succ]
        rfl
      refine pure_ (i := 2) (N := some 16) (v := ?_) (a' := ?_) #[true, true, true, false, false, false, false, false, false, false, false, false] rfl rfl (by kernel_rfl) (fun _ _ _ h => h) (Or.inl ⟨by rfl, ?_⟩) ?_ ?_
      rotate_left
      · intro w'
        go_simp
        with_reducible rfl
      rotate_left
      · simp only [Act.put, List.setIfInBounds_toArray, List.set_cons_zero, List.set_cons_succ]
        rfl
      refine pure_ (i := 3) (N := some 17) (v := ?_) (a' := ?_) #[true, true, true, true, false, false, false, false, false, false, false, false] rfl rfl (by kernel_rfl) (fun _ _ _ h => h) (Or.inl ⟨by rfl, ?_⟩) ?_ ?_
      rotate_left
      · intro w'
        go_simp
        with_reducible rfl
      rotate_left
      · simp only [Act.put, List.setIfInBounds_toArray, List.set_cons_zero, List.set_cons_succ]
        rfl
      refine pure_ (i := 4) (N := some 18) (v := ?_) (a' := ?_) #[true, true, true, true, true, false, false, false, false, false, false, false] rfl rfl (by kernel_rfl) (fun _ _ _ h => h) (Or.inl ⟨by rfl, ?_⟩) ?_ ?_
      rotate_left
      · intro w'
        go_simp
        with_reducible rfl
      rotate_left
      · simp only [Act.put, List.setIfInBounds_toArray, List.set_cons_zero, List.set_cons_succ]
        rfl
      refine pure_ (i := 5) (N := some 19) (v := ?_) (a' := ?_) #[true, true, true, true, true, true, false, false, false, false, false, false] rfl rfl (by kernel_rfl) (fun _ _ _ h => h) (Or.inl ⟨by rfl, ?_⟩) ?_ ?_
      rotate_left
      · intro w'
        go_simp
        with_reducible rfl
      rotate_left
      · simp only [Act.put, List.setIfInBounds_toArray, List.set_cons_zero, List.set_cons_succ]
        rfl
      refine pure_ (i := 6) (N := some 20) (v := ?_) (a' := ?_) #[true, true, true, true, true, true, true, false, false, false, false, false] rfl rfl (by kernel_rfl) (fun _ _ _ h => h) (Or.inl ⟨by rfl, ?_⟩) ?_ ?_
      rotate_left
      · intro w'
        go_simp
        with_reducible rfl
      rotate_left
      · simp only [Act.put, List.setIfInBounds_toArray, List.set_cons_zero, List.set_cons_succ]
        rfl
      refine pure_ (i := 7) (N := some 21) (v := ?_) (a' := ?_) #[true, true, true, true, true, true, true, true, false, false, false, false] rfl rfl (by kernel_rfl) (fun _ _ _ h => h) (Or.inl ⟨by rfl, ?_⟩) ?_ ?_
      rotate_left
      · intro w'
        go_simp
        with_reducible rfl
      rotate_left
      · simp only [Act.put, List.setIfInBounds_toArray, List.set_cons_zero, List.set_cons_succ]
        rfl
      refine pure_ (i := 8) (N := some 22) (v := ?_) (a' := ?_) #[true, true, true, true, true, true, true, true, true, false, false, false] rfl rfl (by kernel_rfl) (fun _ _ _ h => h) (Or.inl ⟨by rfl, ?_⟩) ?_ ?_
      rotate_left
      · intro w'
        go_simp
        with_reducible rfl
      rotate_left
      · simp only [Act.put, List.setIfInBounds_toArray, List.set_cons_zero, List.set_cons_succ]
        rfl
      refine take_ (i := 9) (N := some 23) (v := ?_) (a' := ?_) #[true, true, true, true, true, true, true, true, true, true, false, false] rfl rfl (by kernel_rfl) (fun _ _ _ h => h) (Or.inl ⟨by rfl, ?_⟩) hHeld ?_ ?_
      rotate_left
      · rintro w' ⟨k1, k2, k3, k4⟩
        go_simp
        with_reducible rfl
      rotate_left
      · simp only [Act.put, List.setIfInBounds_toArray, List.set_cons_zero, List.set_cons_succ]
        rfl
      refine last_ (i := 10) (N := some 24) #[true, true, true, true, true, true, true, true, true, true, true, false] rfl rfl (by kernel_rfl) (by decide) (fun K_ hK => ?_)
      rw [if_pos (by rfl)]
      go_wp2_with (go_at_fn fn; (with_reducible refine HST2.out.mono ?_); rintro e w3 ⟨b, rfl, hT, hF⟩; have HTT := Aside0.mk hT; have HFF := Aside0.mk hF; clear hT hF)
      refine hK.out _ _ ?_
      clear hK
      refine pure_ (i := 11) (N := some 25) (v := ?_) (a' := ?_) #[true, true, true, true, true, true, true, true, true, true, true, true] rfl rfl (by kernel_rfl) (fun _ _ _ h => h) (Or.inl ⟨by rfl, ?_⟩) ?_ ?_
      rotate_left
      · intro w'
        go_simp
        with_reducible rfl
      rotate_left
      · simp only [Act.put, List.setIfInBounds_toArray, List.set_cons_zero, List.set_cons_succ]
        rfl
      refine done_ (by kernel_rfl) ?_
      cases b
      · go_wp2
        go_ret
        exact ⟨false, rfl, (fun h => Bool.noConfusion h), (fun _ => HFF.out (by first | rfl | trivial))⟩
      · go_wp2
        go_roundw
        case rel => exact ⟨i + 1, by omega, by go_num, ⟨HTT.out (by first | rfl | trivial)⟩⟩
        case measure => simp [intOf]; omega
    · obtain rfl : i = l.length := by omega
      go_wp2
      go_ret
      exact ⟨true, rfl, (fun _ => HI.out), (fun h => Bool.noConfusion h)⟩
set_option maxHeartbeats 1000000 in
set_option maxRecDepth 100000 in
theorem edges2_calls (fn : Nat) (c1 c2 : Value) (I : Nat → World → Prop) (F : World → Prop) (he : ∀ args w, (callFunc fn args).run Try.prog w = .ok (.enter fn args) w) (A : Option Addr) (c : Nat) (l : List S24)
    (hC : ∀ i W, I i W → Kd.C k24 W A l.length l) (hK : ∀ i W W', I i W → Below W.heap.size W W' → I i W')
    (hs : ∀ (i : Nat) (hi : i < l.length) (W : World), I i W → Calls Try.prog fn #[.agg #[.int .i64 (l[i]).f0, .int .i64 (l[i]).f1], .agg #[.int .i64 (rd_T24 l (((i + 1) % l.length : Nat) : Int)).f0, .int .i64 (rd_T24 l (((i + 1) % l.length : Nat) : Int)).f1], c1, c2] W fun e W' => ∃ b : Bool, e = .returned (.bool b) ∧ (b = true → I (i + 1) W') ∧ (b = false → F W'))
    (w : World) (h0 : I 0 w) : Calls Try.prog 46 #[.slice A l.length c, .func (.func fn) #[] #[c1, c2]] w (BoolPost (I l.length) F) := by
  have hmax := Kd.C_max (hC 0 w h0)
  have HC := fun i W h => Aside0.mk (hC i W h); clear hC
  have HK := fun i W W' h hb => Aside0.mk (hK i W W' h hb); clear hK
  have HST := fun i hi W h => Aside0.mk (hs i hi W h); clear hs
  have H0 := Aside0.mk h0; clear h0
  go_enter Try.func46, Try.ntmps46
  go_wp2
  go_loopw [9] (fun v wr => ∃ i : Nat, i ≤ l.length ∧ v = .int .i64 i ∧ Aside0 (I i wr)) (fun v _ => l.length - (intOf v).toNat)
  case atStart => exact ⟨0, by omega, rfl, H0⟩
  case round =>
    obtain ⟨i, hi, rfl, HI⟩ := hrel
    by_cases hlt : i < l.length
    · obtain ⟨ad, hA, x0, x1⟩ := at_T24 (HC i wr HI.out).out (i : Int) (by omega) (by omega)
      subst hA
      rw [Int.toNat_natCast] at x0 x1
      have hx := rd_T24_get l i hlt
      have HS := HST i hlt
      obtain ⟨j, hj⟩ : ∃ j, (i + 1) % l.length = j := ⟨_, rfl⟩
      have hjl : j < l.length := by rw [← hj]; exact Nat.mod_lt _ (by omega)
      obtain ⟨ad', hA', y0, y1⟩ := at_T24 (HC i wr HI.out).out (j : Int) (by omega) (by omega)
      obtain rfl := Option.some.inj hA'
      clear hA'
      rw [Int.toNat_natCast] at y0 y1
      have hjt : Int.tmod ((i : Int) + 1) (l.length : Int) = (j : Int) := by
        rw [Int.tmod_eq_emod_of_nonneg (by omega), ← hj]; rfl
      have hne : ¬ l = [] := by rintro rfl; simp at hlt
      have hwr : IntKind.i64.wrap ((i : Int) + 1) = (i : Int) + 1 := by rw [IntKind.wrap_i64]; have := hmax; omega
      have hje : ((i : Int) + 1) % (l.length : Int) = (j : Int) := by rw [← hj]; rfl
      go_upto_region 4 with fail
      have bx := blk_new wr (.cells #[.int .i64 l[i].f0, .int .i64 l[i].f1] 24)
      have hI2 := (HK i wr (wr.alloc (.cells #[.int .i64 l[i].f0, .int .i64 l[i].f1] 24)).drew HI.out (below_drew (below_alloc (Below.refl _ _) _))).out
      have hb1 : Below wr.heap.size wr (wr.alloc (.cells #[.int .i64 l[i].f0, .int .i64 l[i].f1] 24)).drew := below_drew (below_alloc (Below.refl _ _) _)
      have z0 := (hb1.cell (World.block_lt_of_cell? wr _ y0)).trans y0; have z1 := (hb1.cell (World.block_lt_of_cell? wr _ y1)).trans y1
      refine start_ (n := 12) (S := fun w' => w'.cell? ⟨wr.heap.size, 0, none⟩ = some (.int .i64 l[i].f0) ∧ w'.cell? ⟨wr.heap.size, 1, none⟩ = some (.int .i64 l[i].f1) ∧ w'.cell? (ad.add (j * 2)) = some (.int .i64 (rd_T24 l (j : Int)).f0) ∧ w'.cell? ⟨(ad.add (j * 2)).block, (ad.add (j * 2)).off + 1, none⟩ = some (.int .i64 (rd_T24 l (j : Int)).f1)) (ds := [10]) #[false, false, false, false, false, false, false, false, false, false, false, false] (by kernel_rfl) rfl rfl ⟨blk_cell bx 0, blk_cell bx 1, z0, z1⟩ (fun hHeld => ?_)
      have HST2 := Aside0.mk (HS _ hI2).out
      rw [hj] at HST2
      generalize (wr.alloc (.cells #[.int .i64 l[i].f0, .int .i64 l[i].f1] 24)).drew = w2 at hHeld HST2 ⊢
      clear bx hI2 hb1 z0 z1
      refine pure_ (i := 0) (N := some 14) (v := ?_) (a' := ?_) #[true, false, false, false, false, false, false, false, false, false, false, false] rfl rfl (by kernel_rfl) (fun _ _ _ h => h) (Or.inl ⟨by rfl, ?_⟩) ?_ ?_
      rotate_left
      · intro w'
        go_simp
        with_reducible rfl
      rotate_left
      · simp only [Act.put, List.setIfInBounds_toArray, List.set_cons_zero, List.set_cons_succ]
        rfl
      refine take_ (i := 1) (N := some 15) (v := ?_) (a' := ?_) #[true, true, false, false, false, false, false, false, false, false, false, false] rfl rfl (by kernel_rfl) (fun _ _ _ h => h) (Or.inl ⟨by rfl, ?_⟩) hHeld ?_ ?_
      rotate_left
      · rintro w' ⟨k1, k2, k3, k4⟩
        go_simp
        with_reducible rfl
      rotate_left
      · simp only [Act.put, List.setIfInBounds_toArray, List.set_cons_zero, List.set_cons_succ]
        rfl
      refine pure_ (i := 2) (N := some 16) (v := ?_) (a' := ?_) #[true, true, true, false, false, false, false, false, false, false, false, false] rfl rfl (by kernel_rfl) (fun _ _ _ h => h) (Or.inl ⟨by rfl, ?_⟩) ?_ ?_
      rotate_left
      · intro w'
        go_simp
        with_reducible rfl
      rotate_left
      · simp only [Act.put, List.setIfInBounds_toArray, List.set_cons_zero, List.set_cons_succ]
        rfl
      refine pure_ (i := 3) (N := some 17) (v := ?_) (a' := ?_) #[true, true, true, true, false, false, false, false, false, false, false, false] rfl rfl (by kernel_rfl) (fun _ _ _ h => h) (Or.inl ⟨by rfl, ?_⟩) ?_ ?_
      rotate_left
      · intro w'
        go_simp
        with_reducible rfl
      rotate_left
      · simp only [Act.put, List.setIfInBounds_toArray, List.set_cons_zero, List.set_cons_succ]
        rfl
      refine pure_ (i := 4) (N := some 18) (v := ?_) (a' := ?_) #[true, true, true, true, true, false, false, false, false, false, false, false] rfl rfl (by kernel_rfl) (fun _ _ _ h => h) (Or.inl ⟨by rfl, ?_⟩) ?_ ?_
      rotate_left
      · intro w'
        go_simp
        with_reducible rfl
      rotate_left
      · simp only [Act.put, List.setIfInBounds_toArray, List.set_cons_zero, List.set_cons_succ]
        rfl
      refine pure_ (i := 5) (N := some 19) (v := ?_) (a' := ?_) #[true, true, true, true, true, true, false, false, false, false, false, false] rfl rfl (by kernel_rfl) (fun _ _ _ h => h) (Or.inl ⟨by rfl, ?_⟩) ?_ ?_
      rotate_left
      · intro w'
        go_simp
        with_reducible rfl
      rotate_left
      · simp only [Act.put, List.setIfInBounds_toArray, List.set_cons_zero, List.set_cons_succ]
        rfl
      refine pure_ (i := 6) (N := some 20) (v := ?_) (a' := ?_) #[true, true, true, true, true, true, true, false, false, false, false, false] rfl rfl (by kernel_rfl) (fun _ _ _ h => h) (Or.inl ⟨by rfl, ?_⟩) ?_ ?_
      rotate_left
      · intro w'
        go_simp
        with_reducible rfl
      rotate_left
      · simp only [Act.put, List.setIfInBounds_toArray, List.set_cons_zero, List.set_cons_succ]
        rfl
      refine pure_ (i := 7) (N := some 21) (v := ?_) (a' := ?_) #[true, true, true, true, true, true, true, true, false, false, false, false] rfl rfl (by kernel_rfl) (fun _ _ _ h => h) (Or.inl ⟨by rfl, ?_⟩) ?_ ?_
      rotate_left
      · intro w'
        go_simp
        with_reducible rfl
      rotate_left
      · simp only [Act.put, List.setIfInBounds_toArray, List.set_cons_zero, List.set_cons_succ]
        rfl
      refine pure_ (i := 8) (N := some 22) (v := ?_) (a' := ?_) #[true, true, true, true, true, true, true, true, true, false, false, false] rfl rfl (by kernel_rfl) (fun _ _ _ h => h) (Or.inl ⟨by rfl, ?_⟩) ?_ ?_
      rotate_left
      · intro w'
        go_simp
        with_reducible rfl
      rotate_left
      · simp only [Act.put, List.setIfInBounds_toArray, List.set_cons_zero, List.set_cons_succ]
        rfl
      refine take_ (i := 9) (N := some 23) (v := ?_) (a' := ?_) #[true, true, true, true, true, true, true, true, true, true, false, false] rfl rfl (by kernel_rfl) (fun _ _ _ h => h) (Or.inl ⟨by rfl, ?_⟩) hHeld ?_ ?_
      rotate_left
      · rintro w' ⟨k1, k2, k3, k4⟩
        go_simp
        with_reducible rfl
      rotate_left
      · simp only [Act.put, List.setIfInBounds_toArray, List.set_cons_zero, List.set_cons_succ]
        rfl
      refine last_ (i := 10) (N := some 24) #[true, true, true, true, true, true, true, true, true, true, true, false] rfl rfl (by kernel_rfl) (by decide) (fun K_ hK => ?_)
      rw [if_pos (by rfl)]
      go_wp2_with (go_at_fn fn; (with_reducible refine HST2.out.mono ?_); rintro e w3 ⟨b, rfl, hT, hF⟩; have HTT := Aside0.mk hT; have HFF := Aside0.mk hF; clear hT hF)
      refine hK.out _ _ ?_
      clear hK
      refine pure_ (i := 11) (N := some 25) (v := ?_) (a' := ?_) #[true, true, true, true, true, true, true, true, true, true, true, true] rfl rfl (by kernel_rfl) (fun _ _ _ h => h) (Or.inl ⟨by rfl, ?_⟩) ?_ ?_
      rotate_left
      · intro w'
        go_simp
        with_reducible rfl
      rotate_left
      · simp only [Act.put, List.setIfInBounds_toArray, List.set_cons_zero, List.set_cons_succ]
        rfl
      refine done_ (by kernel_rfl) ?_
      cases b
      · go_wp2
        go_ret
        exact ⟨false, rfl, (fun h => Bool.noConfusion h), (fun _ => HFF.out (by first | rfl | trivial))⟩
      · go_wp2
        go_roundw
        case rel => exact ⟨i + 1, by omega, by go_num, ⟨HTT.out (by first | rfl | trivial)⟩⟩
        case measure => simp [intOf]; omega
    · obtain rfl : i = l.length := by omega
      go_wp2
      go_ret
      exact ⟨true, rfl, (fun _ => HI.out), (fun h => Bool.noConfusion h)⟩
end Go.Proofs.Ytpoghhcpoimepaa.P
end
section
/- Floats: the other sign; comparisons; complex sums and products of whole numbers. -/
namespace Go.Proofs.Ytpoghhcpoimepaa.FX
open Go
set_option linter.unusedVariables false
set_option linter.unusedSimpArgs false
theorem xor_mod2 (a b : Nat) : (a ^^^ b) % 2 = (a + b) % 2 := by
  have h := Nat.xor_mod_two_pow (a := a) (b := b) (n := 1)
  simp only [Nat.pow_one] at h
  rw [h]
  rcases Nat.mod_two_eq_zero_or_one a with ha | ha <;> rcases Nat.mod_two_eq_zero_or_one b with hb | hb <;> rw [ha, hb] <;> simp <;> omega
theorem negF_read (b : Nat) : Ieee.double.read (Op.negFloat .f64 b) = match Ieee.double.read b with | .number s m p => .number (!s) m p | .infinity s => .infinity (!s) | .nan s f => .nan (!s) f := by
  have hW : Ieee.double.signWeight = 2 ^ 63 := by decide
  have e1 : Op.negFloat .f64 b % 2 ^ 63 = b % 2 ^ 63 := by
    show (b ^^^ 2 ^ 63) % 2 ^ 63 = _
    rw [Nat.xor_mod_two_pow, Nat.mod_self, Nat.xor_zero]
  have e2 : (Op.negFloat .f64 b / 2 ^ 63 % 2 == 1) = !(b / 2 ^ 63 % 2 == 1) := by
    show ((b ^^^ 2 ^ 63) / 2 ^ 63 % 2 == 1) = _
    rw [Nat.xor_div_two_pow, Nat.div_self (by decide)]
    have : (b / 2 ^ 63 ^^^ 1) % 2 = (b / 2 ^ 63 + 1) % 2 := xor_mod2 _ _
    rw [this]
    rcases Nat.mod_two_eq_zero_or_one (b / 2 ^ 63) with h | h
    · rw [h, Nat.add_mod, h]; rfl
    · rw [h, Nat.add_mod, h]; rfl
  unfold Ieee.Format.read
  simp only [hW, e1, e2]
  split
  · rfl
  · split
    · rfl
    · split <;> rfl
theorem negF_isF {b : Nat} {n : Int} (h : IsF b n) : IsF (Op.negFloat .f64 b) (-n) := by
  obtain ⟨s, m, p, hd, hv, hs⟩ := h
  unfold IsF
  rw [negF_read, hd]
  exact opp_val ⟨s, m, p, rfl, hv, hs⟩
theorem isF_zero : IsF 0 0 := by
  exact ⟨false, 0, -1074, by decide, by rw [Int.natAbs_zero, Nat.zero_mul, Nat.zero_mul], fun h => absurd rfl h⟩
theorem val_order {x y : Ieee.Datum} {n k : Int} (hx : Val x n) (hy : Val y k) : (x.order y == some Ordering.eq) = decide (n = k) := by
  obtain ⟨s, m, i, rfl, hv, hs⟩ := hx
  obtain ⟨t, m', j, rfl, hv', hs'⟩ := hy
  have e1 := scaled (base := min i j) hv hs (by omega)
  have e2 := scaled (base := min i j) hv' hs' (by omega)
  show (some (compare (Ieee.signed s m (i - min i j).toNat) (Ieee.signed t m' (j - min i j).toNat)) == some Ordering.eq) = _
  have p1 : ((2 ^ (min i j).toNat : Nat) : Int) ≠ 0 := by have := Nat.two_pow_pos (min i j).toNat; omega
  have p2 : ((2 ^ (-(min i j)).toNat : Nat) : Int) ≠ 0 := by have := Nat.two_pow_pos (-(min i j)).toNat; omega
  generalize Ieee.signed s m (i - min i j).toNat = S at *
  generalize Ieee.signed t m' (j - min i j).toNat = T at *
  generalize ((2 ^ (min i j).toNat : Nat) : Int) = D at *
  generalize ((2 ^ (-(min i j)).toNat : Nat) : Int) = E at *
  have key : S = T ↔ n = k := by
    constructor
    · rintro rfl
      exact Int.eq_of_mul_eq_mul_right p2 (e1.symm.trans e2)
    · rintro rfl
      exact Int.eq_of_mul_eq_mul_right p1 (e1.trans e2.symm)
  have hc : (some (compare S T) == some Ordering.eq) = decide (S = T) := by
    by_cases h : S = T
    · subst h; simp [compare, compareOfLessAndEq]
    · rw [decide_eq_false h]
      have : compare S T ≠ .eq := by
        simp only [compare, compareOfLessAndEq]
        split
        · decide
        · first | decide | (rw [if_neg h]; decide)
      cases hcmp : compare S T <;> simp_all
  rw [hc]
  exact decide_eq_decide.2 key
theorem isF_order {a b : Nat} {n k : Int} (hx : IsF a n) (hy : IsF b k) : (FloatKind.f64.format.order a b == some Ordering.eq) = decide (n = k) := val_order hx hy
/-- The difference of two complex numbers of whole parts. -/
theorem c_sub {a b c d : Nat} {n m k l : Int} (ha : IsF a n) (hb : IsF b m) (hc : IsF c k) (hd : IsF d l) (h1 : (n - k).natAbs < 2 ^ 53) (h2 : (m - l).natAbs < 2 ^ 53) :
    ∃ re im, cSumBits .sub .f64 a b c d = some (re, im) ∧ IsF re (n - k) ∧ IsF im (m - l) := by
  obtain ⟨re, f1, h1⟩ := isF_sub ha hc h1
  obtain ⟨im, f2, h2⟩ := isF_sub hb hd h2
  exact ⟨re, im, by unfold cSumBits; rw [f1, Option.bind_some, f2, Option.bind_some], h1, h2⟩
theorem c_add {a b c d : Nat} {n m k l : Int} (ha : IsF a n) (hb : IsF b m) (hc : IsF c k) (hd : IsF d l) (h1 : (n + k).natAbs < 2 ^ 53) (h2 : (m + l).natAbs < 2 ^ 53) :
    ∃ re im, cSumBits .add .f64 a b c d = some (re, im) ∧ IsF re (n + k) ∧ IsF im (m + l) := by
  obtain ⟨re, f1, h1⟩ := isF_add ha hc h1
  obtain ⟨im, f2, h2⟩ := isF_add hb hd h2
  exact ⟨re, im, by unfold cSumBits; rw [f1, Option.bind_some, f2, Option.bind_some], h1, h2⟩
theorem c_mul {a b c d : Nat} {n m k l : Int} (ha : IsF a n) (hb : IsF b m) (hc : IsF c k) (hd : IsF d l)
    (g1 : (n * k).natAbs < 2 ^ 53) (g2 : (m * l).natAbs < 2 ^ 53) (g3 : (n * l).natAbs < 2 ^ 53) (g4 : (m * k).natAbs < 2 ^ 53) (g5 : (n * k - m * l).natAbs < 2 ^ 53) (g6 : (n * l + m * k).natAbs < 2 ^ 53) :
    ∃ re im, cMulBits a b c d = some (re, im) ∧ IsF re (n * k - m * l) ∧ IsF im (n * l + m * k) := by
  obtain ⟨p1, f1, h1⟩ := isF_mul ha hc g1
  obtain ⟨p2, f2, h2⟩ := isF_mul hb hd g2
  obtain ⟨re, f3, h3⟩ := isF_sub h1 h2 g5
  obtain ⟨p4, f4, h4⟩ := isF_mul ha hd g3
  obtain ⟨p5, f5, h5⟩ := isF_mul hb hc g4
  obtain ⟨im, f6, h6⟩ := isF_add h4 h5 g6
  exact ⟨re, im, by unfold cMulBits; rw [f1, Option.bind_some, f2, Option.bind_some, f3, Option.bind_some, f4, Option.bind_some, f5, Option.bind_some, f6, Option.bind_some], h3, h6⟩
theorem cb_sub {a b c d e : Nat} (ha : Bd a e) (hb : Bd b e) (hc : Bd c e) (hd : Bd d e) (he : e ≤ 900) : ∃ re im, cSumBits .sub .f64 a b c d = some (re, im) ∧ Bd re (e + 2) ∧ Bd im (e + 2) := by
  obtain ⟨re, f1, h1⟩ := bd_sub ha hc he
  obtain ⟨im, f2, h2⟩ := bd_sub hb hd he
  exact ⟨re, im, by unfold cSumBits; rw [f1, Option.bind_some, f2, Option.bind_some], h1, h2⟩
theorem cb_mul {a b c d e f : Nat} (ha : Bd a e) (hb : Bd b e) (hc : Bd c f) (hd : Bd d f) (he : e + f ≤ 800) : ∃ re im, cMulBits a b c d = some (re, im) := by
  obtain ⟨p1, f1, h1⟩ := bd_mul ha hc (by omega)
  obtain ⟨p2, f2, h2⟩ := bd_mul hb hd (by omega)
  obtain ⟨re, f3, h3⟩ := bd_sub h1 h2 (by omega)
  obtain ⟨p4, f4, h4⟩ := bd_mul ha hd (by omega)
  obtain ⟨p5, f5, h5⟩ := bd_mul hb hc (by omega)
  obtain ⟨im, f6, h6⟩ := bd_add h4 h5 (by omega)
  exact ⟨re, im, by unfold cMulBits; rw [f1, Option.bind_some, f2, Option.bind_some, f3, Option.bind_some, f4, Option.bind_some, f5, Option.bind_some, f6, Option.bind_some]⟩
end Go.Proofs.Ytpoghhcpoimepaa.FX
end
section
/- The closures of fence.Area and fence.Cell. -/
namespace Go.Proofs.Ytpoghhcpoimepaa.P
open Go.Proofs.Ytpoghhcpoimepaa.B Go.RowKit Go.Proofs.YtpoghhcpoimepaaW.PrintWords Go.Proofs.YtpoghhcpoimepaaW.PrintLast Go.Proofs.YtpoghhcpoimepaaW.PrintMore Go.Proofs.Ytpoghhcpoimepaa.FX Go.Proofs.Ytpoghhcpoimepaa.H
set_option linter.unusedVariables false
set_option linter.unusedSimpArgs false
theorem run_store_complex {P : Program} {w : World} {ad : Addr} {m : Mode} (k : FloatKind) (a b : Nat) : (store ad (.complex k a b) m).run P w = stored P w ad (.complex k a b) m := run_store P w ad _ m rfl
attribute [local go_sem] max2_int min2_int max_two min_two run_store_complex
abbrev ArS (w0 : World) (g sr si : Nat) (ax ay bx by' : Int) (w' : World) : Prop :=
  Aside0 (w'.heap[g]? = some (.cells #[.complex .f64 sr si] 61 (0, 0))) ∧ Aside0 (w'.heap[w0.heap.size]? = some (.cells #[.int .i64 ax, .int .i64 ay] 24 (0, 0))) ∧ Aside0 (w'.heap[w0.heap.size + 1]? = some (.cells #[.int .i64 bx, .int .i64 by'] 24 (0, 0))) ∧ Aside0 (Below g w0 w') ∧ w'.cell? ⟨g, 0, none⟩ = some (.complex .f64 sr si) ∧ w'.cell? ⟨w0.heap.size, 0, none⟩ = some (.int .i64 ax) ∧ w'.cell? ⟨w0.heap.size, 1, none⟩ = some (.int .i64 ay) ∧ w'.cell? ⟨w0.heap.size + 1, 0, none⟩ = some (.int .i64 bx) ∧ w'.cell? ⟨w0.heap.size + 1, 1, none⟩ = some (.int .i64 by') ∧ w'.frozen? ⟨g, 0, none⟩ = false
theorem ArS.mk {w0 : World} {g sr si : Nat} {ax ay bx by' : Int} {w' : World} (h0 : w'.heap[g]? = some (.cells #[.complex .f64 sr si] 61 (0, 0))) (h1 : w'.heap[w0.heap.size]? = some (.cells #[.int .i64 ax, .int .i64 ay] 24 (0, 0))) (h2 : w'.heap[w0.heap.size + 1]? = some (.cells #[.int .i64 bx, .int .i64 by'] 24 (0, 0))) (hB : Below g w0 w') : ArS w0 g sr si ax ay bx by' w' :=
  ⟨⟨h0⟩, ⟨h1⟩, ⟨h2⟩, ⟨hB⟩, blk_cell h0 0, blk_cell h1 0, blk_cell h1 1, blk_cell h2 0, blk_cell h2 1, blk_frozen h0 0⟩
theorem ArS.keep {w0 : World} {g sr si : Nat} {ax ay bx by' : Int} {w1 w2 : World} (h : ArS w0 g sr si ax ay bx by' w1) (hb : Below w1.heap.size w1 w2) : ArS w0 g sr si ax ay bx by' w2 :=
  ArS.mk (blk_keep h.1.out hb) (blk_keep h.2.1.out hb) (blk_keep h.2.2.1.out hb) (h.2.2.2.1.out.trans (hb.mono (Nat.le_of_lt (lt_blk h.1.out))))
theorem ArS.drew {w0 : World} {g sr si : Nat} {ax ay bx by' : Int} {w1 : World} (h : ArS w0 g sr si ax ay bx by' w1) : ArS w0 g sr si ax ay bx by' w1.drew :=
  ArS.mk h.1.out h.2.1.out h.2.2.1.out h.2.2.2.1.out.drew
set_option maxHeartbeats 2000000 in
set_option maxRecDepth 100000 in
theorem area1_calls (g sr si mr mi re im : Nat) (ax ay bx by' : Int) (w : World) (hg : w.heap[g]? = some (.cells #[.complex .f64 sr si] 61 (0, 0)))
    (e1 : ∀ W : World, (binOp .mul 61 (.complex .f64 (floatOfInt .f64 ax) (Op.negFloat .f64 (floatOfInt .f64 ay))) (.complex .f64 (floatOfInt .f64 bx) (floatOfInt .f64 by'))).run Try.prog W = .ok (.complex .f64 mr mi) W)
    (e2 : ∀ W : World, (binOp .add 61 (.complex .f64 sr si) (.complex .f64 mr mi)).run Try.prog W = .ok (.complex .f64 re im) W) :
    Calls Try.prog 47 #[.agg #[.int .i64 ax, .int .i64 ay], .agg #[.int .i64 bx, .int .i64 by'], .pointer (some ⟨g, 0, none⟩)] w fun e w' => e = .returned (.bool true) ∧ w'.heap[g]? = some (.cells #[.complex .f64 re im] 61 (0, 0)) ∧ Below g w w' := by
  have hneg : ∀ W : World, (Op.unary .neg (.float .f64 (floatOfInt .f64 ay))).run Try.prog W = .ok (.float .f64 (Op.negFloat .f64 (floatOfInt .f64 ay))) W := fun W => rfl
  have hlt := lt_blk hg
  have a1 := blk_new w (.cells #[.int .i64 ax, .int .i64 ay] 24)
  have a2 := blk_new (w.alloc (.cells #[.int .i64 ax, .int .i64 ay] 24)) (.cells #[.int .i64 bx, .int .i64 by'] 24)
  rw [alloc_size] at a2
  have HS : ArS w g sr si ax ay bx by' ((w.alloc (.cells #[.int .i64 ax, .int .i64 ay] 24)).alloc (.cells #[.int .i64 bx, .int .i64 by'] 24)) := ArS.mk (blk_keep hg (below_alloc (below_alloc (Below.refl _ _) _) _)) (blk_keep a1 (below_alloc (Below.refl _ _) _)) a2 ((below_alloc (below_alloc (Below.refl _ _) _) _).mono (by omega))
  clear a1 a2 hg
  go_enter Try.func47, Try.ntmps47
  go_upto_region 1 with fail
  refine start_ (n := 14) (S := ArS w g sr si ax ay bx by') (ds := [13]) #[false, false, false, false, false, false, false, false, false, false, false, false, false, false] (by kernel_rfl) rfl rfl (ArS.drew HS) (fun hHeld => ?_)
  clear HS
  refine take_ (i := 0) (N := some 6) (v := ?_) (a' := ?_) #[true, false, false, false, false, false, false, false, false, false, false, false, false, false] rfl rfl (by kernel_rfl) (fun _ _ _ h => h) (Or.inl ⟨by rfl, ?_⟩) hHeld ?_ ?_
  rotate_left
  · rintro w' ⟨_, _, _, _, k1, k2, k3, k4, k5, k6⟩
    go_simp
    with_reducible rfl
  rotate_left
  · simp only [Act.put, List.setIfInBounds_toArray, List.set_cons_zero, List.set_cons_succ]
    rfl
  refine pure_ (i := 1) (N := some 7) (v := ?_) (a' := ?_) #[true, true, false, false, false, false, false, false, false, false, false, false, false, false] rfl rfl (by kernel_rfl) (fun _ _ _ h => h) (Or.inl ⟨by rfl, ?_⟩) ?_ ?_
  rotate_left
  · intro w'
    go_simp
    with_reducible rfl
  rotate_left
  · simp only [Act.put, List.setIfInBounds_toArray, List.set_cons_zero, List.set_cons_succ]
    rfl
  refine take_ (i := 2) (N := some 8) (v := ?_) (a' := ?_) #[true, true, true, false, false, false, false, false, false, false, false, false, false, false] rfl rfl (by kernel_rfl) (fun _ _ _ h => h) (Or.inl ⟨by rfl, ?_⟩) hHeld ?_ ?_
  rotate_left
  · rintro w' ⟨_, _, _, _, k1, k2, k3, k4, k5, k6⟩
    go_simp
    with_reducible rfl
  rotate_left
  · simp only [Act.put, List.setIfInBounds_toArray, List.set_cons_zero, List.set_cons_succ]
    rfl
  refine pure_ (i := 3) (N := some 9) (v := ?_) (a' := ?_) #[true, true, true, true, false, false, false, false, false, false, false, false, false, false] rfl rfl (by kernel_rfl) (fun _ _ _ h => h) (Or.inl ⟨by rfl, ?_⟩) ?_ ?_
  rotate_left
  · intro w'
    go_simp
    with_reducible rfl
  rotate_left
  · simp only [Act.put, List.setIfInBounds_toArray, List.set_cons_zero, List.set_cons_succ]
    rfl
  refine pure_ (i := 4) (N := some 10) (v := ?_) (a' := ?_) #[true, true, true, true, true, false, false, false, false, false, false, false, false, false] rfl rfl (by kernel_rfl) (fun _ _ _ h => h) (Or.inl ⟨by rfl, ?_⟩) ?_ ?_
  rotate_left
  · intro w'
    go_simp
    with_reducible rfl
  rotate_left
  · simp only [Act.put, List.setIfInBounds_toArray, List.set_cons_zero, List.set_cons_succ]
    rfl
  refine take_ (i := 5) (N := some 11) (v := ?_) (a' := ?_) #[true, true, true, true, true, true, false, false, false, false, false, false, false, false] rfl rfl (by kernel_rfl) (fun _ _ _ h => h) (Or.inl ⟨by rfl, ?_⟩) hHeld ?_ ?_
  rotate_left
  · rintro w' ⟨_, _, _, _, k1, k2, k3, k4, k5, k6⟩
    go_simp
    with_reducible rfl
  rotate_left
  · simp only [Act.put, List.setIfInBounds_toArray, List.set_cons_zero, List.set_cons_succ]
    rfl
  refine pure_ (i := 6) (N := some 12) (v := ?_) (a' := ?_) #[true, true, true, true, true, true, true, false, false, false, false, false, false, false] rfl rfl (by kernel_rfl) (fun _ _ _ h => h) (Or.inl ⟨by rfl, ?_⟩) ?_ ?_
  rotate_left
  · intro w'
    go_simp
    with_reducible rfl
  rotate_left
  · simp only [Act.put, List.setIfInBounds_toArray, List.set_cons_zero, List.set_cons_succ]
    rfl
  refine pure_ (i := 7) (N := some 13) (v := ?_) (a' := ?_) #[true, true, true, true, true, true, true, true, false, false, false, false, false, false] rfl rfl (by kernel_rfl) (fun _ _ _ h => h) (Or.inl ⟨by rfl, ?_⟩) ?_ ?_
  rotate_left
  · intro w'
    go_simp
    with_reducible rfl
  rotate_left
  · simp only [Act.put, List.setIfInBounds_toArray, List.set_cons_zero, List.set_cons_succ]
    rfl
  refine pure_ (i := 8) (N := some 14) (v := ?_) (a' := ?_) #[true, true, true, true, true, true, true, true, true, false, false, false, false, false] rfl rfl (by kernel_rfl) (fun _ _ _ h => h) (Or.inl ⟨by rfl, ?_⟩) ?_ ?_
  rotate_left
  · intro w'
    go_simp
    with_reducible rfl
  rotate_left
  · simp only [Act.put, List.setIfInBounds_toArray, List.set_cons_zero, List.set_cons_succ]
    rfl
  refine take_ (i := 9) (N := some 15) (v := ?_) (a' := ?_) #[true, true, true, true, true, true, true, true, true, true, false, false, false, false] rfl rfl (by kernel_rfl) (fun _ _ _ h => h) (Or.inl ⟨by rfl, ?_⟩) hHeld ?_ ?_
  rotate_left
  · rintro w' ⟨_, _, _, _, k1, k2, k3, k4, k5, k6⟩
    go_simp
    with_reducible rfl
  rotate_left
  · simp only [Act.put, List.setIfInBounds_toArray, List.set_cons_zero, List.set_cons_succ]
    rfl
  refine one_ (i := 10) (N := some 16) #[true, true, true, true, true, true, true, true, true, true, true, false, false, false] rfl rfl (by kernel_rfl) (by decide) (fun K_ hK => ?_)
  refine goes_ Try.func48 (by kernel_rfl) rfl #[.agg #[.int .i64 bx, .int .i64 by']] (by rfl) rfl rfl (by (try simp only [List.map_toArray, List.map_cons, List.map_nil]); first | done | rfl) ?_
  with_reducible refine ((fplane_calls bx by' _)).mono ?_
  rintro e w2 ⟨rfl, hb⟩
  refine ⟨_, rfl, ?_⟩
  refine hK.out _ _ (ArS.keep hHeld hb) (fun hHeld => ?_)
  clear hK hb
  refine norm_ (a' := ?_) ?_ ?_
  rotate_left
  · show Act.put _ (some 16) _ = _
    simp only [Act.put, List.setIfInBounds_toArray, List.set_cons_zero, List.set_cons_succ]
    rfl
  refine pure_ (i := 11) (N := some 17) (v := ?_) (a' := ?_) #[true, true, true, true, true, true, true, true, true, true, true, true, false, false] rfl rfl (by kernel_rfl) (fun _ _ _ h => h) (Or.inl ⟨by rfl, ?_⟩) ?_ ?_
  rotate_left
  · intro w'
    go_simp
    with_reducible rfl
  rotate_left
  · simp only [Act.put, List.setIfInBounds_toArray, List.set_cons_zero, List.set_cons_succ]
    rfl
  refine pure_ (i := 12) (N := some 18) (v := ?_) (a' := ?_) #[true, true, true, true, true, true, true, true, true, true, true, true, true, false] rfl rfl (by kernel_rfl) (fun _ _ _ h => h) (Or.inl ⟨by rfl, ?_⟩) ?_ ?_
  rotate_left
  · intro w'
    go_simp
    with_reducible rfl
  rotate_left
  · simp only [Act.put, List.setIfInBounds_toArray, List.set_cons_zero, List.set_cons_succ]
    rfl
  refine last_ (i := 13) (N := none) #[true, true, true, true, true, true, true, true, true, true, true, true, true, true] rfl rfl (by kernel_rfl) (by decide) (fun K_ hK => ?_)
  have HS := hHeld
  obtain ⟨_, _, _, _, k1, k2, k3, k4, k5, k6⟩ := hHeld
  rw [if_pos (by rfl)]
  go_wp2
  refine hK.out _ _ ?_
  refine done_ (by kernel_rfl) ?_
  go_wp2
  go_ret
  exact ⟨rfl, blk_set HS.1.out 0 _, HS.2.2.2.1.out.setCell (Nat.le_refl g) _⟩
end Go.Proofs.Ytpoghhcpoimepaa.P
end
section
/- gauss.Turn. -/
namespace Go.Proofs.Ytpoghhcpoimepaa.P
open Go.Proofs.Ytpoghhcpoimepaa.B Go.RowKit Go.Proofs.YtpoghhcpoimepaaW.PrintWords Go.Proofs.YtpoghhcpoimepaaW.PrintLast Go.Proofs.YtpoghhcpoimepaaW.PrintMore Go.Proofs.Ytpoghhcpoimepaa.FX Go.Proofs.Ytpoghhcpoimepaa.H
set_option linter.unusedVariables false
set_option linter.unusedSimpArgs false
theorem and_three (n : Int) : bits .and .i64 n 3 = n % 4 := by
  show IntKind.i64.wrap (((BitVec.ofInt 64 n &&& BitVec.ofInt 64 3).toNat : Nat) : Int) = _
  rw [BitVec.toNat_and, BitVec.toNat_ofInt, BitVec.toNat_ofInt, show ((3 : Int) % ((2 ^ 64 : Nat) : Int)).toNat = 2 ^ 2 - 1 from by decide, Nat.and_two_pow_sub_one_eq_mod, wrap_i64]
  unfold wrap64
  omega
def rot : Nat → Int → Int → Int × Int
  | 0, x, y => (x, y)
  | m + 1, x, y => rot m (-y) x
theorem isF_one : IsF 4607182418800017408 1 := ⟨false, 2 ^ 52, -52, by decide, by decide, fun _ => rfl⟩
/-- A quarter. -/
theorem quarter {a b : Nat} {x y : Int} (ha : IsF a x) (hb : IsF b y) (hx : x.natAbs ≤ 1048576) (hy : y.natAbs ≤ 1048576) : ∃ re im, IsF re (-y) ∧ IsF im x ∧ ∀ (P : Program) (t : TypeId) (W : World), (binOp .mul t (.complex .f64 a b) (.complex .f64 0 4607182418800017408)).run P W = .ok (.complex .f64 re im) W := by
  obtain ⟨p1, f1, h1⟩ := isF_mul ha isF_zero (by omega)
  obtain ⟨p2, f2, h2⟩ := isF_mul hb isF_one (by omega)
  obtain ⟨re, f3, hre⟩ := isF_sub h1 h2 (by omega)
  obtain ⟨p3, f4, h3⟩ := isF_mul ha isF_one (by omega)
  obtain ⟨p4, f5, h4⟩ := isF_mul hb isF_zero (by omega)
  obtain ⟨im, f6, him⟩ := isF_add h3 h4 (by omega)
  refine ⟨re, im, ?_, ?_, fun P t W => run_complex_mul W t _ _ _ _ re im (by unfold cMulBits; rw [f1, Option.bind_some, f2, Option.bind_some, f3, Option.bind_some, f4, Option.bind_some, f5, Option.bind_some, f6, Option.bind_some])⟩
  · rw [show x * 0 - y * 1 = -y from by omega] at hre; exact hre
  · rw [show x * 1 + y * 0 = x from by omega] at him; exact him
set_option maxHeartbeats 2000000 in
set_option maxRecDepth 100000 in
theorem turn_calls (x y n : Int) (w : World) : Calls Try.prog 93 #[.agg #[.int .i64 x, .int .i64 y], .int .i64 n] w (AggPost (rot (n % 4).toNat (fx x) (fx y)).1 (rot (n % 4).toNat (fx x) (fx y)).2 w) := by
  obtain ⟨m0, hm0⟩ : ∃ m : Nat, n % 4 = m := ⟨(n % 4).toNat, by omega⟩
  have hm4 : m0 < 4 := by omega
  have hand := and_three n
  rw [hm0] at hand
  rw [hm0, Int.toNat_natCast]
  obtain ⟨X, Y, hR⟩ : ∃ X Y, rot m0 (fx x) (fx y) = (X, Y) := ⟨_, _, rfl⟩
  rw [hR]
  have hx := fx_le x
  have hy := fx_le y
  have HR := Aside0.mk hR; clear hR hm0
  have HX := Aside0.mk (show (fx x).natAbs ≤ 1048576 by omega)
  have HY := Aside0.mk (show (fx y).natAbs ≤ 1048576 by omega)
  have HFX := Aside0.mk (fx_isF x)
  have HFY := Aside0.mk (fx_isF y)
  clear hx hy
  obtain ⟨pa, hpa⟩ : ∃ pa, floatOfInt .f64 (fx x) = pa := ⟨_, rfl⟩
  obtain ⟨pb, hpb⟩ : ∃ pb, floatOfInt .f64 (fx y) = pb := ⟨_, rfl⟩
  have HPL := fun W => Aside0.mk (plane_calls x y W)
  rw [hpa] at HFX HPL
  rw [hpb] at HFY HPL
  obtain ⟨FX0, hFX0⟩ : ∃ f, fx x = f := ⟨_, rfl⟩
  obtain ⟨FY0, hFY0⟩ : ∃ f, fx y = f := ⟨_, rfl⟩
  rw [hFX0] at HFX HX HR
  rw [hFY0] at HFY HY HR
  clear hpa hpb hFX0 hFY0
  go_enter Try.func93, Try.ntmps93
  go_wp2
  refine wp_scope_enter 0 rfl ?_
  go_wp2_with (go_at_call 84; (with_reducible refine ((HPL _).out).mono ?_); rintro e w1 ⟨rfl, hb1⟩; have HB1 := Aside0.mk hb1; have hbk := blk_keep (blk_new (w.alloc (.cells #[.int .i64 x, .int .i64 y] 24)) (.cells #[.int .i64 0, .int .i64 0] 24)) hb1; rw [alloc_size] at hbk; have HBK := Aside0.mk hbk; clear hb1 hbk)
  go_step3
  simp only [Exit.then]
  rename_i hk
  refine hk _ _ ?_
  clear hk
  refine wp_label_slots 0 (by rfl) (List.range' 0 18) (fun k us wr => ∃ (m a b : Nat) (x' y' : Int), k = m ∧ m < 4 ∧ us.getD 1 undef = .int .i64 m ∧ us.getD 4 undef = .pointer (some ⟨w.heap.size + 1, 0, none⟩) ∧ us.getD 5 undef = .complex .f64 a b ∧ Aside0 (IsF a x') ∧ Aside0 (IsF b y') ∧ Aside0 (x'.natAbs ≤ 1048576) ∧ Aside0 (y'.natAbs ≤ 1048576) ∧ Aside0 (rot m x' y' = (X, Y)) ∧ Aside0 (wr.heap[w.heap.size + 1]? = some (.cells #[.int .i64 0, .int .i64 0] 24 (0, 0))) ∧ Aside0 (Below w.heap.size w wr)) m0 ?_ ?_
  · exact ⟨m0, pa, pb, FX0, FY0, rfl, hm4, rfl, rfl, rfl, HFX, HFY, HX, HY, HR, HBK, ⟨below_step (below_alloc (below_alloc (Below.refl w.heap.size w) _) _) HB1.out⟩⟩
  · rintro k us wr hl ⟨m, a, b, x', y', rfl, hm, h1, h4, h5, HA, HB, HX', HY', HR', HBK', HBE⟩ J K hJ hK
    clear HFX HFY HX HY HR HBK HB1 HPL hand
    simp only [List.length_range'] at hl
    match us, hl with
    | u0 :: u1 :: u2 :: u3 :: u4 :: u5 :: u6 :: u7 :: u8 :: u9 :: u10 :: u11 :: u12 :: u13 :: u14 :: u15 :: u16 :: u17 :: [], _ =>
    simp only [List.getD_cons_succ, List.getD_cons_zero] at h1 h4 h5
    subst h1 h4 h5
    simp only [List.range', putS, Act.put, List.setIfInBounds_toArray, List.set_cons_zero, List.set_cons_succ]
    rename_i hx
    clear hx
    have hJ2 := fun (k : Nat) (v0 v1 v2 v3 v4 v5 v6 v7 v8 v9 v10 v11 v12 v13 v14 v15 v16 v17 : Value) (w' : World) => hJ k (v0 :: v1 :: v2 :: v3 :: v4 :: v5 :: v6 :: v7 :: v8 :: v9 :: v10 :: v11 :: v12 :: v13 :: v14 :: v15 :: v16 :: v17 :: []) _ w' rfl rfl
    clear hJ
    simp only [List.range', putS, Act.put, List.setIfInBounds_toArray, List.set_cons_zero, List.set_cons_succ] at hJ2
    have HJ := Aside0.mk hJ2; clear hJ2
    have HK := Aside0.mk hK; clear hK
    cases k with
    | zero =>
      have hr := HR'.out
      rw [rot] at hr
      obtain ⟨rfl, rfl⟩ := Prod.mk.inj hr
      have HP := fun W => Aside0.mk (point_at W HA.out HB.out (by have := HX'.out; omega) (by have := HY'.out; omega))
      clear hr HR' HA HB HX' HY'
      go_wp2_with (go_at_call 83; (with_reducible refine ((HP _).out).mono ?_); rintro e w2 ⟨rfl, hb2⟩; have hbk := blk_keep HBK'.out hb2; have HBK := Aside0.mk hbk; have hc0 := blk_cell hbk 0; have hc1 := blk_cell hbk 1; have hf0 := blk_frozen hbk 0; have hf1 := blk_frozen hbk 1; have HB2 := Aside0.mk (below_step HBE.out hb2); clear hb2 hbk)
      simp only [Exit.jump]
      refine bodyPost_ret (results_cell_row rfl _ _ (w.heap.size + 1) 24 #[.int .i64 x', .int .i64 y'] (0, 0) _ rfl (blk_put (cs := #[.int .i64 x', .int .i64 0]) (blk_put (cs := #[.int .i64 0, .int .i64 0]) HBK.out 0 _ rfl) 1 _ rfl) Try.underlying24 rfl (by kernel_rfl)) rfl ?_
      exact ⟨rfl, below_set (below_set HB2.out (by simp)) (by simp)⟩
    | succ m =>
      obtain ⟨re, im, hre, him, hrun⟩ := quarter HA.out HB.out HX'.out HY'.out
      have hrun2 : ∀ W : World, (binOp .mul 61 (.complex .f64 a b) (.complex .f64 0 4607182418800017408)).run Try.prog W = .ok (.complex .f64 re im) W := fun W => hrun Try.prog 61 W
      have HRE := Aside0.mk hre
      have HIM := Aside0.mk him
      clear hrun hre him
      have g0 : (((m + 1 : Nat) : Int) == 0) = false := by simp; omega
      go_wp2
      go_step3
      exact ⟨rfl, HK.out _ _ (Handed.intro m (by omega) (HJ.out _ _ _ _ _ _ _ _ _ _ _ _ _ _ _ _ _ _ _ _ ⟨m, re, im, -y', x', rfl, by omega, by go_num, rfl, rfl, HRE, HIM, ⟨by have := HY'.out; omega⟩, HX', ⟨by have := HR'.out; rw [rot] at this; exact this⟩, HBK', HBE⟩))⟩
end Go.Proofs.Ytpoghhcpoimepaa.P
end
section
/- Several texts in one. -/
section
/- Motions: numbers of the plane. -/
namespace Go.Proofs.Ytpoghhcpoimepaa.P
open Go.Proofs.Ytpoghhcpoimepaa.B Go.RowKit Go.Proofs.YtpoghhcpoimepaaW.PrintWords Go.Proofs.YtpoghhcpoimepaaW.PrintLast Go.Proofs.YtpoghhcpoimepaaW.PrintMore Go.Proofs.Ytpoghhcpoimepaa.FX Go.Proofs.Ytpoghhcpoimepaa.H
set_option linter.unusedVariables false
set_option linter.unusedSimpArgs false
set_option maxRecDepth 100000 in
theorem mplane_calls (x y : Int) (w : World) : Calls Try.prog 86 #[.agg #[.int .i64 x, .int .i64 y]] w fun e w' => e = .returned (.complex .f64 (floatOfInt .f64 x) (floatOfInt .f64 y)) ∧ Below w.heap.size w w' := by
  go_enter Try.func86, Try.ntmps86
  go_wp2
  go_ret
  exact ⟨rfl, below_alloc (Below.refl _ _) _⟩
set_option maxRecDepth 100000 in
theorem mpoint_calls (a b : Nat) (x y : Int) (w : World) (ha : floatToIntVal .f64 a .i64 = some x) (hb : floatToIntVal .f64 b .i64 = some y) : Calls Try.prog 85 #[.complex .f64 a b] w (AggPost x y w) := by
  have e1 : ∀ W : World, (convert 63 3 (.float .f64 a)).run Try.prog W = .ok (.int .i64 x) W := fun W => run_convert_float_int W 63 3 .f64 .i64 a x (by rw [Try.underlying63]; rfl) Try.underlying3 ha
  have e2 : ∀ W : World, (convert 63 3 (.float .f64 b)).run Try.prog W = .ok (.int .i64 y) W := fun W => run_convert_float_int W 63 3 .f64 .i64 b y (by rw [Try.underlying63]; rfl) Try.underlying3 hb
  go_enter Try.func85, Try.ntmps85
  go_wp2
  refine bodyPost_ret (results_cell_row rfl _ _ w.heap.size 24 #[.int .i64 x, .int .i64 y] (0, 0) _ rfl (blk_new w _) Try.underlying24 rfl (by kernel_rfl)) rfl ?_
  exact ⟨rfl, below_alloc (Below.refl _ _) _⟩
theorem mpoint_at {a b : Nat} {x y : Int} (w : World) (ha : IsF a x) (hb : IsF b y) (hx : x.natAbs < 2 ^ 53) (hy : y.natAbs < 2 ^ 53) : Calls Try.prog 85 #[.complex .f64 a b] w (AggPost x y w) :=
  mpoint_calls a b x y w (isF_int ha (by omega) (by omega)) (isF_int hb (by omega) (by omega))
/-- A product of numbers of the plane. -/
theorem cmul_run {a b c d : Nat} {x y u v : Int} (ha : IsF a x) (hb : IsF b y) (hc : IsF c u) (hd : IsF d v) (h1 : (x * u).natAbs < 2 ^ 51) (h2 : (y * v).natAbs < 2 ^ 51) (h3 : (x * v).natAbs < 2 ^ 51) (h4 : (y * u).natAbs < 2 ^ 51) :
    ∃ re im, IsF re (x * u - y * v) ∧ IsF im (x * v + y * u) ∧ ∀ (P : Program) (t : TypeId) (W : World), (binOp .mul t (.complex .f64 a b) (.complex .f64 c d)).run P W = .ok (.complex .f64 re im) W := by
  obtain ⟨p1, f1, g1⟩ := isF_mul ha hc (by omega)
  obtain ⟨p2, f2, g2⟩ := isF_mul hb hd (by omega)
  obtain ⟨re, f3, hre⟩ := isF_sub g1 g2 (by omega)
  obtain ⟨p3, f4, g3⟩ := isF_mul ha hd (by omega)
  obtain ⟨p4, f5, g4⟩ := isF_mul hb hc (by omega)
  obtain ⟨im, f6, him⟩ := isF_add g3 g4 (by omega)
  exact ⟨re, im, hre, him, fun P t W => run_complex_mul W t _ _ _ _ re im (by unfold cMulBits; rw [f1, Option.bind_some, f2, Option.bind_some, f3, Option.bind_some, f4, Option.bind_some, f5, Option.bind_some, f6, Option.bind_some])⟩
theorem cadd_run {a b c d : Nat} {x y u v : Int} (ha : IsF a x) (hb : IsF b y) (hc : IsF c u) (hd : IsF d v) (h1 : (x + u).natAbs < 2 ^ 53) (h2 : (y + v).natAbs < 2 ^ 53) :
    ∃ re im, IsF re (x + u) ∧ IsF im (y + v) ∧ ∀ (P : Program) (t : TypeId) (W : World), (binOp .add t (.complex .f64 a b) (.complex .f64 c d)).run P W = .ok (.complex .f64 re im) W := by
  obtain ⟨re, f1, hre⟩ := isF_add ha hc h1
  obtain ⟨im, f2, him⟩ := isF_add hb hd h2
  exact ⟨re, im, hre, him, fun P t W => run_complex_sum W .add (.inl rfl) t .f64 _ _ _ _ re im (by unfold cSumBits; rw [f1, Option.bind_some, f2, Option.bind_some])⟩
end Go.Proofs.Ytpoghhcpoimepaa.P
end
section
/- Motions: quarters, and moves one behind the other. -/
namespace Go.Proofs.Ytpoghhcpoimepaa.P
open Go.Proofs.Ytpoghhcpoimepaa.B Go.RowKit Go.Proofs.YtpoghhcpoimepaaW.PrintWords Go.Proofs.YtpoghhcpoimepaaW.PrintLast Go.Proofs.YtpoghhcpoimepaaW.PrintMore Go.Proofs.Ytpoghhcpoimepaa.FX Go.Proofs.Ytpoghhcpoimepaa.H
set_option linter.unusedVariables false
set_option linter.unusedSimpArgs false
/-- A quarter's number. -/
def ip : Nat → Int × Int
  | 0 => (1, 0)
  | m + 1 => (-(ip m).2, (ip m).1)
theorem ip_small (m : Nat) : ((ip m).1.natAbs ≤ 1 ∧ (ip m).2.natAbs ≤ 1) ∧ (m < 4 → ((ip m).1 = 1 ∧ (ip m).2 = 0 ↔ m = 0)) := by
  constructor
  · induction m with
    | zero => decide
    | succ m ih => rw [ip]; simp only []; omega
  · intro h
    match m, h with
    | 0, _ => decide
    | 1, _ => decide
    | 2, _ => decide
    | 3, _ => decide
end Go.Proofs.Ytpoghhcpoimepaa.P
end
section
/- Motions: moves one behind the other, and what undoes one. -/
namespace Go.Proofs.Ytpoghhcpoimepaa.P
open Go.Proofs.Ytpoghhcpoimepaa.B Go.RowKit Go.Proofs.YtpoghhcpoimepaaW.PrintWords Go.Proofs.YtpoghhcpoimepaaW.PrintLast Go.Proofs.YtpoghhcpoimepaaW.PrintMore Go.Proofs.Ytpoghhcpoimepaa.FX Go.Proofs.Ytpoghhcpoimepaa.H
set_option linter.unusedVariables false
set_option linter.unusedSimpArgs false
attribute [local go_sem] run_store_complex
/-- Bits that are a move: what it turns by, and what it adds. -/
def MV (a b c d : Nat) (t p : Int × Int) : Prop := IsF a t.1 ∧ IsF b t.2 ∧ IsF c p.1 ∧ IsF d p.2
abbrev mv (a b c d : Nat) : Value := .agg #[.complex .f64 a b, .complex .f64 c d]
def MovePost (t p : Int × Int) (w : World) (e : Ending) (w' : World) : Prop := ∃ a b c d, e = .returned (mv a b c d) ∧ MV a b c d t p ∧ Below w.heap.size w w'
def cm (x y : Int × Int) : Int × Int := (x.1 * y.1 - x.2 * y.2, x.1 * y.2 + x.2 * y.1)
def near (n : Nat) (x : Int × Int) : Prop := x.1.natAbs ≤ n ∧ x.2.natAbs ≤ n
theorem near_mul {n : Nat} {x y : Int} (h1 : x.natAbs ≤ n) (h2 : y.natAbs ≤ 1) : (x * y).natAbs ≤ n := by
  rw [Int.natAbs_mul]
  exact Nat.le_trans (Nat.mul_le_mul h1 h2) (by omega)
theorem move_new3 (w : World) (o1 o2 o3 : Obj) : (((w.alloc o1).alloc o2).alloc o3).heap[w.heap.size + 1 + 1]? = some o3 := by
  have h := blk_new ((w.alloc o1).alloc o2) o3
  rw [alloc_size, alloc_size] at h
  exact h
theorem move_new2 (w : World) (o1 o2 : Obj) : ((w.alloc o1).alloc o2).heap[w.heap.size + 1]? = some o2 := by
  have h := blk_new (w.alloc o1) o2
  rw [alloc_size] at h
  exact h
end Go.Proofs.Ytpoghhcpoimepaa.P
end
section
/- Motions: a move as a motion. -/
namespace Go.Proofs.Ytpoghhcpoimepaa.P
open Go.Proofs.Ytpoghhcpoimepaa.B Go.RowKit Go.Proofs.YtpoghhcpoimepaaW.PrintWords Go.Proofs.YtpoghhcpoimepaaW.PrintLast Go.Proofs.YtpoghhcpoimepaaW.PrintMore Go.Proofs.Ytpoghhcpoimepaa.FX Go.Proofs.Ytpoghhcpoimepaa.H
set_option linter.unusedVariables false
set_option linter.unusedSimpArgs false
attribute [local go_sem] run_store_complex
abbrev MoS (w0 : World) (a b c d : Nat) (w' : World) : Prop :=
  Aside0 (w'.heap[w0.heap.size]? = some (.cells #[.complex .f64 a b, .complex .f64 c d] 109 (0, 0))) ∧ Aside0 (w'.heap[w0.heap.size + 1]? = some (.cells #[.int .i64 0, .int .i64 0, .int .i64 0] 34 (0, 0))) ∧ Aside0 (Below w0.heap.size w0 w') ∧
  w'.cell? ⟨w0.heap.size, 0, none⟩ = some (.complex .f64 a b) ∧ w'.cell? ⟨w0.heap.size, 1, none⟩ = some (.complex .f64 c d) ∧ w'.cell? ⟨w0.heap.size + 1, 0, none⟩ = some (.int .i64 0) ∧ w'.cell? ⟨w0.heap.size + 1, 1, none⟩ = some (.int .i64 0) ∧ w'.cell? ⟨w0.heap.size + 1, 2, none⟩ = some (.int .i64 0) ∧
  w'.frozen? ⟨w0.heap.size + 1, 0, none⟩ = false ∧ w'.frozen? ⟨w0.heap.size + 1, 1, none⟩ = false ∧ w'.frozen? ⟨w0.heap.size + 1, 2, none⟩ = false
theorem MoS.mk {w0 : World} {a b c d : Nat} {w' : World} (h1 : w'.heap[w0.heap.size]? = some (.cells #[.complex .f64 a b, .complex .f64 c d] 109 (0, 0))) (h2 : w'.heap[w0.heap.size + 1]? = some (.cells #[.int .i64 0, .int .i64 0, .int .i64 0] 34 (0, 0))) (h3 : Below w0.heap.size w0 w') : MoS w0 a b c d w' :=
  ⟨⟨h1⟩, ⟨h2⟩, ⟨h3⟩, blk_cell h1 0, blk_cell h1 1, blk_cell h2 0, blk_cell h2 1, blk_cell h2 2, blk_frozen h2 0, blk_frozen h2 1, blk_frozen h2 2⟩
theorem MoS.drew {w0 : World} {a b c d : Nat} {w1 : World} (h : MoS w0 a b c d w1) : MoS w0 a b c d w1.drew := MoS.mk h.1.out h.2.1.out (below_drew h.2.2.1.out)
end Go.Proofs.Ytpoghhcpoimepaa.P
end
end
