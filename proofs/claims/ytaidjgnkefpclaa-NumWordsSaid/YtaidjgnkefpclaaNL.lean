/- Plain lemmas: what Parse, Unhex, Print and Hex of the program come to. -/
import Derived.Test.YtaidjgnkefpclaaF8
import Derived.Test.YtaidjgnkefpclaaF10
import Derived.Test.YtaidjgnkefpclaaF12
import Derived.Test.YtaidjgnkefpclaaF14
namespace Go.Proofs.Ytaidjgnkefpclaa.Pure
open Go.Proofs.Ytaidjgnkefpclaa.B Go.RowKit Go.Proofs.Ytaidjgnkefpclaa.P Go.Proofs.YtaidjgnkefpclaaW.PrintWords Go.Proofs.YtaidjgnkefpclaaW.PrintLast
set_option linter.unusedVariables false
set_option linter.unusedSimpArgs false
theorem bytes_list (s : ByteArray) : ∃ l : List UInt8, s = ⟨l.toArray⟩ := ⟨s.data.toList, by apply ByteArray.ext; simp⟩
theorem size_l (l : List UInt8) : (⟨l.toArray⟩ : ByteArray).size = l.length := by simp [ByteArray.size]
theorem toList_l (l : List UInt8) : (⟨l.toArray⟩ : ByteArray).toList = l := by rw [toList_data]
theorem extract_l (l : List UInt8) (a b : Nat) : (⟨l.toArray⟩ : ByteArray).extract a b = ⟨((l.drop a).take (b - a)).toArray⟩ := by
  apply ByteArray.ext
  simp [ByteArray.data_extract]
theorem append_l (l m : List UInt8) : (⟨l.toArray⟩ : ByteArray) ++ ⟨m.toArray⟩ = ⟨(l ++ m).toArray⟩ := by
  apply ByteArray.ext; simp
theorem bt_l (l : List UInt8) (i : Nat) (h : i < l.length) : bt ⟨l.toArray⟩ (i : Int) = (l[i].toNat : Int) := by
  unfold bt
  rw [Int.toNat_natCast, dif_pos (by rw [size_l]; exact h)]
  rfl
theorem cut_code (l : List UInt8) (hl : l.length ≤ 9223372036854775807) : strings_CutPrefix.f ⟨l.toArray⟩ ⟨#[45]⟩ = some (if l.head? = some 45 then (⟨l.tail.toArray⟩, true) else (⟨l.toArray⟩, false)) := by
  unfold strings_CutPrefix.f stringslite_CutPrefix.f stringslite_HasPrefix.f
  have e1 : (⟨#[45]⟩ : ByteArray).size = 1 := rfl
  have e2 : (⟨#[45]⟩ : ByteArray).toList = [45] := toList_l [45]
  rw [e1, e2, size_l]
  cases l with
  | nil => rfl
  | cons c l =>
    rw [if_pos (by simp; omega), if_pos (by decide), if_pos (by simp; omega)]
    rw [extract_l, extract_l, toList_l]
    by_cases hc : c = 45
    · subst hc
      simp [Option.bind_some]
      rw [if_pos (by omega)]; rfl
    · have : ((List.take ((((1 : Nat) : Int)).toNat - 0) (List.drop 0 (c :: l))) == [45]) = false := by simp [hc]
      rw [this]
      simp [hc]
def dval (b : Nat) : List UInt8 → Nat → Option Nat
  | [], w => some w
  | c :: l, w => if b ≤ valB c then none else dval b l (w * b + valB c)
theorem dval_ge (b : Nat) (hb : 1 ≤ b) : ∀ (l : List UInt8) (w v : Nat), dval b l w = some v → w * b ^ l.length ≤ v := by
  intro l
  induction l with
  | nil => intro w v h; rw [dval] at h; obtain rfl := Option.some.inj h; simp
  | cons c l ih =>
    intro w v h
    rw [dval] at h
    split at h
    · cases h
    · have := ih _ _ h
      rw [List.length_cons, Nat.pow_succ, Nat.mul_comm (b ^ l.length), ← Nat.mul_assoc]
      exact Nat.le_trans (Nat.mul_le_mul_right _ (by omega)) this
theorem dval_w (b : Nat) (hb : 1 ≤ b) (l : List UInt8) (w v : Nat) (h : dval b l w = some v) : w ≤ v := by
  have h1 := dval_ge b hb l w v h
  have h2 : 1 ≤ b ^ l.length := Nat.one_le_pow _ _ hb
  have h3 : w * 1 ≤ w * b ^ l.length := Nat.mul_le_mul_left _ h2
  omega
/-- What is within a greatest number. -/
def upto (m : Nat) : Option Nat → Nat × Bool
  | none => (0, false)
  | some v => if v ≤ m then (v, true) else (0, false)
theorem takeL_is (b m : Nat) (hb : 2 ≤ b) (hm : 100 ≤ m) (hb16 : b ≤ 16) : ∀ (l : List UInt8) (w : Nat), w ≤ m → takeL b m l w = upto m (dval b l w) := by
  intro l
  induction l with
  | nil => intro w hw; rw [takeL, dval, upto, if_pos hw]
  | cons c l ih =>
    intro w hw
    rw [takeL, dval]
    by_cases hc : b ≤ valB c
    · rw [if_pos (.inl hc), if_pos hc]; rfl
    · rw [if_neg hc]
      by_cases hq : (m - valB c) / b < w
      · rw [if_pos (.inr hq)]
        have h1 : m < w * b + valB c := by
          have := (Nat.div_lt_iff_lt_mul (by omega)).1 hq
          omega
        cases h : dval b l (w * b + valB c) with
        | none => rfl
        | some v =>
          have := dval_w b (by omega) l _ v h
          rw [upto, if_neg (by omega)]
      · rw [if_neg (by rintro (h | h); exact hc h; exact hq h)]
        refine ih _ ?_
        have h1 : w * b ≤ m - valB c := by
          have h2 : w * b ≤ (m - valB c) / b * b := Nat.mul_le_mul_right _ (by omega)
          have h3 := Nat.div_mul_le_self (m - valB c) b
          omega
        omega
def isBad (l : List UInt8) : Prop := l = [] ∨ (l.head? = some 48 ∧ 1 < l.length)
theorem takeB_is (b m : Nat) (hb : 2 ≤ b) (hm : 100 ≤ m) (hb16 : b ≤ 16) (l : List UInt8) : takeD b m l = if l = [] ∨ (l.head? = some 48 ∧ 1 < l.length) then (0, false) else upto m (dval b l 0) := by
  unfold takeD; rw [takeL_is b m hb hm hb16 l 0 (Nat.zero_le _)]
theorem upto_le (m : Nat) (o : Option Nat) : (upto m o).1 ≤ m := by
  unfold upto; split
  · exact Nat.zero_le _
  · split
    · assumption
    · exact Nat.zero_le _
theorem takeB_le (b m : Nat) (hb : 2 ≤ b) (hm : 100 ≤ m) (hb16 : b ≤ 16) (l : List UInt8) : (takeD b m l).1 ≤ m := by
  rw [takeB_is b m hb hm hb16]
  split
  · exact Nat.zero_le _
  · exact upto_le _ _
theorem take_f (b m : Nat) (hb : 2 ≤ b) (hb16 : b ≤ 16) (hm : 100 ≤ m) (hm2 : m < 2 ^ 64) (l : List UInt8) (hl : l.length ≤ 9223372036854775807) :
    num_take.f ⟨l.toArray⟩ (b : Int) (m : Int) = some (((takeD b m l).1 : Int), (takeD b m l).2) := by
  unfold num_take.f
  rw [if_pos ⟨by omega, by omega, by omega, by omega, by rw [size_l]; exact hl⟩, Int.toNat_natCast, Int.toNat_natCast]
/-- What Parse tells. -/
def parseS (l : List UInt8) : Int × Bool := if l.head? = some 45 then (if (takeD 10 9223372036854775808 l.tail).2 = true then (if (takeD 10 9223372036854775808 l.tail).1 = 0 then (0, false) else (-((takeD 10 9223372036854775808 l.tail).1 : Int), true)) else (0, false)) else (((takeD 10 9223372036854775807 l).1 : Int), (takeD 10 9223372036854775807 l).2)
theorem parse_code (l : List UInt8) (hl : l.length ≤ 9223372036854775807) : num_Parse.f ⟨l.toArray⟩ = some (parseS l) := by
  unfold num_Parse.f parseS
  rw [cut_code l hl, Option.bind_some]
  by_cases h : l.head? = some 45
  · have ht := take_f 10 9223372036854775808 (by decide) (by decide) (by decide) (by decide) l.tail (by rw [List.length_tail]; omega)
    have hle := takeB_le 10 9223372036854775808 (by decide) (by decide) (by decide) l.tail
    rw [if_pos h, if_pos h, if_pos rfl]
    rw [show num_take.f ⟨l.tail.toArray⟩ 10 9223372036854775808 = _ from ht, Option.bind_some]
    by_cases h2 : (takeD 10 9223372036854775808 l.tail).2 = true
    · rw [if_pos h2, if_pos h2]
      by_cases h3 : (takeD 10 9223372036854775808 l.tail).1 = 0
      · rw [if_pos h3, if_pos (by omega)]
      · rw [if_neg h3, if_neg (by omega), wrap_u64]
        generalize takeD 10 9223372036854775808 l.tail = u at hle h3
        have e : wrap64 (-(u.1 : Int) % 18446744073709551616) = -(u.1 : Int) := by unfold wrap64; omega
        rw [e]
    · rw [if_neg h2, if_neg h2]
  · have ht := take_f 10 9223372036854775807 (by decide) (by decide) (by decide) (by decide) l hl
    have hle := takeB_le 10 9223372036854775807 (by decide) (by decide) (by decide) l
    rw [if_neg h, if_neg h, if_neg Bool.false_ne_true]
    rw [show num_take.f ⟨l.toArray⟩ 10 9223372036854775807 = _ from ht, Option.bind_some]
    generalize takeD 10 9223372036854775807 l = u at hle
    have e : wrap64 (u.1 : Int) = (u.1 : Int) := by unfold wrap64; omega
    rw [e]
theorem unhex_code (l : List UInt8) (hl : l.length ≤ 9223372036854775807) : num_Unhex.f ⟨l.toArray⟩ = some (((takeD 16 18446744073709551615 l).1 : Int), (takeD 16 18446744073709551615 l).2) := by
  unfold num_Unhex.f
  have ht := take_f 16 18446744073709551615 (by decide) (by decide) (by decide) (by decide) l hl
  rw [show num_take.f ⟨l.toArray⟩ 16 18446744073709551615 = _ from ht, Option.bind_some]
/-- The digits of a number. -/
def toD (b : Nat) : Nat → Nat → List UInt8
  | 0, _ => []
  | k + 1, w => if w / b = 0 then [digB (w % b)] else toD b k (w / b) ++ [digB (w % b)]
theorem digL_toD (b : Nat) : ∀ (k w : Nat) (acc : List UInt8), digL b k w acc = toD b k w ++ acc := by
  intro k
  induction k with
  | zero => intro w acc; rfl
  | succ k ih =>
    intro w acc
    rw [digL, toD]
    split
    · rfl
    · rw [ih, List.append_assoc]; rfl
theorem toD_len (b : Nat) : ∀ (k w : Nat), (toD b k w).length ≤ k := by
  intro k
  induction k with
  | zero => intro w; simp [toD]
  | succ k ih =>
    intro w
    rw [toD]
    split
    · simp
    · have := ih (w / b); simp; omega
theorem digits_f (b w : Nat) (hb : 2 ≤ b) (hb16 : b ≤ 16) (hw : w < 2 ^ 64) : num_digits.f (w : Int) (b : Int) = some ⟨(toD b 64 w).toArray⟩ := by
  unfold num_digits.f
  rw [if_pos ⟨by omega, by omega, by omega, by omega⟩, Int.toNat_natCast, Int.toNat_natCast, digL_toD, List.append_nil]
def printS (n : Int) : List UInt8 := if n < 0 then 45 :: toD 10 64 n.natAbs else toD 10 64 n.natAbs
theorem print_code (n : Int) (h0 : -9223372036854775808 ≤ n) (h1 : n ≤ 9223372036854775807) : num_Print.f n = some ⟨(printS n).toArray⟩ := by
  unfold num_Print.f printS
  by_cases h : n < 0
  · rw [if_pos h, if_pos h, show IntKind.u64.wrap (-(IntKind.u64.wrap n)) = ((n.natAbs : Nat) : Int) from by rw [wrap_u64, wrap_u64]; omega]
    rw [show (num_digits.f (n.natAbs : Int) 10) = _ from digits_f 10 n.natAbs (by decide) (by decide) (by omega), Option.bind_some, size_l]
    have := toD_len 10 64 n.natAbs
    rw [if_pos (by omega)]
    exact congrArg some (append_l [45] _)
  · rw [if_neg h, if_neg h, show IntKind.u64.wrap n = ((n.natAbs : Nat) : Int) from by rw [wrap_u64]; omega]
    rw [show (num_digits.f (n.natAbs : Int) 10) = _ from digits_f 10 n.natAbs (by decide) (by decide) (by omega), Option.bind_some]
theorem hex_code (w : Nat) (hw : w < 2 ^ 64) : num_Hex.f (w : Int) = some ⟨(toD 16 64 w).toArray⟩ := by
  unfold num_Hex.f
  rw [show (num_digits.f (w : Int) 16) = _ from digits_f 16 w (by decide) (by decide) hw, Option.bind_some]
end Go.Proofs.Ytaidjgnkefpclaa.Pure
