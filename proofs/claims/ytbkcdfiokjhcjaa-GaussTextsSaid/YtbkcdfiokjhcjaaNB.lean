/- Several texts in one. -/
import Derived.Test.YtbkcdfiokjhcjaaF65
import Derived.Test.YtbkcdfiokjhcjaaF67
import Derived.Test.YtbkcdfiokjhcjaaF68
import Derived.Test.YtbkcdfiokjhcjaaF66
section
/- Plain lemmas: what Parse, Unhex, Print and Hex of the program come to. -/
namespace Go.Proofs.Ytbkcdfiokjhcjaa.Pure
open Go.Proofs.Ytbkcdfiokjhcjaa.B Go.RowKit Go.Proofs.Ytbkcdfiokjhcjaa.P Go.Proofs.YtbkcdfiokjhcjaaW.PrintWords Go.Proofs.YtbkcdfiokjhcjaaW.PrintLast
set_option linter.unusedVariables false
set_option linter.unusedSimpArgs false
theorem bytes_list (s : ByteArray) : ∃ l : List UInt8, s = ⟨l.toArray⟩ := ⟨s.data.toList, by apply ByteArray.ext; simp⟩
theorem size_l (l : List UInt8) : (⟨l.toArray⟩ : ByteArray).size = l.length := by simp [ByteArray.size]
theorem toList_l (l : List UInt8) : (⟨l.toArray⟩ : ByteArray).toList = l := by rw [toList_data]
theorem extract_l (l : List UInt8) (a b : Nat) : (⟨l.toArray⟩ : ByteArray).extract a b = ⟨((l.drop a).take (b - a)).toArray⟩ := by
  apply ByteArray.ext
  simp [ByteArray.data_extract]
theorem append_l (l m : List UInt8) : (⟨l.toArray⟩ : ByteArray) ++ ⟨m.toArray⟩ = ⟨(l ++ m).toArray⟩ := by
  apply ByteArray.ext; simp
theorem bt_l (l : List UInt8) (i : Nat) (h : i < l.length) : bt ⟨l.toArray⟩ (i : Int) = (l[i].toNat : Int) := by
  unfold bt
  rw [Int.toNat_natCast, dif_pos (by rw [size_l]; exact h)]
  rfl
theorem cut_code (l : List UInt8) (hl : l.length ≤ 9223372036854775807) : strings_CutPrefix.f ⟨l.toArray⟩ ⟨#[45]⟩ = some (if l.head? = some 45 then (⟨l.tail.toArray⟩, true) else (⟨l.toArray⟩, false)) := by
  unfold strings_CutPrefix.f stringslite_CutPrefix.f stringslite_HasPrefix.f
  have e1 : (⟨#[45]⟩ : ByteArray).size = 1 := rfl
  have e2 : (⟨#[45]⟩ : ByteArray).toList = [45] := toList_l [45]
  rw [e1, e2, size_l]
  cases l with
  | nil => rfl
  | cons c l =>
    rw [if_pos (by simp; omega), if_pos (by decide), if_pos (by simp; omega)]
    rw [extract_l, extract_l, toList_l]
    by_cases hc : c = 45
    · subst hc
      simp [Option.bind_some]
      rw [if_pos (by omega)]; rfl
    · have : ((List.take ((((1 : Nat) : Int)).toNat - 0) (List.drop 0 (c :: l))) == [45]) = false := by simp [hc]
      rw [this]
      simp [hc]
def dval (b : Nat) : List UInt8 → Nat → Option Nat
  | [], w => some w
  | c :: l, w => if b ≤ valB c then none else dval b l (w * b + valB c)
theorem dval_ge (b : Nat) (hb : 1 ≤ b) : ∀ (l : List UInt8) (w v : Nat), dval b l w = some v → w * b ^ l.length ≤ v := by
  intro l
  induction l with
  | nil => intro w v h; rw [dval] at h; obtain rfl := Option.some.inj h; simp
  | cons c l ih =>
    intro w v h
    rw [dval] at h
    split at h
    · cases h
    · have := ih _ _ h
      rw [List.length_cons, Nat.pow_succ, Nat.mul_comm (b ^ l.length), ← Nat.mul_assoc]
      exact Nat.le_trans (Nat.mul_le_mul_right _ (by omega)) this
theorem dval_w (b : Nat) (hb : 1 ≤ b) (l : List UInt8) (w v : Nat) (h : dval b l w = some v) : w ≤ v := by
  have h1 := dval_ge b hb l w v h
  have h2 : 1 ≤ b ^ l.length := Nat.one_le_pow _ _ hb
  have h3 : w * 1 ≤ w * b ^ l.length := Nat.mul_le_mul_left _ h2
  omega
/-- What is within a greatest number. -/
def upto (m : Nat) : Option Nat → Nat × Bool
  | none => (0, false)
  | some v => if v ≤ m then (v, true) else (0, false)
theorem takeL_is (b m : Nat) (hb : 2 ≤ b) (hm : 100 ≤ m) (hb16 : b ≤ 16) : ∀ (l : List UInt8) (w : Nat), w ≤ m → takeL b m l w = upto m (dval b l w) := by
  intro l
  induction l with
  | nil => intro w hw; rw [takeL, dval, upto, if_pos hw]
  | cons c l ih =>
    intro w hw
    rw [takeL, dval]
    by_cases hc : b ≤ valB c
    · rw [if_pos (.inl hc), if_pos hc]; rfl
    · rw [if_neg hc]
      by_cases hq : (m - valB c) / b < w
      · rw [if_pos (.inr hq)]
        have h1 : m < w * b + valB c := by
          have := (Nat.div_lt_iff_lt_mul (by omega)).1 hq
          omega
        cases h : dval b l (w * b + valB c) with
        | none => rfl
        | some v =>
          have := dval_w b (by omega) l _ v h
          rw [upto, if_neg (by omega)]
      · rw [if_neg (by rintro (h | h); exact hc h; exact hq h)]
        refine ih _ ?_
        have h1 : w * b ≤ m - valB c := by
          have h2 : w * b ≤ (m - valB c) / b * b := Nat.mul_le_mul_right _ (by omega)
          have h3 := Nat.div_mul_le_self (m - valB c) b
          omega
        omega
def isBad (l : List UInt8) : Prop := l = [] ∨ (l.head? = some 48 ∧ 1 < l.length)
theorem takeB_is (b m : Nat) (hb : 2 ≤ b) (hm : 100 ≤ m) (hb16 : b ≤ 16) (l : List UInt8) : takeD b m l = if l = [] ∨ (l.head? = some 48 ∧ 1 < l.length) then (0, false) else upto m (dval b l 0) := by
  unfold takeD; rw [takeL_is b m hb hm hb16 l 0 (Nat.zero_le _)]
theorem upto_le (m : Nat) (o : Option Nat) : (upto m o).1 ≤ m := by
  unfold upto; split
  · exact Nat.zero_le _
  · split
    · assumption
    · exact Nat.zero_le _
theorem takeB_le (b m : Nat) (hb : 2 ≤ b) (hm : 100 ≤ m) (hb16 : b ≤ 16) (l : List UInt8) : (takeD b m l).1 ≤ m := by
  rw [takeB_is b m hb hm hb16]
  split
  · exact Nat.zero_le _
  · exact upto_le _ _
theorem take_f (b m : Nat) (hb : 2 ≤ b) (hb16 : b ≤ 16) (hm : 100 ≤ m) (hm2 : m < 2 ^ 64) (l : List UInt8) (hl : l.length ≤ 9223372036854775807) :
    num_take.f ⟨l.toArray⟩ (b : Int) (m : Int) = some (((takeD b m l).1 : Int), (takeD b m l).2) := by
  unfold num_take.f
  rw [if_pos ⟨by omega, by omega, by omega, by omega, by rw [size_l]; exact hl⟩, Int.toNat_natCast, Int.toNat_natCast]
/-- What Parse tells. -/
def parseS (l : List UInt8) : Int × Bool := if l.head? = some 45 then (if (takeD 10 9223372036854775808 l.tail).2 = true then (if (takeD 10 9223372036854775808 l.tail).1 = 0 then (0, false) else (-((takeD 10 9223372036854775808 l.tail).1 : Int), true)) else (0, false)) else (((takeD 10 9223372036854775807 l).1 : Int), (takeD 10 9223372036854775807 l).2)
theorem parse_code (l : List UInt8) (hl : l.length ≤ 9223372036854775807) : num_Parse.f ⟨l.toArray⟩ = some (parseS l) := by
  unfold num_Parse.f parseS
  rw [cut_code l hl, Option.bind_some]
  by_cases h : l.head? = some 45
  · have ht := take_f 10 9223372036854775808 (by decide) (by decide) (by decide) (by decide) l.tail (by rw [List.length_tail]; omega)
    have hle := takeB_le 10 9223372036854775808 (by decide) (by decide) (by decide) l.tail
    rw [if_pos h, if_pos h, if_pos rfl]
    rw [show num_take.f ⟨l.tail.toArray⟩ 10 9223372036854775808 = _ from ht, Option.bind_some]
    by_cases h2 : (takeD 10 9223372036854775808 l.tail).2 = true
    · rw [if_pos h2, if_pos h2]
      by_cases h3 : (takeD 10 9223372036854775808 l.tail).1 = 0
      · rw [if_pos h3, if_pos (by omega)]
      · rw [if_neg h3, if_neg (by omega), wrap_u64]
        generalize takeD 10 9223372036854775808 l.tail = u at hle h3
        have e : wrap64 (-(u.1 : Int) % 18446744073709551616) = -(u.1 : Int) := by unfold wrap64; omega
        rw [e]
    · rw [if_neg h2, if_neg h2]
  · have ht := take_f 10 9223372036854775807 (by decide) (by decide) (by decide) (by decide) l hl
    have hle := takeB_le 10 9223372036854775807 (by decide) (by decide) (by decide) l
    rw [if_neg h, if_neg h, if_neg Bool.false_ne_true]
    rw [show num_take.f ⟨l.toArray⟩ 10 9223372036854775807 = _ from ht, Option.bind_some]
    generalize takeD 10 9223372036854775807 l = u at hle
    have e : wrap64 (u.1 : Int) = (u.1 : Int) := by unfold wrap64; omega
    rw [e]
/-- The digits of a number. -/
def toD (b : Nat) : Nat → Nat → List UInt8
  | 0, _ => []
  | k + 1, w => if w / b = 0 then [digB (w % b)] else toD b k (w / b) ++ [digB (w % b)]
theorem digL_toD (b : Nat) : ∀ (k w : Nat) (acc : List UInt8), digL b k w acc = toD b k w ++ acc := by
  intro k
  induction k with
  | zero => intro w acc; rfl
  | succ k ih =>
    intro w acc
    rw [digL, toD]
    split
    · rfl
    · rw [ih, List.append_assoc]; rfl
theorem toD_len (b : Nat) : ∀ (k w : Nat), (toD b k w).length ≤ k := by
  intro k
  induction k with
  | zero => intro w; simp [toD]
  | succ k ih =>
    intro w
    rw [toD]
    split
    · simp
    · have := ih (w / b); simp; omega
theorem digits_f (b w : Nat) (hb : 2 ≤ b) (hb16 : b ≤ 16) (hw : w < 2 ^ 64) : num_digits.f (w : Int) (b : Int) = some ⟨(toD b 64 w).toArray⟩ := by
  unfold num_digits.f
  rw [if_pos ⟨by omega, by omega, by omega, by omega⟩, Int.toNat_natCast, Int.toNat_natCast, digL_toD, List.append_nil]
def printS (n : Int) : List UInt8 := if n < 0 then 45 :: toD 10 64 n.natAbs else toD 10 64 n.natAbs
theorem print_code (n : Int) (h0 : -9223372036854775808 ≤ n) (h1 : n ≤ 9223372036854775807) : num_Print.f n = some ⟨(printS n).toArray⟩ := by
  unfold num_Print.f printS
  by_cases h : n < 0
  · rw [if_pos h, if_pos h, show IntKind.u64.wrap (-(IntKind.u64.wrap n)) = ((n.natAbs : Nat) : Int) from by rw [wrap_u64, wrap_u64]; omega]
    rw [show (num_digits.f (n.natAbs : Int) 10) = _ from digits_f 10 n.natAbs (by decide) (by decide) (by omega), Option.bind_some, size_l]
    have := toD_len 10 64 n.natAbs
    rw [if_pos (by omega)]
    exact congrArg some (append_l [45] _)
  · rw [if_neg h, if_neg h, show IntKind.u64.wrap n = ((n.natAbs : Nat) : Int) from by rw [wrap_u64]; omega]
    rw [show (num_digits.f (n.natAbs : Int) 10) = _ from digits_f 10 n.natAbs (by decide) (by decide) (by omega), Option.bind_some]
end Go.Proofs.Ytbkcdfiokjhcjaa.Pure
end

section
/- Plain lemmas: what the document's Print and Hex come to. -/
namespace Go.Proofs.Ytbkcdfiokjhcjaa.Pure
open Go.Proofs.Ytbkcdfiokjhcjaa.B Go.RowKit Go.Proofs.Ytbkcdfiokjhcjaa.P Go.Proofs.YtbkcdfiokjhcjaaW.PrintWords Go.Proofs.YtbkcdfiokjhcjaaW.PrintLast
set_option linter.unusedVariables false
set_option linter.unusedSimpArgs false
theorem ext10 : ∀ (d : Nat) (h : d ≤ 9), (⟨#[48, 49, 50, 51, 52, 53, 54, 55, 56, 57]⟩ : ByteArray).extract d (d + 1) = ⟨[digB d].toArray⟩ := by
  intro d h
  have : ∀ d : Fin 10, ([48, 49, 50, 51, 52, 53, 54, 55, 56, 57].drop d.1).take (d.1 + 1 - d.1) = [digB d.1] := by decide
  rw [show (⟨#[48, 49, 50, 51, 52, 53, 54, 55, 56, 57]⟩ : ByteArray) = ⟨[48, 49, 50, 51, 52, 53, 54, 55, 56, 57].toArray⟩ from rfl, extract_l, this ⟨d, by omega⟩]
theorem w64_id {x : Int} (h0 : -9223372036854775808 ≤ x) (h1 : x ≤ 9223372036854775807) : wrap64 x = x := by unfold wrap64; omega
theorem rp_f0 {n : Int} (h : n ≥ 0) {r : ByteArray} (k : Ev (fun q => tallymanref01_Print.j0 q n (decide (n ≤ 9))) r) : Ev (fun q => tallymanref01_Print.f q n) r :=
  Ev.step (fun q => by rw [tallymanref01_Print.f, if_pos h]) k
theorem rp_f1 {n : Int} (h : ¬ n ≥ 0) {r : ByteArray} (k : Ev (fun q => tallymanref01_Print.j0 q n false) r) : Ev (fun q => tallymanref01_Print.f q n) r :=
  Ev.step (fun q => by rw [tallymanref01_Print.f, if_neg h]) k
theorem rp_one (d : Nat) (h : d ≤ 9) : Ev (fun k => tallymanref01_Print.f k (d : Int)) ⟨[digB d].toArray⟩ := by
  refine rp_f0 (by omega) (Ev.step (fun k => ?_) (Ev.now _))
  rw [tallymanref01_Print.j0, if_pos (by simp; omega), if_pos (by omega), w64_id (by omega) (by omega), if_pos (by omega), if_pos (by omega), show ((d : Int) + 1).toNat = d + 1 from by omega, Int.toNat_natCast, ext10 d h]
theorem rp_pos : ∀ (k n : Nat), n < 2 ^ (k + 1) → n ≤ 9223372036854775807 → k ≤ 63 → Ev (fun q => tallymanref01_Print.f q (n : Int)) ⟨(toD 10 (k + 1) n).toArray⟩ := by
  intro k
  induction k with
  | zero => intro n h _ _; rw [toD, if_pos (by omega), Nat.mod_eq_of_lt (by omega)]; exact rp_one n (by omega)
  | succ k ih =>
    intro n h h2 hk
    by_cases h9 : n ≤ 9
    · rw [toD, if_pos (by omega), Nat.mod_eq_of_lt (by omega)]; exact rp_one n h9
    · rw [toD, if_neg (by omega)]
      have hn : n / 10 < 2 ^ (k + 1) := two_pow_half (by decide) h
      refine rp_f0 (by omega) (Ev.step (fun k => by rw [tallymanref01_Print.j0, if_neg (by simp; omega), if_pos (by omega)]) ?_)
      rw [Int.tdiv_eq_ediv_of_nonneg (by omega), Int.tmod_eq_emod_of_nonneg (by omega), show (n : Int) / 10 = ((n / 10 : Nat) : Int) from by omega, show (n : Int) % 10 = ((n % 10 : Nat) : Int) from by omega, w64_id (by omega) (by omega)]
      refine Ev.bind (ih (n / 10) hn (by omega) (by omega)) (Ev.bind (rp_one (n % 10) (by omega)) ?_)
      have hl := toD_len 10 (k + 1) (n / 10)
      exact Ev.congr (fun k => if_pos (by rw [size_l, size_l]; simp; omega)) (by rw [append_l]; exact Ev.now _)
theorem rp_neg : ∀ (k m : Nat), 0 < m → m < 2 ^ (k + 1) → m ≤ 9223372036854775808 → k ≤ 63 → Ev (fun q => tallymanref01_Print.f q (-(m : Int))) ⟨(45 :: toD 10 (k + 1) m).toArray⟩ := by
  intro k
  induction k with
  | zero =>
    intro m h0 h _ _
    rw [toD, if_pos (by omega), Nat.mod_eq_of_lt (by omega)]
    refine rp_f1 (by omega) (Ev.step (fun k => by rw [tallymanref01_Print.j0, if_neg Bool.false_ne_true, if_neg (by omega), if_pos (by omega)]) ?_)
    rw [Int.neg_neg, w64_id (by omega) (by omega)]
    exact Ev.bind (rp_one m (by omega)) (Ev.congr (fun k => if_pos (by rw [size_l]; simp)) (Ev.congr (fun k => congrArg some (append_l [45] [digB m])) (Ev.now _)))
  | succ k ih =>
    intro m h0 h h2 hk
    by_cases h9 : m ≤ 9
    · rw [toD, if_pos (by omega), Nat.mod_eq_of_lt (by omega)]
      refine rp_f1 (by omega) (Ev.step (fun k => by rw [tallymanref01_Print.j0, if_neg Bool.false_ne_true, if_neg (by omega), if_pos (by omega)]) ?_)
      rw [Int.neg_neg, w64_id (by omega) (by omega)]
      exact Ev.bind (rp_one m (by omega)) (Ev.congr (fun k => if_pos (by rw [size_l]; simp)) (Ev.congr (fun k => congrArg some (append_l [45] [digB m])) (Ev.now _)))
    · rw [toD, if_neg (by omega)]
      have hn : m / 10 < 2 ^ (k + 1) := two_pow_half (by decide) h
      refine rp_f1 (by omega) (Ev.step (fun k => by rw [tallymanref01_Print.j0, if_neg Bool.false_ne_true, if_neg (by omega), if_neg (by omega)]) ?_)
      rw [Int.neg_tdiv, Int.neg_tmod, Int.tdiv_eq_ediv_of_nonneg (by omega), Int.tmod_eq_emod_of_nonneg (by omega), show (m : Int) / 10 = ((m / 10 : Nat) : Int) from by omega, show (m : Int) % 10 = ((m % 10 : Nat) : Int) from by omega, Int.neg_neg, w64_id (by omega) (by omega), w64_id (by omega) (by omega)]
      refine Ev.bind (ih (m / 10) (by omega) hn (by omega) (by omega)) (Ev.bind (rp_one (m % 10) (by omega)) ?_)
      have hl := toD_len 10 (k + 1) (m / 10)
      exact Ev.congr (fun k => if_pos (by rw [size_l, size_l]; simp; omega)) (by rw [append_l]; exact Ev.now _)
theorem print_ref (n : Int) (h0 : -9223372036854775808 ≤ n) (h1 : n ≤ 9223372036854775807) : Ev (fun q => tallymanref01_Print.f q n) ⟨(printS n).toArray⟩ := by
  unfold printS
  by_cases h : n < 0
  · rw [if_pos h]
    have := rp_neg 63 n.natAbs (by omega) (by omega) (by omega) (by omega)
    rw [show -((n.natAbs : Nat) : Int) = n from by omega] at this
    exact this
  · rw [if_neg h]
    have := rp_pos 63 n.natAbs (by omega) (by omega) (by omega)
    rw [show ((n.natAbs : Nat) : Int) = n from by omega] at this
    exact this
end Go.Proofs.Ytbkcdfiokjhcjaa.Pure
end

section
/- Plain lemmas: what the document's Parse and Unhex come to. -/
namespace Go.Proofs.Ytbkcdfiokjhcjaa.Pure
open Go.Proofs.Ytbkcdfiokjhcjaa.B Go.RowKit Go.Proofs.Ytbkcdfiokjhcjaa.P Go.Proofs.YtbkcdfiokjhcjaaW.PrintWords Go.Proofs.YtbkcdfiokjhcjaaW.PrintLast
set_option linter.unusedVariables false
set_option linter.unusedSimpArgs false
theorem w64_id' {x : Int} (h0 : -9223372036854775808 ≤ x) (h1 : x ≤ 9223372036854775807) : wrap64 x = x := by unfold wrap64; omega
def fin (low : Bool) : Option Nat → Int × Bool
  | none => (0, false)
  | some v => if v ≤ 9223372036854775808 then (if low = true then (-(v : Int), true) else if v = 9223372036854775808 then (0, false) else ((v : Int), true)) else (0, false)
theorem valB_dec {c : UInt8} (h : 48 ≤ c.toNat ∧ c.toNat ≤ 57) : valB c = c.toNat - 48 := by unfold valB; rw [if_pos h]
theorem valB_no {c : UInt8} (h : ¬ (48 ≤ c.toNat ∧ c.toNat ≤ 57)) : 10 ≤ valB c := by unfold valB; rw [if_neg h]; split <;> omega
theorem neg_tdiv10 (d : Nat) (h : d ≤ 9) : ((-9223372036854775808 + (d : Int)).tdiv 10) = -(((9223372036854775808 - d) / 10 : Nat) : Int) := by
  rw [show (-9223372036854775808 + (d : Int)) = -((9223372036854775808 - d : Nat) : Int) from by omega, Int.neg_tdiv, Int.tdiv_eq_ediv_of_nonneg (by omega)]
  omega
theorem drop_cons (l : List UInt8) (i : Nat) (h : i < l.length) : l.drop i = l[i] :: l.drop (i + 1) := List.drop_eq_getElem_cons h
theorem parse_loop (l : List UInt8) (low : Bool) (hl : l.length ≤ 19) : ∀ (d i w : Nat), i + d = l.length → w ≤ 9223372036854775808 → Ev (fun k => tallymanref01_Parse.l0 k ⟨l.toArray⟩ low (-(w : Int)) (i : Int)) (fin low (dval 10 (l.drop i) w)) := by
  intro d
  induction d with
  | zero =>
    intro i w hi hw
    rw [List.drop_eq_nil_of_le (by omega), dval, fin, if_pos hw]
    refine Ev.step (fun k => ?_) (Ev.now _)
    rw [tallymanref01_Parse.l0, size_l, if_neg (by omega)]
    cases low with
    | true => rw [if_pos rfl, if_pos rfl]
    | false =>
      rw [if_neg Bool.false_ne_true, if_neg Bool.false_ne_true]
      by_cases h : w = 9223372036854775808
      · rw [if_pos h, if_pos (by omega)]
      · rw [if_neg h, if_neg (by omega), Int.neg_neg, w64_id' (by omega) (by omega)]
  | succ d ih =>
    intro i w hi hw
    have hlt : i < l.length := by omega
    have hb : bt ⟨l.toArray⟩ (i : Int) = (l[i].toNat : Int) := bt_l l i hlt
    have hc : l[i].toNat < 256 := l[i].toNat_lt
    rw [drop_cons l i hlt, dval]
    by_cases h1 : 48 ≤ l[i].toNat ∧ l[i].toNat ≤ 57
    · have hv := valB_dec h1
      rw [if_neg (by omega)]
      refine Ev.step (fun k => by rw [tallymanref01_Parse.l0, size_l, if_pos (by omega), if_pos (by omega), hb, if_neg (by omega), show decide ((l[i].toNat : Int) > 57) = false from by simp; omega]) ?_
      have e1 : (((l[i].toNat : Int) - 48) % 256) = ((valB l[i] : Nat) : Int) := by omega
      by_cases hq : (9223372036854775808 - valB l[i]) / 10 < w
      · have hbig : 9223372036854775808 < w * 10 + valB l[i] := by
          have := (Nat.div_lt_iff_lt_mul (by decide)).1 hq
          omega
        have hf : fin low (dval 10 (l.drop (i + 1)) (w * 10 + valB l[i])) = (0, false) := by
          cases h : dval 10 (l.drop (i + 1)) (w * 10 + valB l[i]) with
          | none => rfl
          | some v =>
            have := dval_w 10 (by decide) _ _ v h
            rw [fin, if_neg (by omega)]
        rw [hf]
        refine Ev.step (fun k => ?_) (Ev.now _)
        rw [tallymanref01_Parse.j4, if_neg Bool.false_ne_true, if_pos (by omega), size_l, if_pos (by omega), hb, e1, neg_tdiv10 _ (by omega), if_pos (by omega)]
      · have hsm : w * 10 + valB l[i] ≤ 9223372036854775808 := by omega
        have := ih (i + 1) (w * 10 + valB l[i]) (by omega) hsm
        refine Ev.step (fun k => ?_) this
        rw [tallymanref01_Parse.j4, if_neg Bool.false_ne_true, if_pos (by omega), size_l, if_pos (by omega), hb, e1, neg_tdiv10 _ (by omega), if_neg (by omega), show wrap64 (10 * -(w : Int)) = 10 * -(w : Int) from w64_id' (by omega) (by omega), w64_id' (by omega) (by omega), w64_id' (by omega) (by omega)]
        rw [show 10 * -(w : Int) - ((valB l[i] : Nat) : Int) = -((w * 10 + valB l[i] : Nat) : Int) from by omega, show (i : Int) + 1 = ((i + 1 : Nat) : Int) from by omega]
    · have hv := valB_no h1
      rw [if_pos hv, fin]
      by_cases h2 : (l[i].toNat : Int) < 48
      · refine Ev.step (fun k => by rw [tallymanref01_Parse.l0, size_l, if_pos (by omega), if_pos (by omega), hb, if_pos h2]) (Ev.step (fun k => ?_) (Ev.now _))
        rw [tallymanref01_Parse.j4, if_pos rfl]
      · refine Ev.step (fun k => by rw [tallymanref01_Parse.l0, size_l, if_pos (by omega), if_pos (by omega), hb, if_neg h2, show decide ((l[i].toNat : Int) > 57) = true from by simp; omega]) (Ev.step (fun k => ?_) (Ev.now _))
        rw [tallymanref01_Parse.j4, if_pos rfl]
def parse1 (low : Bool) (d : List UInt8) : Int × Bool := if d = [] ∨ 19 < d.length ∨ (d.head? = some 48 ∧ (1 < d.length ∨ low = true)) then (0, false) else fin low (dval 10 d 0)
theorem j2_true (s : ByteArray) (low : Bool) : Ev (fun k => tallymanref01_Parse.j2 k s low true) (0, false) := Ev.step (fun k => by rw [tallymanref01_Parse.j2, if_pos rfl]) (Ev.now _)
theorem head_48 (c : UInt8) (t : List UInt8) : (c :: t).head? = some 48 ↔ c.toNat = 48 := by
  rw [List.head?_cons, Option.some.injEq, ← UInt8.toNat_inj]; rfl
theorem bt_0 (c : UInt8) (t : List UInt8) : bt ⟨(c :: t).toArray⟩ 0 = (c.toNat : Int) := bt_l (c :: t) 0 (by simp)
theorem j1_ev (low : Bool) (d : List UInt8) : Ev (fun k => tallymanref01_Parse.j1 k ⟨d.toArray⟩ low) (parse1 low d) := by
  unfold parse1
  cases d with
  | nil =>
    rw [if_pos (.inl rfl)]
    exact Ev.step (fun k => by rw [tallymanref01_Parse.j1, toList_l, if_pos rfl]) (j2_true _ _)
  | cons c t =>
    simp only [head_48]
    by_cases h1 : 19 < (c :: t).length
    · rw [if_pos (.inr (.inl h1))]
      exact Ev.step (fun k => by rw [tallymanref01_Parse.j1, toList_l, if_neg (by simp), size_l, if_pos (by omega)]) (j2_true _ _)
    · have hloop := parse_loop (c :: t) low (by omega) (c :: t).length 0 0 (by omega) (by omega)
      have h2 : Ev (fun k => tallymanref01_Parse.j2 k ⟨(c :: t).toArray⟩ low false) (fin low (dval 10 (c :: t) 0)) := Ev.step (fun k => by rw [tallymanref01_Parse.j2, if_neg Bool.false_ne_true]; rfl) hloop
      by_cases h48 : c.toNat = 48
      · by_cases h3 : 1 < (c :: t).length
        · rw [if_pos (.inr (.inr ⟨h48, .inl h3⟩))]
          exact Ev.step (fun k => by rw [tallymanref01_Parse.j1, toList_l, if_neg (by simp), size_l, if_neg (by omega), if_pos (by rw [List.length_cons]; omega), bt_0, if_pos (by omega), if_pos (by omega)]) (j2_true _ _)
        · have e : Ev (fun k => tallymanref01_Parse.j2 k ⟨(c :: t).toArray⟩ low low) (if (c :: t) = [] ∨ 19 < (c :: t).length ∨ (c.toNat = 48 ∧ (1 < (c :: t).length ∨ low = true)) then (0, false) else fin low (dval 10 (c :: t) 0)) := by
            cases low with
            | true => rw [if_pos (.inr (.inr ⟨h48, .inr rfl⟩))]; exact j2_true _ _
            | false => rw [if_neg (by rintro (h | h | h); cases h; exact h1 h; rcases h.2 with h | h; exact h3 h; cases h)]; exact h2
          exact Ev.step (fun k => by rw [tallymanref01_Parse.j1, toList_l, if_neg (by simp), size_l, if_neg (by omega), if_pos (by rw [List.length_cons]; omega), bt_0, if_pos (by omega), if_neg (by omega)]) e
      · rw [if_neg (by rintro (h | h | h); cases h; exact h1 h; exact h48 h.1)]
        exact Ev.step (fun k => by rw [tallymanref01_Parse.j1, toList_l, if_neg (by simp), size_l, if_neg (by omega), if_pos (by rw [List.length_cons]; omega), bt_0, if_neg (by omega)]) h2
theorem dval_first (b m : Nat) (hb : 2 ≤ b) (c : UInt8) (t : List UInt8) (hc : ¬ b ≤ valB c) (h0 : 1 ≤ valB c) (hm : m < b ^ t.length) : upto m (dval b (c :: t) 0) = (0, false) := by
  rw [dval, if_neg hc]
  cases h : dval b t (0 * b + valB c) with
  | none => rfl
  | some v =>
    have h1 := dval_ge b (by omega) t _ v h
    have h2 : 1 * b ^ t.length ≤ (0 * b + valB c) * b ^ t.length := Nat.mul_le_mul_right _ (by omega)
    rw [upto, if_neg (by omega)]
theorem dval_pos (b : Nat) (hb : 2 ≤ b) (c : UInt8) (t : List UInt8) (h0 : 1 ≤ valB c) {v : Nat} (h : dval b (c :: t) 0 = some v) : 0 < v := by
  rw [dval] at h
  split at h
  · cases h
  · have := dval_w b (by omega) t _ v h; omega
theorem valB_one {c : UInt8} (h : ¬ c.toNat = 48) : 1 ≤ valB c := by unfold valB; split; omega; split <;> omega
theorem pow19 (n : Nat) (h : 19 ≤ n) : 9223372036854775808 < 10 ^ n := Nat.lt_of_lt_of_le (by decide) (Nat.pow_le_pow_right (n := 10) (by decide) h)
theorem parse1_low (d : List UInt8) : parse1 true d = (if (takeD 10 9223372036854775808 d).2 = true then (if (takeD 10 9223372036854775808 d).1 = 0 then (0, false) else (-((takeD 10 9223372036854775808 d).1 : Int), true)) else (0, false)) := by
  have T := takeB_is 10 9223372036854775808 (by decide) (by decide) (by decide) d
  unfold parse1
  cases d with
  | nil => rfl
  | cons c t =>
    by_cases h48 : c.toNat = 48
    · have hh := (head_48 c t).2 h48
      rw [if_pos (.inr (.inr ⟨hh, .inr rfl⟩))]
      cases t with
      | nil =>
        have : dval 10 [c] 0 = some 0 := by rw [dval, valB_dec (by omega), if_neg (by omega), dval]; congr 1; omega
        rw [if_neg (by rintro (h | h); cases h; simp at h), this] at T
        rw [T]; rfl
      | cons c' t =>
        rw [if_pos (.inr ⟨hh, by simp⟩)] at T
        rw [T]; rfl
    · have hh : ¬ (c :: t).head? = some 48 := fun h => h48 ((head_48 c t).1 h)
      rw [if_neg (by rintro (h | h); cases h; exact hh h.1)] at T
      have h1 := valB_one h48
      by_cases hl : 19 < (c :: t).length
      · rw [if_pos (.inr (.inl hl))]
        by_cases hc : 10 ≤ valB c
        · rw [dval, if_pos hc] at T; rw [T]; rfl
        · rw [dval_first 10 _ (by decide) c t hc h1 (pow19 _ (by simp at hl; omega))] at T; rw [T]; rfl
      · rw [if_neg (by rintro (h | h | h); cases h; exact hl h; exact hh h.1)]
        rw [T]
        cases h : dval 10 (c :: t) 0 with
        | none => rfl
        | some v =>
          have := dval_pos 10 (by decide) c t h1 h
          rw [fin, upto]
          by_cases hv : v ≤ 9223372036854775808
          · rw [if_pos hv, if_pos hv, if_pos rfl, if_pos rfl, if_neg (by show ¬ v = 0; omega)]
          · rw [if_neg hv, if_neg hv, if_neg Bool.false_ne_true]
theorem parse1_high (d : List UInt8) : parse1 false d = (((takeD 10 9223372036854775807 d).1 : Int), (takeD 10 9223372036854775807 d).2) := by
  have T := takeB_is 10 9223372036854775807 (by decide) (by decide) (by decide) d
  unfold parse1
  cases d with
  | nil => rfl
  | cons c t =>
    by_cases h48 : c.toNat = 48
    · have hh := (head_48 c t).2 h48
      cases t with
      | nil =>
        have : dval 10 [c] 0 = some 0 := by rw [dval, valB_dec (by omega), if_neg (by omega), dval]; congr 1; omega
        rw [if_neg (by rintro (h | h); cases h; simp at h), this] at T
        rw [T, if_neg (by rintro (h | h | h); cases h; simp at h; rcases h.2 with h | h; simp at h; cases h), this]; rfl
      | cons c' t =>
        rw [if_pos (.inr ⟨hh, by simp⟩)] at T
        rw [T, if_pos (.inr (.inr ⟨hh, .inl (by simp)⟩))]; rfl
    · have hh : ¬ (c :: t).head? = some 48 := fun h => h48 ((head_48 c t).1 h)
      rw [if_neg (by rintro (h | h); cases h; exact hh h.1)] at T
      have h1 := valB_one h48
      by_cases hl : 19 < (c :: t).length
      · rw [if_pos (.inr (.inl hl))]
        by_cases hc : 10 ≤ valB c
        · rw [dval, if_pos hc] at T; rw [T]; rfl
        · rw [dval_first 10 _ (by decide) c t hc h1 (by have := pow19 t.length (by simp at hl; omega); omega)] at T; rw [T]; rfl
      · rw [if_neg (by rintro (h | h | h); cases h; exact hl h; exact hh h.1)]
        rw [T]
        cases h : dval 10 (c :: t) 0 with
        | none => rfl
        | some v =>
          rw [fin, upto]
          by_cases hv : v ≤ 9223372036854775807
          · rw [if_pos (by omega), if_pos hv, if_neg Bool.false_ne_true, if_neg (by omega)]
          · rw [if_neg hv]
            by_cases hv2 : v = 9223372036854775808
            · rw [if_pos (by omega), if_neg Bool.false_ne_true, if_pos hv2]; rfl
            · rw [if_neg (by omega)]; rfl
theorem parse_ref (l : List UInt8) (hl : l.length ≤ 1000000) : Ev (fun k => tallymanref01_Parse.f k ⟨l.toArray⟩) (parseS l) := by
  unfold parseS tallymanref01_Parse.f
  rw [size_l]
  cases l with
  | nil =>
    refine Ev.congr (fun k => if_neg (by simp)) (Ev.step (fun k => by rw [tallymanref01_Parse.j0, if_neg Bool.false_ne_true]) ?_)
    exact j1_ev false []
  | cons c t =>
    have h45 : (c :: t).head? = some 45 ↔ c.toNat = 45 := by rw [List.head?_cons, Option.some.injEq, ← UInt8.toNat_inj]; rfl
    rw [bt_0, List.tail_cons]
    refine Ev.congr (fun k => (if_pos (by rw [List.length_cons]; omega)).trans (if_pos (by rw [List.length_cons]; omega))) ?_
    by_cases h : c.toNat = 45
    · rw [if_pos (h45.2 h), show ((c.toNat : Int) == 45) = true from by simp; omega, ← parse1_low]
      refine Ev.step (fun k => by rw [tallymanref01_Parse.j0, if_pos rfl, size_l, if_pos (by simp; omega)]) ?_
      rw [extract_l, List.drop_one, List.tail_cons, List.take_of_length_le (by simp)]
      exact j1_ev true t
    · rw [if_neg (fun e => h (h45.1 e)), show ((c.toNat : Int) == 45) = false from by simp; omega, ← parse1_high]
      exact Ev.step (fun k => by rw [tallymanref01_Parse.j0, if_neg Bool.false_ne_true]) (j1_ev false (c :: t))
end Go.Proofs.Ytbkcdfiokjhcjaa.Pure
end

section
/- Plain lemmas: numbers come back from how they are printed, and what is read is printed so again. -/
namespace Go.Proofs.Ytbkcdfiokjhcjaa.Pure
open Go.Proofs.Ytbkcdfiokjhcjaa.B Go.RowKit Go.Proofs.Ytbkcdfiokjhcjaa.P Go.Proofs.YtbkcdfiokjhcjaaW.PrintWords Go.Proofs.YtbkcdfiokjhcjaaW.PrintLast
set_option linter.unusedVariables false
set_option linter.unusedSimpArgs false
theorem val_dig : ∀ d : Nat, d < 16 → valB (digB d) = d := by
  have : ∀ d : Fin 16, valB (digB d.1) = d.1 := by decide
  exact fun d h => this ⟨d, h⟩
theorem dig_val : ∀ c : UInt8, valB c < 16 → digB (valB c) = c := by
  have : ∀ n : Fin 256, valB (UInt8.ofNat n.1) < 16 → digB (valB (UInt8.ofNat n.1)) = UInt8.ofNat n.1 := by set_option maxRecDepth 100000 in decide
  intro c h
  have h1 := this ⟨c.toNat, c.toNat_lt⟩
  simp only [UInt8.ofNat_toNat] at h1
  exact h1 h
theorem dval_app (b : Nat) : ∀ (l : List UInt8) (w : Nat) (c : UInt8), dval b (l ++ [c]) w = (dval b l w).bind fun v => if b ≤ valB c then none else some (v * b + valB c) := by
  intro l
  induction l with
  | nil => intro w c; rfl
  | cons x l ih =>
    intro w c
    rw [List.cons_append, dval, dval]
    split
    · rfl
    · exact ih _ _
theorem dval_toD (b : Nat) (hb : 2 ≤ b) (hb16 : b ≤ 16) : ∀ (k w : Nat), w < 2 ^ (k + 1) → dval b (toD b (k + 1) w) 0 = some w := by
  intro k
  induction k with
  | zero =>
    intro w h
    have h0 : w / b = 0 := Nat.div_eq_of_lt (by omega)
    rw [toD, if_pos h0, Nat.mod_eq_of_lt (by omega), dval, val_dig _ (by omega), if_neg (by omega), dval]
    congr 1; omega
  | succ k ih =>
    intro w h
    rw [toD]
    have hm : w % b < b := Nat.mod_lt _ (by omega)
    by_cases h0 : w / b = 0
    · have := Nat.div_add_mod w b
      rw [h0] at this
      rw [if_pos h0, dval, val_dig _ (by omega), if_neg (by omega), dval]
      congr 1; omega
    · rw [if_neg h0, dval_app, ih _ (two_pow_half hb h), Option.bind_some, val_dig _ (by omega), if_neg (by omega)]
      congr 1
      have := Nat.div_add_mod w b
      rw [Nat.mul_comm] at this
      exact this
theorem toD_ne (b k w : Nat) : toD b (k + 1) w ≠ [] := by rw [toD]; split <;> simp
theorem toD_head (b : Nat) (hb : 2 ≤ b) (hb16 : b ≤ 16) : ∀ (k w : Nat), w < 2 ^ (k + 1) → ∃ d, d < 16 ∧ (toD b (k + 1) w).head? = some (digB d) ∧ (d = 0 → w = 0) := by
  intro k
  induction k with
  | zero =>
    intro w h
    have h0 : w / b = 0 := Nat.div_eq_of_lt (by omega)
    rw [toD, if_pos h0, Nat.mod_eq_of_lt (by omega)]
    exact ⟨w, by omega, rfl, id⟩
  | succ k ih =>
    intro w h
    rw [toD]
    have hm : w % b < b := Nat.mod_lt _ (by omega)
    by_cases h0 : w / b = 0
    · have := Nat.div_add_mod w b
      rw [h0] at this
      rw [if_pos h0]
      exact ⟨w % b, by omega, rfl, fun e => by omega⟩
    · rw [if_neg h0]
      obtain ⟨d, h1, h2, h3⟩ := ih _ (two_pow_half hb h)
      refine ⟨d, h1, ?_, fun e => absurd (h3 e) h0⟩
      rw [List.head?_append, h2]; rfl
theorem toD_zero (b : Nat) (k : Nat) : toD b (k + 1) 0 = [48] := by rw [toD, if_pos (by simp)]; simp [digB]
theorem dig_48 : ∀ d : Nat, d < 16 → digB d = 48 → d = 0 := by
  have : ∀ d : Fin 16, digB d.1 = 48 → d.1 = 0 := by decide
  exact fun d h => this ⟨d, h⟩
theorem dig_45 : ∀ d : Nat, d < 16 → digB d ≠ 45 := by
  have : ∀ d : Fin 16, digB d.1 ≠ 45 := by decide
  exact fun d h => this ⟨d, h⟩
theorem take_toD (b m w : Nat) (hb : 2 ≤ b) (hb16 : b ≤ 16) (hm : 100 ≤ m) (hw : w ≤ m) (h64 : w < 2 ^ 64) : takeD b m (toD b 64 w) = (w, true) := by
  rw [takeB_is b m hb hm hb16, dval_toD b hb hb16 63 w h64, upto, if_pos hw]
  rw [if_neg]
  rintro (h | ⟨h1, h2⟩)
  · exact toD_ne b 63 w h
  · obtain ⟨d, h3, h4, h5⟩ := toD_head b hb hb16 63 w h64
    rw [h4, Option.some.injEq] at h1
    have := h5 (dig_48 d h3 h1)
    subst this
    rw [toD_zero] at h2
    simp at h2
theorem parse_print (n : Int) (h0 : -9223372036854775808 ≤ n) (h1 : n ≤ 9223372036854775807) : parseS (printS n) = (n, true) := by
  unfold parseS printS
  by_cases h : n < 0
  · rw [if_pos h, if_pos (show (45 :: toD 10 64 n.natAbs).head? = some 45 from rfl), List.tail_cons, take_toD 10 _ _ (by decide) (by decide) (by decide) (by omega) (by omega), if_pos rfl, if_neg (by omega)]
    congr 1
    simp only []
    omega
  · obtain ⟨d, h3, h4, h5⟩ := toD_head 10 (by decide) (by decide) 63 n.natAbs (by omega)
    rw [if_neg h, h4, if_neg (by intro e; exact dig_45 d h3 (Option.some.inj e)), take_toD 10 _ _ (by decide) (by decide) (by decide) (by omega) (by omega)]
    congr 1
    simp only []
    omega
theorem toD_uniq (b : Nat) (hb : 2 ≤ b) (hb16 : b ≤ 16) : ∀ (k : Nat) (l : List UInt8) (v : Nat), v < 2 ^ (k + 1) → l ≠ [] → ¬ (l.head? = some 48 ∧ 1 < l.length) → dval b l 0 = some v → toD b (k + 1) v = l := by
  intro k
  induction k with
  | zero =>
    intro l v hv hl hh hd
    rcases List.eq_nil_or_concat l with rfl | ⟨L, c, rfl⟩
    · exact absurd rfl hl
    · rw [List.concat_eq_append] at *
      rw [dval_app] at hd
      cases hL : dval b L 0 with
      | none => rw [hL] at hd; cases hd
      | some u =>
        rw [hL, Option.bind_some] at hd
        split at hd
        · cases hd
        · obtain rfl := Option.some.inj hd
          rename_i hc
          cases L with
          | nil =>
            rw [dval] at hL
            obtain rfl := Option.some.inj hL
            have h1 := dig_val c (by omega)
            have e : 0 * b + valB c = valB c := by omega
            rw [e] at hv ⊢
            rw [toD, if_pos (Nat.div_eq_of_lt (by omega)), Nat.mod_eq_of_lt (by omega), h1]; rfl
          | cons x L =>
            exfalso
            have hx : ¬ x.toNat = 48 := by
              intro e
              refine hh ⟨?_, by simp⟩
              rw [List.cons_append, List.head?_cons, Option.some.injEq, ← UInt8.toNat_inj]; exact e
            have hx1 : 1 ≤ valB x := by unfold valB; split; omega; split <;> omega
            have hu : 1 ≤ u := by
              rw [dval] at hL
              split at hL
              · cases hL
              · have := dval_w b (by omega) L _ u hL; omega
            have : 1 * b ≤ u * b := Nat.mul_le_mul_right _ hu
            omega
  | succ k ih =>
    intro l v hv hl hh hd
    rcases List.eq_nil_or_concat l with rfl | ⟨L, c, rfl⟩
    · exact absurd rfl hl
    · rw [List.concat_eq_append] at *
      rw [dval_app] at hd
      cases hL : dval b L 0 with
      | none => rw [hL] at hd; cases hd
      | some u =>
        rw [hL, Option.bind_some] at hd
        split at hd
        · cases hd
        · obtain rfl := Option.some.inj hd
          rename_i hc
          have h1 := dig_val c (by omega)
          have hdiv : (u * b + valB c) / b = u := by
            rw [Nat.mul_comm, Nat.mul_add_div (by omega), Nat.div_eq_of_lt (by omega), Nat.add_zero]
          have hmod : (u * b + valB c) % b = valB c := by
            rw [Nat.mul_comm, Nat.mul_add_mod, Nat.mod_eq_of_lt (by omega)]
          rw [toD, hdiv, hmod, h1]
          cases L with
          | nil =>
            rw [dval] at hL
            obtain rfl := Option.some.inj hL
            rw [if_pos rfl]; rfl
          | cons x L =>
            have hx : ¬ x.toNat = 48 := by
              intro e
              refine hh ⟨?_, by simp⟩
              rw [List.cons_append, List.head?_cons, Option.some.injEq, ← UInt8.toNat_inj]; exact e
            have hx1 : 1 ≤ valB x := by unfold valB; split; omega; split <;> omega
            have hu : 1 ≤ u := by
              have hL2 := hL
              rw [dval] at hL2
              split at hL2
              · cases hL2
              · have := dval_w b (by omega) L _ u hL2; omega
            rw [if_neg (by omega)]
            have hv2 : u < 2 ^ (k + 1) := by have := two_pow_half hb hv; rw [hdiv] at this; exact this
            rw [ih (x :: L) u hv2 (by simp) (by rintro ⟨h, _⟩; rw [List.head?_cons, Option.some.injEq] at h; rw [h] at hx; exact hx rfl) hL]
theorem take_back (b m w : Nat) (hb : 2 ≤ b) (hb16 : b ≤ 16) (hm : 100 ≤ m) (h64 : m < 2 ^ 64) (l : List UInt8) (h : takeD b m l = (w, true)) : toD b 64 w = l := by
  rw [takeB_is b m hb hm hb16] at h
  split at h
  · cases h
  · rename_i hn
    cases hd : dval b l 0 with
    | none => rw [hd] at h; cases h
    | some v =>
      rw [hd, upto] at h
      split at h
      · obtain rfl := congrArg Prod.fst h
        exact toD_uniq b hb hb16 63 l _ (by simp; omega) (fun e => hn (.inl e)) (fun e => hn (.inr e)) hd
      · cases h
theorem print_parse (l : List UInt8) (c : Int) (h : parseS l = (c, true)) : printS c = l ∧ -9223372036854775808 ≤ c ∧ c ≤ 9223372036854775807 := by
  unfold parseS at h
  split at h
  · rename_i h45
    split at h
    · rename_i h2
      split at h
      · cases h
      · rename_i h3
        obtain rfl := (congrArg Prod.fst h).symm
        have hle := takeB_le 10 9223372036854775808 (by decide) (by decide) (by decide) l.tail
        have hb := take_back 10 9223372036854775808 (takeD 10 9223372036854775808 l.tail).1 (by decide) (by decide) (by decide) (by decide) l.tail (by rw [← h2])
        simp only [] at *
        refine ⟨?_, by omega, by omega⟩
        unfold printS
        rw [if_pos (by omega), Int.natAbs_neg, Int.natAbs_natCast, hb]
        cases l with
        | nil => cases h45
        | cons x l => rw [List.head?_cons, Option.some.injEq] at h45; rw [h45]; rfl
    · cases h
  · obtain rfl := (congrArg Prod.fst h).symm
    have h2 := congrArg Prod.snd h
    have hle := takeB_le 10 9223372036854775807 (by decide) (by decide) (by decide) l
    have hb := take_back 10 9223372036854775807 (takeD 10 9223372036854775807 l).1 (by decide) (by decide) (by decide) (by decide) l (Prod.ext rfl h2)
    simp only [] at *
    refine ⟨?_, by omega, by omega⟩
    unfold printS
    rw [if_neg (by omega), Int.natAbs_natCast, hb]
theorem print_inj (n m : Int) (h0 : -9223372036854775808 ≤ n) (h1 : n ≤ 9223372036854775807) (h2 : -9223372036854775808 ≤ m) (h3 : m ≤ 9223372036854775807) : (printS n == printS m) = (n == m) := by
  rw [Bool.eq_iff_iff, beq_iff_eq, beq_iff_eq]
  constructor
  · intro h
    have e1 := parse_print n h0 h1
    rw [h, parse_print m h2 h3] at e1
    exact (congrArg Prod.fst e1).symm
  · rintro rfl; rfl
end Go.Proofs.Ytbkcdfiokjhcjaa.Pure
end
