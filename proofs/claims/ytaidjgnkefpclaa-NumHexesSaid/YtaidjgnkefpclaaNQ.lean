/- Plain lemmas: what the document's Parse and Unhex come to. -/
import Derived.Test.YtaidjgnkefpclaaF9
import Derived.Test.YtaidjgnkefpclaaF13
import Derived.Test.YtaidjgnkefpclaaNL
namespace Go.Proofs.Ytaidjgnkefpclaa.Pure
open Go.Proofs.Ytaidjgnkefpclaa.B Go.RowKit Go.Proofs.Ytaidjgnkefpclaa.P Go.Proofs.YtaidjgnkefpclaaW.PrintWords Go.Proofs.YtaidjgnkefpclaaW.PrintLast
set_option linter.unusedVariables false
set_option linter.unusedSimpArgs false
theorem w64_id' {x : Int} (h0 : -9223372036854775808 ≤ x) (h1 : x ≤ 9223372036854775807) : wrap64 x = x := by unfold wrap64; omega
def fin (low : Bool) : Option Nat → Int × Bool
  | none => (0, false)
  | some v => if v ≤ 9223372036854775808 then (if low = true then (-(v : Int), true) else if v = 9223372036854775808 then (0, false) else ((v : Int), true)) else (0, false)
theorem valB_dec {c : UInt8} (h : 48 ≤ c.toNat ∧ c.toNat ≤ 57) : valB c = c.toNat - 48 := by unfold valB; rw [if_pos h]
theorem valB_no {c : UInt8} (h : ¬ (48 ≤ c.toNat ∧ c.toNat ≤ 57)) : 10 ≤ valB c := by unfold valB; rw [if_neg h]; split <;> omega
theorem neg_tdiv10 (d : Nat) (h : d ≤ 9) : ((-9223372036854775808 + (d : Int)).tdiv 10) = -(((9223372036854775808 - d) / 10 : Nat) : Int) := by
  rw [show (-9223372036854775808 + (d : Int)) = -((9223372036854775808 - d : Nat) : Int) from by omega, Int.neg_tdiv, Int.tdiv_eq_ediv_of_nonneg (by omega)]
  omega
theorem drop_cons (l : List UInt8) (i : Nat) (h : i < l.length) : l.drop i = l[i] :: l.drop (i + 1) := List.drop_eq_getElem_cons h
theorem parse_loop (l : List UInt8) (low : Bool) (hl : l.length ≤ 19) : ∀ (d i w : Nat), i + d = l.length → w ≤ 9223372036854775808 → Ev (fun k => tallymanref01_Parse.l0 k ⟨l.toArray⟩ low (-(w : Int)) (i : Int)) (fin low (dval 10 (l.drop i) w)) := by
  intro d
  induction d with
  | zero =>
    intro i w hi hw
    rw [List.drop_eq_nil_of_le (by omega), dval, fin, if_pos hw]
    refine Ev.step (fun k => ?_) (Ev.now _)
    rw [tallymanref01_Parse.l0, size_l, if_neg (by omega)]
    cases low with
    | true => rw [if_pos rfl, if_pos rfl]
    | false =>
      rw [if_neg Bool.false_ne_true, if_neg Bool.false_ne_true]
      by_cases h : w = 9223372036854775808
      · rw [if_pos h, if_pos (by omega)]
      · rw [if_neg h, if_neg (by omega), Int.neg_neg, w64_id' (by omega) (by omega)]
  | succ d ih =>
    intro i w hi hw
    have hlt : i < l.length := by omega
    have hb : bt ⟨l.toArray⟩ (i : Int) = (l[i].toNat : Int) := bt_l l i hlt
    have hc : l[i].toNat < 256 := l[i].toNat_lt
    rw [drop_cons l i hlt, dval]
    by_cases h1 : 48 ≤ l[i].toNat ∧ l[i].toNat ≤ 57
    · have hv := valB_dec h1
      rw [if_neg (by omega)]
      refine Ev.step (fun k => by rw [tallymanref01_Parse.l0, size_l, if_pos (by omega), if_pos (by omega), hb, if_neg (by omega), show decide ((l[i].toNat : Int) > 57) = false from by simp; omega]) ?_
      have e1 : (((l[i].toNat : Int) - 48) % 256) = ((valB l[i] : Nat) : Int) := by omega
      by_cases hq : (9223372036854775808 - valB l[i]) / 10 < w
      · have hbig : 9223372036854775808 < w * 10 + valB l[i] := by
          have := (Nat.div_lt_iff_lt_mul (by decide)).1 hq
          omega
        have hf : fin low (dval 10 (l.drop (i + 1)) (w * 10 + valB l[i])) = (0, false) := by
          cases h : dval 10 (l.drop (i + 1)) (w * 10 + valB l[i]) with
          | none => rfl
          | some v =>
            have := dval_w 10 (by decide) _ _ v h
            rw [fin, if_neg (by omega)]
        rw [hf]
        refine Ev.step (fun k => ?_) (Ev.now _)
        rw [tallymanref01_Parse.j4, if_neg Bool.false_ne_true, if_pos (by omega), size_l, if_pos (by omega), hb, e1, neg_tdiv10 _ (by omega), if_pos (by omega)]
      · have hsm : w * 10 + valB l[i] ≤ 9223372036854775808 := by omega
        have := ih (i + 1) (w * 10 + valB l[i]) (by omega) hsm
        refine Ev.step (fun k => ?_) this
        rw [tallymanref01_Parse.j4, if_neg Bool.false_ne_true, if_pos (by omega), size_l, if_pos (by omega), hb, e1, neg_tdiv10 _ (by omega), if_neg (by omega), show wrap64 (10 * -(w : Int)) = 10 * -(w : Int) from w64_id' (by omega) (by omega), w64_id' (by omega) (by omega), w64_id' (by omega) (by omega)]
        rw [show 10 * -(w : Int) - ((valB l[i] : Nat) : Int) = -((w * 10 + valB l[i] : Nat) : Int) from by omega, show (i : Int) + 1 = ((i + 1 : Nat) : Int) from by omega]
    · have hv := valB_no h1
      rw [if_pos hv, fin]
      by_cases h2 : (l[i].toNat : Int) < 48
      · refine Ev.step (fun k => by rw [tallymanref01_Parse.l0, size_l, if_pos (by omega), if_pos (by omega), hb, if_pos h2]) (Ev.step (fun k => ?_) (Ev.now _))
        rw [tallymanref01_Parse.j4, if_pos rfl]
      · refine Ev.step (fun k => by rw [tallymanref01_Parse.l0, size_l, if_pos (by omega), if_pos (by omega), hb, if_neg h2, show decide ((l[i].toNat : Int) > 57) = true from by simp; omega]) (Ev.step (fun k => ?_) (Ev.now _))
        rw [tallymanref01_Parse.j4, if_pos rfl]
def parse1 (low : Bool) (d : List UInt8) : Int × Bool := if d = [] ∨ 19 < d.length ∨ (d.head? = some 48 ∧ (1 < d.length ∨ low = true)) then (0, false) else fin low (dval 10 d 0)
theorem j2_true (s : ByteArray) (low : Bool) : Ev (fun k => tallymanref01_Parse.j2 k s low true) (0, false) := Ev.step (fun k => by rw [tallymanref01_Parse.j2, if_pos rfl]) (Ev.now _)
theorem head_48 (c : UInt8) (t : List UInt8) : (c :: t).head? = some 48 ↔ c.toNat = 48 := by
  rw [List.head?_cons, Option.some.injEq, ← UInt8.toNat_inj]; rfl
theorem bt_0 (c : UInt8) (t : List UInt8) : bt ⟨(c :: t).toArray⟩ 0 = (c.toNat : Int) := bt_l (c :: t) 0 (by simp)
theorem j1_ev (low : Bool) (d : List UInt8) : Ev (fun k => tallymanref01_Parse.j1 k ⟨d.toArray⟩ low) (parse1 low d) := by
  unfold parse1
  cases d with
  | nil =>
    rw [if_pos (.inl rfl)]
    exact Ev.step (fun k => by rw [tallymanref01_Parse.j1, toList_l, if_pos rfl]) (j2_true _ _)
  | cons c t =>
    simp only [head_48]
    by_cases h1 : 19 < (c :: t).length
    · rw [if_pos (.inr (.inl h1))]
      exact Ev.step (fun k => by rw [tallymanref01_Parse.j1, toList_l, if_neg (by simp), size_l, if_pos (by omega)]) (j2_true _ _)
    · have hloop := parse_loop (c :: t) low (by omega) (c :: t).length 0 0 (by omega) (by omega)
      have h2 : Ev (fun k => tallymanref01_Parse.j2 k ⟨(c :: t).toArray⟩ low false) (fin low (dval 10 (c :: t) 0)) := Ev.step (fun k => by rw [tallymanref01_Parse.j2, if_neg Bool.false_ne_true]; rfl) hloop
      by_cases h48 : c.toNat = 48
      · by_cases h3 : 1 < (c :: t).length
        · rw [if_pos (.inr (.inr ⟨h48, .inl h3⟩))]
          exact Ev.step (fun k => by rw [tallymanref01_Parse.j1, toList_l, if_neg (by simp), size_l, if_neg (by omega), if_pos (by rw [List.length_cons]; omega), bt_0, if_pos (by omega), if_pos (by omega)]) (j2_true _ _)
        · have e : Ev (fun k => tallymanref01_Parse.j2 k ⟨(c :: t).toArray⟩ low low) (if (c :: t) = [] ∨ 19 < (c :: t).length ∨ (c.toNat = 48 ∧ (1 < (c :: t).length ∨ low = true)) then (0, false) else fin low (dval 10 (c :: t) 0)) := by
            cases low with
            | true => rw [if_pos (.inr (.inr ⟨h48, .inr rfl⟩))]; exact j2_true _ _
            | false => rw [if_neg (by rintro (h | h | h); cases h; exact h1 h; rcases h.2 with h | h; exact h3 h; cases h)]; exact h2
          exact Ev.step (fun k => by rw [tallymanref01_Parse.j1, toList_l, if_neg (by simp), size_l, if_neg (by omega), if_pos (by rw [List.length_cons]; omega), bt_0, if_pos (by omega), if_neg (by omega)]) e
      · rw [if_neg (by rintro (h | h | h); cases h; exact h1 h; exact h48 h.1)]
        exact Ev.step (fun k => by rw [tallymanref01_Parse.j1, toList_l, if_neg (by simp), size_l, if_neg (by omega), if_pos (by rw [List.length_cons]; omega), bt_0, if_neg (by omega)]) h2
theorem dval_first (b m : Nat) (hb : 2 ≤ b) (c : UInt8) (t : List UInt8) (hc : ¬ b ≤ valB c) (h0 : 1 ≤ valB c) (hm : m < b ^ t.length) : upto m (dval b (c :: t) 0) = (0, false) := by
  rw [dval, if_neg hc]
  cases h : dval b t (0 * b + valB c) with
  | none => rfl
  | some v =>
    have h1 := dval_ge b (by omega) t _ v h
    have h2 : 1 * b ^ t.length ≤ (0 * b + valB c) * b ^ t.length := Nat.mul_le_mul_right _ (by omega)
    rw [upto, if_neg (by omega)]
theorem dval_pos (b : Nat) (hb : 2 ≤ b) (c : UInt8) (t : List UInt8) (h0 : 1 ≤ valB c) {v : Nat} (h : dval b (c :: t) 0 = some v) : 0 < v := by
  rw [dval] at h
  split at h
  · cases h
  · have := dval_w b (by omega) t _ v h; omega
theorem valB_one {c : UInt8} (h : ¬ c.toNat = 48) : 1 ≤ valB c := by unfold valB; split; omega; split <;> omega
theorem pow19 (n : Nat) (h : 19 ≤ n) : 9223372036854775808 < 10 ^ n := Nat.lt_of_lt_of_le (by decide) (Nat.pow_le_pow_right (n := 10) (by decide) h)
theorem parse1_low (d : List UInt8) : parse1 true d = (if (takeD 10 9223372036854775808 d).2 = true then (if (takeD 10 9223372036854775808 d).1 = 0 then (0, false) else (-((takeD 10 9223372036854775808 d).1 : Int), true)) else (0, false)) := by
  have T := takeB_is 10 9223372036854775808 (by decide) (by decide) (by decide) d
  unfold parse1
  cases d with
  | nil => rfl
  | cons c t =>
    by_cases h48 : c.toNat = 48
    · have hh := (head_48 c t).2 h48
      rw [if_pos (.inr (.inr ⟨hh, .inr rfl⟩))]
      cases t with
      | nil =>
        have : dval 10 [c] 0 = some 0 := by rw [dval, valB_dec (by omega), if_neg (by omega), dval]; congr 1; omega
        rw [if_neg (by rintro (h | h); cases h; simp at h), this] at T
        rw [T]; rfl
      | cons c' t =>
        rw [if_pos (.inr ⟨hh, by simp⟩)] at T
        rw [T]; rfl
    · have hh : ¬ (c :: t).head? = some 48 := fun h => h48 ((head_48 c t).1 h)
      rw [if_neg (by rintro (h | h); cases h; exact hh h.1)] at T
      have h1 := valB_one h48
      by_cases hl : 19 < (c :: t).length
      · rw [if_pos (.inr (.inl hl))]
        by_cases hc : 10 ≤ valB c
        · rw [dval, if_pos hc] at T; rw [T]; rfl
        · rw [dval_first 10 _ (by decide) c t hc h1 (pow19 _ (by simp at hl; omega))] at T; rw [T]; rfl
      · rw [if_neg (by rintro (h | h | h); cases h; exact hl h; exact hh h.1)]
        rw [T]
        cases h : dval 10 (c :: t) 0 with
        | none => rfl
        | some v =>
          have := dval_pos 10 (by decide) c t h1 h
          rw [fin, upto]
          by_cases hv : v ≤ 9223372036854775808
          · rw [if_pos hv, if_pos hv, if_pos rfl, if_pos rfl, if_neg (by show ¬ v = 0; omega)]
          · rw [if_neg hv, if_neg hv, if_neg Bool.false_ne_true]
theorem parse1_high (d : List UInt8) : parse1 false d = (((takeD 10 9223372036854775807 d).1 : Int), (takeD 10 9223372036854775807 d).2) := by
  have T := takeB_is 10 9223372036854775807 (by decide) (by decide) (by decide) d
  unfold parse1
  cases d with
  | nil => rfl
  | cons c t =>
    by_cases h48 : c.toNat = 48
    · have hh := (head_48 c t).2 h48
      cases t with
      | nil =>
        have : dval 10 [c] 0 = some 0 := by rw [dval, valB_dec (by omega), if_neg (by omega), dval]; congr 1; omega
        rw [if_neg (by rintro (h | h); cases h; simp at h), this] at T
        rw [T, if_neg (by rintro (h | h | h); cases h; simp at h; rcases h.2 with h | h; simp at h; cases h), this]; rfl
      | cons c' t =>
        rw [if_pos (.inr ⟨hh, by simp⟩)] at T
        rw [T, if_pos (.inr (.inr ⟨hh, .inl (by simp)⟩))]; rfl
    · have hh : ¬ (c :: t).head? = some 48 := fun h => h48 ((head_48 c t).1 h)
      rw [if_neg (by rintro (h | h); cases h; exact hh h.1)] at T
      have h1 := valB_one h48
      by_cases hl : 19 < (c :: t).length
      · rw [if_pos (.inr (.inl hl))]
        by_cases hc : 10 ≤ valB c
        · rw [dval, if_pos hc] at T; rw [T]; rfl
        · rw [dval_first 10 _ (by decide) c t hc h1 (by have := pow19 t.length (by simp at hl; omega); omega)] at T; rw [T]; rfl
      · rw [if_neg (by rintro (h | h | h); cases h; exact hl h; exact hh h.1)]
        rw [T]
        cases h : dval 10 (c :: t) 0 with
        | none => rfl
        | some v =>
          rw [fin, upto]
          by_cases hv : v ≤ 9223372036854775807
          · rw [if_pos (by omega), if_pos hv, if_neg Bool.false_ne_true, if_neg (by omega)]
          · rw [if_neg hv]
            by_cases hv2 : v = 9223372036854775808
            · rw [if_pos (by omega), if_neg Bool.false_ne_true, if_pos hv2]; rfl
            · rw [if_neg (by omega)]; rfl
theorem parse_ref (l : List UInt8) (hl : l.length ≤ 1000000) : Ev (fun k => tallymanref01_Parse.f k ⟨l.toArray⟩) (parseS l) := by
  unfold parseS tallymanref01_Parse.f
  rw [size_l]
  cases l with
  | nil =>
    refine Ev.congr (fun k => if_neg (by simp)) (Ev.step (fun k => by rw [tallymanref01_Parse.j0, if_neg Bool.false_ne_true]) ?_)
    exact j1_ev false []
  | cons c t =>
    have h45 : (c :: t).head? = some 45 ↔ c.toNat = 45 := by rw [List.head?_cons, Option.some.injEq, ← UInt8.toNat_inj]; rfl
    rw [bt_0, List.tail_cons]
    refine Ev.congr (fun k => (if_pos (by rw [List.length_cons]; omega)).trans (if_pos (by rw [List.length_cons]; omega))) ?_
    by_cases h : c.toNat = 45
    · rw [if_pos (h45.2 h), show ((c.toNat : Int) == 45) = true from by simp; omega, ← parse1_low]
      refine Ev.step (fun k => by rw [tallymanref01_Parse.j0, if_pos rfl, size_l, if_pos (by simp; omega)]) ?_
      rw [extract_l, List.drop_one, List.tail_cons, List.take_of_length_le (by simp)]
      exact j1_ev true t
    · rw [if_neg (fun e => h (h45.1 e)), show ((c.toNat : Int) == 45) = false from by simp; omega, ← parse1_high]
      exact Ev.step (fun k => by rw [tallymanref01_Parse.j0, if_neg Bool.false_ne_true]) (j1_ev false (c :: t))
end Go.Proofs.Ytaidjgnkefpclaa.Pure
