/- Plain lemmas: what the document's Unhex comes to. -/
import Derived.Test.YtaidjgnkefpclaaNQ
namespace Go.Proofs.Ytaidjgnkefpclaa.Pure
open Go.Proofs.Ytaidjgnkefpclaa.B Go.RowKit Go.Proofs.Ytaidjgnkefpclaa.P Go.Proofs.YtaidjgnkefpclaaW.PrintWords Go.Proofs.YtaidjgnkefpclaaW.PrintLast
set_option linter.unusedVariables false
set_option linter.unusedSimpArgs false
def fin16 : Option Nat → Int × Bool
  | none => (0, false)
  | some v => ((v : Int), true)
theorem valB_hex {c : UInt8} (h0 : ¬ (48 ≤ c.toNat ∧ c.toNat ≤ 57)) (h : 97 ≤ c.toNat ∧ c.toNat ≤ 102) : valB c = c.toNat - 87 := by unfold valB; rw [if_neg h0, if_pos h]
theorem valB_not {c : UInt8} (h0 : ¬ (48 ≤ c.toNat ∧ c.toNat ≤ 57)) (h : ¬ (97 ≤ c.toNat ∧ c.toNat ≤ 102)) : valB c = 99 := by unfold valB; rw [if_neg h0, if_neg h]
theorem pow16 (i : Nat) (h : i ≤ 15) : 16 ^ i * 16 ≤ 2 ^ 64 := by
  have : 16 ^ i ≤ 16 ^ 15 := Nat.pow_le_pow_right (n := 16) (by decide) h
  have e : (16 : Nat) ^ 15 = 2 ^ 60 := by decide
  omega
theorem unhex_loop (l : List UInt8) (hl : l.length ≤ 16) : ∀ (d i w : Nat), i + d = l.length → w < 16 ^ i → Ev (fun k => tallymanref01_Unhex.l0 k ⟨l.toArray⟩ (w : Int) (i : Int)) (fin16 (dval 16 (l.drop i) w)) := by
  intro d
  induction d with
  | zero =>
    intro i w hi hw
    rw [List.drop_eq_nil_of_le (by omega), dval, fin16]
    refine Ev.step (fun k => ?_) (Ev.now _)
    rw [tallymanref01_Unhex.l0, size_l, if_neg (by omega)]
  | succ d ih =>
    intro i w hi hw
    have hlt : i < l.length := by omega
    have hb : bt ⟨l.toArray⟩ (i : Int) = (l[i].toNat : Int) := bt_l l i hlt
    have hc : l[i].toNat < 256 := l[i].toNat_lt
    have hp := pow16 i (by omega)
    rw [drop_cons l i hlt, dval]
    have go : ∀ x : Nat, x < 16 → Ev (fun k => tallymanref01_Unhex.l0 k ⟨l.toArray⟩ ((w * 16 + x : Nat) : Int) ((i + 1 : Nat) : Int)) (fin16 (dval 16 (l.drop (i + 1)) (w * 16 + x))) := fun x hx => ih (i + 1) _ (by omega) (by rw [Nat.pow_succ]; omega)
    by_cases h1 : 48 ≤ l[i].toNat ∧ l[i].toNat ≤ 57
    · have hv := valB_dec h1
      rw [if_neg (by omega)]
      refine Ev.step (fun k => by rw [tallymanref01_Unhex.l0, size_l, if_pos (by omega), if_pos (by omega), hb, if_pos (by omega), show decide ((l[i].toNat : Int) ≤ 57) = true from by simp; omega]) (Ev.step (fun k => ?_) (go (valB l[i]) (by omega)))
      rw [tallymanref01_Unhex.j2, if_pos rfl, if_pos (by omega), size_l, if_pos (by omega), hb, show IntKind.u64.wrap (16 * (w : Int)) = 16 * (w : Int) from by rw [wrap_u64]; omega, show IntKind.u64.wrap (16 * (w : Int) + ((l[i].toNat : Int) - 48) % 256) = ((w * 16 + valB l[i] : Nat) : Int) from by rw [wrap_u64]; omega, w64_id' (by omega) (by omega)]
      rfl
    · have e1 : Ev (fun k => tallymanref01_Unhex.j2 k ⟨l.toArray⟩ (w : Int) (i : Int) false) (fin16 (if 16 ≤ valB l[i] then none else dval 16 (l.drop (i + 1)) (w * 16 + valB l[i]))) := by
        by_cases h2 : 97 ≤ l[i].toNat ∧ l[i].toNat ≤ 102
        · have hv := valB_hex h1 h2
          rw [if_neg (by omega)]
          refine Ev.step (fun k => ?_) (go (valB l[i]) (by omega))
          rw [tallymanref01_Unhex.j2, if_neg Bool.false_ne_true, if_pos (by omega), size_l, if_pos (by omega), hb, if_pos (by omega), if_pos (by omega), show IntKind.u64.wrap (16 * (w : Int)) = 16 * (w : Int) from by rw [wrap_u64]; omega, show IntKind.u64.wrap (16 * (w : Int) + ((l[i].toNat : Int) - 97) % 256) = 16 * (w : Int) + ((l[i].toNat : Int) - 97) from by rw [wrap_u64]; omega, show IntKind.u64.wrap (16 * (w : Int) + ((l[i].toNat : Int) - 97) + 10) = ((w * 16 + valB l[i] : Nat) : Int) from by rw [wrap_u64]; omega, w64_id' (by omega) (by omega)]
          rfl
        · have hv := valB_not h1 h2
          rw [if_pos (by omega), fin16]
          refine Ev.step (fun k => ?_) (Ev.now _)
          rw [tallymanref01_Unhex.j2, if_neg Bool.false_ne_true, if_pos (by omega), size_l, if_pos (by omega), hb]
          by_cases h3 : (l[i].toNat : Int) ≥ 97
          · rw [if_pos h3, if_neg (by omega)]
          · rw [if_neg h3]
      by_cases h2 : (l[i].toNat : Int) ≥ 48
      · exact Ev.step (fun k => by rw [tallymanref01_Unhex.l0, size_l, if_pos (by omega), if_pos (by omega), hb, if_pos h2, show decide ((l[i].toNat : Int) ≤ 57) = false from by simp; omega]) e1
      · exact Ev.step (fun k => by rw [tallymanref01_Unhex.l0, size_l, if_pos (by omega), if_pos (by omega), hb, if_neg h2]) e1
theorem dval_lt16 : ∀ (l : List UInt8) (w v : Nat), dval 16 l w = some v → v < (w + 1) * 16 ^ l.length := by
  intro l
  induction l with
  | nil => intro w v h; rw [dval] at h; obtain rfl := Option.some.inj h; simp
  | cons c l ih =>
    intro w v h
    rw [dval] at h
    split at h
    · cases h
    · have h1 := ih _ _ h
      refine Nat.lt_of_lt_of_le h1 ?_
      rw [List.length_cons, Nat.pow_succ, Nat.mul_comm (16 ^ l.length), ← Nat.mul_assoc]
      exact Nat.mul_le_mul_right _ (by omega)
theorem j0_true (s : ByteArray) : Ev (fun k => tallymanref01_Unhex.j0 k s true) (0, false) := Ev.step (fun k => by rw [tallymanref01_Unhex.j0, if_pos rfl]) (Ev.now _)
theorem pow16_big (n : Nat) (h : 16 ≤ n) : 18446744073709551615 < 16 ^ n := Nat.lt_of_lt_of_le (by decide) (Nat.pow_le_pow_right (n := 16) (by decide) h)
theorem fin16_upto (d : List UInt8) (hl : d.length ≤ 16) : fin16 (dval 16 d 0) = (((upto 18446744073709551615 (dval 16 d 0)).1 : Int), (upto 18446744073709551615 (dval 16 d 0)).2) := by
  cases h : dval 16 d 0 with
  | none => rfl
  | some v =>
    have h1 := dval_lt16 d 0 v h
    have h2 : 16 ^ d.length ≤ 16 ^ 16 := Nat.pow_le_pow_right (n := 16) (by decide) hl
    have e : (16 : Nat) ^ 16 = 18446744073709551616 := by decide
    rw [upto, if_pos (by omega)]; rfl
theorem unhex_ref (l : List UInt8) (hl : l.length ≤ 1000000) : Ev (fun k => tallymanref01_Unhex.f k ⟨l.toArray⟩) (((takeD 16 18446744073709551615 l).1 : Int), (takeD 16 18446744073709551615 l).2) := by
  have T := takeB_is 16 18446744073709551615 (by decide) (by decide) (by decide) l
  unfold tallymanref01_Unhex.f
  rw [toList_l, size_l]
  cases l with
  | nil => exact Ev.congr (fun k => if_pos rfl) (j0_true _)
  | cons c t =>
    rw [bt_0]
    have hn : ¬ (c :: t = ([] : List UInt8)) := by simp
    refine Ev.congr (fun k => if_neg hn) ?_
    by_cases h48 : c.toNat = 48
    · have hh := (head_48 c t).2 h48
      cases t with
      | nil =>
        have : dval 16 [c] 0 = some 0 := by rw [dval, valB_dec (by omega), if_neg (by omega), dval]; congr 1; omega
        rw [if_neg (by rintro (h | h); cases h; simp at h), this] at T
        rw [T]
        refine Ev.congr (fun k => (if_neg (by simp)).trans ((if_pos (by simp)).trans (if_pos (by omega)))) ?_
        have hloop := unhex_loop [c] (by simp) 1 0 0 (by simp) (by simp)
        rw [List.drop_zero, this] at hloop
        exact Ev.step (fun k => by rw [tallymanref01_Unhex.j0, if_neg (by simp)]; rfl) hloop
      | cons c' t =>
        rw [if_pos (.inr ⟨hh, by simp⟩)] at T
        rw [T]
        by_cases h16 : ((c :: c' :: t).length : Int) > 16
        · exact Ev.congr (fun k => if_pos h16) (j0_true _)
        · refine Ev.congr (fun k => (if_neg h16).trans ((if_pos (by rw [List.length_cons]; omega)).trans (if_pos (by omega)))) ?_
          rw [show decide (((c :: c' :: t).length : Int) > 1) = true from by simp; omega]
          exact j0_true _
    · have hh : ¬ (c :: t).head? = some 48 := fun h => h48 ((head_48 c t).1 h)
      rw [if_neg (by rintro (h | h); cases h; exact hh h.1)] at T
      have h1 := valB_one h48
      by_cases h16 : ((c :: t).length : Int) > 16
      · have : upto 18446744073709551615 (dval 16 (c :: t) 0) = (0, false) := by
          by_cases hc : 16 ≤ valB c
          · rw [dval, if_pos hc]; rfl
          · exact dval_first 16 _ (by decide) c t hc h1 (pow16_big _ (by simp at h16; omega))
        rw [T, this]
        exact Ev.congr (fun k => if_pos h16) (j0_true _)
      · rw [T, ← fin16_upto _ (by omega)]
        refine Ev.congr (fun k => (if_neg h16).trans ((if_pos (by rw [List.length_cons]; omega)).trans (if_neg (by omega)))) ?_
        have hloop := unhex_loop (c :: t) (by omega) (c :: t).length 0 0 (by omega) (by simp)
        exact Ev.step (fun k => by rw [tallymanref01_Unhex.j0, if_neg Bool.false_ne_true]; rfl) hloop
end Go.Proofs.Ytaidjgnkefpclaa.Pure
