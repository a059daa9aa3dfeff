/- Plain lemmas: numbers come back from how they are printed, and what is read is printed so again. -/
import Derived.Test.YtaidjgnkefpclaaNL
import Derived.Test.YtaidjgnkefpclaaS4
namespace Go.Proofs.Ytaidjgnkefpclaa.Pure
open Go.Proofs.Ytaidjgnkefpclaa.B Go.RowKit Go.Proofs.Ytaidjgnkefpclaa.P Go.Proofs.YtaidjgnkefpclaaW.PrintWords Go.Proofs.YtaidjgnkefpclaaW.PrintLast
set_option linter.unusedVariables false
set_option linter.unusedSimpArgs false
theorem val_dig : ∀ d : Nat, d < 16 → valB (digB d) = d := by
  have : ∀ d : Fin 16, valB (digB d.1) = d.1 := by decide
  exact fun d h => this ⟨d, h⟩
theorem dig_val : ∀ c : UInt8, valB c < 16 → digB (valB c) = c := by
  have : ∀ n : Fin 256, valB (UInt8.ofNat n.1) < 16 → digB (valB (UInt8.ofNat n.1)) = UInt8.ofNat n.1 := by set_option maxRecDepth 100000 in decide
  intro c h
  have h1 := this ⟨c.toNat, c.toNat_lt⟩
  simp only [UInt8.ofNat_toNat] at h1
  exact h1 h
theorem dval_app (b : Nat) : ∀ (l : List UInt8) (w : Nat) (c : UInt8), dval b (l ++ [c]) w = (dval b l w).bind fun v => if b ≤ valB c then none else some (v * b + valB c) := by
  intro l
  induction l with
  | nil => intro w c; rfl
  | cons x l ih =>
    intro w c
    rw [List.cons_append, dval, dval]
    split
    · rfl
    · exact ih _ _
theorem dval_toD (b : Nat) (hb : 2 ≤ b) (hb16 : b ≤ 16) : ∀ (k w : Nat), w < 2 ^ (k + 1) → dval b (toD b (k + 1) w) 0 = some w := by
  intro k
  induction k with
  | zero =>
    intro w h
    have h0 : w / b = 0 := Nat.div_eq_of_lt (by omega)
    rw [toD, if_pos h0, Nat.mod_eq_of_lt (by omega), dval, val_dig _ (by omega), if_neg (by omega), dval]
    congr 1; omega
  | succ k ih =>
    intro w h
    rw [toD]
    have hm : w % b < b := Nat.mod_lt _ (by omega)
    by_cases h0 : w / b = 0
    · have := Nat.div_add_mod w b
      rw [h0] at this
      rw [if_pos h0, dval, val_dig _ (by omega), if_neg (by omega), dval]
      congr 1; omega
    · rw [if_neg h0, dval_app, ih _ (two_pow_half hb h), Option.bind_some, val_dig _ (by omega), if_neg (by omega)]
      congr 1
      have := Nat.div_add_mod w b
      rw [Nat.mul_comm] at this
      exact this
theorem toD_ne (b k w : Nat) : toD b (k + 1) w ≠ [] := by rw [toD]; split <;> simp
theorem toD_head (b : Nat) (hb : 2 ≤ b) (hb16 : b ≤ 16) : ∀ (k w : Nat), w < 2 ^ (k + 1) → ∃ d, d < 16 ∧ (toD b (k + 1) w).head? = some (digB d) ∧ (d = 0 → w = 0) := by
  intro k
  induction k with
  | zero =>
    intro w h
    have h0 : w / b = 0 := Nat.div_eq_of_lt (by omega)
    rw [toD, if_pos h0, Nat.mod_eq_of_lt (by omega)]
    exact ⟨w, by omega, rfl, id⟩
  | succ k ih =>
    intro w h
    rw [toD]
    have hm : w % b < b := Nat.mod_lt _ (by omega)
    by_cases h0 : w / b = 0
    · have := Nat.div_add_mod w b
      rw [h0] at this
      rw [if_pos h0]
      exact ⟨w % b, by omega, rfl, fun e => by omega⟩
    · rw [if_neg h0]
      obtain ⟨d, h1, h2, h3⟩ := ih _ (two_pow_half hb h)
      refine ⟨d, h1, ?_, fun e => absurd (h3 e) h0⟩
      rw [List.head?_append, h2]; rfl
theorem toD_zero (b : Nat) (k : Nat) : toD b (k + 1) 0 = [48] := by rw [toD, if_pos (by simp)]; simp [digB]
theorem dig_48 : ∀ d : Nat, d < 16 → digB d = 48 → d = 0 := by
  have : ∀ d : Fin 16, digB d.1 = 48 → d.1 = 0 := by decide
  exact fun d h => this ⟨d, h⟩
theorem dig_45 : ∀ d : Nat, d < 16 → digB d ≠ 45 := by
  have : ∀ d : Fin 16, digB d.1 ≠ 45 := by decide
  exact fun d h => this ⟨d, h⟩
theorem take_toD (b m w : Nat) (hb : 2 ≤ b) (hb16 : b ≤ 16) (hm : 100 ≤ m) (hw : w ≤ m) (h64 : w < 2 ^ 64) : takeD b m (toD b 64 w) = (w, true) := by
  rw [takeB_is b m hb hm hb16, dval_toD b hb hb16 63 w h64, upto, if_pos hw]
  rw [if_neg]
  rintro (h | ⟨h1, h2⟩)
  · exact toD_ne b 63 w h
  · obtain ⟨d, h3, h4, h5⟩ := toD_head b hb hb16 63 w h64
    rw [h4, Option.some.injEq] at h1
    have := h5 (dig_48 d h3 h1)
    subst this
    rw [toD_zero] at h2
    simp at h2
theorem parse_print (n : Int) (h0 : -9223372036854775808 ≤ n) (h1 : n ≤ 9223372036854775807) : parseS (printS n) = (n, true) := by
  unfold parseS printS
  by_cases h : n < 0
  · rw [if_pos h, if_pos (show (45 :: toD 10 64 n.natAbs).head? = some 45 from rfl), List.tail_cons, take_toD 10 _ _ (by decide) (by decide) (by decide) (by omega) (by omega), if_pos rfl, if_neg (by omega)]
    congr 1
    simp only []
    omega
  · obtain ⟨d, h3, h4, h5⟩ := toD_head 10 (by decide) (by decide) 63 n.natAbs (by omega)
    rw [if_neg h, h4, if_neg (by intro e; exact dig_45 d h3 (Option.some.inj e)), take_toD 10 _ _ (by decide) (by decide) (by decide) (by omega) (by omega)]
    congr 1
    simp only []
    omega
theorem toD_uniq (b : Nat) (hb : 2 ≤ b) (hb16 : b ≤ 16) : ∀ (k : Nat) (l : List UInt8) (v : Nat), v < 2 ^ (k + 1) → l ≠ [] → ¬ (l.head? = some 48 ∧ 1 < l.length) → dval b l 0 = some v → toD b (k + 1) v = l := by
  intro k
  induction k with
  | zero =>
    intro l v hv hl hh hd
    rcases List.eq_nil_or_concat l with rfl | ⟨L, c, rfl⟩
    · exact absurd rfl hl
    · rw [List.concat_eq_append] at *
      rw [dval_app] at hd
      cases hL : dval b L 0 with
      | none => rw [hL] at hd; cases hd
      | some u =>
        rw [hL, Option.bind_some] at hd
        split at hd
        · cases hd
        · obtain rfl := Option.some.inj hd
          rename_i hc
          cases L with
          | nil =>
            rw [dval] at hL
            obtain rfl := Option.some.inj hL
            have h1 := dig_val c (by omega)
            have e : 0 * b + valB c = valB c := by omega
            rw [e] at hv ⊢
            rw [toD, if_pos (Nat.div_eq_of_lt (by omega)), Nat.mod_eq_of_lt (by omega), h1]; rfl
          | cons x L =>
            exfalso
            have hx : ¬ x.toNat = 48 := by
              intro e
              refine hh ⟨?_, by simp⟩
              rw [List.cons_append, List.head?_cons, Option.some.injEq, ← UInt8.toNat_inj]; exact e
            have hx1 : 1 ≤ valB x := by unfold valB; split; omega; split <;> omega
            have hu : 1 ≤ u := by
              rw [dval] at hL
              split at hL
              · cases hL
              · have := dval_w b (by omega) L _ u hL; omega
            have : 1 * b ≤ u * b := Nat.mul_le_mul_right _ hu
            omega
  | succ k ih =>
    intro l v hv hl hh hd
    rcases List.eq_nil_or_concat l with rfl | ⟨L, c, rfl⟩
    · exact absurd rfl hl
    · rw [List.concat_eq_append] at *
      rw [dval_app] at hd
      cases hL : dval b L 0 with
      | none => rw [hL] at hd; cases hd
      | some u =>
        rw [hL, Option.bind_some] at hd
        split at hd
        · cases hd
        · obtain rfl := Option.some.inj hd
          rename_i hc
          have h1 := dig_val c (by omega)
          have hdiv : (u * b + valB c) / b = u := by
            rw [Nat.mul_comm, Nat.mul_add_div (by omega), Nat.div_eq_of_lt (by omega), Nat.add_zero]
          have hmod : (u * b + valB c) % b = valB c := by
            rw [Nat.mul_comm, Nat.mul_add_mod, Nat.mod_eq_of_lt (by omega)]
          rw [toD, hdiv, hmod, h1]
          cases L with
          | nil =>
            rw [dval] at hL
            obtain rfl := Option.some.inj hL
            rw [if_pos rfl]; rfl
          | cons x L =>
            have hx : ¬ x.toNat = 48 := by
              intro e
              refine hh ⟨?_, by simp⟩
              rw [List.cons_append, List.head?_cons, Option.some.injEq, ← UInt8.toNat_inj]; exact e
            have hx1 : 1 ≤ valB x := by unfold valB; split; omega; split <;> omega
            have hu : 1 ≤ u := by
              have hL2 := hL
              rw [dval] at hL2
              split at hL2
              · cases hL2
              · have := dval_w b (by omega) L _ u hL2; omega
            rw [if_neg (by omega)]
            have hv2 : u < 2 ^ (k + 1) := by have := two_pow_half hb hv; rw [hdiv] at this; exact this
            rw [ih (x :: L) u hv2 (by simp) (by rintro ⟨h, _⟩; rw [List.head?_cons, Option.some.injEq] at h; rw [h] at hx; exact hx rfl) hL]
theorem take_back (b m w : Nat) (hb : 2 ≤ b) (hb16 : b ≤ 16) (hm : 100 ≤ m) (h64 : m < 2 ^ 64) (l : List UInt8) (h : takeD b m l = (w, true)) : toD b 64 w = l := by
  rw [takeB_is b m hb hm hb16] at h
  split at h
  · cases h
  · rename_i hn
    cases hd : dval b l 0 with
    | none => rw [hd] at h; cases h
    | some v =>
      rw [hd, upto] at h
      split at h
      · obtain rfl := congrArg Prod.fst h
        exact toD_uniq b hb hb16 63 l _ (by simp; omega) (fun e => hn (.inl e)) (fun e => hn (.inr e)) hd
      · cases h
theorem print_parse (l : List UInt8) (c : Int) (h : parseS l = (c, true)) : printS c = l ∧ -9223372036854775808 ≤ c ∧ c ≤ 9223372036854775807 := by
  unfold parseS at h
  split at h
  · rename_i h45
    split at h
    · rename_i h2
      split at h
      · cases h
      · rename_i h3
        obtain rfl := (congrArg Prod.fst h).symm
        have hle := takeB_le 10 9223372036854775808 (by decide) (by decide) (by decide) l.tail
        have hb := take_back 10 9223372036854775808 (takeD 10 9223372036854775808 l.tail).1 (by decide) (by decide) (by decide) (by decide) l.tail (by rw [← h2])
        simp only [] at *
        refine ⟨?_, by omega, by omega⟩
        unfold printS
        rw [if_pos (by omega), Int.natAbs_neg, Int.natAbs_natCast, hb]
        cases l with
        | nil => cases h45
        | cons x l => rw [List.head?_cons, Option.some.injEq] at h45; rw [h45]; rfl
    · cases h
  · obtain rfl := (congrArg Prod.fst h).symm
    have h2 := congrArg Prod.snd h
    have hle := takeB_le 10 9223372036854775807 (by decide) (by decide) (by decide) l
    have hb := take_back 10 9223372036854775807 (takeD 10 9223372036854775807 l).1 (by decide) (by decide) (by decide) (by decide) l (Prod.ext rfl h2)
    simp only [] at *
    refine ⟨?_, by omega, by omega⟩
    unfold printS
    rw [if_neg (by omega), Int.natAbs_natCast, hb]
theorem print_inj (n m : Int) (h0 : -9223372036854775808 ≤ n) (h1 : n ≤ 9223372036854775807) (h2 : -9223372036854775808 ≤ m) (h3 : m ≤ 9223372036854775807) : (printS n == printS m) = (n == m) := by
  rw [Bool.eq_iff_iff, beq_iff_eq, beq_iff_eq]
  constructor
  · intro h
    have e1 := parse_print n h0 h1
    rw [h, parse_print m h2 h3] at e1
    exact (congrArg Prod.fst e1).symm
  · rintro rfl; rfl
theorem join_spl (l : List UInt8) : Lib.join (spl l) [32] = l := by
  induction l with
  | nil => rfl
  | cons c l ih =>
    rw [spl]
    have hne := spl_ne l
    split
    · rename_i hc
      cases h : spl l with
      | nil => exact absurd h hne
      | cons w ws =>
        rw [h] at ih
        subst hc
        simp only [Lib.join, List.intercalate, List.intersperse] at ih ⊢
        simp [ih]
    · split
      · rename_i h; exact absurd h hne
      · rename_i w ws h
        rw [h] at ih
        cases ws with
        | nil => simp only [Lib.join, List.intercalate, List.intersperse] at ih ⊢; simpa using ih
        | cons w2 ws => simp only [Lib.join, List.intercalate, List.intersperse] at ih ⊢; simp only [List.flatten_cons] at ih ⊢; rw [List.cons_append, ih]
end Go.Proofs.Ytaidjgnkefpclaa.Pure
