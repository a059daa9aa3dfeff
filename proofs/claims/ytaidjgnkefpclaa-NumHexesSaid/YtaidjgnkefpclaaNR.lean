/- Plain lemmas: what the document's Print and Hex come to. -/
import Derived.Test.YtaidjgnkefpclaaF11
import Derived.Test.YtaidjgnkefpclaaF15
import Derived.Test.YtaidjgnkefpclaaNL
namespace Go.Proofs.Ytaidjgnkefpclaa.Pure
open Go.Proofs.Ytaidjgnkefpclaa.B Go.RowKit Go.Proofs.Ytaidjgnkefpclaa.P Go.Proofs.YtaidjgnkefpclaaW.PrintWords Go.Proofs.YtaidjgnkefpclaaW.PrintLast
set_option linter.unusedVariables false
set_option linter.unusedSimpArgs false
theorem ext10 : ∀ (d : Nat) (h : d ≤ 9), (⟨#[48, 49, 50, 51, 52, 53, 54, 55, 56, 57]⟩ : ByteArray).extract d (d + 1) = ⟨[digB d].toArray⟩ := by
  intro d h
  have : ∀ d : Fin 10, ([48, 49, 50, 51, 52, 53, 54, 55, 56, 57].drop d.1).take (d.1 + 1 - d.1) = [digB d.1] := by decide
  rw [show (⟨#[48, 49, 50, 51, 52, 53, 54, 55, 56, 57]⟩ : ByteArray) = ⟨[48, 49, 50, 51, 52, 53, 54, 55, 56, 57].toArray⟩ from rfl, extract_l, this ⟨d, by omega⟩]
theorem ext16 : ∀ (d : Nat) (h : d < 16), (⟨#[48, 49, 50, 51, 52, 53, 54, 55, 56, 57, 97, 98, 99, 100, 101, 102]⟩ : ByteArray).extract d (d + 1) = ⟨[digB d].toArray⟩ := by
  intro d h
  have : ∀ d : Fin 16, ([48, 49, 50, 51, 52, 53, 54, 55, 56, 57, 97, 98, 99, 100, 101, 102].drop d.1).take (d.1 + 1 - d.1) = [digB d.1] := by decide
  rw [show (⟨#[48, 49, 50, 51, 52, 53, 54, 55, 56, 57, 97, 98, 99, 100, 101, 102]⟩ : ByteArray) = ⟨[48, 49, 50, 51, 52, 53, 54, 55, 56, 57, 97, 98, 99, 100, 101, 102].toArray⟩ from rfl, extract_l, this ⟨d, by omega⟩]
theorem w64_id {x : Int} (h0 : -9223372036854775808 ≤ x) (h1 : x ≤ 9223372036854775807) : wrap64 x = x := by unfold wrap64; omega
theorem rp_f0 {n : Int} (h : n ≥ 0) {r : ByteArray} (k : Ev (fun q => tallymanref01_Print.j0 q n (decide (n ≤ 9))) r) : Ev (fun q => tallymanref01_Print.f q n) r :=
  Ev.step (fun q => by rw [tallymanref01_Print.f, if_pos h]) k
theorem rp_f1 {n : Int} (h : ¬ n ≥ 0) {r : ByteArray} (k : Ev (fun q => tallymanref01_Print.j0 q n false) r) : Ev (fun q => tallymanref01_Print.f q n) r :=
  Ev.step (fun q => by rw [tallymanref01_Print.f, if_neg h]) k
theorem rp_one (d : Nat) (h : d ≤ 9) : Ev (fun k => tallymanref01_Print.f k (d : Int)) ⟨[digB d].toArray⟩ := by
  refine rp_f0 (by omega) (Ev.step (fun k => ?_) (Ev.now _))
  rw [tallymanref01_Print.j0, if_pos (by simp; omega), if_pos (by omega), w64_id (by omega) (by omega), if_pos (by omega), if_pos (by omega), show ((d : Int) + 1).toNat = d + 1 from by omega, Int.toNat_natCast, ext10 d h]
theorem rp_pos : ∀ (k n : Nat), n < 2 ^ (k + 1) → n ≤ 9223372036854775807 → k ≤ 63 → Ev (fun q => tallymanref01_Print.f q (n : Int)) ⟨(toD 10 (k + 1) n).toArray⟩ := by
  intro k
  induction k with
  | zero => intro n h _ _; rw [toD, if_pos (by omega), Nat.mod_eq_of_lt (by omega)]; exact rp_one n (by omega)
  | succ k ih =>
    intro n h h2 hk
    by_cases h9 : n ≤ 9
    · rw [toD, if_pos (by omega), Nat.mod_eq_of_lt (by omega)]; exact rp_one n h9
    · rw [toD, if_neg (by omega)]
      have hn : n / 10 < 2 ^ (k + 1) := two_pow_half (by decide) h
      refine rp_f0 (by omega) (Ev.step (fun k => by rw [tallymanref01_Print.j0, if_neg (by simp; omega), if_pos (by omega)]) ?_)
      rw [Int.tdiv_eq_ediv_of_nonneg (by omega), Int.tmod_eq_emod_of_nonneg (by omega), show (n : Int) / 10 = ((n / 10 : Nat) : Int) from by omega, show (n : Int) % 10 = ((n % 10 : Nat) : Int) from by omega, w64_id (by omega) (by omega)]
      refine Ev.bind (ih (n / 10) hn (by omega) (by omega)) (Ev.bind (rp_one (n % 10) (by omega)) ?_)
      have hl := toD_len 10 (k + 1) (n / 10)
      exact Ev.congr (fun k => if_pos (by rw [size_l, size_l]; simp; omega)) (by rw [append_l]; exact Ev.now _)
theorem rp_neg : ∀ (k m : Nat), 0 < m → m < 2 ^ (k + 1) → m ≤ 9223372036854775808 → k ≤ 63 → Ev (fun q => tallymanref01_Print.f q (-(m : Int))) ⟨(45 :: toD 10 (k + 1) m).toArray⟩ := by
  intro k
  induction k with
  | zero =>
    intro m h0 h _ _
    rw [toD, if_pos (by omega), Nat.mod_eq_of_lt (by omega)]
    refine rp_f1 (by omega) (Ev.step (fun k => by rw [tallymanref01_Print.j0, if_neg Bool.false_ne_true, if_neg (by omega), if_pos (by omega)]) ?_)
    rw [Int.neg_neg, w64_id (by omega) (by omega)]
    exact Ev.bind (rp_one m (by omega)) (Ev.congr (fun k => if_pos (by rw [size_l]; simp)) (Ev.congr (fun k => congrArg some (append_l [45] [digB m])) (Ev.now _)))
  | succ k ih =>
    intro m h0 h h2 hk
    by_cases h9 : m ≤ 9
    · rw [toD, if_pos (by omega), Nat.mod_eq_of_lt (by omega)]
      refine rp_f1 (by omega) (Ev.step (fun k => by rw [tallymanref01_Print.j0, if_neg Bool.false_ne_true, if_neg (by omega), if_pos (by omega)]) ?_)
      rw [Int.neg_neg, w64_id (by omega) (by omega)]
      exact Ev.bind (rp_one m (by omega)) (Ev.congr (fun k => if_pos (by rw [size_l]; simp)) (Ev.congr (fun k => congrArg some (append_l [45] [digB m])) (Ev.now _)))
    · rw [toD, if_neg (by omega)]
      have hn : m / 10 < 2 ^ (k + 1) := two_pow_half (by decide) h
      refine rp_f1 (by omega) (Ev.step (fun k => by rw [tallymanref01_Print.j0, if_neg Bool.false_ne_true, if_neg (by omega), if_neg (by omega)]) ?_)
      rw [Int.neg_tdiv, Int.neg_tmod, Int.tdiv_eq_ediv_of_nonneg (by omega), Int.tmod_eq_emod_of_nonneg (by omega), show (m : Int) / 10 = ((m / 10 : Nat) : Int) from by omega, show (m : Int) % 10 = ((m % 10 : Nat) : Int) from by omega, Int.neg_neg, w64_id (by omega) (by omega), w64_id (by omega) (by omega)]
      refine Ev.bind (ih (m / 10) (by omega) hn (by omega) (by omega)) (Ev.bind (rp_one (m % 10) (by omega)) ?_)
      have hl := toD_len 10 (k + 1) (m / 10)
      exact Ev.congr (fun k => if_pos (by rw [size_l, size_l]; simp; omega)) (by rw [append_l]; exact Ev.now _)
theorem print_ref (n : Int) (h0 : -9223372036854775808 ≤ n) (h1 : n ≤ 9223372036854775807) : Ev (fun q => tallymanref01_Print.f q n) ⟨(printS n).toArray⟩ := by
  unfold printS
  by_cases h : n < 0
  · rw [if_pos h]
    have := rp_neg 63 n.natAbs (by omega) (by omega) (by omega) (by omega)
    rw [show -((n.natAbs : Nat) : Int) = n from by omega] at this
    exact this
  · rw [if_neg h]
    have := rp_pos 63 n.natAbs (by omega) (by omega) (by omega)
    rw [show ((n.natAbs : Nat) : Int) = n from by omega] at this
    exact this
theorem hex_ref : ∀ (k n : Nat), n < 2 ^ (k + 1) → k ≤ 63 → Ev (fun q => tallymanref01_Hex.f q (n : Int)) ⟨(toD 16 (k + 1) n).toArray⟩ := by
  intro k
  induction k with
  | zero =>
    intro n h _
    rw [toD, if_pos (by omega)]
    refine Ev.step (fun k => ?_) (Ev.now _)
    rw [tallymanref01_Hex.f, Int.tmod_eq_emod_of_nonneg (by omega), show (n : Int) % 16 = ((n % 16 : Nat) : Int) from by omega, show IntKind.u64.wrap (((n % 16 : Nat) : Int) + 1) = ((n % 16 + 1 : Nat) : Int) from by rw [wrap_u64]; omega]
    rw [if_pos (by omega), if_pos (by omega), if_pos (by omega), if_pos (by omega), Int.toNat_natCast, Int.toNat_natCast, ext16 _ (by omega)]
  | succ k ih =>
    intro n h hk
    have hn64 : n < 2 ^ 64 := Nat.lt_of_lt_of_le h (Nat.pow_le_pow_right (by decide) (by omega))
    rw [toD]
    by_cases h9 : n < 16
    · rw [if_pos (by omega)]
      refine Ev.step (fun k => ?_) (Ev.now _)
      rw [tallymanref01_Hex.f, Int.tmod_eq_emod_of_nonneg (by omega), show (n : Int) % 16 = ((n % 16 : Nat) : Int) from by omega, show IntKind.u64.wrap (((n % 16 : Nat) : Int) + 1) = ((n % 16 + 1 : Nat) : Int) from by rw [wrap_u64]; omega]
      rw [if_pos (by omega), if_pos (by omega), if_pos (by omega), if_pos (by omega), Int.toNat_natCast, Int.toNat_natCast, ext16 _ (by omega)]
    · rw [if_neg (by omega)]
      have hn : n / 16 < 2 ^ (k + 1) := two_pow_half (by decide) h
      have hl := toD_len 16 (k + 1) (n / 16)
      refine Ev.step (fun k => by rw [tallymanref01_Hex.f]) ?_
      rw [Int.tmod_eq_emod_of_nonneg (by omega), show (n : Int) % 16 = ((n % 16 : Nat) : Int) from by omega, show IntKind.u64.wrap (((n % 16 : Nat) : Int) + 1) = ((n % 16 + 1 : Nat) : Int) from by rw [wrap_u64]; omega]
      rw [Int.toNat_natCast, Int.toNat_natCast, ext16 _ (by omega), Int.tdiv_eq_ediv_of_nonneg (by omega), show (n : Int) / 16 = ((n / 16 : Nat) : Int) from by omega, show IntKind.u64.wrap ((n / 16 : Nat) : Int) = ((n / 16 : Nat) : Int) from by rw [wrap_u64]; omega]
      refine Ev.congr (fun k => (if_pos (by omega)).trans ((if_pos (by omega)).trans ((if_pos (by omega)).trans (if_neg (by omega))))) ?_
      exact Ev.bind (ih (n / 16) hn (by omega)) (Ev.congr (fun k => if_pos (by rw [size_l, size_l]; simp; omega)) (by rw [append_l]; exact Ev.now _))
end Go.Proofs.Ytaidjgnkefpclaa.Pure
