/- Plain lemmas on the short forms of pack: what Var, Unvar and their references come to. -/
import Derived.Test.YtjdnlibgfjlakaaPL
import Derived.Test.YtjdnlibgfjlakaaF29
import Derived.Test.YtjdnlibgfjlakaaF31
import Derived.Test.YtjdnlibgfjlakaaS3
import Derived.Test.YtjdnlibgfjlakaaS4
namespace Go.Proofs.Ytjdnlibgfjlakaa.Pure
open Go.RowKit Go.Proofs.Ytjdnlibgfjlakaa.P Go.Proofs.YtjdnlibgfjlakaaW.PrintWords Go.Proofs.YtjdnlibgfjlakaaW.PrintLast Go.Proofs.Ytjdnlibgfjlakaa.B
theorem and127 (b : Int) (b0 : 0 ≤ b) (b1 : b ≤ 255) : bits .and .u8 b 127 = b % 128 :=
  bits_mask .u8 8 (by decide) wraps_u8 7 (by decide) b b0 (by omega)
set_option maxRecDepth 10000 in
theorem or128 (b : Int) (b0 : 0 ≤ b) (b1 : b ≤ 255) : bits .or .u8 b 128 = b % 128 + 128 := by
  have h := bits_or (k := .u8) rfl b 128 b0 (by simp only [IntKind.bits]; omega) (by decide) (by decide)
  rw [h]
  have : ∀ n : Nat, n < 256 → (n ||| 128) = n % 128 + 128 := by decide +kernel
  have h2 := this b.toNat (by omega)
  rw [show (128 : Int).toNat = 128 from rfl, h2]
  omega
theorem pow128 {i : Nat} : (2 : Int) ^ (7 * (i + 1)) = 2 ^ (7 * i) * 128 := by
  rw [show 7 * (i + 1) = 7 * i + 7 from by omega, Int.pow_add]; rfl
theorem pow_pos2 (n : Nat) : (0 : Int) < 2 ^ n := Int.pow_pos (by decide)
theorem pow63 {i : Nat} (h : i ≤ 9) : (2 : Int) ^ (7 * i) ≤ 9223372036854775808 := by
  have h1 : 2 ^ (7 * i) ≤ 2 ^ 63 := Nat.pow_le_pow_right (by decide) (by omega)
  have h2 : (2 : Int) ^ (7 * i) = ((2 ^ (7 * i) : Nat) : Int) := by rw [Int.natCast_pow]; rfl
  rw [h2]; omega
theorem pow56 {i : Nat} (h : i ≤ 8) : (2 : Int) ^ (7 * i) ≤ 72057594037927936 := by
  have h1 : 2 ^ (7 * i) ≤ 2 ^ 56 := Nat.pow_le_pow_right (by decide) (by omega)
  have h2 : (2 : Int) ^ (7 * i) = ((2 ^ (7 * i) : Nat) : Int) := by rw [Int.natCast_pow]; rfl
  rw [h2]; omega
theorem or_high (W c : Int) (n : Nat) (hW : 0 ≤ W) (hW1 : W < 2 ^ n) (hc : 0 ≤ c) (h : c * 2 ^ n < 18446744073709551616) (hn : (2 : Int) ^ n ≤ 9223372036854775808) : bits .or .u64 W (c * 2 ^ n) = W + c * 2 ^ n := by
  have hp := pow_pos2 n
  have hcn : 0 ≤ c * 2 ^ n := Int.mul_nonneg hc (by omega)
  rw [bits_or rfl W (c * 2 ^ n) hW (by simp only [IntKind.bits]; omega) hcn (by simp only [IntKind.bits]; omega)]
  obtain ⟨m, rfl⟩ := Int.eq_ofNat_of_zero_le hc
  obtain ⟨v, rfl⟩ := Int.eq_ofNat_of_zero_le hW
  have hv : v < 2 ^ n := by exact_mod_cast hW1
  have e : (m : Int) * 2 ^ n = ((2 ^ n * m : Nat) : Int) := by rw [Int.natCast_mul, Int.natCast_pow, Int.mul_comm]; rfl
  rw [e, Int.toNat_natCast, Int.toNat_natCast, Nat.or_comm, ← Nat.two_pow_add_eq_or_of_lt hv]
  omega
theorem vacc_eq (W b : Int) (i : Nat) (hi : i ≤ 9) (h9 : i = 9 → b ≤ 1) (b0 : 0 ≤ b) (b1 : b ≤ 255) (hW : 0 ≤ W) (hW1 : W < 2 ^ (7 * i)) : vacc W b i = W + b % 128 * 2 ^ (7 * i) ∧ 0 ≤ b % 128 * 2 ^ (7 * i) ∧ b % 128 * 2 ^ (7 * i) < 18446744073709551616 ∧ W + b % 128 * 2 ^ (7 * i) < 18446744073709551616 ∧ W + b % 128 * 2 ^ (7 * i) < 2 ^ (7 * (i + 1)) := by
  have hp := pow_pos2 (7 * i)
  have h63 := pow63 hi
  have hc0 : 0 ≤ b % 128 := by omega
  have h0 : 0 ≤ b % 128 * 2 ^ (7 * i) := Int.mul_nonneg hc0 (by omega)
  have hlt : W + b % 128 * 2 ^ (7 * i) < 2 ^ (7 * (i + 1)) := by
    rw [pow128]
    have : b % 128 * 2 ^ (7 * i) ≤ 127 * 2 ^ (7 * i) := Int.mul_le_mul_of_nonneg_right (by omega) (by omega)
    omega
  have h2 : b % 128 * 2 ^ (7 * i) ≤ 9223372036854775808 := by
    by_cases h : i = 9
    · have := h9 h
      have h3 : b % 128 * 2 ^ (7 * i) ≤ 1 * 2 ^ (7 * i) := Int.mul_le_mul_of_nonneg_right (by omega) (by omega)
      omega
    · have h56 := pow56 (i := i) (by omega)
      have h3 : b % 128 * 2 ^ (7 * i) ≤ 127 * 2 ^ (7 * i) := Int.mul_le_mul_of_nonneg_right (by omega) (by omega)
      omega
  refine ⟨?_, h0, by omega, by omega, hlt⟩
  unfold vacc
  rw [and127 b b0 b1, wrap_u64, wrap_u64, show b % 128 % 18446744073709551616 = b % 128 from by omega, Int.emod_eq_of_lt h0 (by omega)]
  exact or_high W (b % 128) (7 * i) hW hW1 hc0 (by omega) h63
theorem pow_next {i : Nat} (h : i ≤ 8) : IntKind.u64.wrap (2 ^ (7 * i) * 128) = 2 ^ (7 * (i + 1)) := by
  have h1 := pow56 h
  have h2 := pow_pos2 (7 * i)
  rw [pow128, wrap_u64]
  generalize (2 : Int) ^ (7 * i) = p at *
  omega
theorem acc_code (W b : Int) (i : Nat) (hi : i ≤ 9) (h9 : i = 9 → b ≤ 1) (b0 : 0 ≤ b) (b1 : b ≤ 255) (hW : 0 ≤ W) (hW1 : W < 2 ^ (7 * i)) : IntKind.u64.wrap (W + IntKind.u64.wrap (2 ^ (7 * i) * IntKind.u64.wrap (Int.tmod b 128))) = vacc W b i ∧ 0 ≤ vacc W b i ∧ vacc W b i < 2 ^ (7 * (i + 1)) := by
  obtain ⟨e, h0, h1, h2, h3⟩ := vacc_eq W b i hi h9 b0 b1 hW hW1
  rw [e, Int.tmod_eq_emod_of_nonneg b0, wrap_u64, wrap_u64, wrap_u64, show b % 128 % 18446744073709551616 = b % 128 from by omega, Int.mul_comm, Int.emod_eq_of_lt h0 h1, Int.emod_eq_of_lt (Int.add_nonneg hW h0) h2]
  exact ⟨rfl, Int.add_nonneg hW h0, h3⟩
set_option maxHeartbeats 1000000 in
theorem unvar_ref_loop (x0 : List Int) (hx : ∀ x ∈ x0, 0 ≤ x ∧ x ≤ 255) (hb : x0.length < 140737488355328) : ∀ (d i : Nat) (W : Int), i + d = x0.length → i ≤ 9 → 0 ≤ W → W < 2 ^ (7 * i) → Ev (fun k => tallymanref08_Unvar.l0 k x0 W (2 ^ (7 * i)) i) (unv (x0.drop i) i W) := by
  intro d
  induction d with
  | zero =>
    intro i W hi h9 hW hW1
    rw [List.drop_of_length_le (by omega)]
    exact Ev.step (fun k => by rw [tallymanref08_Unvar.l0, if_neg (by omega)]; rfl) (Ev.now _)
  | succ d ih =>
    intro i W hi h9 hW hW1
    have hlt : i < x0.length := by omega
    obtain ⟨b0, b1⟩ := hx x0[i] (List.getElem_mem hlt)
    rw [List.drop_eq_getElem_cons hlt]
    have hrd := rd_nat x0 i hlt
    generalize x0[i] = b at hrd b0 b1
    rw [unv]
    have bad : ∀ c : Bool, c = decide ((i = 9 ∧ 1 < b) ∨ (0 < i ∧ b = 0)) → Ev (fun k => tallymanref08_Unvar.j1 k x0 W (2 ^ (7 * i)) i c) (if (i = 9 ∧ 1 < b) ∨ (0 < i ∧ b = 0) then (0, [], 3) else if b < 128 then (vacc W b i, x0.drop (i + 1), 0) else unv (x0.drop (i + 1)) (i + 1) (vacc W b i)) := by
      intro c hc
      have hi0 : (0 : Int) ≤ (i : Int) := by omega
      have hil : (i : Int) < (x0.length : Int) := by omega
      by_cases h : (i = 9 ∧ 1 < b) ∨ (0 < i ∧ b = 0)
      · rw [if_pos h]
        have hct : c = true := by rw [hc]; simpa using h
        exact Ev.step (fun k => by rw [tallymanref08_Unvar.j1, if_pos hct]) (Ev.now _)
      · rw [if_neg h]
        have hcf : ¬ (c = true) := by rw [hc]; simpa using h
        clear hc
        have n9 : i = 9 → b ≤ 1 := fun h' => by omega
        have a1 : i + 1 + d = x0.length := by omega
        have e1 : wrap64 ((i : Int) + 1) = ((i + 1 : Nat) : Int) := by rw [w64 (by omega) (by omega)]; omega
        have n10 : ¬ b < 128 → i ≤ 8 := fun h' => by omega
        have g2 : ((i + 1 : Nat) : Int) ≤ (x0.length : Int) := by omega
        have g3 : ([] : List Int).length + (x0.drop (i + 1)).length < 140737488355328 := by simp; omega
        obtain ⟨ew, v0, v1⟩ := acc_code W b i h9 n9 b0 b1 hW hW1
        by_cases h128 : b < 128
        · rw [if_pos h128]
          have g1 : (0 : Int) ≤ ((i + 1 : Nat) : Int) := by omega
          refine Ev.step (fun k => by rw [tallymanref08_Unvar.j1, if_neg hcf, if_pos hi0, if_pos hil, hrd, if_pos h128, Option.bind_some, e1, Int.toNat_natCast, if_pos g1, if_pos g2, if_pos g3, ew, List.nil_append]) (Ev.now _)
        · rw [if_neg h128]
          have hw2 := pow_next (n10 h128)
          refine Ev.step (fun k => by rw [tallymanref08_Unvar.j1, if_neg hcf, if_pos hi0, if_pos hil, hrd, if_neg h128, ew, hw2, e1]) ?_
          exact ih (i + 1) _ a1 (Nat.succ_le_succ (n10 h128)) v0 v1
    by_cases h9' : i = 9
    · by_cases hb1 : 1 < b
      · refine Ev.step (fun k => by rw [tallymanref08_Unvar.l0, if_pos (by omega), if_pos (by omega), if_pos (by omega), hrd, if_pos (by omega)]) (bad true (by simp [h9', hb1]))
      · refine Ev.step (fun k => by rw [tallymanref08_Unvar.l0, if_pos (by omega), if_pos (by omega), if_pos (by omega), hrd, if_neg (by omega), if_pos (by omega)]) (bad (b == 0) (by
          rw [Bool.eq_iff_iff]; simp; omega))
    · by_cases hz : 0 < i
      · refine Ev.step (fun k => by rw [tallymanref08_Unvar.l0, if_pos (by omega), if_neg (by omega), if_pos (by omega), if_pos (by omega), hrd]) (bad (b == 0) (by
          rw [Bool.eq_iff_iff]; simp; omega))
      · refine Ev.step (fun k => by rw [tallymanref08_Unvar.l0, if_pos (by omega), if_neg (by omega), if_neg (by omega)]) (bad false (by
          rw [Bool.eq_iff_iff]; simp; omega))
theorem var_ref_loop : ∀ (n : Nat) (x : Int) (acc : List Int), n ≤ 9 → 0 ≤ x → x < 2 ^ (7 * (n + 1)) → x ≤ 18446744073709551615 → acc.length + n < 140737488355328 → Ev (fun k => tallymanref08_Var.l0 k x acc) (acc ++ varL n x) := by
  intro n
  induction n with
  | zero =>
    intro x acc hn h0 h1 h2 hl
    have h1 : x < 128 := h1
    refine Ev.step (fun k => by rw [tallymanref08_Var.l0, if_neg (by omega), if_pos (by omega), show x % 256 = x from by omega]; rfl) (Ev.now _)
  | succ n ih =>
    intro x acc hn h0 h1 h2 hl
    rw [varL]
    by_cases h : x < 128
    · rw [if_pos h]
      refine Ev.step (fun k => by rw [tallymanref08_Var.l0, if_neg (by omega), if_pos (by omega), show x % 256 = x from by omega]) (Ev.now _)
    · rw [if_neg h]
      rw [pow128] at h1
      have e1 : IntKind.u64.wrap (Int.tdiv x 128) = x / 128 := by rw [Int.tdiv_eq_ediv_of_nonneg h0, wrap_u64]; omega
      have e2 : IntKind.u64.wrap (Int.tmod x 128 + 128) % 256 = bits .or .u8 (x % 256) 128 := by rw [Int.tmod_eq_emod_of_nonneg h0, wrap_u64, or128 _ (by omega) (by omega)]; omega
      refine Ev.step (fun k => by rw [tallymanref08_Var.l0, if_pos (by omega), if_pos (by omega), e1, e2]) ?_
      have := ih (x / 128) (acc ++ [bits .or .u8 (x % 256) 128]) (by omega) (by omega) (by omega) (by omega) (by simp; omega)
      rwa [List.append_assoc, List.singleton_append] at this
theorem var_ref (l : List Int) (x : Int) (h0 : 0 ≤ x) (h1 : x ≤ 18446744073709551615) (hl : l.length ≤ 400) : Ev (fun k => tallymanref08_Var.f k l x) (l ++ varL 9 x) := by
  unfold tallymanref08_Var.f
  have hl2 : ([] : List Int).length + l.length < 140737488355328 := by simp; omega
  simp only [Option.bind_some, if_pos hl2, List.nil_append]
  exact var_ref_loop 9 x l (by omega) h0 (by omega) h1 (by omega)
theorem unvar_ref (l : List Int) (hb : ∀ x ∈ l, 0 ≤ x ∧ x ≤ 255) (hl : l.length < 140737488355328) : Ev (fun k => tallymanref08_Unvar.f k l) (unv l 0 0) := by
  have h := unvar_ref_loop l hb hl l.length 0 0 (by omega) (by omega) (by omega) (by decide)
  rw [Nat.mul_zero, Int.pow_zero, List.drop_zero] at h
  unfold tallymanref08_Unvar.f
  exact h
end Go.Proofs.Ytjdnlibgfjlakaa.Pure
