import Derived.Test.YtjdnlibgfjlakaaCF
import Derived.Test.YtjdnlibgfjlakaaCL
import Derived.Test.YtjdnlibgfjlakaaF17
set_option linter.unusedVariables false
set_option linter.unusedSimpArgs false
namespace Go.Proofs.Ytjdnlibgfjlakaa.Pure
open Go.RowKit Go.Proofs.Ytjdnlibgfjlakaa.P Go.Proofs.YtjdnlibgfjlakaaW.PrintWords Go.Proofs.YtjdnlibgfjlakaaW.PrintLast Go.Proofs.Ytjdnlibgfjlakaa.B
theorem sts_add (j k : Nat) : ∀ n, sts (j + k) n = sts k (sts j n) := by
  induction j with
  | zero => intro n; rw [Nat.zero_add]; rfl
  | succ j ih => intro n; rw [Nat.add_right_comm, sts, ih]; rfl
/-- The bytes of a list as one number. -/
def NI : List Int → Nat
  | [] => 0
  | x :: l => x.toNat + 256 * NI l
theorem byte_xor (x n : Nat) (h : x < 256) : x + 256 * n = 256 * n ^^^ x := by
  have := split8 (x + 256 * n)
  rw [show (x + 256 * n) / 256 = n by omega, show (x + 256 * n) % 256 = x by omega] at this
  exact this
theorem mul_xor (a b : Nat) : 256 * (a ^^^ b) = 256 * a ^^^ 256 * b := by
  have h := Nat.shiftLeft_xor_distrib (a := a) (b := b) (i := 8)
  simp only [Nat.shiftLeft_eq] at h
  rw [Nat.mul_comm 256, Nat.mul_comm 256, Nat.mul_comm 256]
  exact h
theorem NI_inj : ∀ (l m : List Int), l.length = m.length → (∀ x ∈ l, 0 ≤ x ∧ x ≤ 255) → (∀ x ∈ m, 0 ≤ x ∧ x ≤ 255) → NI l = NI m → l = m := by
  intro l
  induction l with
  | nil => intro m h _ _ _; cases m with
    | nil => rfl
    | cons y m => simp at h
  | cons x l ih =>
    intro m h h1 h2 he
    cases m with
    | nil => simp at h
    | cons y m =>
      have hx := h1 x (by simp)
      have hy := h2 y (by simp)
      rw [NI, NI] at he
      have hl := ih m (by simpa using h) (fun z hz => h1 z (by simp [hz])) (fun z hz => h2 z (by simp [hz])) (by omega)
      have : x = y := by omega
      rw [this, hl]
theorem NI_set : ∀ (l : List Int) (i r : Nat) (hi : i < l.length), (∀ x ∈ l, 0 ≤ x ∧ x ≤ 255) → r < 8 → NI (l.set i (xorb l[i] r)) = NI l ^^^ 2 ^ (8 * i + r) := by
  intro l
  induction l with
  | nil => intro i r hi; simp at hi
  | cons x l ih =>
    intro i r hi hb hr
    have hx := hb x (by simp)
    have hp : 2 ^ r < 2 ^ 8 := Nat.pow_lt_pow_right (by decide) hr
    cases i with
    | zero =>
      rw [List.getElem_cons_zero, List.set_cons_zero, NI, NI, Nat.mul_zero, Nat.zero_add]
      unfold xorb
      rw [Int.toNat_natCast, byte_xor _ _ (Nat.xor_lt_two_pow (n := 8) (by omega) hp), byte_xor x.toNat _ (by omega), Nat.xor_assoc]
    | succ i =>
      rw [List.getElem_cons_succ, List.set_cons_succ, NI, NI, ih i r (by simpa using hi) (fun y hy => hb y (by simp [hy])) hr, byte_xor _ _ (by omega), byte_xor _ _ (by omega), mul_xor, Nat.xor_assoc, Nat.xor_assoc,
        Nat.xor_comm x.toNat, show 8 * (i + 1) + r = 8 + (8 * i + r) by omega, Nat.pow_add 2 8]
theorem NI_flipB {len : Nat} {l : List Int} {n : Nat} (h : okB len l) (hn : n < 8 * len) : NI (flipB l n) = NI l ^^^ 2 ^ n := by
  unfold flipB
  have hlt : n / 8 < l.length := by rw [h.1]; omega
  have e1 : ((n : Int) / 8) = ((n / 8 : Nat) : Int) := by omega
  have e2 : ((n : Int) % 8).toNat = n % 8 := by omega
  rw [e1, e2, Int.toNat_natCast, rd_nat l (n / 8) hlt, NI_set l (n / 8) (n % 8) hlt h.2 (by omega), show 8 * (n / 8) + n % 8 = n by omega]
/-- What a flip lays over the bytes. -/
theorem NI_GF (len a b : Nat) (l : List Int) (h : okB len l) (ha : a < 8 * len) : ∀ c : Nat, c ≤ 32 → NI (GF len a b a c l) = NI l ^^^ (2 ^ a * (b % 2 ^ (min c (8 * len - a)))) := by
  intro c
  induction c with
  | zero => intro _; rw [Nat.zero_min, Nat.pow_zero, Nat.mod_one, Nat.mul_zero, Nat.xor_zero]; rfl
  | succ c ih =>
    intro hc
    have ih := ih (by omega)
    have hs : GF len a b a (c + 1) l = stp len a b (GF len a b a c l) ((a : Int) + c) := rfl
    have hok : okB len (GF len a b a c l) := GF_ok h
    rw [hs, stp]
    have e1 : ((a : Int) + c - a).toNat = c := by omega
    have e2 : ((b : Int) / 2 ^ c) = ((b / 2 ^ c : Nat) : Int) := by rw [Int.natCast_ediv, Int.natCast_pow]; rfl
    by_cases hm : c < 8 * len - a
    · rw [show min (c + 1) (8 * len - a) = c + 1 by omega]
      rw [show min c (8 * len - a) = c by omega] at ih
      have hmod : b % 2 ^ (c + 1) = b % 2 ^ c + 2 ^ c * (b / 2 ^ c % 2) := by rw [Nat.pow_succ, Nat.mod_mul]
      by_cases hbit : b / 2 ^ c % 2 = 1
      · have hon : onF len a b ((a : Int) + c) := ⟨⟨by omega, by omega, by rw [e1, e2]; omega⟩, by omega, by omega⟩
        rw [if_pos hon, show (a : Int) + c = ((a + c : Nat) : Int) by omega, NI_flipB hok (by omega), ih, hmod, hbit, Nat.mul_one, Nat.xor_assoc]
        congr 1
        have hlt : b % 2 ^ c < 2 ^ c := Nat.mod_lt _ (Nat.two_pow_pos c)
        have h1 := Nat.two_pow_add_eq_or_of_lt hlt 1
        have h2 : (2 ^ c * 1 ||| b % 2 ^ c) = b % 2 ^ c ^^^ 2 ^ c := by
          apply Nat.eq_of_testBit_eq
          intro i
          rw [Nat.testBit_or, Nat.testBit_xor, Nat.mul_one, Nat.testBit_two_pow]
          by_cases hi : c = i
          · subst hi
            rw [Nat.testBit_lt_two_pow hlt]; simp
          · simp [hi]
        rw [h2, Nat.mul_one] at h1
        rw [Nat.add_comm (b % 2 ^ c), h1, Nat.pow_add]
        have h3 := Nat.shiftLeft_xor_distrib (a := b % 2 ^ c) (b := 2 ^ c) (i := a)
        simp only [Nat.shiftLeft_eq] at h3
        rw [Nat.mul_comm (2 ^ a) (b % 2 ^ c), Nat.mul_comm (2 ^ a) (2 ^ c), Nat.mul_comm (2 ^ a), h3]
      · have hno : ¬ onF len a b ((a : Int) + c) := fun ho => by have := ho.1.2.2; rw [e1, e2] at this; omega
        rw [if_neg hno, ih, hmod, show b / 2 ^ c % 2 = 0 by omega, Nat.mul_zero, Nat.add_zero]
    · have hno : ¬ onF len a b ((a : Int) + c) := fun ho => by have := ho.2.2; omega
      rw [if_neg hno, ih, show min (c + 1) (8 * len - a) = min c (8 * len - a) by omega]
theorem st_zero_inj {m : Nat} (h : m < 2 ^ 32) (h0 : st m = 0) : m = 0 := by
  unfold st at h0
  split at h0
  · have : m / 2 = 3988292384 := by
      have h1 := congrArg (· ^^^ 3988292384) h0
      simp only [Nat.xor_assoc, Nat.xor_self, Nat.xor_zero, Nat.zero_xor] at h1
      exact h1
    omega
  · omega
theorem sts_zero_inj (k : Nat) : ∀ {m : Nat}, m < 2 ^ 32 → sts k m = 0 → m = 0 := by
  induction k with
  | zero => intro m _ h; exact h
  | succ k ih => intro m hm h; exact st_zero_inj hm (ih (st_lt hm) h)
theorem sts_nought (k : Nat) : sts k 0 = 0 := by
  induction k with
  | zero => rfl
  | succ k ih => rw [sts, show st 0 = 0 from rfl, ih]
theorem foldN_NI (l : List Int) (h : ∀ x ∈ l, 0 ≤ x ∧ x ≤ 255) : ∀ w : Nat, foldN (l.map Int.toNat) w = sts (8 * l.length) (w ^^^ NI l) := by
  induction l with
  | nil => intro w; rw [NI, Nat.xor_zero]; rfl
  | cons x l ih =>
    intro w
    have hx := h x (by simp)
    show foldN (l.map Int.toNat) (sts 8 (w ^^^ x.toNat)) = _
    rw [ih (fun y hy => h y (by simp [hy])), List.length_cons, show 8 * (l.length + 1) = 8 + 8 * l.length by omega, sts_add]
    congr 1
    rw [NI, byte_xor _ _ (by omega), Nat.xor_comm (256 * NI l), ← Nat.xor_assoc, sts_xor 8 (w ^^^ x.toNat)]
    congr 1
    exact (sts_shift 8 (NI l)).symm
theorem nums_back (l : List Int) (h : ∀ x ∈ l, 0 ≤ x ∧ x ≤ 255) : (l.map Int.toNat).map (fun (x : Nat) => (x : Int)) = l := by
  rw [List.map_map]
  conv => rhs; rw [← List.map_id l]
  apply List.map_congr_left
  intro x hx
  have := h x hx
  simp
  omega
theorem sum_is (l : List Int) (h : ∀ x ∈ l, 0 ≤ x ∧ x ≤ 255) : crc_Sum.f l = some ((crcN 0 (l.map Int.toNat) : Nat) : Int) := by
  unfold crc_Sum.f
  have := more_code 0 (l.map Int.toNat) (by decide) (by intro x hx; obtain ⟨y, hy, rfl⟩ := List.mem_map.1 hx; have := h y hy; omega)
  rw [nums_back l h] at this
  rw [show (0 : Int) = ((0 : Nat) : Int) from rfl, this]
  rfl
theorem foldN_lt (l : List Int) (h : ∀ x ∈ l, 0 ≤ x ∧ x ≤ 255) (w : Nat) (hw : w < 2 ^ 32) : foldN (l.map Int.toNat) w < 2 ^ 32 :=
  (crcFold_nat (l.map Int.toNat) w hw (by intro x hx; obtain ⟨y, hy, rfl⟩ := List.mem_map.1 hx; have := h y hy; omega)).2
end Go.Proofs.Ytjdnlibgfjlakaa.Pure
