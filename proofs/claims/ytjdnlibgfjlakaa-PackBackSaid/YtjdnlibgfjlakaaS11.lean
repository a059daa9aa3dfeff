import Derived.Test.YtjdnlibgfjlakaaPS
import Derived.Test.YtjdnlibgfjlakaaS10
set_option linter.unusedVariables false
set_option linter.unusedSimpArgs false
namespace Go.Proofs.Ytjdnlibgfjlakaa.P
open Go.RowKit Go.Proofs.Ytjdnlibgfjlakaa.Pure Go.Proofs.YtjdnlibgfjlakaaW.PrintWords Go.Proofs.YtjdnlibgfjlakaaW.PrintLast Go.Proofs.Ytjdnlibgfjlakaa.B
theorem varL_small (n : Nat) (x : Int) (h : x < 128) : varL n x = [x] := by cases n with
  | zero => rfl
  | succ n => rw [varL, if_pos h]
theorem unv_last (x : Int) (l : List Int) (i : Nat) (W : Int) (hi : i ≤ 9) (h9 : i = 9 → x ≤ 1) (h0 : 0 ≤ x) (hz : 0 < i → 1 ≤ x) (h : x < 128) (hW : 0 ≤ W) (hW1 : W < 2 ^ (7 * i)) : unv (x :: l) i W = (W + x * 2 ^ (7 * i), l, 0) := by
  obtain ⟨e, _⟩ := vacc_eq W x i hi h9 h0 (by omega) hW hW1
  rw [unv, if_neg (by omega), if_pos h, e, show x % 128 = x by omega]
theorem unv_var (l : List Int) : ∀ (n i : Nat) (x W : Int), i + n = 9 → 0 ≤ x → x * 2 ^ (7 * i) < 18446744073709551616 → (0 < i → 1 ≤ x) → 0 ≤ W → W < 2 ^ (7 * i) → unv (varL n x ++ l) i W = (W + x * 2 ^ (7 * i), l, 0) := by
  intro n
  induction n with
  | zero =>
    intro i x W hi h0 h1 hz hW hW1
    obtain rfl : i = 9 := by omega
    rw [show (2 : Int) ^ (7 * 9) = 9223372036854775808 by decide] at h1
    rw [varL]
    exact unv_last x l 9 W (by omega) (by omega) h0 hz (by omega) hW hW1
  | succ n ih =>
    intro i x W hi h0 h1 hz hW hW1
    by_cases h : x < 128
    · rw [varL_small _ _ h]
      exact unv_last x l i W (by omega) (by omega) h0 hz h hW hW1
    · rw [varL, if_neg h, or128 _ (by omega) (by omega), show x % 256 % 128 = x % 128 by omega]
      obtain ⟨e, e0, e1, e2, e3⟩ := vacc_eq W (x % 128 + 128) i (by omega) (by omega) (by omega) (by omega) hW hW1
      rw [show (x % 128 + 128) % 128 = x % 128 by omega] at e e0 e3
      have hp := pow_pos2 (7 * i)
      have h128 : x / 128 * 2 ^ (7 * (i + 1)) + x % 128 * 2 ^ (7 * i) = x * 2 ^ (7 * i) := by
        rw [pow128, Int.mul_comm (2 ^ (7 * i)) 128, ← Int.mul_assoc, ← Int.add_mul]
        congr 1
        omega
      rw [List.cons_append, unv, if_neg (by omega), if_neg (by omega), e, ih (i + 1) (x / 128) _ (by omega) (by omega) (by omega) (by omega) (by omega) e3]
      simp only [Prod.mk.injEq, and_true, true_and]
      omega
theorem unv_back : ∀ (l : List Int) (i : Nat) (W z : Int) (last : List Int), (∀ x ∈ l, 0 ≤ x ∧ x ≤ 255) → i ≤ 9 → 0 ≤ W → W < 2 ^ (7 * i) → unv l i W = (z, last, 0) →
    ∃ x, z = W + x * 2 ^ (7 * i) ∧ 0 ≤ x ∧ (0 < i → 1 ≤ x) ∧ l = varL (9 - i) x ++ last ∧ z < 18446744073709551616 := by
  intro l
  induction l with
  | nil => intro i W z last _ _ _ _ h; simp [unv] at h
  | cons b l ih =>
    intro i W z last hb hi hW hW1 h
    obtain ⟨b0, b1⟩ := hb b (by simp)
    rw [unv] at h
    split at h
    · simp at h
    · rename_i hc
      obtain ⟨e, e0, e1, e2, e3⟩ := vacc_eq W b i hi (by omega) b0 b1 hW hW1
      split at h
      · rename_i h1
        simp only [Prod.mk.injEq, and_true] at h
        obtain ⟨rfl, rfl⟩ := h
        refine ⟨b, ?_, b0, by omega, ?_, ?_⟩
        · rw [e, show b % 128 = b by omega]
        · rw [varL_small _ _ h1]; rfl
        · rw [e]; exact e2
      · rename_i h1
        have hi9 : i ≠ 9 := by omega
        rw [e] at h
        obtain ⟨x', hz, hx0, hx1, hl, hlt⟩ := ih (i + 1) _ z last (fun x hx => hb x (by simp [hx])) (by omega) (by omega) e3 h
        have hx1 := hx1 (by omega)
        refine ⟨b - 128 + 128 * x', ?_, by omega, by omega, ?_, hlt⟩
        · rw [hz, pow128, Int.add_mul, show b % 128 = b - 128 by omega, Int.mul_comm (2 ^ (7 * i)) 128, Int.mul_comm 128 x', Int.mul_assoc x']
          omega
        · obtain ⟨m, hm⟩ : ∃ m, 9 - i = m + 1 := ⟨8 - i, by omega⟩
          rw [hm, varL, if_neg (by omega), or128 _ (by omega) (by omega), show (b - 128 + 128 * x') % 256 % 128 + 128 = b by omega, show (b - 128 + 128 * x') / 128 = x' by omega, List.cons_append]
          rw [show m = 9 - (i + 1) by omega, ← hl]
theorem varL_len (n : Nat) : ∀ x y : Int, x ≤ y → (varL n x).length ≤ (varL n y).length := by
  induction n with
  | zero => intro x y _; exact Nat.le_refl _
  | succ n ih =>
    intro x y h
    rw [varL, varL]
    split
    · split <;> simp
    · rw [if_neg (by omega)]
      have := ih (x / 128) (y / 128) (by omega)
      simp only [List.length_cons]
      omega
theorem varL_len10 (n : Nat) : ∀ x : Int, (varL n x).length ≤ n + 1 := by
  induction n with
  | zero => intro x; simp [varL]
  | succ n ih =>
    intro x
    rw [varL]
    split
    · simp
    · have := ih (x / 128)
      simp only [List.length_cons]
      omega
theorem varL_bytes (n : Nat) : ∀ x : Int, 0 ≤ x → x < 2 ^ (7 * (n + 1)) → ∀ y ∈ varL n x, 0 ≤ y ∧ y ≤ 255 := by
  induction n with
  | zero =>
    intro x h0 h1 y hy
    rw [varL, List.mem_singleton] at hy
    subst hy
    have h1 : y < 128 := h1
    omega
  | succ n ih =>
    intro x h0 h1 y hy
    rw [varL] at hy
    split at hy
    · rw [List.mem_singleton] at hy; omega
    · rw [List.mem_cons] at hy
      rcases hy with rfl | hy
      · rw [or128 _ (by omega) (by omega)]; omega
      · rw [pow128] at h1
        exact ih (x / 128) (by omega) (by omega) y hy
theorem pow256 (k : Nat) : (2 : Int) ^ (8 * k) = ((256 ^ k : Nat) : Int) := by
  rw [Int.pow_mul, Int.natCast_pow]; rfl
theorem byteAt_nat (x j : Nat) : byteAt (x : Int) j = ((x / 256 ^ j % 256 : Nat) : Int) := by
  unfold byteAt
  rw [pow256]
  rfl
theorem val_put (x : Nat) : ∀ (K a : Nat), val (putList x K) a = ((a * 256 ^ K + x % 256 ^ K : Nat) : Int) := by
  intro K
  induction K with
  | zero => intro a; simp [val, putList, Nat.mod_one]
  | succ k ih =>
    intro a
    rw [putList_succ]
    show val (putList x k) ((a : Int) * 256 + byteAt x k) = _
    rw [byteAt_nat, show (a : Int) * 256 + ((x / 256 ^ k % 256 : Nat) : Int) = ((a * 256 + x / 256 ^ k % 256 : Nat) : Int) by omega, ih]
    congr 1
    rw [Nat.pow_succ, Nat.mod_mul, Nat.add_mul, Nat.mul_assoc, Nat.mul_comm 256, Nat.mul_comm (x / 256 ^ k % 256)]
    omega
theorem byteAt_mod (x K j : Nat) (h : j < K) : byteAt ((x % 256 ^ K : Nat) : Int) j = byteAt x j := by
  rw [byteAt_nat, byteAt_nat]
  obtain ⟨d, rfl⟩ : ∃ d, K = j + (d + 1) := ⟨K - j - 1, by omega⟩
  rw [Nat.pow_add, Nat.mod_mul_right_div_self, Nat.mod_mod_of_dvd _ (Nat.dvd_of_pow_dvd (Nat.le_add_left 1 d) (Nat.dvd_refl _))]
theorem put_mod (x K : Nat) : putList ((x % 256 ^ K : Nat) : Int) K = putList x K := by
  unfold putList
  apply List.map_congr_left
  intro j hj
  simp only [List.mem_reverse, List.mem_range] at hj
  exact byteAt_mod x K j hj
theorem put_len (x : Int) (K : Nat) : (putList x K).length = K := by simp [putList]
theorem put_bytes (x : Int) (K : Nat) : ∀ y ∈ putList x K, 0 ≤ y ∧ y ≤ 255 := by
  intro y hy
  simp only [putList, List.mem_map] at hy
  obtain ⟨j, _, rfl⟩ := hy
  unfold byteAt
  omega
def tallymanlaw08_PackBack.Pure : Prop := True
theorem both_is (a b : List Int) (h : a.length + b.length < 140737488355328) : tallymanlaw08_both.f a b = some (a ++ b) := by
  unfold tallymanlaw08_both.f
  rw [Option.bind_some, if_pos (by simp; omega), Option.bind_some, if_pos (by simpa using h)]
  rfl
theorem var_is (x : Int) (h0 : 0 ≤ x) (h1 : x < 18446744073709551616) : pack_Var.f 0 [] x = some (varL 9 x) := by
  unfold pack_Var.f
  rw [if_pos ⟨by simp, h0, h1⟩]
  rfl
theorem put_is (x n : Int) (h0 : 0 ≤ x) (h1 : x < 18446744073709551616) : pack_Put.f [] x n = some (putList x (kOf n)) := by
  unfold pack_Put.f
  rw [if_pos ⟨by simp, h0, h1⟩]
  rfl
theorem unv_is (l : List Int) (h : ∀ x ∈ l, 0 ≤ x ∧ x ≤ 255) : pack_Unvar.f 0 l = some (unv l 0 0) := by
  unfold pack_Unvar.f
  rw [if_pos h]
theorem tallymanlaw08_PackBack.walk (P : tallymanlaw08_PackBack.Pure) (a0 : Option Addr) (len0 cap0 : Nat) (z0 : List Int) (a1 a2 a3 : Int) (w : World) (w0 : (a0 = none ∧ len0 = 0 ∧ cap0 = 0 ∧ z0 = []) ∨ ∃ x, a0 = some x ∧ len0 ≤ cap0 ∧ cap0 ≤ maxLen ∧ z0.length = cap0 ∧ (∀ i, i < z0.length → w.cell? (x.add i) = some (.int .u8 (z0.getD i 0))) ∧ ∀ n ∈ z0, (Lit.int .u8 n).wf = true) (y0 : len0 * 1 ≤ 140737488351232) (w1 : (Lit.int .u64 a1).wf = true) (w2 : (Lit.int .u64 a2).wf = true) (w3 : (Lit.int .u8 a3).wf = true) :
    Calls Try.prog 10 #[.slice a0 len0 cap0, .int .u64 a1, .int .u64 a2, .int .u8 a3] w fun e w' => e = .returned (.bool true) ∧ Below w.heap.size w w' := by
  obtain ⟨l, rfl, hr0, hm0, hw0, hc0⟩ := ReadsInt.ofRowC w0
  have hb := bytes_of hw0
  obtain ⟨b0, b1⟩ := wf_u64 w1
  obtain ⟨d0, d1⟩ := wf_u64 w2
  obtain ⟨k0, k1⟩ := wf_u8 w3
  by_cases hl : (300 : Int) < l.length
  · exact packBack_long a0 cap0 l.length a1 a2 a3 w (by simpa using hl)
  · have hl2 : l.length ≤ 300 := by omega
    obtain ⟨K, hK⟩ : ∃ K : Nat, a3 % 9 = (K : Int) := ⟨(a3 % 9).toNat, by omega⟩
    have hK8 : K ≤ 8 := by omega
    have hkOf : kOf (K : Int) = K := by unfold kOf; omega
    obtain ⟨x, rfl⟩ := Int.eq_ofNat_of_zero_le b0
    have htk : takeSpec (putList (x : Int) K ++ l) (K : Int) = (((x % 256 ^ K : Nat) : Int), l, 0) := by
      unfold takeSpec
      rw [if_neg (by omega), if_neg (by rw [List.length_append, put_len]; omega), Int.toNat_natCast, List.take_left' (put_len _ _), List.drop_left' (put_len _ _)]
      have := val_put x K 0
      rw [Nat.zero_mul, Nat.zero_add] at this
      rw [← this]
      rfl
    obtain ⟨t, ht⟩ := Ev.rounds (take_code (putList (x : Int) K ++ l) (K : Int) (by
      intro y hy
      rw [List.mem_append] at hy
      rcases hy with hy | hy
      · exact put_bytes _ _ y hy
      · exact hb y hy))
    rw [htk] at ht
    have hxx : x % 256 ^ K ≤ x := Nat.mod_le _ _
    have hvb := varL_bytes 9 (x : Int) b0 (by rw [show (2 : Int) ^ (7 * (9 + 1)) = 1180591620717411303424 by decide]; omega)
    have huv : unv (varL 9 (x : Int) ++ l) 0 0 = ((x : Int), l, 0) := by
      have := unv_var l 9 0 x 0 (by omega) b0 (by simp; omega) (by omega) (by omega) (by decide)
      rw [this]
      simp
    have hlen := varL_len10 9 (x : Int)
    obtain ⟨zv, last, g, hun⟩ : ∃ zv last g, unv l 0 0 = (zv, last, g) := ⟨_, _, _, rfl⟩
    have hback : g = 0 → ∃ z, zv = z ∧ 0 ≤ z ∧ z < 18446744073709551616 ∧ l = varL 9 z ++ last := by
      rintro rfl
      obtain ⟨z, h1, h2, _, h3, h4⟩ := unv_back l 0 0 zv last hb (by omega) (by omega) (by decide) hun
      rw [Nat.mul_zero, Int.pow_zero, Int.mul_one, Int.zero_add] at h1
      exact ⟨z, h1, h2, by omega, h3⟩
    refine packBack_calls a0 cap0 l (x : Int) a2 a3 (K : Int) ((x % 256 ^ K : Nat) : Int) zv g (putList (x : Int) K) (varL 9 (x : Int)) last (varL 9 zv) (varL 9 a2) (putList (x : Int) K ++ l) (varL 9 (x : Int) ++ l) t w
      (Kd.C_of_reads (d := (0 : Int)) (h1 := fun _ => rfl) hr0) hc0 (by simpa using hl) k0 k1 hK (by omega) (by omega) ?_ ?_ ?_ ht ?_ (var_is _ b0 (by omega)) ?_ ?_ ?_ ?_ ?_ (var_is _ d0 (by omega)) (fun h => varL_len 9 _ _ h)
    · rw [put_is _ _ b0 (by omega), hkOf]
    · rw [put_is _ _ (by omega) (by omega), hkOf, put_mod]
    · exact both_is _ _ (by rw [put_len]; omega)
    · intro h
      obtain rfl : K = 8 := by omega
      rw [Nat.mod_eq_of_lt (by rw [show 256 ^ 8 = 18446744073709551616 by decide]; omega)]
    · exact both_is _ _ (by omega)
    · rw [unv_is, huv]
      intro y hy
      rw [List.mem_append] at hy
      rcases hy with hy | hy
      · exact hvb y hy
      · exact hb y hy
    · rw [unv_is l hb, hun]
    · intro h
      obtain ⟨z, rfl, h1, h2, _⟩ := hback h
      exact var_is _ h1 h2
    · intro h
      obtain ⟨z, rfl, h1, h2, h3⟩ := hback h
      have h4 : l.length = (varL 9 zv).length + last.length := by rw [← List.length_append, ← h3]
      rw [both_is _ _ (by omega), ← h3]
end Go.Proofs.Ytjdnlibgfjlakaa.P
