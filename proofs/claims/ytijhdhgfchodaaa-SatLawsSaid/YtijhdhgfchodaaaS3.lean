/- The law of sat's sums and products, walked along its one path. -/
import Derived.Test.YtijhdhgfchodaaaS2
import Derived.Test.YtijhdhgfchodaaaSL
set_option linter.unusedVariables false
set_option linter.unusedSimpArgs false
namespace Go.Proofs.Ytijhdhgfchodaaa.P
open Go.RowKit Go.Proofs.Ytijhdhgfchodaaa.Pure Go.Proofs.YtijhdhgfchodaaaW.PrintWords Go.Proofs.YtijhdhgfchodaaaW.PrintLast Go.Proofs.YtijhdhgfchodaaaW.PrintMore Go.Proofs.Ytijhdhgfchodaaa.B
theorem mul_mono (a b c d : Int) (h1 : a ≤ b) (h2 : c ≤ d) (h3 : 0 ≤ b) (h4 : 0 ≤ c) : a * c ≤ b * d := Int.mul_le_mul h1 h2 h4 h3
theorem mn_mul (m x y : Int) (hm : 0 ≤ m) (hx : 0 ≤ x) (hy : 0 ≤ y) : mn (mn x m * y) m = mn (x * y) m := by
  rcases Int.lt_or_eq_of_le hy with h | h
  · by_cases hxm : x ≤ m
    · have : mn x m = x := by unfold mn; split <;> omega
      rw [this]
    · have : mn x m = m := by unfold mn; split <;> omega
      rw [this]
      have h1 : m * 1 ≤ m * y := Int.mul_le_mul_of_nonneg_left (by omega) hm
      have h2 : x * 1 ≤ x * y := Int.mul_le_mul_of_nonneg_left (by omega) hx
      generalize m * y = A at *
      generalize x * y = B at *
      unfold mn; split <;> split <;> omega
  · rw [← h, Int.mul_zero, Int.mul_zero]
def sumV (l : List Int) : Int := l.foldl (fun s x => s + mx x 0) 0
theorem foldl_sum (l : List Int) : ∀ s : Int, l.foldl (fun s x => s + mx x 0) s = s + sumV l := by
  induction l with
  | nil => intro s; simp [sumV]
  | cons x l ih =>
    intro s
    unfold sumV
    rw [List.foldl_cons, List.foldl_cons, ih, ih]
    omega
theorem sumV_cons (x : Int) (l : List Int) : sumV (x :: l) = mx x 0 + sumV l := by
  show List.foldl _ _ _ = _
  rw [List.foldl_cons, foldl_sum]
  omega
theorem sumV_nonneg (l : List Int) : 0 ≤ sumV l := by
  induction l with
  | nil => simp [sumV]
  | cons x l ih => rw [sumV_cons]; have := mx0 x 0; omega
theorem foldG_add (m : Int) (l : List Int) : ∀ s, s ≤ m → foldG (· + ·) m s l = mn (s + sumV l) m := by
  induction l with
  | nil => intro s h; rw [foldG]; unfold mn sumV; simp; omega
  | cons x l ih =>
    intro s h
    rw [foldG, sumV_cons]
    have h1 := mx0 x 0
    have h2 := sumV_nonneg l
    split
    · rename_i h3
      rw [ih _ h3, Int.add_assoc]
    · unfold mn; split <;> omega
def prodV : List Int → Int
  | [] => 1
  | x :: l => mx x 0 * prodV l
theorem prodV_nonneg (l : List Int) : 0 ≤ prodV l := by
  induction l with
  | nil => simp [prodV]
  | cons x l ih => rw [prodV]; have := mx0 x 0; exact Int.mul_nonneg (by omega) ih
theorem prodV_pos (l : List Int) (h : ∀ x ∈ l, 0 < x) : 1 ≤ prodV l := by
  induction l with
  | nil => simp [prodV]
  | cons x l ih =>
    rw [prodV]
    have h1 := mx0 x 0
    have h2 := h x (by simp)
    have h3 := ih (fun y hy => h y (by simp [hy]))
    have := mul_mono 1 (mx x 0) 1 (prodV l) (by omega) h3 (by omega) (by omega)
    omega
theorem prodV_zero (l : List Int) (h : ∃ x ∈ l, x ≤ 0) : prodV l = 0 := by
  induction l with
  | nil => obtain ⟨x, hx, _⟩ := h; cases hx
  | cons x l ih =>
    rw [prodV]
    by_cases h0 : x ≤ 0
    · have : mx x 0 = 0 := by unfold mx; split <;> omega
      rw [this, Int.zero_mul]
    · obtain ⟨y, hy, hy0⟩ := h
      rcases List.mem_cons.1 hy with rfl | hy
      · exact absurd hy0 h0
      · rw [ih ⟨y, hy, hy0⟩, Int.mul_zero]
theorem foldG_mul (m : Int) (hm : 0 ≤ m) (l : List Int) (hl : ∀ x ∈ l, 0 < x) : ∀ s, 0 ≤ s → s ≤ m → foldG (· * ·) m s l = mn (s * prodV l) m := by
  induction l with
  | nil => intro s h0 h; rw [foldG, prodV, Int.mul_one]; unfold mn; split <;> omega
  | cons x l ih =>
    intro s h0 h
    have hx := hl x (by simp)
    have h1 := mx0 x 0
    have hl' : ∀ y ∈ l, 0 < y := fun y hy => hl y (by simp [hy])
    have h2 := prodV_pos l hl'
    have h3 : 0 ≤ s * mx x 0 := Int.mul_nonneg h0 (by omega)
    rw [foldG, prodV]
    split
    · rename_i h4
      rw [ih hl' _ h3 h4, Int.mul_assoc]
    · have h4 : s * mx x 0 * 1 ≤ s * mx x 0 * prodV l := Int.mul_le_mul_of_nonneg_left h2 h3
      rw [Int.mul_one, Int.mul_assoc s] at h4
      generalize s * (mx x 0 * prodV l) = B at *
      generalize s * mx x 0 = A at *
      unfold mn; split <;> omega
def addS (m : Int) (l : List Int) : Int := mn (sumV l) m
def mulS (m : Int) (l : List Int) : Int := mn (prodV l) m
theorem add_is (m : Int) (l : List Int) (hm0 : 0 ≤ m) (hm : m < 9223372036854775808) (hl : ∀ x ∈ l, i64ok x) (hn : l.length < 9223372036854775807) : sat_Add.f m l = some (addS m l) := by
  rw [add_code m l ⟨by omega, hm⟩ hl hn]
  have : mx m 0 = m := by unfold mx; split <;> omega
  rw [this, foldG_add m l 0 hm0, Int.zero_add]
  rfl
theorem mul_is (m : Int) (l : List Int) (hm0 : 0 ≤ m) (hm : m < 9223372036854775808) (hl : ∀ x ∈ l, i64ok x) (hn : l.length < 9223372036854775807) : sat_Mul.f m l = some (mulS m l) := by
  rw [mul_code m l ⟨by omega, hm⟩ hl hn]
  have : mx m 0 = m := by unfold mx; split <;> omega
  rw [this]
  unfold mulS
  congr 1
  by_cases h : ∃ x ∈ l, x ≤ 0
  · rw [if_pos h, prodV_zero l h]
    unfold mn; split <;> omega
  · have hp : ∀ x ∈ l, 0 < x := fun x hx => by
      apply Int.lt_of_not_ge
      intro h0
      exact h ⟨x, hx, h0⟩
    rw [if_neg h, foldG_mul m hm0 l hp _ (by unfold mn; split <;> omega) (by unfold mn; split <;> omega), mn_mul m 1 _ hm0 (by omega) (prodV_nonneg l), Int.one_mul]
theorem addS_range (m : Int) (l : List Int) (hm : 0 ≤ m) : 0 ≤ addS m l ∧ addS m l ≤ m := by
  have := sumV_nonneg l
  unfold addS mn; split <;> omega
theorem mulS_range (m : Int) (l : List Int) (hm : 0 ≤ m) : 0 ≤ mulS m l ∧ mulS m l ≤ m := by
  have := prodV_nonneg l
  unfold mulS mn; split <;> omega
theorem sum2 (a b : Int) : sumV [a, b] = mx a 0 + mx b 0 := by simp [sumV]
theorem sum3 (a b c : Int) : sumV [a, b, c] = mx a 0 + mx b 0 + mx c 0 := by simp [sumV]
theorem prod2 (a b : Int) : prodV [a, b] = mx a 0 * mx b 0 := by simp [prodV]
theorem prod3 (a b c : Int) : prodV [a, b, c] = mx a 0 * mx b 0 * mx c 0 := by simp [prodV, Int.mul_assoc]
theorem mx_pos (x : Int) (h : 0 ≤ x) : mx x 0 = x := by unfold mx; split <;> omega
theorem mn_le (a b m : Int) (h : a ≤ b) : mn a m ≤ mn b m := by unfold mn; split <;> split <;> omega
theorem mn_add (m x y : Int) (hm : 0 ≤ m) (hx : 0 ≤ x) (hy : 0 ≤ y) : mn (mn x m + y) m = mn (x + y) m := by unfold mn; split <;> (try split) <;> (try split) <;> omega
theorem mn_dist (m X Y Z : Int) (hm : 0 ≤ m) (hX : 0 ≤ X) (hY : 0 ≤ Y) (hZ : 0 ≤ Z) : mn (mn (X * Y) m + mn (X * Z) m) m = mn (X * mn (Y + Z) m) m := by
  rw [Int.mul_comm X (mn _ _), mn_mul m _ _ hm (by omega) hX, Int.add_mul, Int.mul_comm Y, Int.mul_comm Z]
  have h1 := Int.mul_nonneg hX hY
  have h2 := Int.mul_nonneg hX hZ
  generalize X * Y = A at *
  generalize X * Z = B at *
  unfold mn; split <;> (try split) <;> (try split) <;> (try split) <;> omega
theorem mn_pos (m x : Int) (hm : 0 ≤ m) (hx : 0 ≤ x) : 0 ≤ mn x m := by unfold mn; split <;> omega
def tallymanlaw02_SatLaws.Pure : Prop := True
theorem tallymanlaw02_SatLaws.walk (P : tallymanlaw02_SatLaws.Pure) (n : Int) (a : Int) (b : Int) (c : Int) (w : World) (w0 : (Lit.int .i64 n).wf = true) (w1 : (Lit.int .i64 a).wf = true) (w2 : (Lit.int .i64 b).wf = true) (w3 : (Lit.int .i64 c).wf = true) :
    Calls Try.prog 7 #[.int .i64 n, .int .i64 a, .int .i64 b, .int .i64 c] w fun e w' => e = .returned (.bool true) ∧ Below w.heap.size w w' := by
  have w0 := wf_i64ok w0; have w1 := wf_i64ok w1; have w2 := wf_i64ok w2; have w3 := wf_i64ok w3
  obtain ⟨m, hm⟩ : ∃ m, mx n 0 = m := ⟨_, rfl⟩
  have hm0 : 0 ≤ m := by rw [← hm]; unfold mx; split <;> omega
  have hm1 : m < 9223372036854775808 := by rw [← hm]; unfold mx; unfold i64ok at w0; split <;> omega
  obtain ⟨x, hx⟩ : ∃ x, mn a b = x := ⟨_, rfl⟩
  obtain ⟨y, hy⟩ : ∃ y, mx a b = y := ⟨_, rfl⟩
  have hxy : x ≤ y := by rw [← hx, ← hy]; unfold mx mn; split <;> split <;> omega
  have w4 : i64ok x := by rw [← hx]; unfold mn; split <;> assumption
  have w5 : i64ok y := by rw [← hy]; unfold mx; split <;> assumption
  have rA := fun l => addS_range m l hm0
  have rM := fun l => mulS_range m l hm0
  have okA : ∀ l, i64ok (addS m l) := fun l => by have := rA l; unfold i64ok; omega
  have okM : ∀ l, i64ok (mulS m l) := fun l => by have := rM l; unfold i64ok; omega
  have A2 : ∀ x y, i64ok x → i64ok y → sat_Add.f m [x, y] = some (addS m [x, y]) := fun x y h1 h2 => add_is m _ hm0 hm1 (by simp [h1, h2]) (by simp)
  have A3 : ∀ x y z, i64ok x → i64ok y → i64ok z → sat_Add.f m [x, y, z] = some (addS m [x, y, z]) := fun x y z h1 h2 h3 => add_is m _ hm0 hm1 (by simp [h1, h2, h3]) (by simp)
  have M2 : ∀ x y, i64ok x → i64ok y → sat_Mul.f m [x, y] = some (mulS m [x, y]) := fun x y h1 h2 => mul_is m _ hm0 hm1 (by simp [h1, h2]) (by simp)
  have M3 : ∀ x y z, i64ok x → i64ok y → i64ok z → sat_Mul.f m [x, y, z] = some (mulS m [x, y, z]) := fun x y z h1 h2 h3 => mul_is m _ hm0 hm1 (by simp [h1, h2, h3]) (by simp)
  have pa : 0 ≤ mx a 0 := by have := mx0 a 0; omega
  have pb : 0 ≤ mx b 0 := by have := mx0 b 0; omega
  have pc : 0 ≤ mx c 0 := by have := mx0 c 0; omega
  have eA : ∀ x y, addS m [addS m [x, y], c] = addS m [x, y, c] := fun x y => by
    unfold addS
    rw [sum2, sum3, mx_pos _ (mn_pos m _ hm0 (sumV_nonneg _)), mn_add m _ _ hm0 (sumV_nonneg _) pc, sum2]
  have eM : ∀ x y, mulS m [mulS m [x, y], c] = mulS m [x, y, c] := fun x y => by
    unfold mulS
    rw [prod2, prod3, mx_pos _ (mn_pos m _ hm0 (prodV_nonneg _)), mn_mul m _ _ hm0 (prodV_nonneg _) pc, prod2]
  refine satLaws_calls n a b c m x y (addS m [a, b, c]) (mulS m [a, b, c]) (addS m [a, b]) (addS m [b, c]) (mulS m [a, b]) (mulS m [b, c]) (mulS m [a, c]) (mulS m [a, addS m [b, c]]) (addS m [x, c]) (addS m [y, c]) (mulS m [x, c]) (mulS m [y, c]) (lessV x c) (lessV y c) w hm hx hy
    (A3 a b c w1 w2 w3) (M3 a b c w1 w2 w3) ?_ (A2 a b w1 w2) ?_ (A2 b c w2 w3) ?_ ?_ (M2 a b w1 w2) ?_ (M2 b c w2 w3) ?_ (M2 a _ w1 (okA _)) (M2 a c w1 w3) ?_ (A2 x c w4 w3) (A2 y c w5 w3) (M2 x c w4 w3) (M2 y c w5 w3)
    (less_code x c w4 w3) (less_code y c w5 w3) alive_ok ?_ ?_ ?_ ?_ ?_ ?_ ?_
  · rw [A3 c b a w3 w2 w1]
    unfold addS
    rw [sum3, sum3, show mx c 0 + mx b 0 + mx a 0 = mx a 0 + mx b 0 + mx c 0 by omega]
  · rw [A2 _ c (okA _) w3, eA]
  · rw [A2 a _ w1 (okA _)]
    unfold addS
    rw [sum2, sum3, mx_pos _ (mn_pos m _ hm0 (sumV_nonneg _)), Int.add_comm, mn_add m _ _ hm0 (sumV_nonneg _) pa, sum2, show mx b 0 + mx c 0 + mx a 0 = mx a 0 + mx b 0 + mx c 0 by omega]
  · rw [M3 c a b w3 w1 w2]
    unfold mulS
    rw [prod3, prod3, Int.mul_assoc (mx c 0), Int.mul_comm (mx c 0)]
  · rw [M2 _ c (okM _) w3, eM]
  · rw [M2 a _ w1 (okM _)]
    unfold mulS
    rw [prod2, prod3, mx_pos _ (mn_pos m _ hm0 (prodV_nonneg _)), Int.mul_comm, mn_mul m _ _ hm0 (prodV_nonneg _) pa, prod2, Int.mul_comm, Int.mul_assoc]
  · rw [A2 _ _ (okM _) (okM _)]
    unfold mulS addS
    rw [sum2, mx_pos _ (mn_pos m _ hm0 (prodV_nonneg _)), mx_pos _ (mn_pos m _ hm0 (prodV_nonneg _)), prod2, prod2, prod2, mx_pos _ (mn_pos m _ hm0 (sumV_nonneg _)), sum2, mn_dist m _ _ _ hm0 pa pb pc]
  · have := rA [a, b, c]; simp; omega
  · have := rA [a, b, c]; simp; omega
  · have := rM [a, b, c]; simp; omega
  · have := rM [a, b, c]; simp; omega
  · have hh : mx x 0 ≤ mx y 0 := by unfold mx; split <;> split <;> omega
    rw [decide_eq_true_iff]
    unfold addS
    exact mn_le _ _ _ (by rw [sum2, sum2]; omega)
  · have hh : mx x 0 ≤ mx y 0 := by unfold mx; split <;> split <;> omega
    rw [decide_eq_true_iff]
    unfold mulS
    refine mn_le _ _ _ ?_
    rw [prod2, prod2]
    exact mul_mono _ _ _ _ hh (Int.le_refl _) (by have := mx0 y 0; omega) pc
  · have hh : mx x 0 ≤ mx y 0 := by unfold mx; split <;> split <;> omega
    rw [decide_eq_true_iff]
    unfold lessV
    generalize mx x 0 = X at *
    generalize mx y 0 = Y at *
    generalize mx c 0 = C at *
    unfold mx; split <;> split <;> omega
end Go.Proofs.Ytijhdhgfchodaaa.P
