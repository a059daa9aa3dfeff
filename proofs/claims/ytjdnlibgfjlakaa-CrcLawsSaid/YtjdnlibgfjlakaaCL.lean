/- Plain lemmas on crc: what Sum, More and their references come to. -/
import Derived.Test.YtjdnlibgfjlakaaF17
import Derived.Test.YtjdnlibgfjlakaaF18
import Derived.Test.YtjdnlibgfjlakaaF20
import Derived.Test.YtjdnlibgfjlakaaS7
import Derived.Test.YtjdnlibgfjlakaaB
import Derived.Test.YtjdnlibgfjlakaaPL
namespace Go.Proofs.Ytjdnlibgfjlakaa.Pure
open Go.RowKit Go.Proofs.Ytjdnlibgfjlakaa.P Go.Proofs.YtjdnlibgfjlakaaW.PrintWords Go.Proofs.YtjdnlibgfjlakaaW.PrintLast Go.Proofs.Ytjdnlibgfjlakaa.B
/-- One turn, on natural numbers. -/
def st (n : Nat) : Nat := if n % 2 = 1 then (n / 2) ^^^ 3988292384 else n / 2
def sts : Nat → Nat → Nat
  | 0, n => n
  | k + 1, n => sts k (st n)
theorem xor_div2 (a b : Nat) : (a ^^^ b) / 2 = a / 2 ^^^ b / 2 := by
  have := Nat.shiftRight_xor_distrib (a := a) (b := b) (i := 1)
  simpa [Nat.shiftRight_eq_div_pow] using this
theorem xor_mod2 (a b : Nat) : (a ^^^ b) % 2 = (a + b) % 2 := by
  have h := Nat.xor_mod_two_pow (a := a) (b := b) (n := 1)
  simp only [Nat.pow_one] at h
  rw [h]
  rcases Nat.mod_two_eq_zero_or_one a with ha | ha <;> rcases Nat.mod_two_eq_zero_or_one b with hb | hb <;> rw [ha, hb] <;> simp <;> omega
theorem st_xor (a b : Nat) : st (a ^^^ b) = st a ^^^ st b := by
  unfold st
  rw [xor_div2, xor_mod2]
  by_cases ha : a % 2 = 1 <;> by_cases hb : b % 2 = 1
  · rw [if_neg (by omega), if_pos ha, if_pos hb]
    rw [Nat.xor_assoc, Nat.xor_comm (b / 2), ← Nat.xor_assoc 3988292384, Nat.xor_self, Nat.zero_xor]
  · rw [if_pos (by omega), if_pos ha, if_neg hb, Nat.xor_assoc, Nat.xor_comm (b / 2), ← Nat.xor_assoc]
  · rw [if_pos (by omega), if_neg ha, if_pos hb, Nat.xor_assoc]
  · rw [if_neg (by omega), if_neg ha, if_neg hb]
theorem sts_xor (k : Nat) : ∀ a b : Nat, sts k (a ^^^ b) = sts k a ^^^ sts k b := by
  induction k with
  | zero => intro a b; rfl
  | succ k ih => intro a b; rw [sts, sts, sts, st_xor, ih]
theorem st_two (m : Nat) : st (2 * m) = m := by unfold st; rw [if_neg (by omega)]; omega
theorem st_lt {n : Nat} (h : n < 2 ^ 32) : st n < 2 ^ 32 := by
  unfold st
  split
  · exact Nat.xor_lt_two_pow (by omega) (by decide)
  · omega
theorem sts_lt (k : Nat) : ∀ {n : Nat}, n < 2 ^ 32 → sts k n < 2 ^ 32 := by
  induction k with
  | zero => intro n h; exact h
  | succ k ih => intro n h; exact ih (st_lt h)
theorem sts_shift (k : Nat) : ∀ m : Nat, sts k (2 ^ k * m) = m := by
  induction k with
  | zero => intro m; simp [sts]
  | succ k ih => intro m; rw [sts, Nat.pow_succ, Nat.mul_comm (2 ^ k) 2, Nat.mul_assoc, st_two, ih]
theorem split8 (w : Nat) : w = (256 * (w / 256)) ^^^ (w % 256) := by
  have h := Nat.two_pow_add_eq_or_of_lt (i := 8) (b := w % 256) (by omega) (w / 256)
  have h2 : (2 ^ 8 * (w / 256)) &&& (w % 256) = 0 := by
    apply Nat.eq_of_testBit_eq
    intro i
    rw [Nat.testBit_and, Nat.zero_testBit, Nat.testBit_two_pow_mul]
    by_cases hi : 8 ≤ i
    · rw [Nat.testBit_lt_two_pow (x := w % 256) (Nat.lt_of_lt_of_le (Nat.mod_lt _ (by decide)) (Nat.pow_le_pow_right (n := 2) (by decide) hi))]; simp
    · simp [hi]
  have h3 : (2 ^ 8 * (w / 256)) ^^^ (w % 256) = (2 ^ 8 * (w / 256)) ||| (w % 256) := by
    apply Nat.eq_of_testBit_eq
    intro i
    have := congrArg (fun n => n.testBit i) h2
    simp only [Nat.testBit_and, Nat.zero_testBit] at this
    rw [Nat.testBit_xor, Nat.testBit_or]
    revert this
    cases (2 ^ 8 * (w / 256)).testBit i <;> cases (w % 256).testBit i <;> simp
  rw [show (256 : Nat) = 2 ^ 8 from rfl] at *
  rw [h3, ← h]
  omega
/-- A byte, at once. -/
theorem byte_step (w x : Nat) : sts 8 (w ^^^ x) = sts 8 ((w % 256) ^^^ x) ^^^ (w / 256) := by
  have h := split8 w
  have e : w ^^^ x = (2 ^ 8 * (w / 256)) ^^^ ((w % 256) ^^^ x) := by rw [← Nat.xor_assoc]; exact congrArg (· ^^^ x) h
  rw [e, sts_xor, sts_shift, Nat.xor_comm]
theorem crcStep_nat (n : Nat) (h : n < 2 ^ 32) : crcStep n = (st n : Nat) := by
  unfold crcStep st
  have e1 : bits .and .u32 (n : Int) 1 = ((n % 2 : Nat) : Int) := by
    rw [bits_and rfl (n : Int) 1 (by omega) (by simp only [IntKind.bits]; omega) (by omega) (by decide), Int.toNat_natCast, show (1 : Int).toNat = 1 from rfl, Nat.and_one_is_mod]
  rw [e1]
  have e2 : ((n : Int) / 2) = ((n / 2 : Nat) : Int) := by omega
  rw [e2]
  by_cases h2 : n % 2 = 1
  · rw [if_pos h2, h2]
    have e3 : bits .and .u32 3988292384 (-((1 : Nat) : Int) % 4294967296) = 3988292384 := by decide +kernel
    rw [e3, bits_xor rfl _ _ (by omega) (by simp only [IntKind.bits]; omega) (by decide) (by decide), Int.toNat_natCast]
    rfl
  · rw [if_neg h2, show n % 2 = 0 from by omega]
    have e3 : bits .and .u32 3988292384 (-((0 : Nat) : Int) % 4294967296) = 0 := by decide +kernel
    rw [e3, bits_xor rfl _ _ (by omega) (by simp only [IntKind.bits]; omega) (by decide) (by decide), Int.toNat_natCast]
    simp
theorem crcSteps_nat (k : Nat) : ∀ n : Nat, n < 2 ^ 32 → crcSteps k n = (sts k n : Nat) := by
  induction k with
  | zero => intro n h; rfl
  | succ k ih => intro n h; rw [crcSteps, crcStep_nat n h, ih _ (st_lt h)]; rfl
theorem crcByte_nat (w x : Nat) (hw : w < 2 ^ 32) (hx : x < 256) : crcByte w x = ((sts 8 (w ^^^ x) : Nat) : Int) := by
  unfold crcByte
  have e1 : ((w : Int) % 256) = ((w % 256 : Nat) : Int) := by omega
  have e2 : ((w : Int) / 256) = ((w / 256 : Nat) : Int) := by omega
  have hlt : (w % 256) ^^^ x < 2 ^ 8 := Nat.xor_lt_two_pow (by omega) (by omega)
  rw [e1, e2, bits_xor (k := .u8) rfl ((w % 256 : Nat) : Int) (x : Int) (by omega) (by simp only [IntKind.bits]; omega) (by omega) (by simp only [IntKind.bits]; omega), Int.toNat_natCast, Int.toNat_natCast, crcSteps_nat 8 _ (by omega)]
  have h8 := sts_lt 8 (n := (w % 256) ^^^ x) (by omega)
  rw [bits_xor rfl _ _ (by omega) (by simp only [IntKind.bits]; omega) (by omega) (by simp only [IntKind.bits]; omega), Int.toNat_natCast, Int.toNat_natCast, byte_step w x]
def foldN (l : List Nat) (w : Nat) : Nat := l.foldl (fun w x => sts 8 (w ^^^ x)) w
theorem crcFold_nat : ∀ (l : List Nat) (w : Nat), w < 2 ^ 32 → (∀ x ∈ l, x < 256) → (l.map (fun (x : Nat) => (x : Int))).foldl crcByte (w : Int) = (foldN l w : Nat) ∧ foldN l w < 2 ^ 32 := by
  intro l
  induction l with
  | nil => intro w h _; exact ⟨rfl, h⟩
  | cons x l ih =>
    intro w h hx
    have hx0 := hx x (by simp)
    rw [List.map_cons, List.foldl_cons, crcByte_nat w x h hx0]
    exact ih _ (sts_lt 8 (Nat.xor_lt_two_pow h (by omega))) (fun y hy => hx y (by simp [hy]))
theorem inv_eq (x : Int) (h0 : 0 ≤ x) (h1 : x ≤ 4294967295) : crcInv x = 4294967295 - x := by
  unfold crcInv
  show IntKind.u32.wrap (((BitVec.ofInt 32 4294967295 ^^^ BitVec.ofInt 32 x).toNat : Nat) : Int) = _
  rw [show BitVec.ofInt 32 4294967295 = BitVec.allOnes 32 from rfl, BitVec.xor_comm, BitVec.xor_allOnes, BitVec.toNat_not, BitVec.toNat_ofInt, wrap_u32]
  omega
/-- The register behind bytes, and the sum. -/
def crcN (s : Nat) (l : List Nat) : Nat := 4294967295 - foldN l (4294967295 - s)
theorem more_code (s : Nat) (l : List Nat) (hs : s < 2 ^ 32) (hl : ∀ x ∈ l, x < 256) : crc_More.f s (l.map (fun (x : Nat) => (x : Int))) = some ((crcN s l : Nat) : Int) := by
  unfold crc_More.f
  rw [if_pos ⟨by omega, by omega⟩, inv_eq s (by omega) (by omega)]
  have h := crcFold_nat l (4294967295 - s) (by omega) hl
  rw [show (4294967295 : Int) - (s : Int) = ((4294967295 - s : Nat) : Int) from by omega, h.1, inv_eq _ (by omega) (by omega)]
  unfold crcN
  congr 1
  omega
theorem par_eq {x y : Nat} (h : x % 2 = y % 2) : (x + y) % 2 = 0 := by omega
theorem par_ne {x y : Nat} (h : ¬ x % 2 = y % 2) : (x + y) % 2 = 1 := by omega
theorem add_pow {m p : Nat} (hp : p ≤ 2 ^ 31) (h : m < p) : (((m : Nat) : Int) + ((p % 4294967296 : Nat) : Int)) % 4294967296 = ((m + p : Nat) : Int) := by omega
theorem tdiv2 (m : Nat) (h : m < 2 ^ 32) : ((m : Int).tdiv 2) % 4294967296 = ((m / 2 : Nat) : Int) := by rw [Int.tdiv_eq_ediv_of_nonneg (by omega)]; omega
theorem tmod2 (m : Nat) : (m : Int).tmod 2 = ((m % 2 : Nat) : Int) := by rw [Int.tmod_eq_emod_of_nonneg (by omega)]; omega
theorem either_loop (a b : Nat) (ha : a < 2 ^ 32) (hb : b < 2 ^ 32) : ∀ (d i : Nat), i + d = 32 → Ev (fun k => tallymanref09_either.l0 k ((a / 2 ^ i : Nat) : Int) ((b / 2 ^ i : Nat) : Int) (((a ^^^ b) % 2 ^ i : Nat) : Int) (((2 ^ i) % 4294967296 : Nat) : Int) (i : Int)) ((a ^^^ b : Nat) : Int) := by
  intro d
  induction d with
  | zero =>
    intro i hi
    obtain rfl : i = 32 := by omega
    have h := Nat.xor_lt_two_pow ha hb
    rw [Nat.mod_eq_of_lt h]
    exact Ev.step (fun k => by rw [tallymanref09_either.l0, if_neg (by decide)]) (Ev.now _)
  | succ d ih =>
    intro i hi
    have hi' : i < 32 := by omega
    have h32 : (i : Int) < 32 := by omega
    have hid : i + 1 + d = 32 := by omega
    have e1 : wrap64 ((i : Int) + 1) = ((i + 1 : Nat) : Int) := by rw [w64 (by omega) (by omega)]; omega
    have hp : 2 ^ i ≤ 2 ^ 31 := Nat.pow_le_pow_right (by decide) (by omega)
    have hp0 : 0 < 2 ^ i := Nat.two_pow_pos i
    have ha2 : a / 2 ^ i ≤ a := Nat.div_le_self _ _
    have hb2 : b / 2 ^ i ≤ b := Nat.div_le_self _ _
    have ea : (((a / 2 ^ i : Nat) : Int).tdiv 2) % 4294967296 = ((a / 2 ^ (i + 1) : Nat) : Int) := by
      rw [Nat.pow_succ, ← Nat.div_div_eq_div_mul]; exact tdiv2 _ (by omega)
    have eb : (((b / 2 ^ i : Nat) : Int).tdiv 2) % 4294967296 = ((b / 2 ^ (i + 1) : Nat) : Int) := by
      rw [Nat.pow_succ, ← Nat.div_div_eq_div_mul]; exact tdiv2 _ (by omega)
    have ew : (((2 ^ i % 4294967296 : Nat) : Int) * 2) % 4294967296 = ((2 ^ (i + 1) % 4294967296 : Nat) : Int) := by
      rw [Nat.pow_succ]; omega
    have hx : (a ^^^ b) / 2 ^ i = (a / 2 ^ i) ^^^ (b / 2 ^ i) := by
      have := Nat.shiftRight_xor_distrib (a := a) (b := b) (i := i)
      simpa [Nat.shiftRight_eq_div_pow] using this
    have hm : (a ^^^ b) % 2 ^ (i + 1) = (a ^^^ b) % 2 ^ i + 2 ^ i * ((a ^^^ b) / 2 ^ i % 2) := by
      rw [Nat.pow_succ, Nat.mod_mul]
    rw [hx, xor_mod2] at hm
    have hlt : (a ^^^ b) % 2 ^ i < 2 ^ i := Nat.mod_lt _ hp0
    have t1 : (((a / 2 ^ i : Nat) : Int).tmod 2) = ((a / 2 ^ i % 2 : Nat) : Int) := tmod2 _
    have t2 : (((b / 2 ^ i : Nat) : Int).tmod 2) = ((b / 2 ^ i % 2 : Nat) : Int) := tmod2 _
    by_cases hq : a / 2 ^ i % 2 = b / 2 ^ i % 2
    · have hz := par_eq hq
      rw [hz] at hm
      replace hm : (a ^^^ b) % 2 ^ (i + 1) = (a ^^^ b) % 2 ^ i := hm
      have heq : ((a / 2 ^ i % 2 : Nat) : Int) = ((b / 2 ^ i % 2 : Nat) : Int) := by rw [hq]
      refine Ev.step (fun k => by rw [tallymanref09_either.l0, if_pos h32, t1, t2, if_pos heq, ea, eb, ew, e1]) ?_
      rw [← hm]
      exact ih (i + 1) hid
    · have hz := par_ne hq
      rw [hz, Nat.mul_one] at hm
      have es : ((((a ^^^ b) % 2 ^ i : Nat) : Int) + ((2 ^ i % 4294967296 : Nat) : Int)) % 4294967296 = (((a ^^^ b) % 2 ^ (i + 1) : Nat) : Int) := by
        rw [hm]; exact add_pow hp hlt
      have heq : ¬ ((a / 2 ^ i % 2 : Nat) : Int) = ((b / 2 ^ i % 2 : Nat) : Int) := fun h => hq (Int.ofNat.inj h)
      refine Ev.step (fun k => by rw [tallymanref09_either.l0, if_pos h32, t1, t2, if_neg heq, ea, eb, es, ew, e1]) ?_
      exact ih (i + 1) hid
theorem either_ev (a b : Nat) (ha : a < 2 ^ 32) (hb : b < 2 ^ 32) : Ev (fun k => tallymanref09_either.f k a b) ((a ^^^ b : Nat) : Int) := by
  have h := either_loop a b ha hb 32 0 (by omega)
  unfold tallymanref09_either.f
  simpa using h
theorem ref_bits (x1 : List Int) (x6 : Int) (r : Int) : ∀ (d n w : Nat), n + d = 8 → w < 2 ^ 32 → Ev (fun k => tallymanref09_More.l0 k x1 ((sts d w : Nat) : Int) (wrap64 (x6 + 1))) r → Ev (fun k => tallymanref09_More.l1 k x1 (w : Int) x6 (n : Int)) r := by
  intro d
  induction d with
  | zero =>
    intro n w hn hw h
    refine Ev.step (fun k => by rw [tallymanref09_More.l1, if_neg (by omega)]) ?_
    exact h
  | succ d ih =>
    intro n w hn hw h
    have t1 : ((w : Int).tmod 2) = ((w % 2 : Nat) : Int) := by rw [Int.tmod_eq_emod_of_nonneg (by omega)]; omega
    have t2 : ((w : Int).tdiv 2) % 4294967296 = ((w / 2 : Nat) : Int) := by rw [Int.tdiv_eq_ediv_of_nonneg (by omega)]; omega
    have e1 : wrap64 ((n : Int) + 1) = ((n + 1 : Nat) : Int) := by rw [w64 (by omega) (by omega)]; omega
    have hst := st_lt hw
    rw [sts] at h
    have h2 := ih (n + 1) (st w) (by omega) hst h
    by_cases ho : w % 2 = 1
    · have hs : st w = (w / 2) ^^^ 3988292384 := by unfold st; rw [if_pos ho]
      rw [hs] at h2
      refine Ev.step (fun k => by rw [tallymanref09_More.l1, if_pos (by omega), t1, if_pos (by omega), t2, e1]) ?_
      exact Ev.bind (either_ev (w / 2) 3988292384 (by omega) (by decide)) h2
    · have hs : st w = w / 2 := by unfold st; rw [if_neg ho]
      rw [hs] at h2
      refine Ev.step (fun k => by rw [tallymanref09_More.l1, if_pos (by omega), t1, if_neg (by omega), t2, e1]) ?_
      exact h2
theorem ref_bytes (l : List Nat) (hl : ∀ x ∈ l, x < 256) (hlen : l.length ≤ 1000000) : ∀ (d i w : Nat), i + d = l.length → w < 2 ^ 32 → Ev (fun k => tallymanref09_More.l0 k (l.map (fun (x : Nat) => (x : Int))) (w : Int) (i : Int)) ((4294967295 - foldN (l.drop i) w : Nat) : Int) := by
  intro d
  induction d with
  | zero =>
    intro i w hi hw
    rw [List.drop_of_length_le (by omega)]
    refine Ev.step (fun k => by rw [tallymanref09_More.l0, if_neg (by rw [List.length_map]; omega)]) ?_
    unfold tallymanref09_turn.f
    simp only [Option.bind_some]
    have e : ((4294967295 : Int) - (w : Int)) % 4294967296 = ((4294967295 - foldN [] w : Nat) : Int) := by
      show _ = ((4294967295 - w : Nat) : Int)
      omega
    rw [e]
    exact Ev.now _
  | succ d ih =>
    intro i w hi hw
    have hlt : i < l.length := by omega
    have hb := hl l[i] (List.getElem_mem hlt)
    have e1 : wrap64 ((i : Int) + 1) = ((i + 1 : Nat) : Int) := by rw [w64 (by omega) (by omega)]; omega
    have hrd : rd (l.map (fun (x : Nat) => (x : Int))) (i : Int) % 4294967296 = ((l[i] : Nat) : Int) := by
      rw [rd_nat _ i (by rw [List.length_map]; exact hlt), List.getElem_map]; omega
    have hx : w ^^^ l[i] < 2 ^ 32 := Nat.xor_lt_two_pow hw (by omega)
    refine Ev.step (fun k => by rw [tallymanref09_More.l0, if_pos (by rw [List.length_map]; omega), if_pos (by omega), hrd]) ?_
    refine Ev.bind (either_ev w l[i] hw (by omega)) ?_
    refine ref_bits _ _ _ 8 0 _ (by omega) hx ?_
    rw [e1, List.drop_eq_getElem_cons hlt]
    exact ih (i + 1) (sts 8 (w ^^^ l[i])) (by omega) (sts_lt 8 hx)
theorem more_ref (s : Nat) (l : List Nat) (hs : s < 2 ^ 32) (hl : ∀ x ∈ l, x < 256) (hlen : l.length ≤ 1000000) : Ev (fun k => tallymanref09_More.f k s (l.map (fun (x : Nat) => (x : Int)))) ((crcN s l : Nat) : Int) := by
  unfold tallymanref09_More.f tallymanref09_turn.f
  simp only [Option.bind_some]
  have e : ((4294967295 : Int) - (s : Int)) % 4294967296 = ((4294967295 - s : Nat) : Int) := by omega
  rw [e]
  have h := ref_bytes l hl hlen l.length 0 (4294967295 - s) (by omega) (by omega)
  rwa [List.drop_zero] at h
/-- Bytes, as natural numbers. -/
theorem nats_of {l : List Int} (h : ∀ x ∈ l, (Lit.int .u8 x).wf = true) : ∃ m : List Nat, l = m.map (fun (x : Nat) => (x : Int)) ∧ (∀ x ∈ m, x < 256) ∧ m.length = l.length := by
  refine ⟨l.map Int.toNat, ?_, ?_, by simp⟩
  · rw [List.map_map]
    conv => lhs; rw [← List.map_id l]
    apply List.map_congr_left
    intro x hx
    have := wf_u8 (h x hx)
    simp; omega
  · intro x hx
    obtain ⟨y, hy, rfl⟩ := List.mem_map.1 hx
    have := wf_u8 (h y hy)
    omega
end Go.Proofs.Ytjdnlibgfjlakaa.Pure
