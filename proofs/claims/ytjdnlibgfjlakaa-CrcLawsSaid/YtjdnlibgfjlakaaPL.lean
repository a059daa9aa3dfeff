/- Plain lemmas on the Lean functions of pack: what Put, Take and their references come to. -/
import Derived.Test.YtjdnlibgfjlakaaF21
import Derived.Test.YtjdnlibgfjlakaaF24
import Derived.Test.YtjdnlibgfjlakaaF25
import Derived.Test.YtjdnlibgfjlakaaF27
import Derived.Test.YtjdnlibgfjlakaaS1
import Derived.Test.YtjdnlibgfjlakaaB
namespace Go.Proofs.Ytjdnlibgfjlakaa.Pure
open Go.RowKit Go.Proofs.Ytjdnlibgfjlakaa.P Go.Proofs.YtjdnlibgfjlakaaW.PrintWords Go.Proofs.YtjdnlibgfjlakaaW.PrintLast Go.Proofs.Ytjdnlibgfjlakaa.B
def val (l : List Int) (a : Int) : Int := l.foldl (fun w x => w * 256 + x) a
theorem bytes_of {l : List Int} (h : ∀ x ∈ l, (Lit.int .u8 x).wf = true) : ∀ x ∈ l, 0 ≤ x ∧ x ≤ 255 := fun x hx => wf_u8 (h x hx)
theorem wraps_u64 : ∀ n : Int, 0 ≤ n → n < 2 ^ 64 → IntKind.u64.wrap n = n := fun n h0 h1 => by rw [wrap_u64]; omega
theorem rd_nat (l : List Int) (i : Nat) (h : i < l.length) : rd l (i : Int) = l[i] := by
  rw [rd, List.getD_eq_getElem?_getD, Int.toNat_natCast, List.getElem?_eq_getElem h]; rfl
theorem pow_le {i : Nat} (h : i ≤ 7) : (256 : Int) ^ i ≤ 72057594037927936 := by
  have h1 : 256 ^ i ≤ 256 ^ 7 := Nat.pow_le_pow_right (by decide) h
  have h2 : (256 : Int) ^ i = ((256 ^ i : Nat) : Int) := by rw [Int.natCast_pow]; rfl
  have h3 : (256 ^ 7 : Nat) = 72057594037927936 := by decide
  rw [h2]; omega
theorem or_join (acc b : Int) (h0 : 0 ≤ acc) (h1 : acc < 72057594037927936) (b0 : 0 ≤ b) (b1 : b ≤ 255) : bits .or .u64 (IntKind.u64.wrap (acc * 256)) (IntKind.u64.wrap b) = acc * 256 + b := by
  rw [wrap_u64, wrap_u64, show acc * 256 % 18446744073709551616 = acc * 256 from by omega, show b % 18446744073709551616 = b from by omega]
  exact bits_join .u64 64 (by decide) wraps_u64 8 (acc * 256) b (by omega) (by omega) (by omega) b0 (by omega) (by omega)
theorem w64 {n : Int} (h0 : -9223372036854775808 ≤ n) (h1 : n ≤ 9223372036854775807) : wrap64 n = n := by unfold wrap64; omega
/-- The code's loop. -/
theorem take_loop (x0 : List Int) (x1 : Int) (y : List Int) (hy : ∀ x ∈ y, 0 ≤ x ∧ x ≤ 255) (hlen : y.length ≤ 8) (h0 : 0 ≤ x1) (h1 : x1 ≤ (x0.length : Int)) :
    ∀ (d i : Nat) (acc : Int), i + d = y.length → 0 ≤ acc → acc < 256 ^ i → Ev (fun k => pack_Take.l0 k x0 x1 acc y (y.length : Int) i) (val (y.drop i) acc, x0.drop x1.toNat, 0) := by
  intro d
  induction d with
  | zero =>
    intro i acc hi ha hb
    rw [List.drop_of_length_le (by omega)]
    refine Ev.step (fun k => by rw [pack_Take.l0, if_neg (by omega), if_pos h0, if_pos h1]; rfl) (Ev.now _)
  | succ d ih =>
    intro i acc hi ha hb
    have hlt : i < y.length := by omega
    obtain ⟨b0, b1⟩ := hy y[i] (List.getElem_mem hlt)
    have hp := pow_le (i := i) (by omega)
    refine Ev.step (fun k => by rw [pack_Take.l0, if_pos (by omega), if_pos (by omega), if_pos (by omega), rd_nat y i hlt, or_join acc _ ha (by omega) b0 b1, w64 (by omega) (by omega), show ((i : Int) + 1) = ((i + 1 : Nat) : Int) from by omega]) ?_
    have := ih (i + 1) (acc * 256 + y[i]) (by omega) (by omega) (by rw [Int.pow_succ]; omega)
    rw [List.drop_eq_getElem_cons hlt]
    exact this
theorem take_loop_ref (x0 : List Int) (hy : ∀ x ∈ x0, 0 ≤ x ∧ x ≤ 255) (n : Nat) (hn : n ≤ 8) (h1 : n ≤ x0.length) (hb : x0.length < 140737488355328) :
    ∀ (d i : Nat) (acc : Int), i + d = n → 0 ≤ acc → acc < 256 ^ i → Ev (fun k => tallymanref08_Take.l0 k x0 n acc i) (val ((x0.take n).drop i) acc, x0.drop n, 0) := by
  intro d
  induction d with
  | zero =>
    intro i acc hi ha hb'
    rw [List.drop_of_length_le (by rw [List.length_take]; omega)]
    refine Ev.step (fun k => by rw [tallymanref08_Take.l0, if_neg (by omega)]; simp only [Option.bind_some]; rw [if_pos (by omega), if_pos (by omega), if_pos (by simp; omega), List.nil_append, Int.toNat_natCast]; rfl) (Ev.now _)
  | succ d ih =>
    intro i acc hi ha hb'
    have hlt : i < x0.length := by omega
    have hlt' : i < (x0.take n).length := by rw [List.length_take]; omega
    obtain ⟨b0, b1⟩ := hy x0[i] (List.getElem_mem hlt)
    have hp := pow_le (i := i) (by omega)
    refine Ev.step (fun k => by rw [tallymanref08_Take.l0, if_pos (by omega), if_pos (by omega), if_pos (by omega), rd_nat x0 i hlt, wrap_u64, wrap_u64, wrap_u64, show (acc * 256 % 18446744073709551616 + x0[i] % 18446744073709551616) % 18446744073709551616 = acc * 256 + x0[i] from by omega, w64 (by omega) (by omega), show ((i : Int) + 1) = ((i + 1 : Nat) : Int) from by omega]) ?_
    have := ih (i + 1) (acc * 256 + x0[i]) (by omega) (by omega) (by rw [Int.pow_succ]; omega)
    rw [List.drop_eq_getElem_cons hlt']
    rw [List.getElem_take]
    exact this
def takeSpec (l : List Int) (n : Int) : Int × List Int × Int := if n < 0 ∨ 8 < n then (0, [], 1) else if (l.length : Int) < n then (0, [], 4) else (val (l.take n.toNat) 0, l.drop n.toNat, 0)
theorem take_code (l : List Int) (n : Int) (hl : ∀ x ∈ l, 0 ≤ x ∧ x ≤ 255) : Ev (fun k => pack_Take.f k l n) (takeSpec l n) := by
  have key : Ev (fun k => pack_Take.j0 k l n (decide (n < 0 ∨ 8 < n))) (takeSpec l n) := by
    unfold takeSpec
    by_cases h : n < 0 ∨ 8 < n
    · rw [if_pos h]
      exact Ev.step (fun k => by rw [pack_Take.j0, if_pos (by simpa using h)]) (Ev.now _)
    · rw [if_neg h]
      by_cases h2 : (l.length : Int) < n
      · rw [if_pos h2]
        exact Ev.step (fun k => by rw [pack_Take.j0, if_neg (by simpa using h), if_pos h2]) (Ev.now _)
      · rw [if_neg h2]
        have hlen : (l.take n.toNat).length ≤ 8 := by rw [List.length_take]; omega
        refine Ev.step (fun k => by rw [pack_Take.j0, if_neg (by simpa using h), if_neg h2, if_pos (by omega), if_pos (by omega)]) ?_
        exact take_loop l n (l.take n.toNat) (fun x hx => hl x (List.mem_of_mem_take hx)) hlen (by omega) (by omega) (l.take n.toNat).length 0 0 (by omega) (by omega) (by simp)
  refine Ev.congr (fun k => ?_) key
  unfold pack_Take.f
  by_cases h : n < 0
  · rw [if_pos h]; simp [h]
  · rw [if_neg h]; simp [h]
theorem take_ref (l : List Int) (n : Int) (hl : ∀ x ∈ l, 0 ≤ x ∧ x ≤ 255) (hb : l.length < 140737488355328) : Ev (fun k => tallymanref08_Take.f k l n) (takeSpec l n) := by
  have key : Ev (fun k => tallymanref08_Take.j0 k l n (decide (n < 0 ∨ 8 < n))) (takeSpec l n) := by
    unfold takeSpec
    by_cases h : n < 0 ∨ 8 < n
    · rw [if_pos h]
      exact Ev.step (fun k => by rw [tallymanref08_Take.j0, if_pos (by simpa using h)]) (Ev.now _)
    · rw [if_neg h]
      by_cases h2 : (l.length : Int) < n
      · rw [if_pos h2]
        exact Ev.step (fun k => by rw [tallymanref08_Take.j0, if_neg (by simpa using h), if_pos h2]) (Ev.now _)
      · rw [if_neg h2]
        obtain ⟨m, rfl⟩ := Int.eq_ofNat_of_zero_le (show 0 ≤ n by omega)
        refine Ev.step (fun k => by rw [tallymanref08_Take.j0, if_neg (by simpa using h), if_neg h2]) ?_
        exact take_loop_ref l hl m (by omega) (by omega) hb m 0 0 (by omega) (by omega) (by simp)
  refine Ev.congr (fun k => ?_) key
  unfold tallymanref08_Take.f
  by_cases h : n < 0
  · rw [if_pos h]; simp [h]
  · rw [if_neg h]; simp [h]
theorem putList_succ (x : Int) (k : Nat) : putList x (k + 1) = byteAt x k :: putList x k := by
  simp [putList, List.range_succ]
theorem put_inner (x1 : Int) (x7 : List Int) (i : Nat) (hi : i ≤ 7) (hl : x7.length < 140737488355328) (hx : 0 ≤ x1) (hx' : x1 ≤ 18446744073709551615) :
    ∀ (d n : Nat), n + d = i → ∀ (r : List Int), Ev (fun k => tallymanref08_Put.l0 k x1 (x7 ++ [byteAt x1 i]) ((i : Int) - 1)) r → Ev (fun k => tallymanref08_Put.l1 k x1 x7 i (x1 / 2 ^ (8 * n)) n) r := by
  intro d
  induction d with
  | zero =>
    intro n hn r h
    have h0 : 0 ≤ x1 / 2 ^ (8 * n) := Int.ediv_nonneg hx (Int.pow_nonneg (by decide))
    refine Ev.step (fun k => by rw [tallymanref08_Put.l1, if_neg (by omega), if_pos hl, w64 (by omega) (by omega), Int.tmod_eq_emod_of_nonneg h0]) ?_
    have e : x1 / 2 ^ (8 * n) % 256 % 256 = byteAt x1 i := by unfold byteAt; rw [show n = i from by omega]; omega
    rw [e]
    exact h
  | succ d ih =>
    intro n hn r h
    have h0 : 0 ≤ x1 / 2 ^ (8 * n) := Int.ediv_nonneg hx (Int.pow_nonneg (by decide))
    have h2 : x1 / 2 ^ (8 * n) ≤ x1 := Int.ediv_le_self _ hx
    refine Ev.step (fun k => by rw [tallymanref08_Put.l1, if_pos (by omega), Int.tdiv_eq_ediv_of_nonneg h0, wrap_u64, show x1 / 2 ^ (8 * n) / 256 % 18446744073709551616 = x1 / 2 ^ (8 * n) / 256 from by omega, shr_byte, w64 (by omega) (by omega), show ((n : Int) + 1) = ((n + 1 : Nat) : Int) from by omega]) ?_
    exact ih (n + 1) (by omega) r h
theorem put_outer (x1 : Int) (hx : 0 ≤ x1) (hx' : x1 ≤ 18446744073709551615) : ∀ (i : Nat) (x7 : List Int), i ≤ 8 → x7.length + i < 140737488355328 → Ev (fun k => tallymanref08_Put.l0 k x1 x7 ((i : Int) - 1)) (x7 ++ putList x1 i) := by
  intro i
  induction i with
  | zero =>
    intro x7 _ _
    rw [show putList x1 0 = [] from rfl, List.append_nil]
    exact Ev.step (fun k => by rw [tallymanref08_Put.l0, if_neg (by omega)]) (Ev.now _)
  | succ i ih =>
    intro x7 hi hl
    refine Ev.step (fun k => by rw [tallymanref08_Put.l0, if_pos (by omega)]) ?_
    have h := put_inner x1 x7 i (by omega) (by omega) hx hx' i 0 (by omega) _ (ih (x7 ++ [byteAt x1 i]) (by omega) (by simp; omega))
    rw [show (((i + 1 : Nat) : Int) - 1) = (i : Int) from by omega, putList_succ]
    simpa using h
theorem put_ref (l : List Int) (x1 k : Int) (hx : 0 ≤ x1) (hx' : x1 ≤ 18446744073709551615) (hl : l.length ≤ 300) : Ev (fun q => tallymanref08_Put.f q l x1 k) (l ++ putList x1 (kOf k)) := by
  unfold tallymanref08_Put.f
  simp only [Option.bind_some]
  have hl2 : ([] : List Int).length + l.length < 140737488355328 := by simp; omega
  simp only [if_pos hl2]
  have hc : tallymanref02_Clip.f k 0 8 = some (kOf k : Int) := by
    unfold tallymanref02_Clip.f kOf
    split
    · congr 1; omega
    · split
      · congr 1; omega
      · congr 1; omega
  simp only [hc, Option.bind_some, List.nil_append]
  have hk : kOf k ≤ 8 := by unfold kOf; omega
  rw [w64 (by omega) (by omega)]
  exact put_outer x1 hx hx' (kOf k) l hk (by omega)
theorem same_self (l : List Int) : tallymanref08_Same.f l l = some true := by
  unfold tallymanref08_Same.f; simp
end Go.Proofs.Ytjdnlibgfjlakaa.Pure
