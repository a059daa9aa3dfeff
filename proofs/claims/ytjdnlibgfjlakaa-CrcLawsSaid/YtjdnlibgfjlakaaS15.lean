import Derived.Test.YtjdnlibgfjlakaaCU
import Derived.Test.YtjdnlibgfjlakaaS14
set_option linter.unusedVariables false
set_option linter.unusedSimpArgs false
namespace Go.Proofs.Ytjdnlibgfjlakaa.P
open Go.RowKit Go.Proofs.Ytjdnlibgfjlakaa.Pure Go.Proofs.YtjdnlibgfjlakaaW.PrintWords Go.Proofs.YtjdnlibgfjlakaaW.PrintLast Go.Proofs.Ytjdnlibgfjlakaa.B
theorem xlc (a b c : Nat) : a ^^^ (b ^^^ c) = b ^^^ (a ^^^ c) := by rw [← Nat.xor_assoc, Nat.xor_comm a b, Nat.xor_assoc]
theorem rd_get (l : List Int) (i : Nat) (h : i < l.length) : rd l (i : Int) = l[i] := by simp [rd, h]
theorem byte8 {x y : Int} (h : 0 ≤ x ∧ x ≤ 255) (h' : 0 ≤ y ∧ y ≤ 255) : bits .xor .u8 x y = ((x.toNat ^^^ y.toNat : Nat) : Int) ∧ x.toNat ^^^ y.toNat < 256 := by
  refine ⟨bits_xor rfl x y h.1 (by show x < 256; omega) h'.1 (by show y < 256; omega), ?_⟩
  exact Nat.xor_lt_two_pow (n := 8) (by omega) (by omega)
theorem layTo_cons (x y z : Int) (l p q : List Int) : layTo (x :: l) (y :: p) (z :: q) (l.length + 1) = bits .xor .u8 x (bits .xor .u8 y z) :: layTo l p q l.length := by
  apply List.ext_getElem (by simp [layTo])
  intro j h1 h2
  rw [lay_len, List.length_cons] at h1
  cases j with
  | zero => simp [layTo, layv, rd]
  | succ j =>
    have hj : j < l.length := by omega
    rw [List.getElem_cons_succ]
    simp only [layTo, List.getElem_map, List.getElem_range, if_pos hj, if_pos (show j + 1 < l.length + 1 by omega), layv]
    have e : ∀ (a : Int) (u : List Int), rd (a :: u) ((j + 1 : Nat) : Int) = rd u (j : Int) := fun a u => by simp [rd]
    rw [e, e, e]
theorem lay_NI : ∀ (l p q : List Int), l.length ≤ p.length → l.length ≤ q.length → (∀ x ∈ l, 0 ≤ x ∧ x ≤ 255) → (∀ x ∈ p, 0 ≤ x ∧ x ≤ 255) → (∀ x ∈ q, 0 ≤ x ∧ x ≤ 255) →
    NI (layTo l p q l.length) = NI l ^^^ NI (p.take l.length) ^^^ NI (q.take l.length) ∧ ∀ x ∈ layTo l p q l.length, 0 ≤ x ∧ x ≤ 255 := by
  intro l
  induction l with
  | nil => intro p q _ _ _ _ _; exact ⟨by simp [layTo, NI], by simp [layTo]⟩
  | cons x l ih =>
    intro p q h1 h2 hl hp hq
    cases p with
    | nil => simp at h1
    | cons y p =>
      cases q with
      | nil => simp at h2
      | cons z q =>
        obtain ⟨i1, i2⟩ := ih p q (by simpa using h1) (by simpa using h2) (fun a h => hl a (by simp [h])) (fun a h => hp a (by simp [h])) (fun a h => hq a (by simp [h]))
        have bx := hl x (by simp)
        have b1 := hp y (by simp)
        have b2 := hq z (by simp)
        obtain ⟨e1, l1⟩ := byte8 b1 b2
        obtain ⟨e2, l2⟩ := byte8 bx (y := ((y.toNat ^^^ z.toNat : Nat) : Int)) ⟨by omega, by omega⟩
        rw [List.length_cons, layTo_cons, e1, e2]
        rw [Int.toNat_natCast] at l2 ⊢
        refine ⟨?_, ?_⟩
        · rw [NI, NI, List.take_succ_cons, List.take_succ_cons, NI, NI, i1, Int.toNat_natCast, byte_xor _ _ l2, byte_xor x.toNat _ (by omega), byte_xor y.toNat _ (by omega), byte_xor z.toNat _ (by omega), mul_xor, mul_xor]
          simp only [Nat.xor_assoc, xlc]
        · intro a ha
          rcases List.mem_cons.1 ha with rfl | ha
          · omega
          · exact i2 a ha
theorem inv_nat (x : Nat) (h : x < 2 ^ 32) : 4294967295 - x = 4294967295 ^^^ x := by
  have h1 := inv_eq x (by omega) (by omega)
  unfold crcInv at h1
  rw [show IntKind.u32.max = 4294967295 from rfl, bits_xor rfl _ _ (by decide) (by decide) (by omega) (by show (x : Int) < 4294967296; omega)] at h1
  rw [show Int.toNat 4294967295 = 4294967295 from rfl, Int.toNat_natCast] at h1
  omega
theorem crcN_NI (l : List Int) (h : ∀ x ∈ l, 0 ≤ x ∧ x ≤ 255) : crcN 0 (l.map Int.toNat) = 4294967295 ^^^ sts (8 * l.length) 4294967295 ^^^ sts (8 * l.length) (NI l) := by
  unfold crcN
  have e1 := foldN_lt l h (4294967295 - 0) (by omega)
  rw [inv_nat _ e1, foldN_NI l h, Nat.sub_zero, sts_xor, Nat.xor_assoc]
theorem xor_self_mid (a b c d : Nat) : (a ^^^ b ^^^ c) ^^^ (a ^^^ b ^^^ d) = c ^^^ d := by
  have : (a ^^^ b ^^^ c) ^^^ (a ^^^ b ^^^ d) = ((a ^^^ b) ^^^ (a ^^^ b)) ^^^ (c ^^^ d) := by simp only [Nat.xor_assoc, xlc]
  rw [this, Nat.xor_self, Nat.zero_xor]
theorem crcN_lt (l : List Int) (h : ∀ x ∈ l, 0 ≤ x ∧ x ≤ 255) : crcN 0 (l.map Int.toNat) < 2 ^ 32 := by unfold crcN; omega
theorem lay_sum (l p q : List Int) (h1 : l.length ≤ p.length) (h2 : l.length ≤ q.length) (hl : ∀ x ∈ l, 0 ≤ x ∧ x ≤ 255) (hp : ∀ x ∈ p, 0 ≤ x ∧ x ≤ 255) (hq : ∀ x ∈ q, 0 ≤ x ∧ x ≤ 255) :
    bits .xor .u32 (bits .xor .u32 ((crcN 0 (l.map Int.toNat) : Nat) : Int) ((crcN 0 ((p.take l.length).map Int.toNat) : Nat) : Int)) ((crcN 0 ((q.take l.length).map Int.toNat) : Nat) : Int) = ((crcN 0 ((layTo l p q l.length).map Int.toNat) : Nat) : Int) := by
  have hp' : ∀ x ∈ p.take l.length, 0 ≤ x ∧ x ≤ 255 := fun x h => hp x (List.mem_of_mem_take h)
  have hq' : ∀ x ∈ q.take l.length, 0 ≤ x ∧ x ≤ 255 := fun x h => hq x (List.mem_of_mem_take h)
  obtain ⟨n1, n2⟩ := lay_NI l p q h1 h2 hl hp hq
  have c0 := crcN_lt l hl
  have c1 := crcN_lt _ hp'
  have c2 := crcN_lt _ hq'
  have e1 := bits_xor (k := .u32) rfl ((crcN 0 (l.map Int.toNat) : Nat) : Int) ((crcN 0 ((p.take l.length).map Int.toNat) : Nat) : Int) (by omega) (by show _ < (4294967296 : Int); omega) (by omega) (by show _ < (4294967296 : Int); omega)
  rw [e1, Int.toNat_natCast, Int.toNat_natCast]
  have c3 : crcN 0 (l.map Int.toNat) ^^^ crcN 0 ((p.take l.length).map Int.toNat) < 2 ^ 32 := Nat.xor_lt_two_pow c0 c1
  rw [bits_xor (k := .u32) rfl _ _ (by omega) (by show _ < (4294967296 : Int); omega) (by omega) (by show _ < (4294967296 : Int); omega), Int.toNat_natCast, Int.toNat_natCast]
  have l1 : (p.take l.length).length = l.length := by rw [List.length_take]; omega
  have l2 : (q.take l.length).length = l.length := by rw [List.length_take]; omega
  rw [crcN_NI l hl, crcN_NI _ hp', crcN_NI _ hq', crcN_NI _ n2, l1, l2, lay_len, n1, sts_xor, sts_xor]
  rw [xor_self_mid]
  generalize sts (8 * l.length) 4294967295 = S
  generalize sts (8 * l.length) (NI l) = a
  generalize sts (8 * l.length) (NI (List.take l.length p)) = b
  generalize sts (8 * l.length) (NI (List.take l.length q)) = c
  rw [Nat.xor_comm (a ^^^ b), Nat.xor_assoc (4294967295 ^^^ S), Nat.xor_comm c]
theorem foldN_app (u v : List Nat) (w : Nat) : foldN (u ++ v) w = foldN v (foldN u w) := by unfold foldN; rw [List.foldl_append]
theorem more_split (l : List Int) (k : Nat) (h : ∀ x ∈ l, 0 ≤ x ∧ x ≤ 255) : crc_More.f ((crcN 0 ((l.take k).map Int.toNat) : Nat) : Int) (l.drop k) = some ((crcN 0 (l.map Int.toNat) : Nat) : Int) := by
  have h1 : ∀ x ∈ l.take k, 0 ≤ x ∧ x ≤ 255 := fun x hx => h x (List.mem_of_mem_take hx)
  have h2 : ∀ x ∈ l.drop k, 0 ≤ x ∧ x ≤ 255 := fun x hx => h x (List.mem_of_mem_drop hx)
  have e := more_code (crcN 0 ((l.take k).map Int.toNat)) ((l.drop k).map Int.toNat) (crcN_lt _ h1) (by intro x hx; obtain ⟨y, hy, rfl⟩ := List.mem_map.1 hx; have := h2 y hy; omega)
  rw [nums_back _ h2] at e
  rw [e]
  have hlt := foldN_lt _ h1 (4294967295 - 0) (by omega)
  have : crcN (crcN 0 ((l.take k).map Int.toNat)) ((l.drop k).map Int.toNat) = crcN 0 (l.map Int.toNat) := by
    unfold crcN
    rw [show 4294967295 - (4294967295 - foldN (List.map Int.toNat (List.take k l)) (4294967295 - 0)) = foldN (List.map Int.toNat (List.take k l)) (4294967295 - 0) from by omega]
    rw [← foldN_app, ← List.map_append, List.take_append_drop]
  rw [this]
theorem crcLaws_none (A0 A1 A2 : Option Addr) (c0 c1 c2 n0 n1 n2 : Nat) (w : World) (h : 300 < n0 ∨ n1 < n0 ∨ n2 < n0) :
    Calls Try.prog 6 #[.slice A0 n0 c0, .slice A1 n1 c1, .slice A2 n2 c2] w (crcLayPost w) := by
  go_enter Try.func6, Try.ntmps6
  go_wp2_with (go_at_call 16; (with_reducible refine (alive9_rd _).mono ?_); rintro e w' ⟨rfl, hb⟩)
  all_goals first | (exfalso; omega) | (go_ret; exact ⟨rfl, hb⟩) | skip
def tallymanlaw09_CrcLaws.Pure : Prop := True
theorem tallymanlaw09_CrcLaws.walk (P : tallymanlaw09_CrcLaws.Pure) (a0 : Option Addr) (len0 cap0 : Nat) (z0 : List Int) (a1 : Option Addr) (len1 cap1 : Nat) (z1 : List Int) (a2 : Option Addr) (len2 cap2 : Nat) (z2 : List Int) (w : World) (w0 : (a0 = none ∧ len0 = 0 ∧ cap0 = 0 ∧ z0 = []) ∨ ∃ x, a0 = some x ∧ len0 ≤ cap0 ∧ cap0 ≤ maxLen ∧ z0.length = cap0 ∧ (∀ i, i < z0.length → w.cell? (x.add i) = some (.int .u8 (z0.getD i 0))) ∧ ∀ n ∈ z0, (Lit.int .u8 n).wf = true) (y0 : len0 * 1 ≤ 140737488351232) (w1 : (a1 = none ∧ len1 = 0 ∧ cap1 = 0 ∧ z1 = []) ∨ ∃ x, a1 = some x ∧ len1 ≤ cap1 ∧ cap1 ≤ maxLen ∧ z1.length = cap1 ∧ (∀ i, i < z1.length → w.cell? (x.add i) = some (.int .u8 (z1.getD i 0))) ∧ ∀ n ∈ z1, (Lit.int .u8 n).wf = true) (y1 : len1 * 1 ≤ 140737488351232) (w2 : (a2 = none ∧ len2 = 0 ∧ cap2 = 0 ∧ z2 = []) ∨ ∃ x, a2 = some x ∧ len2 ≤ cap2 ∧ cap2 ≤ maxLen ∧ z2.length = cap2 ∧ (∀ i, i < z2.length → w.cell? (x.add i) = some (.int .u8 (z2.getD i 0))) ∧ ∀ n ∈ z2, (Lit.int .u8 n).wf = true) (y2 : len2 * 1 ≤ 140737488351232) :
    Calls Try.prog 6 #[.slice a0 len0 cap0, .slice a1 len1 cap1, .slice a2 len2 cap2] w fun e w' => e = .returned (.bool true) ∧ Below w.heap.size w w' := by
  obtain ⟨l, rfl, hr0, hm0, hw0, hc0⟩ := ReadsInt.ofRowC w0
  obtain ⟨b, rfl, hr1, hm1, hw1, hc1⟩ := ReadsInt.ofRowC w1
  obtain ⟨c, rfl, hr2, hm2, hw2, hc2⟩ := ReadsInt.ofRowC w2
  have hb0 := bytes_of hw0
  have hb1 := bytes_of hw1
  have hb2 := bytes_of hw2
  by_cases hg : 300 < l.length ∨ b.length < l.length ∨ c.length < l.length
  · exact crcLaws_none a0 a1 a2 cap0 cap1 cap2 l.length b.length c.length w hg
  · have h300 : l.length ≤ 300 := by omega
    have h1 : l.length ≤ b.length := by omega
    have h2 : l.length ≤ c.length := by omega
    obtain ⟨i, hi, hz, hs, hby⟩ := info_parts info5
    obtain ⟨e1, f1, g1⟩ := print_take_of (P := Try.prog) (Value.int .u8) 0 27 5 .i64 Try.underlying27 hi hs a1 cap1 b (l.length : Int) (by omega) (by omega) hc1
    obtain ⟨e2, f2, g2⟩ := print_take_of (P := Try.prog) (Value.int .u8) 0 27 5 .i64 Try.underlying27 hi hs a2 cap2 c (l.length : Int) (by omega) (by omega) hc2
    rw [Int.toNat_natCast] at e1 f1 g1 e2 f2 g2
    obtain ⟨k, hk⟩ : ∃ k : Nat, k ≤ l.length ∧ ((((k : Int) = 0 ∧ (0 < l.length) = False)) ∨ ((0 < l.length) = True ∧ rd l 0 = rd l 0 ∧ 0 ≤ rd l 0 ∧ rd l 0 ≤ 255 ∧ rd l 0 % ((l.length : Int) + 1) = (k : Int) ∧ 0 ≤ (k : Int))) := by
      by_cases h0 : 0 < l.length
      · have hx : 0 ≤ rd l 0 ∧ rd l 0 ≤ 255 := by
          have := rd_get l 0 h0
          rw [show ((0 : Nat) : Int) = 0 from rfl] at this
          rw [this]; exact hb0 _ (List.getElem_mem h0)
        have h3 := Int.emod_nonneg (rd l 0) (b := (l.length : Int) + 1) (by omega)
        have h4 := Int.emod_lt_of_pos (rd l 0) (b := (l.length : Int) + 1) (by omega)
        exact ⟨(rd l 0 % ((l.length : Int) + 1)).toNat, by omega, .inr ⟨eq_true h0, rfl, hx.1, hx.2, by omega, by omega⟩⟩
      · exact ⟨0, by omega, .inl ⟨rfl, eq_false h0⟩⟩
    obtain ⟨hkl, hk⟩ := hk
    obtain ⟨e3, f3, g3⟩ := print_take_of (P := Try.prog) (Value.int .u8) 0 27 5 .i64 Try.underlying27 hi hs a0 cap0 l (k : Int) (by omega) (by omega) hc0
    obtain ⟨A3, e4, f4, g4⟩ := print_drop_of (P := Try.prog) (Value.int .u8) 0 27 5 .i64 Try.underlying27 hi hs a0 cap0 l (k : Int) (by omega) (by omega) hc0
    rw [Int.toNat_natCast] at e3 f3 g3 e4 f4 g4
    have toC : ∀ {w' : World} {A : Option Addr} {u : List Int}, ReadsOf (Value.int .u8) 0 w' A u.length u → Kd.C (Kd.int .u8) w' A u.length u := fun h => Kd.C_of_reads (d := (0 : Int)) (h1 := fun _ => rfl) h
    obtain ⟨n1, n2⟩ := lay_NI l b c h1 h2 hb0 hb1 hb2
    exact crcLaws_calls a0 a1 a2 A3 cap0 cap1 cap2 0 0 0 (cap0 - k) l b c (b.take l.length) (c.take l.length) (l.take k) (l.drop k) (layTo l b c l.length) k (rd l 0) _ _ _ _ _ w
      (toC hr0) (toC hr1) (toC hr2) (toC (f1 w hr1)) (toC (f2 w hr2)) (toC (f4 w hr0)) hc0 g1 g2 g3 g4 h300 h1 h2 rfl e1 e2 e3 e4
      (sum_is _ n2) (sum_is _ hb0) (sum_is _ fun x h => hb1 x (List.mem_of_mem_take h)) (sum_is _ fun x h => hb2 x (List.mem_of_mem_take h)) (sum_is _ fun x h => hb0 x (List.mem_of_mem_take h)) (more_split l k hb0)
      (lay_sum l b c h1 h2 hb0 hb1 hb2) (fun w' h => toC (f3 w' (Kd.reads_of_C h))) hk
end Go.Proofs.Ytjdnlibgfjlakaa.P
