import Derived.Test.YtjdnlibgfjlakaaCT
set_option linter.unusedVariables false
set_option linter.unusedSimpArgs false
namespace Go.Proofs.Ytjdnlibgfjlakaa.P
open Go.RowKit Go.Proofs.Ytjdnlibgfjlakaa.Pure Go.Proofs.YtjdnlibgfjlakaaW.PrintWords Go.Proofs.YtjdnlibgfjlakaaW.PrintLast Go.Proofs.Ytjdnlibgfjlakaa.B
theorem toList_loop (bs : ByteArray) : ∀ (k i : Nat) (r : List UInt8), bs.size - i = k → ByteArray.toList.loop bs i r = r.reverse ++ bs.data.toList.drop i := by
  intro k
  induction k with
  | zero =>
    intro i r h
    unfold ByteArray.toList.loop
    have : ¬ i < bs.size := by omega
    rw [if_neg this, List.drop_eq_nil_of_le (by rw [Array.length_toList]; exact Nat.le_of_not_lt this), List.append_nil]
  | succ k ih =>
    intro i r h
    unfold ByteArray.toList.loop
    have hi : i < bs.size := by omega
    rw [if_pos hi, ih (i + 1) _ (by omega), List.reverse_cons, List.append_assoc]
    have hi2 : i < bs.data.toList.length := by rw [Array.length_toList]; exact hi
    rw [List.drop_eq_getElem_cons hi2]
    congr 2
    show [bs.data[i]!] ++ _ = _
    rw [getElem!_pos bs.data i (by exact hi)]
    rfl
theorem toList_data (bs : ByteArray) : bs.toList = bs.data.toList := by
  rw [ByteArray.toList, toList_loop bs bs.size 0 [] (by omega)]; rfl
theorem nums_eq {l m : List Int} (h1 : ∀ x ∈ l, 0 ≤ x ∧ x ≤ 255) (h2 : ∀ x ∈ m, 0 ≤ x ∧ x ≤ 255) : ((strOfNums l).toList == (strOfNums m).toList) = decide (l = m) := by
  rw [Bool.eq_iff_iff, beq_iff_eq, decide_eq_true_iff]
  constructor
  · intro h
    have e : ∀ l : List Int, (strOfNums l).toList = l.map fun n => UInt8.ofNat n.toNat := fun l => by
      rw [strOfNums, toList_data]
    rw [e, e] at h
    have hl : l.length = m.length := by have := congrArg List.length h; simpa using this
    apply List.ext_getElem hl
    intro i hi hj
    have h3 := congrArg (fun s => s[i]?) h
    simp only [List.getElem?_map, List.getElem?_eq_getElem hi, List.getElem?_eq_getElem hj, Option.map_some, Option.some.injEq] at h3
    have a1 := h1 _ (List.getElem_mem hi)
    have a2 := h2 _ (List.getElem_mem hj)
    have h4 := congrArg UInt8.toNat h3
    simp only [UInt8.toNat_ofNat'] at h4
    omega
  · rintro rfl; rfl
def tallymanlaw09_CrcTells.Pure : Prop := True
theorem tallymanlaw09_CrcTells.walk (P : tallymanlaw09_CrcTells.Pure) (a0 : Option Addr) (len0 cap0 : Nat) (z0 : List Int) (a1 a2 : Int) (w : World) (w0 : (a0 = none ∧ len0 = 0 ∧ cap0 = 0 ∧ z0 = []) ∨ ∃ x, a0 = some x ∧ len0 ≤ cap0 ∧ cap0 ≤ maxLen ∧ z0.length = cap0 ∧ (∀ i, i < z0.length → w.cell? (x.add i) = some (.int .u8 (z0.getD i 0))) ∧ ∀ n ∈ z0, (Lit.int .u8 n).wf = true) (y0 : len0 * 1 ≤ 140737488351232) (w1 : (Lit.int .u16 a1).wf = true) (w2 : (Lit.int .u32 a2).wf = true) :
    Calls Try.prog 7 #[.slice a0 len0 cap0, .int .u16 a1, .int .u32 a2] w fun e w' => e = .returned (.bool true) ∧ Below w.heap.size w w' := by
  obtain ⟨l, rfl, hr0, hm0, hw0, hc0⟩ := ReadsInt.ofRowC w0
  have hb := bytes_of hw0
  obtain ⟨k0, k1⟩ := wf_u16 w1
  obtain ⟨b0, b1⟩ := wf_u32 w2
  by_cases hl : l.length = 0 ∨ 300 < l.length
  · exact crcTells_none a0 cap0 l.length a2 a1 w hl
  · have h1 : 0 < l.length := by omega
    have h2 : l.length ≤ 300 := by omega
    obtain ⟨b, rfl⟩ := Int.eq_ofNat_of_zero_le b0
    obtain ⟨a, ha⟩ : ∃ a : Nat, a1 % (8 * (l.length : Int)) = (a : Int) := ⟨_, (Int.toNat_of_nonneg (Int.emod_nonneg _ (by omega))).symm⟩
    have halt : a < 8 * l.length := by have := Int.emod_lt_of_pos a1 (b := 8 * (l.length : Int)) (by omega); omega
    have hok : okB l.length l := ⟨rfl, hb⟩
    obtain ⟨x, hx⟩ : ∃ x, GF l.length a b 0 (8 * l.length) l = x := ⟨_, rfl⟩
    have hxok : okB l.length x := by rw [← hx]; exact GF_ok hok
    have f1 : crc_Flip.f l a b = some x := by rw [flip_code l a b (by omega) b1 hb (by omega), hx]
    have nx : NI x = NI l ^^^ (2 ^ a * (b % 2 ^ (min 32 (8 * l.length - a)))) := by
      rw [← hx, GF_one _ _ _ _ (by omega) (by omega)]
      exact NI_GF l.length a b l hok halt 32 (by omega)
    have f2 : crc_Flip.f x a b = some l := by
      rw [flip_code x a b (by omega) b1 hxok.2 (by rw [hxok.1]; omega), hxok.1]
      congr 1
      have h3 := NI_GF l.length a b x hxok halt 32 (by omega)
      rw [← GF_one _ _ _ _ (by omega) (by omega), nx, Nat.xor_assoc, Nat.xor_self, Nat.xor_zero] at h3
      have h4 : okB l.length (GF l.length a b 0 (8 * l.length) x) := GF_ok hxok
      exact NI_inj _ _ h4.1 h4.2 hb h3
    obtain ⟨q, hq⟩ : ∃ q, b % 2 ^ (min 32 (8 * l.length - a)) = q := ⟨_, rfl⟩
    have hq32 : q < 2 ^ 32 := by
      rw [← hq]
      have : b % 2 ^ (min 32 (8 * l.length - a)) ≤ b := Nat.mod_le _ _
      omega
    rw [hq] at nx
    have key : x = l ↔ crcN 0 (x.map Int.toNat) = crcN 0 (l.map Int.toNat) := by
      constructor
      · intro h; rw [h]
      · intro h
        unfold crcN at h
        have e1 := foldN_lt x hxok.2 (4294967295 - 0) (by omega)
        have e2 := foldN_lt l hb (4294967295 - 0) (by omega)
        have h3 : foldN (x.map Int.toNat) (4294967295 - 0) = foldN (l.map Int.toNat) (4294967295 - 0) := by omega
        rw [foldN_NI x hxok.2, foldN_NI l hb, hxok.1, nx, ← Nat.xor_assoc, sts_xor _ (4294967295 - 0 ^^^ NI l)] at h3
        have h4 := congrArg (· ^^^ sts (8 * l.length) (4294967295 - 0 ^^^ NI l)) h3
        simp only [Nat.xor_self] at h4
        rw [Nat.xor_comm (sts (8 * l.length) (4294967295 - 0 ^^^ NI l)), Nat.xor_assoc, Nat.xor_self, Nat.xor_zero] at h4
        obtain ⟨d, hd⟩ : ∃ d, 8 * l.length = a + d := ⟨8 * l.length - a, by omega⟩
        rw [hd, sts_add, sts_shift] at h4
        have hq0 := sts_zero_inj d hq32 h4
        rw [hq0, Nat.mul_zero, Nat.xor_zero] at nx
        exact NI_inj _ _ hxok.1 hxok.2 hb nx
    refine crcTells_calls a0 cap0 l.length l x a1 (a : Int) (b : Int) ((crcN 0 (x.map Int.toNat) : Nat) : Int) ((crcN 0 (l.map Int.toNat) : Nat) : Int) w (Kd.C_of_reads (d := (0 : Int)) (h1 := fun _ => rfl) hr0) hc0 h1 h2 k0 k1 ha (by omega) (by omega) hxok.1 f1 f2 (sum_is x hxok.2) (sum_is l hb) ?_
    rw [nums_eq hxok.2 hb, Bool.eq_iff_iff, decide_eq_true_iff, beq_iff_eq, key]
    omega
end Go.Proofs.Ytjdnlibgfjlakaa.P
