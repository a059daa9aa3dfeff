/- Plain lemmas on crc.Flip and its reference. -/
import Derived.Test.YtjdnlibgfjlakaaF23
import Derived.Test.YtjdnlibgfjlakaaS5
import Derived.Test.YtjdnlibgfjlakaaCL
namespace Go.Proofs.Ytjdnlibgfjlakaa.Pure
open Go.RowKit Go.Proofs.Ytjdnlibgfjlakaa.P Go.Proofs.YtjdnlibgfjlakaaW.PrintWords Go.Proofs.YtjdnlibgfjlakaaW.PrintLast Go.Proofs.Ytjdnlibgfjlakaa.B
theorem par0 {x : Nat} (h : ¬ x % 2 = 1) : x % 2 = 0 := by omega
theorem parI {x : Int} (h : x % 2 ≠ 0) : x % 2 = 1 := by omega
def xorb (b : Int) (r : Nat) : Int := ((b.toNat ^^^ 2 ^ r : Nat) : Int)
def flipB (l : List Int) (n : Int) : List Int := l.set (n / 8).toNat (xorb (rd l (n / 8)) (n % 8).toNat)
def onF (len : Nat) (a b n : Int) : Prop := (a ≤ n ∧ n ≤ a + 31 ∧ b / 2 ^ (n - a).toNat % 2 = 1) ∧ 0 ≤ n ∧ n < 8 * (len : Int)
instance (len : Nat) (a b n : Int) : Decidable (onF len a b n) := by unfold onF; infer_instance
def stp (len : Nat) (a b : Int) (l : List Int) (n : Int) : List Int := if onF len a b n then flipB l n else l
def GF (len : Nat) (a b lo : Int) : Nat → List Int → List Int
  | 0, l => l
  | c + 1, l => stp len a b (GF len a b lo c l) (lo + c)
theorem GF_add (len : Nat) (a b lo : Int) (c d : Nat) (l : List Int) : GF len a b lo (c + d) l = GF len a b (lo + c) d (GF len a b lo c l) := by
  induction d with
  | zero => rfl
  | succ d ih => rw [← Nat.add_assoc, GF, ih, GF, show lo + ((c + d : Nat) : Int) = lo + (c : Int) + (d : Int) from by omega]
theorem GF_id (len : Nat) (a b lo : Int) (c : Nat) (l : List Int) (h : ∀ i : Nat, i < c → ¬ onF len a b (lo + i)) : GF len a b lo c l = l := by
  induction c with
  | zero => rfl
  | succ c ih => rw [GF, ih (fun i hi => h i (by omega)), stp, if_neg (h c (by omega))]
theorem GF_one (len : Nat) (a b : Int) (l : List Int) (ha : -32 < a) (ha2 : a < 8 * (len : Int)) : GF len a b 0 (8 * len) l = GF len a b a 32 l := by
  have h1 : GF len a b (-32) (32 + (8 * len + 32)) l = GF len a b 0 (8 * len) l := by
    rw [GF_add, GF_id (c := 32) (lo := -32)]
    · rw [show (-32 : Int) + ((32 : Nat) : Int) = 0 from rfl, GF_add, GF_id (c := 32)]
      intro i hi h
      obtain ⟨_, _, h2⟩ := h
      omega
    · intro i hi h
      obtain ⟨_, h2, _⟩ := h
      omega
  obtain ⟨c, hc⟩ : ∃ c : Nat, a = -32 + (c : Int) := ⟨(a + 32).toNat, by omega⟩
  have h2 : GF len a b (-32) (c + (32 + (8 * len + 32 - c))) l = GF len a b a 32 l := by
    rw [GF_add, GF_id (c := c)]
    · rw [← hc, GF_add, GF_id]
      intro i hi h
      obtain ⟨⟨h1, h2, _⟩, _⟩ := h
      omega
    · intro i hi h
      obtain ⟨⟨h1, _⟩, _⟩ := h
      omega
  rw [← h1, ← h2]
  congr 1
  omega
theorem GF_none (len : Nat) (a b : Int) (l : List Int) (h : a ≤ -32 ∨ 8 * (len : Int) ≤ a) : GF len a b 0 (8 * len) l = l := by
  apply GF_id
  intro i hi h2
  obtain ⟨⟨h3, h4, _⟩, _⟩ := h2
  omega
theorem xorb_range (b : Int) (r : Nat) (h0 : 0 ≤ b) (h1 : b ≤ 255) (hr : r < 8) : 0 ≤ xorb b r ∧ xorb b r ≤ 255 := by
  unfold xorb
  have : b.toNat ^^^ 2 ^ r < 2 ^ 8 := Nat.xor_lt_two_pow (by omega) (Nat.pow_lt_pow_right (by decide) hr)
  omega
def okB (len : Nat) (l : List Int) : Prop := l.length = len ∧ ∀ x ∈ l, 0 ≤ x ∧ x ≤ 255
theorem rd_mem {l : List Int} {i : Int} (h0 : 0 ≤ i) (h : i < (l.length : Int)) : rd l i ∈ l := by
  have : i.toNat < l.length := by omega
  rw [rd, List.getD_eq_getElem?_getD, List.getElem?_eq_getElem this]
  exact List.getElem_mem this
theorem stp_ok {len : Nat} {a b n : Int} {l : List Int} (h : okB len l) : okB len (stp len a b l n) := by
  unfold stp
  split
  · rename_i ho
    obtain ⟨_, h0, h1⟩ := ho
    refine ⟨by unfold flipB; rw [List.length_set]; exact h.1, fun x hx => ?_⟩
    unfold flipB at hx
    rcases List.mem_or_eq_of_mem_set hx with hx | rfl
    · exact h.2 x hx
    · have := h.2 _ (rd_mem (l := l) (i := n / 8) (by omega) (by rw [h.1]; omega))
      exact xorb_range _ _ this.1 this.2 (by omega)
  · exact h
theorem GF_ok {len : Nat} {a b lo : Int} {c : Nat} {l : List Int} (h : okB len l) : okB len (GF len a b lo c l) := by
  induction c with
  | zero => exact h
  | succ c ih => exact stp_ok ih
theorem and1 (x : Int) (h0 : 0 ≤ x) (h1 : x ≤ 4294967295) : bits .and .u32 x 1 = x % 2 := by
  rw [bits_and rfl x 1 h0 (by simp only [IntKind.bits]; omega) (by omega) (by decide), show (1 : Int).toNat = 1 from rfl, Nat.and_one_is_mod]; omega
theorem shr_range (b : Int) (i : Nat) (h0 : 0 ≤ b) (h1 : b ≤ 4294967295) : 0 ≤ b / 2 ^ i ∧ b / 2 ^ i ≤ 4294967295 := by
  have := Int.ediv_nonneg h0 (show (0 : Int) ≤ 2 ^ i from Int.pow_nonneg (by decide))
  have := Int.ediv_le_self (2 ^ i) h0
  omega
theorem xor_code (b : Int) (r : Nat) (h0 : 0 ≤ b) (h1 : b ≤ 255) (hr : r < 8) : bits .xor .u8 b (2 ^ r % 256) = xorb b r := by
  have hp : 2 ^ r < 2 ^ 8 := Nat.pow_lt_pow_right (by decide) hr
  have e : (2 : Int) ^ r % 256 = ((2 ^ r : Nat) : Int) := by
    have h2 : ((2 : Int) ^ r) = ((2 ^ r : Nat) : Int) := by rw [Int.natCast_pow]; rfl
    rw [h2]
    have h3 : ∀ p : Nat, p < 256 → ((p : Int) % 256 = (p : Int)) := by intro p h; omega
    exact h3 _ hp
  rw [e, bits_xor rfl _ _ h0 (by simp only [IntKind.bits]; omega) (by omega) (by simp only [IntKind.bits]; omega), Int.toNat_natCast]
  rfl
theorem step_code {len : Nat} {a b : Int} {l : List Int} {i : Nat} (hi : i < 32) (hb0 : 0 ≤ b) (hb1 : b ≤ 4294967295) (h : okB len l) : flipStep len a b l i = stp len a b l (a + i) := by
  obtain ⟨r0, r1⟩ := shr_range b i hb0 hb1
  unfold flipStep stp
  rw [and1 _ r0 r1]
  by_cases hc : b / 2 ^ i % 2 = 1 ∧ 0 ≤ a + i ∧ a + i < 8 * (len : Int)
  · have ho : onF len a b (a + i) := ⟨⟨by omega, by omega, by rw [show (a + (i : Int) - a).toNat = i from by omega]; exact hc.1⟩, hc.2⟩
    rw [if_pos hc, if_pos ho]
    have hm := h.2 _ (rd_mem (l := l) (i := (a + i) / 8) (by omega) (by rw [h.1]; omega))
    rw [xor_code _ _ hm.1 hm.2 (by omega)]
    rfl
  · have ho : ¬ onF len a b (a + i) := fun ho => hc ⟨by have := ho.1.2.2; rwa [show (a + (i : Int) - a).toNat = i from by omega] at this, ho.2⟩
    rw [if_neg hc, if_neg ho]
theorem flipTo_GF (l : List Int) (a b : Int) (hb0 : 0 ≤ b) (hb1 : b ≤ 4294967295) (h : ∀ x ∈ l, 0 ≤ x ∧ x ≤ 255) : ∀ c : Nat, c ≤ 32 → flipTo l a b c = GF l.length a b a c l := by
  intro c
  induction c with
  | zero => intro _; rfl
  | succ c ih => intro hc; rw [flip_succ, ih (by omega), step_code (by omega) hb0 hb1 (GF_ok ⟨rfl, h⟩)]; rfl
theorem flip_code (l : List Int) (a b : Int) (hb0 : 0 ≤ b) (hb1 : b ≤ 4294967295) (h : ∀ x ∈ l, 0 ≤ x ∧ x ≤ 255) (hl : l.length ≤ 1000) : crc_Flip.f l a b = some (GF l.length a b 0 (8 * l.length) l) := by
  unfold crc_Flip.f
  rw [if_pos hl]
  congr 1
  by_cases hc : a ≤ -32 ∨ 8 * (l.length : Int) ≤ a
  · rw [if_pos hc, GF_none _ _ _ _ hc]
  · rw [if_neg hc, flipTo_GF l a b hb0 hb1 h 32 (Nat.le_refl _), GF_one _ _ _ _ (by omega) (by omega)]
theorem xorb_ref : ∀ b : Nat, b < 256 → ∀ r : Nat, r < 8 → (b / 2 ^ r % 2 = 1 → (b - 2 ^ r) % 256 = b ^^^ 2 ^ r ∧ 2 ^ r ≤ b) ∧ (b / 2 ^ r % 2 = 0 → (b + 2 ^ r) % 256 = b ^^^ 2 ^ r) := by decide +kernel
theorem GF_front (len : Nat) (a b lo : Int) (d : Nat) (l : List Int) : GF len a b lo (d + 1) l = GF len a b (lo + 1) d (stp len a b l lo) := by
  rw [Nat.add_comm, GF_add]
  show GF len a b (lo + ((1 : Nat) : Int)) d (stp len a b l (lo + ((0 : Nat) : Int))) = _
  rw [show lo + ((1 : Nat) : Int) = lo + 1 from rfl, show lo + ((0 : Nat) : Int) = lo from by omega]
theorem tdiv_pow (b : Int) (j : Nat) (h0 : 0 ≤ b) (h1 : b ≤ 4294967295) : ((b / 2 ^ j).tdiv 2) % 4294967296 = b / 2 ^ (j + 1) := by
  obtain ⟨r0, r1⟩ := shr_range b j h0 h1
  rw [Int.tdiv_eq_ediv_of_nonneg r0, Int.pow_succ, ← Int.ediv_ediv_of_nonneg (Int.pow_nonneg (by decide))]
  generalize b / 2 ^ j = x at *
  omega
theorem ref_div (a b : Int) (L : List Int) (n : Int) (m : Nat) (hm : n - a = m) (hm2 : m ≤ 31) (h0 : 0 ≤ b) (h1 : b ≤ 4294967295) (r : List Int)
    (hz : b / 2 ^ m % 2 = 0 → Ev (fun k => tallymanref09_Flip.l0 k a b L (wrap64 (n + 1))) r) (ho : b / 2 ^ m % 2 ≠ 0 → Ev (fun k => tallymanref09_Flip.l2 k a b L n 1 0) r) :
    ∀ (d j : Nat), j + d = m → Ev (fun k => tallymanref09_Flip.l1 k a b L n (b / 2 ^ j) (j : Int)) r := by
  have hw : wrap64 (n - a) = (m : Int) := by rw [hm, w64 (by omega) (by omega)]
  intro d
  induction d with
  | zero =>
    intro j hj
    obtain rfl : j = m := by omega
    have hnl : ¬ ((j : Int) < (j : Int)) := by omega
    obtain ⟨r0, r1⟩ := shr_range b j h0 h1
    have tm : (b / 2 ^ j).tmod 2 = b / 2 ^ j % 2 := Int.tmod_eq_emod_of_nonneg r0
    by_cases h : b / 2 ^ j % 2 = 0
    · exact Ev.step (fun k => by rw [tallymanref09_Flip.l1, hw, if_neg hnl, tm, if_pos h]) (hz h)
    · exact Ev.step (fun k => by rw [tallymanref09_Flip.l1, hw, if_neg hnl, tm, if_neg h]) (ho h)
  | succ d ih =>
    intro j hj
    have hl : (j : Int) < (m : Int) := by omega
    have e1 : wrap64 ((j : Int) + 1) = ((j + 1 : Nat) : Int) := by rw [w64 (by omega) (by omega)]; omega
    exact Ev.step (fun k => by rw [tallymanref09_Flip.l1, hw, if_pos hl, tdiv_pow b j h0 h1, e1]) (ih (j + 1) (by omega))
theorem rd_nat' (l : List Int) (i : Nat) : rd l (i : Int) = l.getD i 0 := by rw [rd, Int.toNat_natCast]
theorem ref_weight (len : Nat) (a b : Int) (L : List Int) (n : Nat) (hL : okB len L) (hn : n < 8 * len) (hlen : len ≤ 1000) (r : List Int)
    (h : Ev (fun k => tallymanref09_Flip.l0 k a b (flipB L n) (wrap64 ((n : Int) + 1))) r) :
    ∀ (d j : Nat), j + d = n % 8 → Ev (fun k => tallymanref09_Flip.l2 k a b L n ((2 ^ j : Nat) : Int) (j : Int)) r := by
  have tm : ((n : Int).tmod 8) = ((n % 8 : Nat) : Int) := by rw [Int.tmod_eq_emod_of_nonneg (by omega)]; omega
  have td : wrap64 ((n : Int).tdiv 8) = ((n / 8 : Nat) : Int) := by rw [Int.tdiv_eq_ediv_of_nonneg (by omega), w64 (by omega) (by omega)]; omega
  have hlt : n / 8 < L.length := by rw [hL.1]; omega
  have hm := hL.2 _ (List.getElem_mem hlt)
  intro d
  induction d with
  | zero =>
    intro j hj
    have hnl : ¬ ((j : Int) < ((n % 8 : Nat) : Int)) := by omega
    have hp0 : 0 < 2 ^ j := Nat.two_pow_pos j
    have hpz : ¬ (((2 ^ j : Nat) : Int) = 0) := by omega
    have g0 : (0 : Int) ≤ ((n / 8 : Nat) : Int) := by omega
    have g1 : ((n / 8 : Nat) : Int) < (L.length : Int) := by omega
    obtain ⟨q, hq⟩ : ∃ q : Nat, L[n / 8] = (q : Int) := ⟨_, (Int.toNat_of_nonneg hm.1).symm⟩
    have hq256 : q < 256 := by omega
    have hrd := rd_nat L (n / 8) hlt
    rw [hq] at hrd
    have hj8 : j < 8 := by omega
    obtain ⟨x1, x2⟩ := xorb_ref q hq256 j hj8
    have hfl : flipB L n = L.set (n / 8) ((q ^^^ 2 ^ j : Nat) : Int) := by
      unfold flipB xorb
      have e1 : ((n : Int) / 8) = ((n / 8 : Nat) : Int) := by omega
      have e2 : ((n : Int) % 8).toNat = j := by omega
      rw [e1, e2, hrd, Int.toNat_natCast, Int.toNat_natCast]
    rw [hfl] at h
    have tq : ((q : Int).tdiv ((2 ^ j : Nat) : Int)) % 256 % 2 = ((q / 2 ^ j % 2 : Nat) : Int) := by
      rw [Int.tdiv_eq_ediv_of_nonneg (by omega), ← Int.natCast_ediv]; omega
    by_cases hc : q / 2 ^ j % 2 = 1
    · obtain ⟨y1, y2⟩ := x1 hc
      have hci : ((q / 2 ^ j % 2 : Nat) : Int) = 1 := by rw [hc]; rfl
      have es : ((q : Int) - ((2 ^ j : Nat) : Int)) % 256 = ((q ^^^ 2 ^ j : Nat) : Int) := by rw [← y1]; omega
      exact Ev.step (fun k => by rw [tallymanref09_Flip.l2, tm, if_neg hnl, td, if_pos g0, if_pos g1, if_neg hpz, hrd, tq, if_pos hci, es, Int.toNat_natCast]) h
    · have hc0 : q / 2 ^ j % 2 = 0 := par0 hc
      have y1 := x2 hc0
      have hci : ¬ (((q / 2 ^ j % 2 : Nat) : Int) = 1) := by rw [hc0]; decide
      have es : ((q : Int) + ((2 ^ j : Nat) : Int)) % 256 = ((q ^^^ 2 ^ j : Nat) : Int) := by rw [← y1]; omega
      exact Ev.step (fun k => by rw [tallymanref09_Flip.l2, tm, if_neg hnl, td, if_pos g0, if_pos g1, if_neg hpz, hrd, tq, if_neg hci, es, Int.toNat_natCast]) h
  | succ d ih =>
    intro j hj
    have hl : (j : Int) < ((n % 8 : Nat) : Int) := by omega
    have hp : 2 ^ j ≤ 2 ^ 6 := Nat.pow_le_pow_right (by decide) (by omega)
    have ew : (((2 ^ j : Nat) : Int) * 2) % 256 = ((2 ^ (j + 1) : Nat) : Int) := by rw [Nat.pow_succ]; omega
    have e1 : wrap64 ((j : Int) + 1) = ((j + 1 : Nat) : Int) := by rw [w64 (by omega) (by omega)]; omega
    exact Ev.step (fun k => by rw [tallymanref09_Flip.l2, tm, if_pos hl, ew, e1]) (ih (j + 1) (by omega))
theorem ref_flip (len : Nat) (a b : Int) (h0 : 0 ≤ b) (h1 : b ≤ 4294967295) (hlen : len ≤ 1000) :
    ∀ (d n : Nat) (L : List Int), n + d = 8 * len → okB len L → Ev (fun k => tallymanref09_Flip.l0 k a b L (n : Int)) (GF len a b n d L) := by
  intro d
  induction d with
  | zero =>
    intro n L hn hL
    have e8 : wrap64 (8 * (L.length : Int)) = ((8 * len : Nat) : Int) := by rw [hL.1, w64 (by omega) (by omega)]; omega
    have hnl : ¬ ((n : Int) < ((8 * len : Nat) : Int)) := by omega
    exact Ev.step (fun k => by rw [tallymanref09_Flip.l0, e8, if_neg hnl]; rfl) (Ev.now _)
  | succ d ih =>
    intro n L hn hL
    have e8 : wrap64 (8 * (L.length : Int)) = ((8 * len : Nat) : Int) := by rw [hL.1, w64 (by omega) (by omega)]; omega
    have hl : (n : Int) < ((8 * len : Nat) : Int) := by omega
    have e1 : wrap64 ((n : Int) + 1) = ((n + 1 : Nat) : Int) := by rw [w64 (by omega) (by omega)]; omega
    have e31 : wrap64 ((n : Int) - 31) = (n : Int) - 31 := w64 (by omega) (by omega)
    rw [GF_front]
    have hnext := fun (L' : List Int) (hL' : okB len L') => ih (n + 1) L' (by omega) hL'
    have key : ∀ c : Bool, c = decide ((n : Int) < a ∨ (n : Int) - 31 > a) → Ev (fun k => tallymanref09_Flip.j1 k a b L (n : Int) c) (GF len a b ((n : Int) + 1) d (stp len a b L n)) := by
      intro c hc
      by_cases hs : (n : Int) < a ∨ (n : Int) - 31 > a
      · have hct : c = true := by rw [hc]; simpa using hs
        have hno : ¬ onF len a b n := fun ho => by obtain ⟨⟨o1, o2, _⟩, _⟩ := ho; omega
        rw [stp, if_neg hno]
        exact Ev.step (fun k => by rw [tallymanref09_Flip.j1, if_pos hct, e1]) (hnext L hL)
      · have hcf : ¬ (c = true) := by rw [hc]; simpa using hs
        obtain ⟨m, hm⟩ := Int.eq_ofNat_of_zero_le (show 0 ≤ (n : Int) - a by omega)
        have hm31 : m ≤ 31 := by omega
        have hmt : ((n : Int) - a).toNat = m := by omega
        have hr := ref_div a b L n m hm hm31 h0 h1 (GF len a b ((n : Int) + 1) d (stp len a b L n)) (fun hz => ?_) (fun ho => ?_) m 0 (by omega)
        · rw [Int.pow_zero, Int.ediv_one] at hr
          exact Ev.step (fun k => by rw [tallymanref09_Flip.j1, if_neg hcf]; rfl) hr
        · have hno : ¬ onF len a b n := fun ho => by have := ho.1.2.2; rw [hmt, hz] at this; exact absurd this (by decide)
          rw [stp, if_neg hno, e1]
          exact hnext L hL
        · have hon : onF len a b n := ⟨⟨by omega, by omega, by rw [hmt]; exact parI ho⟩, by omega, by omega⟩
          rw [stp, if_pos hon]
          refine ref_weight len a b L n hL (by omega) hlen _ ?_ (n % 8) 0 (by omega)
          rw [e1]
          have := stp_ok (n := (n : Int)) (a := a) (b := b) hL
          rw [stp, if_pos hon] at this
          exact hnext _ this
    by_cases hs : (n : Int) < a
    · exact Ev.step (fun k => by rw [tallymanref09_Flip.l0, e8, if_pos hl, if_pos hs]) (key true (by simp [hs]))
    · exact Ev.step (fun k => by rw [tallymanref09_Flip.l0, e8, if_pos hl, if_neg hs, e31]) (key _ (by simp [hs]))
theorem flip_ref (l : List Int) (a b : Int) (h0 : 0 ≤ b) (h1 : b ≤ 4294967295) (hl : l.length ≤ 1000) (h : ∀ x ∈ l, 0 ≤ x ∧ x ≤ 255) :
    Ev (fun k => tallymanref09_Flip.f k l a b) (GF l.length a b 0 (8 * l.length) l) := by
  unfold tallymanref09_Flip.f
  have hl2 : ([] : List Int).length + l.length < 140737488355328 := by simp; omega
  simp only [Option.bind_some, if_pos hl2, List.nil_append]
  exact ref_flip l.length a b h0 h1 hl (8 * l.length) 0 l (by omega) ⟨rfl, h⟩
end Go.Proofs.Ytjdnlibgfjlakaa.Pure
