/- Several texts of this proof in one: what the law's functions come to, and the lemmas (some as the kit's print.sh printed them, what is not used struck). -/
import Derived.Test.YtpoghhcpoimepaaM6
import Derived.Test.YtpoghhcpoimepaaM7
import Derived.Test.YtpoghhcpoimepaaM8
section
/- The law WalkLaws. -/
namespace Go.Proofs.Ytpoghhcpoimepaa.P
open Go.Proofs.Ytpoghhcpoimepaa.B Go.RowKit Go.Proofs.YtpoghhcpoimepaaW.PrintWords Go.Proofs.YtpoghhcpoimepaaW.PrintLast Go.Proofs.YtpoghhcpoimepaaW.PrintMore
set_option linter.unusedVariables false
set_option linter.unusedSimpArgs false
theorem both_code13 (a b : List S56) (ha : a.length ≤ 1000) (hb : b.length ≤ 1000) : tallymanlaw05_both.f a b = some (a ++ b) := by
  unfold tallymanlaw05_both.f
  rw [Option.bind_some, if_pos (by simp only [List.length_nil]; omega), Option.bind_some, List.nil_append, if_pos (by omega)]
/-- Where a walker is that goes from s as another one goes from nothing. -/
def compW (s t : Nat × Int × Int) : Nat × Int × Int := ((s.1 + t.1) % 4, s.2.1 + (cm t.2 (ip s.1)).1, s.2.2 + (cm t.2 (ip s.1)).2)
theorem cm_assoc (a b c : Int × Int) : cm (cm a b) c = cm a (cm b c) := by
  obtain ⟨a1, a2⟩ := a
  obtain ⟨b1, b2⟩ := b
  obtain ⟨c1, c2⟩ := c
  unfold cm
  simp only [Prod.mk.injEq, Int.sub_mul, Int.add_mul, Int.mul_sub, Int.mul_add, Int.mul_assoc]
  constructor <;> omega
theorem cm_plus (a b c : Int × Int) : cm (a.1 + b.1, a.2 + b.2) c = ((cm a c).1 + (cm b c).1, (cm a c).2 + (cm b c).2) := by
  obtain ⟨a1, a2⟩ := a
  obtain ⟨b1, b2⟩ := b
  obtain ⟨c1, c2⟩ := c
  unfold cm
  simp only [Prod.mk.injEq, Int.add_mul]
  constructor <;> omega
theorem comp_assoc (s a b : Nat × Int × Int) (hs : s.1 < 4) (ha : a.1 < 4) : compW (compW s a) b = compW s (compW a b) := by
  have h := cm_ip a.1 s.1 ha hs
  have h2 := cm_assoc b.2 (ip a.1) (ip s.1)
  rw [h] at h2
  have h3 := cm_plus a.2 (cm b.2 (ip a.1)) (ip s.1)
  unfold compW
  simp only []
  rw [h3, show (s.1 + a.1) % 4 = (a.1 + s.1) % 4 by rw [Nat.add_comm], ← h2]
  simp only [Prod.mk.injEq]
  refine ⟨by omega, by omega, by omega⟩
theorem eff_comp (s : Nat × Int × Int) (p : S95) : effP s p = compW s (effP (0, 0, 0) p) := by
  unfold effP compW cm
  simp only [ip, Prod.mk.injEq]
  refine ⟨by omega, by simp, by simp⟩
theorem comp_zero (s : Nat × Int × Int) (hs : s.1 < 4) : compW s (0, 0, 0) = s := by
  obtain ⟨q, x, y⟩ := s
  unfold compW cm
  simp only [] at hs
  simp only [Prod.mk.injEq, Int.zero_mul, Int.sub_self, Int.add_zero, and_true]
  omega
theorem foldP_lt : ∀ (l : List S95) (s : Nat × Int × Int), s.1 < 4 → (foldP s l).1 < 4
  | [], s, h => h
  | p :: l, s, h => foldP_lt l _ (eff_lt s p)
theorem foldP_comp : ∀ (l : List S95) (s : Nat × Int × Int), s.1 < 4 → foldP s l = compW s (foldP (0, 0, 0) l)
  | [], s, hs => (comp_zero s hs).symm
  | p :: l, s, hs => by
    show foldP (effP s p) l = compW s (foldP (effP (0, 0, 0) p) l)
    rw [foldP_comp l _ (eff_lt s p), foldP_comp l (effP (0, 0, 0) p) (eff_lt _ p), eff_comp s p, comp_assoc _ _ _ hs (eff_lt _ p)]
theorem foldW_is (l : List S56) : foldW l = foldP (0, 0, 0) (plainL l) := foldW_plain l _ (by decide)
theorem foldW_both (a b : List S56) : foldW (a ++ b) = compW (foldW a) (foldW b) := by
  rw [foldW_is, foldW_is, foldW_is]
  have e : plainL (a ++ b) = plainL a ++ plainL b := by unfold plainL; rw [List.map_append]
  rw [e]
  unfold foldP
  rw [List.foldl_append]
  exact foldP_comp (plainL b) _ (foldP_lt (plainL a) _ (by decide))
theorem flip_none (s : Nat × Int × Int) (m : S56) (hs : s.1 < 4) : effP (effP s (plainV m.f0 m.f1)) (plainV (flipV m).f0 (flipV m).f1) = s := by
  obtain ⟨k, n⟩ := m
  obtain ⟨q, x, y⟩ := s
  simp only [] at hs
  have hof : ∀ a b : Int, 1 ≤ a → a ≤ 4 → 1 ≤ b → b ≤ 4 → ofV a n = ofV b n := by
    intro a b h1 h2 h3 h4
    unfold ofV
    simp only [if_neg (show ¬ a < 1 by omega), if_neg (show ¬ a > 4 by omega), if_neg (show ¬ b < 1 by omega), if_neg (show ¬ b > 4 by omega)]
  unfold flipV
  simp only []
  by_cases c1 : k = 1
  · subst c1
    simp only [if_true, effP, plainV, if_neg (show ¬ (2 : Int) = 1 by decide), hof 2 1 (by omega) (by omega) (by omega) (by omega)]
    simp only [Int.toNat_zero, Nat.add_zero, Nat.mod_eq_of_lt hs, Prod.mk.injEq, Int.neg_mul, true_and]
    exact ⟨by omega, by omega⟩
  by_cases c2 : k = 2
  · subst c2
    simp only [if_true, effP, plainV, if_neg (show ¬ (2 : Int) = 1 by decide), hof 1 2 (by omega) (by omega) (by omega) (by omega)]
    simp only [Int.toNat_zero, Nat.add_zero, Nat.mod_eq_of_lt hs, Prod.mk.injEq, Int.neg_mul, true_and]
    exact ⟨by omega, by omega⟩
  by_cases c3 : k = 3
  · subst c3
    simp only [if_true, effP, plainV, if_neg (show ¬ (3 : Int) = 1 by decide), if_neg (show ¬ (3 : Int) = 2 by decide), if_neg (show ¬ (4 : Int) = 1 by decide), if_neg (show ¬ (4 : Int) = 2 by decide), if_neg (show ¬ (4 : Int) = 3 by decide), hof 4 3 (by omega) (by omega) (by omega) (by omega)]
    simp only [Int.zero_mul, Int.add_zero, Prod.mk.injEq, and_true]
    generalize ofV 3 n = v at *
    omega
  by_cases c4 : k = 4
  · subst c4
    simp only [if_true, effP, plainV, if_neg (show ¬ (3 : Int) = 1 by decide), if_neg (show ¬ (3 : Int) = 2 by decide), if_neg (show ¬ (4 : Int) = 1 by decide), if_neg (show ¬ (4 : Int) = 2 by decide), if_neg (show ¬ (4 : Int) = 3 by decide), hof 3 4 (by omega) (by omega) (by omega) (by omega)]
    simp only [Int.zero_mul, Int.add_zero, Prod.mk.injEq, and_true]
    generalize ofV 4 n = v at *
    omega
  simp only [if_neg c1, if_neg c2, if_neg c3, if_neg c4, effP, plainV, Int.toNat_zero, Int.zero_mul, Int.add_zero, Nat.add_zero, Nat.mod_eq_of_lt hs, Prod.mk.injEq, and_true]
theorem back_none : ∀ (l : List S56) (s : Nat × Int × Int), s.1 < 4 → foldP (foldP s (plainL l)) (plainL (revV l)) = s
  | [], s, _ => rfl
  | m :: l, s, hs => by
    have e : revV (m :: l) = revV l ++ [flipV m] := by unfold revV; rw [List.reverse_cons, List.map_append]; rfl
    have e2 : foldP s (plainL (m :: l)) = foldP (effP s (plainV m.f0 m.f1)) (plainL l) := rfl
    have e3 : ∀ t, foldP t (plainL (revV l) ++ [plainV (flipV m).f0 (flipV m).f1]) = effP (foldP t (plainL (revV l))) (plainV (flipV m).f0 (flipV m).f1) := fun t => by unfold foldP; rw [List.foldl_append]; rfl
    rw [e, plainL_snoc, e2, e3, back_none l _ (eff_lt _ _), flip_none s m hs]
theorem foldW_lt (l : List S56) : (foldW l).1 < 4 := (foldW_ok l).1
theorem foldW_back (l : List S56) : compW (foldW l) (foldW (revV l)) = (0, 0, 0) := by
  have h := back_none l (0, 0, 0) (by decide)
  rw [foldP_comp _ _ (foldP_lt _ _ (by decide)), ← foldW_is, ← foldW_is] at h
  exact h
theorem qt_nat (q : Nat) (h : q < 4) : qt (q : Int) = q := by unfold qt; omega
/-- A walker's reverse is what undoes its motion. -/
theorem back_is (s r : Nat × Int × Int) (hs : s.1 < 4) (hr : r.1 < 4) (h : compW s r = (0, 0, 0)) (h1 : fx s.2.1 = s.2.1) (h2 : fx s.2.2 = s.2.2) : ((ipBack (qt (s.1 : Int)) : Nat), backBy (s.1 : Int) s.2.1 s.2.2) = r := by
  obtain ⟨q, x, y⟩ := s
  obtain ⟨p, z⟩ := r
  simp only [] at hs hr h1 h2
  unfold compW at h
  simp only [Prod.mk.injEq] at h
  obtain ⟨a1, a2, a3⟩ := h
  have hp : p = ipBack q := by unfold ipBack; omega
  have hb : ipBack q < 4 := by unfold ipBack; omega
  have hz : (-x, -y) = cm z (ip q) := by
    refine Prod.ext ?_ ?_
    · show -x = _
      omega
    · show -y = _
      omega
  unfold backBy
  simp only [qt_nat q hs, h1, h2]
  rw [hz, cm_assoc, cm_ip q _ hs hb, hp]
  have e0 : (q + ipBack q) % 4 = 0 := by unfold ipBack; omega
  rw [e0]
  have e1 : cm z (ip 0) = z := by
    obtain ⟨z1, z2⟩ := z
    unfold cm ip
    simp
  rw [e1]
theorem then_is (s t : Nat × Int × Int) (hs : s.1 < 4) (ht : t.1 < 4) (h1 : fx s.2.1 = s.2.1) (h2 : fx s.2.2 = s.2.2) (h3 : fx t.2.1 = t.2.1) (h4 : fx t.2.2 = t.2.2) : ((qt (t.1 : Int) + qt (s.1 : Int)) % 4, thenBy t.2.1 t.2.2 (s.1 : Int) s.2.1 s.2.2) = compW s t := by
  unfold thenBy compW
  simp only [qt_nat _ hs, qt_nat _ ht, h1, h2, h3, h4, Prod.mk.injEq]
  exact ⟨by rw [Nat.add_comm], Int.add_comm _ _, Int.add_comm _ _⟩
theorem ip_le (q : Nat) : (ip q).1.natAbs ≤ 1 ∧ (ip q).2.natAbs ≤ 1 := (ip_small q).1
theorem mul_le1 (a c : Int) (h : c.natAbs ≤ 1) : (a * c).natAbs ≤ a.natAbs := by
  rw [Int.natAbs_mul]
  exact Nat.le_trans (Nat.mul_le_mul_left _ h) (by omega)
theorem foldP_near : ∀ (l : List S95) (s : Nat × Int × Int) (B : Nat), s.2.1.natAbs ≤ B → s.2.2.natAbs ≤ B → (foldP s l).2.1.natAbs ≤ B + tot l ∧ (foldP s l).2.2.natAbs ≤ B + tot l
  | [], s, B, h1, h2 => by rw [tot]; exact ⟨h1, h2⟩
  | p :: l, s, B, h1, h2 => by
    have a1 := mul_le1 p.f0 _ (ip_le s.1).1
    have a2 := mul_le1 p.f0 _ (ip_le s.1).2
    have h := foldP_near l (effP s p) (B + p.f0.natAbs) (by unfold effP; simp only []; omega) (by unfold effP; simp only []; omega)
    rw [tot]
    rw [Nat.add_assoc] at h
    exact h
theorem foldW_fx (l : List S56) (h : tot (plainL l) ≤ 250) : fx (foldW l).2.1 = (foldW l).2.1 ∧ fx (foldW l).2.2 = (foldW l).2.2 := by
  have h2 := foldP_near (plainL l) (0, 0, 0) 0 (by decide) (by decide)
  rw [← foldW_is] at h2
  exact ⟨fx_near (by omega), fx_near (by omega)⟩
/-- One step between two points. -/
def adjW (p q : S24) : Prop := (q.f0 - p.f0 = 1 ∧ q.f1 - p.f1 = 0) ∨ (q.f0 - p.f0 = -1 ∧ q.f1 - p.f1 = 0) ∨ (q.f0 - p.f0 = 0 ∧ q.f1 - p.f1 = 1) ∨ (q.f0 - p.f0 = 0 ∧ q.f1 - p.f1 = -1)
def chainW (p : S24) : List S24 → Prop
  | [] => True
  | q :: t => adjW p q ∧ chainW q t
def lastPt (p : S24) : List S24 → S24
  | [] => p
  | q :: t => lastPt q t
theorem last_app : ∀ (a b : List S24) (p : S24), lastPt p (a ++ b) = lastPt (lastPt p a) b
  | [], b, p => rfl
  | q :: a, b, p => last_app a b q
theorem chain_app : ∀ (a b : List S24) (p : S24), chainW p a → chainW (lastPt p a) b → chainW p (a ++ b)
  | [], b, p, _, h => h
  | q :: a, b, p, h1, h => ⟨h1.1, chain_app a b q h1.2 h⟩
theorem from_chain (x y dx dy : Int) (hd : (dx = 1 ∧ dy = 0) ∨ (dx = -1 ∧ dy = 0) ∨ (dx = 0 ∧ dy = 1) ∨ (dx = 0 ∧ dy = -1)) : ∀ j : Nat, chainW ⟨x, y⟩ (ptsFrom x y dx dy j) ∧ lastPt ⟨x, y⟩ (ptsFrom x y dx dy j) = ⟨x + j * dx, y + j * dy⟩
  | 0 => ⟨trivial, by simp [ptsFrom, lastPt]⟩
  | j + 1 => by
    obtain ⟨h1, h2⟩ := from_chain x y dx dy hd j
    rw [ptsFrom]
    refine ⟨chain_app _ _ _ h1 ⟨?_, trivial⟩, ?_⟩
    · rw [h2]
      unfold adjW
      simp only [Int.natCast_add, Int.add_mul]
      rcases hd with ⟨a, b⟩ | ⟨a, b⟩ | ⟨a, b⟩ | ⟨a, b⟩ <;> subst a <;> subst b <;> omega
    · rw [last_app]; rfl
theorem ip_unit (q : Nat) (h : q < 4) : ((ip q).1 = 1 ∧ (ip q).2 = 0) ∨ ((ip q).1 = -1 ∧ (ip q).2 = 0) ∨ ((ip q).1 = 0 ∧ (ip q).2 = 1) ∨ ((ip q).1 = 0 ∧ (ip q).2 = -1) := by
  match q, h with
  | 0, _ => decide
  | 1, _ => decide
  | 2, _ => decide
  | 3, _ => decide
theorem step_chain (s : Nat × Int × Int) (k n : Int) (hs : s.1 < 4) : chainW ⟨s.2.1, s.2.2⟩ (stepPts s k n) ∧ lastPt ⟨s.2.1, s.2.2⟩ (stepPts s k n) = ⟨(stepW s k n).2.1, (stepW s k n).2.2⟩ := by
  have hu := ip_unit s.1 hs
  unfold stepPts
  by_cases c3 : k = 3
  · subst c3
    rw [if_pos (.inl rfl)]
    exact ⟨trivial, rfl⟩
  by_cases c4 : k = 4
  · subst c4
    rw [if_pos (.inr rfl)]
    exact ⟨trivial, rfl⟩
  rw [if_neg (fun h => h.elim c3 c4)]
  by_cases c2 : k = 2
  · subst c2
    rw [if_pos rfl]
    obtain ⟨h1, h2⟩ := from_chain s.2.1 s.2.2 (-(ip s.1).1) (-(ip s.1).2) (by omega) (ofV 2 n)
    refine ⟨h1, h2.trans ?_⟩
    rw [stepW_2]
    simp only [Int.mul_neg, Int.neg_mul]
  rw [if_neg c2]
  obtain ⟨h1, h2⟩ := from_chain s.2.1 s.2.2 (ip s.1).1 (ip s.1).2 (by omega) (ofV k n)
  refine ⟨h1, h2.trans ?_⟩
  unfold stepW
  rw [if_neg c3, if_neg c4, if_neg c2]
theorem pts_chain : ∀ (l : List S56) (s : Nat × Int × Int), s.1 < 4 → chainW ⟨s.2.1, s.2.2⟩ (ptsW l s) ∧ lastPt ⟨s.2.1, s.2.2⟩ (ptsW l s) = ⟨(l.foldl (fun s m => stepW s m.f0 m.f1) s).2.1, (l.foldl (fun s m => stepW s m.f0 m.f1) s).2.2⟩
  | [], s, _ => ⟨trivial, rfl⟩
  | m :: l, s, hs => by
    obtain ⟨h1, h2⟩ := step_chain s m.f0 m.f1 hs
    obtain ⟨h3, h4⟩ := pts_chain l (stepW s m.f0 m.f1) (stepW_lt _ _ _ hs)
    rw [ptsW, List.foldl_cons]
    refine ⟨chain_app _ _ _ h1 (by rw [h2]; exact h3), by rw [last_app, h2, h4]⟩
theorem chain_at : ∀ (l : List S24) (p : S24), chainW p l → ∀ (i : Nat) (h : i + 1 < (p :: l).length), adjW (p :: l)[i] (p :: l)[i + 1]
  | [], p, _, i, h => by simp at h
  | q :: t, p, hc, 0, h => hc.1
  | q :: t, p, hc, i + 1, h => chain_at t q hc.2 i (by simpa using h)
theorem last_at : ∀ (l : List S24) (p : S24), (p :: l)[l.length]'(by simp) = lastPt p l
  | [], p => rfl
  | q :: t, p => last_at t q
theorem goes_abs (k n : Int) : goesV k n = (plainV k n).f0.natAbs := (plain_abs k n).symm
theorem sumG_tot : ∀ l : List S56, sumG l = tot (plainL l)
  | [] => rfl
  | m :: l => by
    rw [sumG, goes_abs, sumG_tot l]
    rfl
theorem adj_w (p q : S24) (h : adjW p q) : wrap64 (wrap64 (wrap64 (q.f0 - p.f0) * wrap64 (q.f0 - p.f0)) + wrap64 (wrap64 (q.f1 - p.f1) * wrap64 (q.f1 - p.f1))) = 1 := by
  rcases h with ⟨a, b⟩ | ⟨a, b⟩ | ⟨a, b⟩ | ⟨a, b⟩ <;> rw [a, b] <;> decide +kernel
theorem laws_l0 (L : List S24) (hL : L.length ≤ 100000) (hc : ∀ (i : Nat) (h : i + 1 < L.length), adjW L[i] L[i + 1]) : ∀ (d i : Nat), L.length ≤ i + 1 + d → Ev (fun k => tallymanlaw05_WalkLaws.l0 k L ((i + 1 : Nat) : Int)) true := by
  have fin : Ev (fun k => (tallymanlaw05_alive.f k).bind fun t150 => (some t150)) true := Ev.bind alive05 (Ev.now _)
  intro d
  induction d with
  | zero =>
    intro i hi
    have g : ¬ (((i + 1 : Nat) : Int) < (L.length : Int)) := fun h => absurd (Int.ofNat_lt.1 h) (Nat.not_lt.2 hi)
    exact Ev.step (fun k => by rw [tallymanlaw05_WalkLaws.l0, if_neg g]) fin
  | succ d ih =>
    intro i hi
    by_cases hlt0 : L.length ≤ i + 1
    · have g : ¬ (((i + 1 : Nat) : Int) < (L.length : Int)) := fun h => absurd (Int.ofNat_lt.1 h) (Nat.not_lt.2 hlt0)
      exact Ev.step (fun k => by rw [tallymanlaw05_WalkLaws.l0, if_neg g]) fin
    have hlt : i + 1 < L.length := Nat.not_le.1 hlt0
    have e1 : wrap64 (((i + 1 : Nat) : Int) - 1) = (i : Int) := by rw [w64_id (by omega) (by omega)]; omega
    have w1 := w_one (i + 1) (Nat.le_trans (Nat.le_of_lt hlt) hL)
    have r1 := rd_T24_get L (i + 1) hlt
    have r2 := rd_T24_get L i (Nat.lt_of_succ_lt hlt)
    have ha := adj_w _ _ (hc i hlt)
    have g1 : ((i + 1 : Nat) : Int) < (L.length : Int) := Int.ofNat_lt.2 hlt
    have g2 : (0 : Int) ≤ ((i + 1 : Nat) : Int) := Int.natCast_nonneg _
    have g3 : (0 : Int) ≤ (i : Int) := Int.natCast_nonneg _
    have g4 : (i : Int) < (L.length : Int) := Int.ofNat_lt.2 (Nat.lt_of_succ_lt hlt)
    exact Ev.step (fun k => by rw [tallymanlaw05_WalkLaws.l0, if_pos g1, if_pos g2, e1, if_pos g3, if_pos g4, r1, r2, ha, if_pos rfl, w1]) (ih (i + 1) (by omega))
theorem laws_near (a b : List S56) (ha : a.length ≤ 60) (hb : b.length ≤ 60) (hta : tot (plainL a) ≤ 250) (htb : tot (plainL b) ≤ 250) : Ev (fun k => tallymanlaw05_WalkLaws.j0 k a b false) true := by
  have hE : ∀ l : List S56, l.length ≤ 1000 → walk_End.f l = some (((foldW l).1 : Int), (foldW l).2.1, (foldW l).2.2) := fun l h => if_pos h
  have hrl : (revV a).length = a.length := by unfold revV; rw [List.length_map, List.length_reverse]
  have fa := foldW_fx a hta
  have fb := foldW_fx b htb
  have hT := then_is (foldW a) (foldW b) (foldW_lt a) (foldW_lt b) fa.1 fa.2 fb.1 fb.2
  have hB := back_is (foldW a) (foldW (revV a)) (foldW_lt a) (foldW_lt _) (foldW_back a) fa.1 fa.2
  have hbo := foldW_both a b
  have hbr := foldW_both a (revV a)
  rw [foldW_back] at hbr
  rw [← hbo] at hT
  have hT2 : motion_Then.f ((foldW b).1 : Int) (foldW b).2.1 (foldW b).2.2 ((foldW a).1 : Int) (foldW a).2.1 (foldW a).2.2 = some (((foldW (a ++ b)).1 : Int), (foldW (a ++ b)).2.1, (foldW (a ++ b)).2.2) := by
    rw [← hT]; rfl
  have hB2 : motion_Back.f ((foldW a).1 : Int) (foldW a).2.1 (foldW a).2.2 = some (((foldW (revV a)).1 : Int), (foldW (revV a)).2.1, (foldW (revV a)).2.2) := by
    rw [← hB]; rfl
  have hEb : walk_End.f (a ++ b) = some (((foldW (a ++ b)).1 : Int), (foldW (a ++ b)).2.1, (foldW (a ++ b)).2.2) := hE _ (by rw [List.length_append]; omega)
  have hEr : walk_End.f (a ++ revV a) = some (0, 0, 0) := by
    rw [hE _ (by rw [List.length_append]; omega), hbr]; rfl
  have hrev := rev_code a (by omega)
  refine Ev.step (fun k => by rw [tallymanlaw05_WalkLaws.j0, if_neg Bool.false_ne_true, hE a (by omega), Option.bind_some, hE b (by omega), Option.bind_some, both_code13 a b (by omega) (by omega), Option.bind_some, hEb, Option.bind_some, hT2, Option.bind_some]) ?_
  refine Ev.congr (fun k => if_neg (by simp)) (Ev.bind hrev (Ev.congr (fun k => by rw [hE (revV a) (by omega), Option.bind_some, hB2, Option.bind_some]) (Ev.congr (fun k => if_neg (by simp)) (Ev.bind hrev (Ev.congr (fun k => by rw [both_code13 a (revV a) (by omega) (by omega), Option.bind_some, hEr, Option.bind_some]) ?_)))))
  have hsum : sumG a ≤ 10000 := by rw [sumG_tot]; omega
  have htr : walk_Trace.f a = some (⟨0, 0⟩ :: ptsW a (0, 0, 0), 0) := by
    have : walk_Trace.f a = some (traceV a) := if_pos (by omega)
    rw [this, traceV, if_pos hsum]
  obtain ⟨hc, hla⟩ := pts_chain a (0, 0, 0) (by decide)
  have hlen : (ptsW a (0, 0, 0)).length ≤ 10000 := by rw [ptsW_len]; exact hsum
  have hat := chain_at _ _ hc
  have hlast := last_at (ptsW a (0, 0, 0)) ⟨0, 0⟩
  rw [hla] at hlast
  generalize ptsW a (0, 0, 0) = L at *
  have e1 : wrap64 (((⟨0, 0⟩ :: L : List S24).length : Int) - 1) = (L.length : Int) := by rw [List.length_cons, w64_id (by omega) (by omega)]; omega
  have r0 : rd_T24 (⟨0, 0⟩ :: L) 0 = ⟨0, 0⟩ := rfl
  have r1 := rd_T24_get (⟨0, 0⟩ :: L) L.length (by simp)
  rw [hlast] at r1
  have g0 : ¬ (((⟨0, 0⟩ :: L : List S24).length : Int) = 0) := by rw [List.length_cons]; omega
  have g1 : (0 : Int) < ((⟨0, 0⟩ :: L : List S24).length : Int) := by rw [List.length_cons]; omega
  have g2 : (0 : Int) ≤ (L.length : Int) := Int.natCast_nonneg _
  have g3 : (L.length : Int) < ((⟨0, 0⟩ :: L : List S24).length : Int) := by rw [List.length_cons]; omega
  refine Ev.step (fun k => by rw [tallymanlaw05_WalkLaws.j1, if_neg (by decide), htr, Option.bind_some, if_pos rfl, if_neg g0, if_pos g1, r0, if_neg (by decide), e1, if_pos g2, if_pos g3, r1]) ?_
  refine Ev.step (fun k => by rw [tallymanlaw05_WalkLaws.j2, if_neg (by simp [foldW])]) ?_
  exact laws_l0 (⟨0, 0⟩ :: L) (by rw [List.length_cons]; omega) hat (L.length) 0 (by rw [List.length_cons]; omega)
theorem laws_j0 (a b : List S56) : Ev (fun k => tallymanlaw05_WalkLaws.j0 k a b true) true :=
  Ev.step (fun k => by rw [tallymanlaw05_WalkLaws.j0, if_pos rfl]) (Ev.bind alive05 (Ev.now _))
theorem laws05 (a b : List S56) : ∃ k, tallymanlaw05_WalkLaws.f k a b = some true := by
  refine Ev.rounds ?_
  unfold tallymanlaw05_WalkLaws.f
  by_cases hg : (a.length : Int) > 60
  · exact Ev.congr (fun k => if_pos hg) (laws_j0 a b)
  refine Ev.congr (fun k => if_neg hg) ?_
  by_cases hg2 : (b.length : Int) > 60
  · exact Ev.congr (fun k => if_pos hg2) (laws_j0 a b)
  refine Ev.congr (fun k => if_neg hg2) (Ev.bind (near_ev a (by omega)) ?_)
  by_cases ht : tot (plainL a) ≤ 250
  · rw [decide_eq_true ht]
    refine Ev.congr (fun k => if_pos rfl) (Ev.bind (near_ev b (by omega)) ?_)
    by_cases ht2 : tot (plainL b) ≤ 250
    · rw [decide_eq_true ht2]; exact laws_near a b (by omega) (by omega) ht ht2
    · rw [decide_eq_false ht2]; exact laws_j0 a b
  · rw [decide_eq_false ht]
    exact Ev.congr (fun k => if_neg Bool.false_ne_true) (laws_j0 a b)
def tallymanlaw05_WalkLaws.Pure : Prop := True
theorem tallymanlaw05_WalkLaws.walk (P : tallymanlaw05_WalkLaws.Pure) (a0 : Option Addr) (len0 cap0 : Nat) (a1 : Option Addr) (len1 cap1 : Nat) (w : World) {H : Type} {enc : TypeId × Value → H} {d0 d1 : DataW H} {p0 p1 : List MemPlace} (h0 : DataW.Trod enc Try.prog w 0 (fun _ => true) true 41 (.slice a0 len0 cap0) d0 p0) (h1 : DataW.Trod enc Try.prog w 0 (fun _ => true) true 41 (.slice a1 len1 cap1) d1 p1) :
    Calls Try.prog 11 #[.slice a0 len0 cap0, .slice a1 len1 cap1] w fun e w' => e = .returned (.bool true) ∧ Below w.heap.size w w' := by
  obtain ⟨f0, hf0⟩ := h0
  obtain ⟨l0, ⟨A0, c0, e0, hc0, hC0⟩, hw0⟩ := Tr41 _ _ _ _ _ _ hf0
  obtain ⟨f1, hf1⟩ := h1
  obtain ⟨l1, ⟨A1, c1, e1, hc1, hC1⟩, hw1⟩ := Tr41 _ _ _ _ _ _ hf1
  simp [Value.cells] at e0 e1
  obtain ⟨rfl, rfl, rfl⟩ := e0
  obtain ⟨rfl, rfl, rfl⟩ := e1
  obtain ⟨k, hk⟩ := laws05 l0 l1
  exact tallymanlaw05_WalkLaws.calls k _ _ l0 _ _ l1 true w hC0 hc0 hC1 hc1 hk rfl
end Go.Proofs.Ytpoghhcpoimepaa.P
end
section
/- WalkLaws: nothing is left to show. -/
namespace Go.Proofs.Ytpoghhcpoimepaa.Pure
theorem WalkLaws : P.tallymanlaw05_WalkLaws.Pure := trivial
end Go.Proofs.Ytpoghhcpoimepaa.Pure
end
