/- Several texts of this proof in one: what the law's functions come to, and the lemmas (some as the kit's print.sh printed them, what is not used struck). -/
import Derived.Test.YtpoghhcpoimepaaM5
import Derived.Test.YtpoghhcpoimepaaM6
import Derived.Test.YtpoghhcpoimepaaM3
import Derived.Shelf.Strings.Builder1
import Derived.Shelf.Small.Strs
import Derived.Shelf.Strings.Search1
import Derived.Test.YtpoghhcpoimepaaProg
section
/- Walks: short ones (plain). -/
namespace Go.Proofs.Ytpoghhcpoimepaa.P
open Go.Proofs.Ytpoghhcpoimepaa.B Go.RowKit Go.Proofs.YtpoghhcpoimepaaW.PrintWords Go.Proofs.YtpoghhcpoimepaaW.PrintLast Go.Proofs.YtpoghhcpoimepaaW.PrintMore
set_option linter.unusedVariables false
set_option linter.unusedSimpArgs false
/-- Quarters count by four. -/
def fitV (g : Bool) (n : Int) : Int := if g = true then n else n % 4
/-- A move more on a row of such that are put together (the last one first). -/
def psh : List S87 → Bool → Int → List S87
  | [], g, n => if fitV g n = 0 then [] else [⟨g, fitV g n⟩]
  | x :: t, g, n => if x.f0 = g then (if fitV g (x.f1 + n) = 0 then t else ⟨g, fitV g (x.f1 + n)⟩ :: t) else (if fitV g n = 0 then x :: t else ⟨g, fitV g n⟩ :: x :: t)
/-- Going and turning in turn, none of nothing. -/
def alt : List S87 → Prop
  | [] => True
  | x :: t => (fitV x.f0 x.f1 = x.f1 ∧ x.f1 ≠ 0) ∧ (∀ y ∈ t.head?, y.f0 ≠ x.f0) ∧ alt t
theorem fit_fit (g : Bool) (n : Int) : fitV g (fitV g n) = fitV g n := by
  unfold fitV; split
  · rfl
  · omega
theorem fit_add (g : Bool) (m n : Int) : fitV g (fitV g m + n) = fitV g (m + n) := by
  unfold fitV; split
  · rfl
  · omega
theorem fit_zero (g : Bool) : fitV g 0 = 0 := by unfold fitV; split <;> rfl
theorem alt_psh : ∀ (st : List S87) (g : Bool) (n : Int), alt st → alt (psh st g n)
  | [], g, n, _ => by
    rw [psh]
    split
    · trivial
    · exact ⟨⟨fit_fit _ _, by assumption⟩, by simp, trivial⟩
  | x :: t, g, n, h => by
    rw [psh]
    obtain ⟨h1, h2, h3⟩ := h
    split
    · rename_i hg
      split
      · exact h3
      · exact ⟨⟨fit_fit _ _, by assumption⟩, by rw [← hg]; exact h2, h3⟩
    · rename_i hg
      split
      · exact ⟨h1, h2, h3⟩
      · exact ⟨⟨fit_fit _ _, by assumption⟩, by simp; exact hg, h1, h2, h3⟩
theorem psh_zero (st : List S87) (g : Bool) (h : alt st) : psh st g 0 = st := by
  cases st with
  | nil => rw [psh, if_pos (fit_zero g)]
  | cons x t =>
    obtain ⟨⟨h1, h1'⟩, h2, h3⟩ := h
    rw [psh]
    by_cases hg : x.f0 = g
    · rw [if_pos hg, Int.add_zero, ← hg, h1, if_neg h1']
    · rw [if_neg hg, if_pos (fit_zero g)]
theorem psh_psh (st : List S87) (g : Bool) (m n : Int) (h : alt st) : psh (psh st g m) g n = psh st g (m + n) := by
  have other : ∀ t : List S87, (∀ y ∈ t.head?, y.f0 ≠ g) → psh t g n = if fitV g n = 0 then t else ⟨g, fitV g n⟩ :: t := by
    intro t ht
    cases t with
    | nil => rw [psh]
    | cons y t => rw [psh, if_neg (ht y rfl)]
  have top : ∀ (t : List S87) (v : Int), (∀ y ∈ t.head?, y.f0 ≠ g) → psh (if fitV g v = 0 then t else ⟨g, fitV g v⟩ :: t) g n = if fitV g (v + n) = 0 then t else ⟨g, fitV g (v + n)⟩ :: t := by
    intro t v ht
    by_cases hv : fitV g v = 0
    · rw [if_pos hv, other t ht]
      have e : fitV g (v + n) = fitV g n := by rw [← fit_add, hv, Int.zero_add]
      rw [e]
    · rw [if_neg hv, psh, if_pos rfl]
      simp only []
      rw [fit_add]
  cases st with
  | nil => rw [psh, top [] m (by simp), psh]
  | cons x t =>
    obtain ⟨⟨h1, h1'⟩, h2, h3⟩ := h
    by_cases hg : x.f0 = g
    · rw [psh, if_pos hg, top t (x.f1 + m) (by rw [← hg]; exact h2), psh, if_pos hg, Int.add_assoc]
    · rw [psh, if_neg hg, top (x :: t) m (by simp; exact hg), psh, if_neg hg]
/-- What the document's pair is, as the code puts it. -/
def toB (p : S95) : S87 := if p.f0 ≠ 0 then ⟨true, p.f0⟩ else ⟨false, p.f1⟩
def nfl : List S95 → List S87 → List S87
  | [], st => st
  | p :: l, st => nfl l (psh st (toB p).f0 (toB p).f1)
def zq (l : List S95) : Prop := ∀ p ∈ l, (p.f0 ≠ 0 → p.f1 = 0) ∧ 0 ≤ p.f1 ∧ p.f1 ≤ 3
theorem nfl_mrg : ∀ (l l' : List S95) (st : List S87), zq l → alt st → mrg l = some l' → nfl l st = nfl l' st ∧ zq l' := by
  intro l
  induction l with
  | nil => intro l' st _ _ h; cases h
  | cons x t ih =>
    intro l' st hz ha h
    have hzt : zq t := fun p hp => hz p (List.mem_cons_of_mem _ hp)
    have hx := hz x (List.mem_cons_self ..)
    rw [mrg_cons] at h
    split at h
    · rename_i h0
      obtain rfl := Option.some.inj h
      refine ⟨?_, hzt⟩
      rw [nfl, toB, if_neg (by simp [h0.1]), h0.2, psh_zero st false ha]
    · rename_i h0
      cases t with
      | nil => cases h
      | cons y t' =>
        have hy := hz y (List.mem_cons_of_mem _ (List.mem_cons_self ..))
        simp only [] at h
        split at h
        · rename_i h1
          obtain rfl := Option.some.inj h
          obtain ⟨h1, h2⟩ := h1
          refine ⟨?_, fun p hp => ?_⟩
          · rw [nfl, nfl, nfl]
            congr 1
            by_cases hs : x.f0 ≠ 0
            · have hs2 := h1.1 hs
              rw [toB, if_pos hs, toB, if_pos hs2, psh_psh st true _ _ ha]
              simp only [toB]
              by_cases h3 : x.f0 + y.f0 ≠ 0
              · rw [if_pos h3]
              · rw [if_neg h3, hx.1 hs, hy.1 hs2, Int.add_zero, Int.zero_emod, psh_zero st false ha, show x.f0 + y.f0 = 0 by omega, psh_zero st true ha]
            · have hs2 : ¬ y.f0 ≠ 0 := fun h => hs (h1.2 h)
              rw [toB, if_neg hs, toB, if_neg hs2, psh_psh st false _ _ ha]
              simp only [toB]
              rw [if_neg (show ¬ (x.f0 + y.f0 ≠ 0) by omega)]
              have e : ∀ n : Int, psh st false (n % 4) = psh st false n := by
                intro n
                have hf : fitV false (n % 4) = fitV false n := by unfold fitV; simp
                have hf2 : ∀ m : Int, fitV false (m + n % 4) = fitV false (m + n) := by intro m; unfold fitV; simp
                cases st with
                | nil => rw [psh, psh, hf]
                | cons z t => rw [psh, psh, hf, hf2]
              rw [e]
          · rcases List.mem_cons.1 hp with rfl | hp
            · simp only []
              refine ⟨fun hn => ?_, by omega, by omega⟩
              by_cases hs : x.f0 ≠ 0
              · rw [hx.1 hs, hy.1 (h1.1 hs)]; rfl
              · have hs2 : ¬ y.f0 ≠ 0 := fun h => hs (h1.2 h)
                omega
            · exact hz p (List.mem_cons_of_mem _ (List.mem_cons_of_mem _ hp))
        · obtain ⟨l2, h2, rfl⟩ := Option.map_eq_some_iff.1 h
          obtain ⟨a, b⟩ := ih l2 (psh st (toB x).f0 (toB x).f1) hzt (alt_psh _ _ _ ha) h2
          refine ⟨a, fun p hp => ?_⟩
          rcases List.mem_cons.1 hp with rfl | hp
          · exact hx
          · exact b p hp
/-- What cannot be put together further is its own short form. -/
theorem nfl_none : ∀ (l : List S95) (st : List S87), zq l → alt st → mrg l = none → (∀ p ∈ l.head?, ∀ y ∈ st.head?, y.f0 ≠ (toB p).f0) → nfl l st = (l.map toB).reverse ++ st := by
  intro l
  induction l with
  | nil => intro st _ _ _ _; rfl
  | cons x t ih =>
    intro st hz ha h hh
    have hzt : zq t := fun p hp => hz p (List.mem_cons_of_mem _ hp)
    have hx := hz x (List.mem_cons_self ..)
    rw [mrg_cons] at h
    split at h
    · cases h
    · rename_i h0
      have hfit : fitV (toB x).f0 (toB x).f1 = (toB x).f1 ∧ (toB x).f1 ≠ 0 := by
        unfold toB
        by_cases hs : x.f0 ≠ 0
        · rw [if_pos hs]; exact ⟨by unfold fitV; rfl, hs⟩
        · rw [if_neg hs]
          simp only [fitV, if_neg Bool.false_ne_true]
          omega
      have hp : psh st (toB x).f0 (toB x).f1 = toB x :: st := by
        cases st with
        | nil => rw [psh, hfit.1, if_neg hfit.2]
        | cons y t => rw [psh, if_neg (hh x rfl y rfl), hfit.1, if_neg hfit.2]
      rw [nfl, hp]
      have hat : alt (toB x :: st) := ⟨hfit, fun y hy => hh x rfl y hy, ha⟩
      cases t with
      | nil => rw [nfl]; simp
      | cons y t' =>
        simp only [] at h
        split at h
        · cases h
        · rename_i h1
          have hm : mrg (y :: t') = none := by
            cases hq : mrg (y :: t') with
            | none => rfl
            | some r => rw [hq] at h; cases h
          have hy0 : ¬ (y.f0 = 0 ∧ y.f1 = 0) := by
            intro hy0
            rw [mrg_cons, if_pos hy0] at hm
            cases hm
          have hne : ¬ (x.f0 ≠ 0 ↔ y.f0 ≠ 0) := fun hi => h1 ⟨hi, hy0⟩
          rw [ih (toB x :: st) hzt hat hm (fun p hp z hz' => by
            simp only [List.head?_cons, Option.mem_def, Option.some.injEq] at hp hz'
            subst hp hz'
            unfold toB
            by_cases ha : x.f0 ≠ 0 <;> by_cases hb : y.f0 ≠ 0
            · exact absurd (iff_of_true ha hb) hne
            · rw [if_pos ha, if_neg hb]; simp
            · rw [if_neg ha, if_pos hb]; simp
            · exact absurd (iff_of_false ha hb) hne)]
          simp
theorem itr_none : ∀ (n : Nat) (l : List S95), l.length ≤ n → mrg (itr n l) = none
  | 0, l, h => by
    obtain rfl : l = [] := List.eq_nil_of_length_eq_zero (by omega)
    rfl
  | n + 1, l, h => by
    rw [itr]
    cases hm : mrg l with
    | none => simp only []; exact hm
    | some l' =>
      simp only []
      exact itr_none n l' (by have := (mrg_props l l' hm).1; omega)
theorem itr_nfl : ∀ (n : Nat) (l : List S95), zq l → nfl (itr n l) [] = nfl l [] ∧ zq (itr n l)
  | 0, l, h => ⟨rfl, h⟩
  | n + 1, l, h => by
    rw [itr]
    cases hm : mrg l with
    | none => exact ⟨rfl, h⟩
    | some l' =>
      simp only []
      obtain ⟨a, b⟩ := nfl_mrg l l' [] h trivial hm
      obtain ⟨c, d⟩ := itr_nfl n l' b
      exact ⟨c.trans a.symm, d⟩
theorem none_nz : ∀ (l : List S95), mrg l = none → ∀ p ∈ l, ¬ (p.f0 = 0 ∧ p.f1 = 0) := by
  intro l
  induction l with
  | nil => intro _ p hp; cases hp
  | cons x t ih =>
    intro h p hp
    rw [mrg_cons] at h
    split at h
    · cases h
    · rename_i h0
      rcases List.mem_cons.1 hp with rfl | hp
      · exact h0
      · cases t with
        | nil => cases hp
        | cons y t' =>
          simp only [] at h
          split at h
          · cases h
          · refine ih ?_ p hp
            cases hq : mrg (y :: t') with
            | none => rfl
            | some r => rw [hq] at h; cases h
theorem norm_is (n : Nat) (l : List S95) (hl : l.length ≤ n) (hz : zq l) : (itr n l).map toB = (nfl l []).reverse := by
  obtain ⟨a, b⟩ := itr_nfl n l hz
  rw [← a, nfl_none _ [] b trivial (itr_none n l hl) (by simp), List.append_nil, List.reverse_reverse]
theorem nfl_snoc (p : S95) : ∀ (l : List S95) (st : List S87), nfl (l ++ [p]) st = psh (nfl l st) (toB p).f0 (toB p).f1
  | [], st => rfl
  | x :: l, st => by rw [List.cons_append, nfl, nfl_snoc p l, nfl]
/-- A move as the code's part: does it go, and how often. -/
def partB (k n : Int) : Bool × Int := (decide (k = 1 ∨ k = 2), fitV (decide (k = 1 ∨ k = 2)) (if k = 2 ∨ k = 4 then -(ofV k n : Int) else (ofV k n : Int)))
theorem psh_fit (st : List S87) (g : Bool) (n : Int) : psh st g (fitV g n) = psh st g n := by
  have h2 : ∀ m : Int, fitV g (m + fitV g n) = fitV g (m + n) := by intro m; unfold fitV; split; rfl; omega
  cases st with
  | nil => rw [psh, psh, fit_fit]
  | cons x t => rw [psh, psh, fit_fit, h2]
theorem psh_part (st : List S87) (k n : Int) (h : alt st) : psh st (toB (plainV k n)).f0 (toB (plainV k n)).f1 = psh st (partB k n).1 (partB k n).2 := by
  unfold partB
  rw [psh_fit]
  unfold plainV
  by_cases c1 : k = 1
  · subst c1
    rw [if_pos rfl, show decide ((1 : Int) = 1 ∨ (1 : Int) = 2) = true from rfl, if_neg (by omega)]
    by_cases h0 : (ofV 1 n : Int) = 0
    · rw [toB, if_neg (by simp only []; omega)]
      simp only []
      rw [h0, psh_zero st false h, psh_zero st true h]
    · rw [toB, if_pos (by simp only []; omega)]
  rw [if_neg c1]
  by_cases c2 : k = 2
  · subst c2
    rw [if_pos rfl, show decide ((2 : Int) = 1 ∨ (2 : Int) = 2) = true from rfl, if_pos (by omega)]
    by_cases h0 : (ofV 2 n : Int) = 0
    · rw [toB, if_neg (by simp only []; omega)]
      simp only []
      rw [h0, Int.neg_zero, psh_zero st false h, psh_zero st true h]
    · rw [toB, if_pos (by simp only []; omega)]
  have hg : decide (k = 1 ∨ k = 2) = false := decide_eq_false (by omega)
  have hm : ∀ a b : Int, a % 4 = b % 4 → psh st false a = psh st false b := by
    intro a b hab
    rw [← psh_fit st false a, ← psh_fit st false b]
    congr 1
  rw [if_neg c2, hg]
  by_cases c3 : k = 3
  · subst c3
    rw [if_pos rfl, if_neg (by omega), toB, if_neg (by simp)]
    exact hm _ _ (by simp only []; omega)
  rw [if_neg c3]
  by_cases c4 : k = 4
  · subst c4
    rw [if_pos rfl, if_pos (by omega), toB, if_neg (by simp)]
    exact hm _ _ (by simp only []; omega)
  have h0 : ofV k n = 0 := by
    cases h : ofV k n with
    | zero => rfl
    | succ m => have := ofV_kind (k := k) (n := n) (by omega); omega
  rw [if_neg c4, if_neg (by omega), toB, if_neg (by simp), h0]
  rfl
theorem fit_code (g : Bool) (n : Int) : walk_bend_fit.f g n = some (g, fitV g n) := by
  unfold walk_bend_fit.f fitV
  split
  · rfl
  · rw [and_three]
theorem part_code (k n : Int) : Ev (fun q => walk_part.f q k n) (partB k n) := by
  have hm := ofV_le k n
  unfold walk_part.f partB
  rw [often_v]
  refine Ev.congr (fun q => Option.bind_some _ _) ?_
  have hgo : (if k = 1 then (some true) else (some (k == 2)) : Option Bool) = some (decide (k = 1 ∨ k = 2)) := by
    by_cases c1 : k = 1
    · rw [if_pos c1, decide_eq_true (.inl c1)]
    · rw [if_neg c1]
      congr 1
      rw [Bool.eq_iff_iff, beq_iff_eq, decide_eq_true_iff]
      omega
  have fin : ∀ b : Bool, (b = true ↔ k = 2 ∨ k = 4) → Ev (fun q => walk_part.j0 q (ofV k n : Int) b k n) (decide (k = 1 ∨ k = 2), fitV (decide (k = 1 ∨ k = 2)) (if k = 2 ∨ k = 4 then -(ofV k n : Int) else (ofV k n : Int))) := by
    intro b hb
    refine Ev.step (fun q => by rw [walk_part.j0]) ?_
    unfold walk_goes.f
    rw [hgo]
    by_cases h : k = 2 ∨ k = 4
    · rw [hb.2 h, if_pos h, w64_id (by omega) (by omega)]
      refine Ev.congr (fun q => if_pos rfl) (Ev.congr (fun q => Option.bind_some _ _) ?_)
      rw [fit_code]
      exact Ev.now _
    · have hbf : b = false := by cases b; rfl; exact absurd (hb.1 rfl) h
      rw [hbf, if_neg h]
      refine Ev.congr (fun q => if_neg Bool.false_ne_true) (Ev.congr (fun q => Option.bind_some _ _) ?_)
      rw [fit_code]
      exact Ev.now _
  by_cases c2 : k = 2
  · refine Ev.congr (fun q => if_pos c2) (fin _ ?_)
    rw [beq_iff_eq]; omega
  · refine Ev.congr (fun q => if_neg c2) (fin _ ?_)
    rw [beq_iff_eq]; omega
theorem rd87 (l : List S87) (i : Nat) (h : i < l.length) : rd_T87 l (i : Int) = l[i] := by
  rw [rd_T87, List.getD_eq_getElem?_getD, Int.toNat_natCast, List.getElem?_eq_getElem h]; rfl
def bigB (B : Nat) (st : List S87) : Prop := ∀ y ∈ st, y.f1.natAbs ≤ B
theorem fit_big (g : Bool) (n : Int) (B : Nat) (h3 : 3 ≤ B) (h : n.natAbs ≤ B) : (fitV g n).natAbs ≤ B := by
  unfold fitV; split
  · exact h
  · omega
theorem psh_big (B C : Nat) (h3 : 3 ≤ B) (st : List S87) (g : Bool) (n : Int) (h : bigB B st) (hn : n.natAbs ≤ C) : bigB (B + C) (psh st g n) := by
  cases st with
  | nil =>
    rw [psh]
    split
    · intro y hy; cases hy
    · intro y hy
      rw [List.mem_singleton.1 hy]
      exact fit_big g n _ (by omega) (by omega)
  | cons x t =>
    have hx := h x (List.mem_cons_self ..)
    have ht : ∀ y ∈ t, y.f1.natAbs ≤ B + C := fun y hy => Nat.le_trans (h y (List.mem_cons_of_mem _ hy)) (by omega)
    rw [psh]
    split
    · split
      · exact ht
      · intro y hy
        rcases List.mem_cons.1 hy with rfl | hy
        · exact fit_big g _ _ (by omega) (by omega)
        · exact ht y hy
    · split
      · intro y hy; exact Nat.le_trans (h y hy) (by omega)
      · intro y hy
        rcases List.mem_cons.1 hy with rfl | hy
        · exact fit_big g n _ (by omega) (by omega)
        · exact Nat.le_trans (h y hy) (by omega)
theorem psh_len (st : List S87) (g : Bool) (n : Int) : (psh st g n).length ≤ st.length + 1 := by
  cases st with
  | nil => rw [psh]; split <;> simp
  | cons x t => rw [psh]; (repeat' split) <;> simp <;> omega
theorem partB_le (k n : Int) : (partB k n).2.natAbs ≤ 1048576 := by
  have hm := ofV_le k n
  unfold partB
  exact fit_big _ _ _ (by omega) (by split <;> omega)
theorem short_l0 (l : List S56) (hl : l.length ≤ 1000) (R : List S56 × Int) (hfin : Ev (fun k => walk_Short.l1 k [] (nfl (plainL l) []).reverse ((nfl (plainL l) []).reverse.length : Int) 0) R) : ∀ (d i : Nat) (st : List S87), i + d = l.length → st = nfl (plainL (l.take i)) [] → alt st → st.length ≤ i → bigB (3 + 1048576 * i) st → Ev (fun k => walk_Short.l0 k st.reverse l (l.length : Int) (i : Int)) R := by
  intro d
  induction d with
  | zero =>
    intro i st hi hst ha hlen hbig
    obtain rfl : i = l.length := by omega
    rw [List.take_length] at hst
    subst hst
    refine Ev.step (fun k => ?_) hfin
    rw [walk_Short.l0, if_neg (by omega)]
  | succ d ih =>
    intro i st hi hst ha hlen hbig
    have hlt : i < l.length := by omega
    have w1 : wrap64 ((i : Int) + 1) = ((i + 1 : Nat) : Int) := by rw [w64_id (by omega) (by omega)]; rfl
    have hr := rd56 l i hlt
    have hsn : nfl (plainL (l.take (i + 1))) [] = psh st (partB l[i].f0 l[i].f1).1 (partB l[i].f0 l[i].f1).2 := by
      rw [take_more l i hlt]
      unfold plainL
      rw [List.map_append, List.map_cons, List.map_nil, nfl_snoc, ← psh_part st _ _ ha, hst]
      rfl
    have hple := partB_le l[i].f0 l[i].f1
    have hpl1 : (psh st (partB l[i].f0 l[i].f1).1 (partB l[i].f0 l[i].f1).2).length ≤ i + 1 := Nat.le_trans (psh_len _ _ _) (by omega)
    have hpb1 := psh_big (3 + 1048576 * i) 1048576 (by omega) st (partB l[i].f0 l[i].f1).1 _ hbig hple
    rw [show 3 + 1048576 * i + 1048576 = 3 + 1048576 * (i + 1) by omega] at hpb1
    have ih' := ih (i + 1) (psh st (partB l[i].f0 l[i].f1).1 (partB l[i].f0 l[i].f1).2) (by omega) hsn.symm (alt_psh _ _ _ ha) hpl1 hpb1
    refine Ev.step (fun k => by rw [walk_Short.l0, if_pos (by omega), if_pos (by omega), if_pos (by omega), hr]) (Ev.bind (part_code l[i].f0 l[i].f1) ?_)
    obtain ⟨⟨g, n⟩, hgn⟩ : ∃ p, partB l[i].f0 l[i].f1 = p := ⟨_, rfl⟩
    rw [hgn] at ih' hple ⊢
    simp only [] at ih' hple ⊢
    have push : ∀ (t : List S87) (v : Int), t.length ≤ i → Ev (fun k => walk_Short.l0 k (if fitV g v = 0 then t else ⟨g, fitV g v⟩ :: t).reverse l (l.length : Int) ((i + 1 : Nat) : Int)) R → Ev (fun k => (walk_bend_fit.f g v).bind fun bt => (if bt.2 = 0 then (walk_Short.l0 k t.reverse l (l.length : Int) ((i + 1 : Nat) : Int)) else (if t.reverse.length < 8796093022208 then (walk_Short.l0 k (t.reverse ++ [(⟨bt.1, bt.2⟩ : S87)]) l (l.length : Int) ((i + 1 : Nat) : Int)) else (none)))) R := by
      intro t v ht h
      rw [fit_code]
      refine Ev.congr (fun k => Option.bind_some _ _) ?_
      simp only []
      by_cases hv : fitV g v = 0
      · rw [if_pos hv] at h
        exact Ev.congr (fun k => if_pos hv) h
      · rw [if_neg hv, List.reverse_cons] at h
        exact Ev.congr (fun k => if_neg hv) (Ev.congr (fun k => if_pos (by rw [List.length_reverse]; omega)) h)
    have hfn : fitV g n = n := by
      have : (partB l[i].f0 l[i].f1).2 = fitV (partB l[i].f0 l[i].f1).1 (partB l[i].f0 l[i].f1).2 := by unfold partB; simp only []; rw [fit_fit]
      rw [hgn] at this
      exact this.symm
    cases hst2 : st with
    | nil =>
      subst hst2
      have hneg : ¬ (wrap64 ((([] : List S87).reverse.length : Int) - 1) ≥ 0) := by show ¬ (wrap64 (((0 : Nat) : Int) - 1) ≥ 0); unfold wrap64; omega
      refine Ev.congr (fun k => if_neg hneg) (Ev.step (fun k => by rw [walk_Short.j1, if_neg Bool.false_ne_true]) ?_)
      rw [w1]
      rw [psh] at ih'
      exact push [] n (by simp) ih'
    | cons x t =>
      rw [hst2] at ih' hlen hbig
      rw [psh] at ih'
      have hlr : ((x :: t).reverse.length : Int) = (t.length : Int) + 1 := by rw [List.length_reverse, List.length_cons]; rfl
      have hlen2 : t.length + 1 ≤ i := by rw [List.length_cons] at hlen; exact hlen
      have wl : wrap64 (((x :: t).reverse.length : Int) - 1) = (t.length : Int) := by rw [hlr, w64_id (by omega) (by omega)]; omega
      have hrd : rd_T87 (x :: t).reverse (t.length : Int) = x := by
        rw [rd87 _ _ (by rw [List.length_reverse, List.length_cons]; omega)]
        rw [List.getElem_reverse]
        simp
      have htk : (x :: t).reverse.take t.length = t.reverse := by
        rw [List.reverse_cons, List.take_append_of_le_length (by rw [List.length_reverse]; exact Nat.le_refl _), List.take_of_length_le (by rw [List.length_reverse]; exact Nat.le_refl _)]
      have hxb := hbig x (List.mem_cons_self ..)
      rw [wl, hrd]
      refine Ev.congr (fun k => if_pos (by omega)) (Ev.congr (fun k => if_pos (by omega)) (Ev.congr (fun k => if_pos (by rw [hlr]; omega)) ?_))
      by_cases hxg : x.f0 = g
      · rw [if_pos hxg] at ih'
        have hbe : (x.f0 == g) = true := by rw [hxg]; simp
        rw [hbe]
        refine Ev.step (fun k => by rw [walk_Short.j1, if_pos rfl, if_pos (by omega), if_pos (by rw [hlr]; omega), if_pos (by rw [hlr]; omega), Option.bind_some, Int.toNat_natCast, htk, hrd, w1]) ?_
        rw [w64_id (x := n + x.f1) (by omega) (by omega), Int.add_comm n x.f1]
        exact push t (x.f1 + n) (by omega) ih'
      · rw [if_neg hxg] at ih'
        have hbe : (x.f0 == g) = false := by rw [beq_eq_false_iff_ne]; exact hxg
        rw [hbe]
        refine Ev.step (fun k => by rw [walk_Short.j1, if_neg Bool.false_ne_true, w1]) ?_
        exact push (x :: t) n (by rw [List.length_cons]; omega) ih'
def moveV (b : S87) : S56 := if b.f0 = true then (if b.f1 < 0 then ⟨2, -b.f1⟩ else ⟨1, b.f1⟩) else if b.f1 = 3 then ⟨4, 1⟩ else ⟨3, b.f1⟩
theorem move_code (b : S87) (h : b.f1.natAbs ≤ 1000000000000) : Ev (fun k => walk_bend_move.f k b.f0 b.f1) ((moveV b).f0, (moveV b).f1) := by
  obtain ⟨g, n⟩ := b
  unfold walk_bend_move.f moveV
  simp only [] at h ⊢
  cases g
  · refine Ev.congr (fun k => if_neg Bool.false_ne_true) (Ev.step (fun k => by rw [walk_bend_move.j0, if_neg Bool.false_ne_true, if_neg Bool.false_ne_true]) ?_)
    rw [if_neg Bool.false_ne_true]
    by_cases h3 : n = 3
    · simp only [if_pos h3]; exact Ev.now _
    · simp only [if_neg h3]; exact Ev.now _
  · refine Ev.congr (fun k => if_pos rfl) (Ev.step (fun k => by rw [walk_bend_move.j0]) ?_)
    rw [if_pos rfl]
    by_cases h0 : n < 0
    · rw [w64_id (by omega) (by omega)]
      simp only [decide_eq_true h0, if_pos h0, if_true]
      exact Ev.now _
    · simp only [decide_eq_false h0, if_neg h0, if_true, if_neg Bool.false_ne_true]
      exact Ev.now _
theorem one_move (p : S95) (hz : (p.f0 ≠ 0 → p.f1 = 0) ∧ 0 ≤ p.f1 ∧ p.f1 ≤ 3) (hn : ¬ (p.f0 = 0 ∧ p.f1 = 0)) : oneV p = [moveV (toB p)] := by
  unfold oneV moveV toB
  by_cases h1 : p.f0 > 0
  · simp only [if_pos h1, if_pos (show p.f0 ≠ 0 by omega), if_neg (show ¬ p.f0 < 0 by omega), if_true]
  · by_cases h2 : p.f0 < 0
    · simp only [if_neg h1, if_pos h2, if_pos (show p.f0 ≠ 0 by omega), if_true]
    · have h0 : p.f0 = 0 := by omega
      by_cases h3 : p.f1 = 3
      · simp only [if_neg h1, if_neg h2, if_neg (show ¬ p.f0 ≠ 0 by omega), if_pos h3, if_neg Bool.false_ne_true]
      · simp only [if_neg h1, if_neg h2, if_neg (show ¬ p.f0 ≠ 0 by omega), if_neg h3, if_pos (show p.f1 > 0 by omega), if_neg Bool.false_ne_true]
theorem short_l1 (xs : List S95) (hxl : xs.length ≤ 1000) (ht : tot xs ≤ 1000000000000) (hz : zq xs) (hn : ∀ p ∈ xs, ¬ (p.f0 = 0 ∧ p.f1 = 0)) : ∀ (d i : Nat), i + d = xs.length → (∀ p ∈ xs.take i, ¬ far p) → Ev (fun k => walk_Short.l1 k (outV (xs.take i)) (xs.map toB) (xs.length : Int) (i : Int)) (shutV xs) := by
  intro d
  induction d with
  | zero =>
    intro i hi hf
    obtain rfl : i = xs.length := by omega
    rw [List.take_length] at hf ⊢
    rw [shutV, if_neg (by rintro ⟨p, hp, h⟩; exact hf p hp h)]
    refine Ev.step (fun k => ?_) (Ev.now _)
    rw [walk_Short.l1, if_neg (by omega)]
  | succ d ih =>
    intro i hi hf
    have hlt : i < xs.length := by omega
    have hlt2 : i < (xs.map toB).length := by rw [List.length_map]; exact hlt
    have hr : rd_T87 (xs.map toB) (i : Int) = toB xs[i] := by rw [rd87 _ _ hlt2, List.getElem_map]
    have w1 : wrap64 ((i : Int) + 1) = ((i + 1 : Nat) : Int) := by rw [w64_id (by omega) (by omega)]; rfl
    have hmem : xs[i] ∈ xs := List.getElem_mem hlt
    have hb : (toB xs[i]).f1.natAbs ≤ 1000000000000 := by
      have h1 := Nat.le_trans (tot_mem hmem) ht
      have h2 := hz _ hmem
      unfold toB
      split
      · exact h1
      · simp only []; omega
    have hfr : mx ((toB xs[i]).f1) (wrap64 (-(toB xs[i]).f1)) > 1048576 ↔ far xs[i] := by
      have h2 := hz _ hmem
      rw [w64_id (by omega) (by omega)]
      unfold far toB mx
      by_cases h0 : xs[i].f0 ≠ 0
      · rw [if_pos h0]; simp only []; split <;> omega
      · rw [if_neg h0]; simp only []; split <;> omega
    refine Ev.step (fun k => by rw [walk_Short.l1, if_pos (by omega), if_pos (by omega), if_pos (by omega), hr, w1]) ?_
    by_cases hfar : far xs[i]
    · rw [shutV, if_pos ⟨_, hmem, hfar⟩]
      exact Ev.congr (fun k => if_pos (hfr.2 hfar)) (Ev.now _)
    · refine Ev.congr (fun k => if_neg (fun h => hfar (hfr.1 h))) (Ev.bind (move_code _ hb) ?_)
      have hol := outV_len (xs.take i)
      rw [List.length_take] at hol
      refine Ev.congr (fun k => if_pos (by omega)) ?_
      have := ih (i + 1) (by omega) (by rw [take_more xs i hlt]; intro q hq; rcases List.mem_append.1 hq with hq | hq; exact hf q hq; rw [List.mem_singleton.1 hq]; exact hfar)
      rw [take_more xs i hlt, outV_snoc, one_move _ (hz _ hmem) (hn _ hmem)] at this
      exact this
theorem zq_plain (l : List S56) : zq (plainL l) := by
  intro p hp
  obtain ⟨m, hm, rfl⟩ := List.mem_map.1 hp
  have h := plainV_props m.f0 m.f1
  refine ⟨fun hn => ?_, h.2⟩
  unfold plainV at hn ⊢
  by_cases c1 : m.f0 = 1
  · rw [if_pos c1]
  · by_cases c2 : m.f0 = 2
    · rw [if_neg c1, if_pos c2]
    · rw [if_neg c1, if_neg c2] at hn
      exfalso
      apply hn
      split
      · rfl
      · split <;> rfl
theorem itr_props : ∀ (n : Nat) (l : List S95), (itr n l).length ≤ l.length ∧ tot (itr n l) ≤ tot l
  | 0, l => ⟨Nat.le_refl _, Nat.le_refl _⟩
  | n + 1, l => by
    rw [itr]
    cases hm : mrg l with
    | none => exact ⟨Nat.le_refl _, Nat.le_refl _⟩
    | some l' =>
      simp only []
      obtain ⟨a, b⟩ := itr_props n l'
      obtain ⟨c, d, _⟩ := mrg_props l l' hm
      exact ⟨by omega, by omega⟩
theorem short_code (l : List S56) (hl : l.length ≤ 1000) : Ev (fun k => walk_Short.f k l) (shutV (itr l.length (plainL l))) := by
  have hpl : (plainL l).length = l.length := by unfold plainL; rw [List.length_map]
  have hz := zq_plain l
  have hp := plainL_props l
  obtain ⟨a, b⟩ := itr_props l.length (plainL l)
  have hnz := none_nz _ (itr_none l.length (plainL l) (by omega))
  have hzq := (itr_nfl l.length (plainL l) hz).2
  have hni := norm_is l.length (plainL l) (by omega) hz
  have hfin := short_l1 (itr l.length (plainL l)) (by omega) (by omega) hzq hnz (itr l.length (plainL l)).length 0 (by omega) (by simp)
  rw [hni] at hfin
  have hlen : ((itr l.length (plainL l)).length : Int) = ((nfl (plainL l) []).reverse.length : Int) := by rw [← hni, List.length_map]
  rw [hlen] at hfin
  exact short_l0 l hl _ hfin l.length 0 [] (by omega) rfl trivial (Nat.le_refl _) (fun y hy => by cases hy)
end Go.Proofs.Ytpoghhcpoimepaa.P
end
section
-- printed by the session's own call of print.py. Not trusted: Lean checks it.
namespace Go.Proofs.Ytpoghhcpoimepaa.P
open Go.RowKit Go.Proofs.YtpoghhcpoimepaaW.PrintWords Go.Proofs.YtpoghhcpoimepaaW.PrintLast Go.Proofs.YtpoghhcpoimepaaW.PrintMore
attribute [local go_sem] max2_int min2_int max_two min_two max_three min_three max_four min_four
set_option linter.unusedVariables false
set_option linter.unusedSimpArgs false
/-! ### walk_Reverse: function 36 -/
def walk_Reverse.l0 : Nat → List (S56) → List (S56) → Int → Int → Option ((List (S56)))
  | 0, _, _, _, _ => none
  | k + 1, x0, x3, x7, x8 => if x8 < x7 then (if 0 ≤ (wrap64 ((wrap64 ((x0.length : Int) - 1)) - x8)) then (if (wrap64 ((wrap64 ((x0.length : Int) - 1)) - x8)) < (x0.length : Int) then (if ((rd_T56 x0 (wrap64 ((wrap64 ((x0.length : Int) - 1)) - x8))).f0) ≥ 1 then (if ((rd_T56 x0 (wrap64 ((wrap64 ((x0.length : Int) - 1)) - x8))).f0) ≤ 4 then (if x3.length < 8796093022208 then (walk_Reverse.l0 k x0 (x3 ++ [(⟨wrap64 ((Go.bits .xor .i64 (wrap64 (((rd_T56 x0 (wrap64 ((wrap64 ((x0.length : Int) - 1)) - x8))).f0) - 1)) 1) + 1), (rd_T56 x0 (wrap64 ((wrap64 ((x0.length : Int) - 1)) - x8))).f1⟩ : S56)]) x7 (wrap64 (x8 + 1))) else (none)) else (if x3.length < 8796093022208 then (walk_Reverse.l0 k x0 (x3 ++ [(⟨(rd_T56 x0 (wrap64 ((wrap64 ((x0.length : Int) - 1)) - x8))).f0, (rd_T56 x0 (wrap64 ((wrap64 ((x0.length : Int) - 1)) - x8))).f1⟩ : S56)]) x7 (wrap64 (x8 + 1))) else (none))) else (if x3.length < 8796093022208 then (walk_Reverse.l0 k x0 (x3 ++ [(⟨(rd_T56 x0 (wrap64 ((wrap64 ((x0.length : Int) - 1)) - x8))).f0, (rd_T56 x0 (wrap64 ((wrap64 ((x0.length : Int) - 1)) - x8))).f1⟩ : S56)]) x7 (wrap64 (x8 + 1))) else (none))) else (none)) else (none)) else (some x3)
def walk_Reverse.f (k : Nat) (l0 : List (S56)) : Option ((List (S56))) := walk_Reverse.l0 k l0 ([] : List (S56)) (l0.length : Int) 0
theorem walk_Reverse.mono_l : ∀ k, (∀ y0 y1 y2 y3, LeO (walk_Reverse.l0 k y0 y1 y2 y3) (walk_Reverse.l0 (k + 1) y0 y1 y2 y3))
  | 0 => fun _ _ _ _ r h => by simp [walk_Reverse.l0] at h
  | k + 1 => by
    have ih0 := walk_Reverse.mono_l k
    · intro y0 y1 y2 y3
      unfold walk_Reverse.l0
      repeat' first
      | (with_reducible exact ih0 _ _ _ _)
      | (with_reducible exact LeO.refl _)
      | (with_reducible exact LeO.none _)
      | (with_reducible refine LeO.ite ?_ ?_)
      | (with_reducible refine LeO.bind ?_ (fun _ => ?_))
      | exact ih0 _ _ _ _
      | exact LeO.none _
      | refine LeO.ite ?_ ?_
      | refine LeO.bind ?_ (fun _ => ?_)
theorem walk_Reverse.mono : ∀ a0 k, LeO (walk_Reverse.f k a0) (walk_Reverse.f (k + 1) a0) := by
  intro a0 k
  have ih0 := walk_Reverse.mono_l k
  unfold walk_Reverse.f
  repeat' first
      | (with_reducible exact ih0 _ _ _ _)
      | (with_reducible exact LeO.refl _)
      | (with_reducible exact LeO.none _)
      | (with_reducible refine LeO.ite ?_ ?_)
      | (with_reducible refine LeO.bind ?_ (fun _ => ?_))
      | exact ih0 _ _ _ _
      | exact LeO.none _
      | refine LeO.ite ?_ ?_
      | refine LeO.bind ?_ (fun _ => ?_)
set_option maxHeartbeats 8000000 in
set_option maxRecDepth 100000 in
theorem walk_Reverse.calls (k : Nat) (A0 : Option Addr) (c0 : Nat) (l0 : List (S56)) (r : List (S56)) (w : World) (hr0 : Kd.C k56 w A0 l0.length l0) (hc0 : l0.length ≤ c0) (h : walk_Reverse.f k l0 = some r) :
    Calls Try.prog 36 #[.slice A0 l0.length c0] w fun e w' => ∃ v0_ : Value, e = .returned (v0_) ∧ Kd.R k56 56 w' w.heap.size (fun _ => True) v0_ r ∧ Below w.heap.size w w' := by
  have hu56 := Try.underlying56
  have HR0 := Aside0.mk hr0
  have HC0 := Aside0.mk hc0
  clear hr0 hc0
  have HB := Aside0.mk (Below.refl w.heap.size w)
  have H : (walk_Reverse.l0 k l0 ([] : List (S56)) (l0.length : Int) 0) = some r := h
  clear h
  have H' := Aside0.mk H
  clear H
  go_enter Try.func36, Try.ntmps36
  go_wp2
  go_loopg [3, 8] k (fun kq v3 v8 w' => ∃ (x3_1 : List (S56)) (x8_1 : Int), v8 = .int .i64 x8_1 ∧ Aside0 (walk_Reverse.l0 kq l0 x3_1 (l0.length : Int) x8_1 = some r) ∧ Aside0 (kq ≤ k) ∧ Aside0 (Kd.R k56 56 w' w.heap.size (fun _ => True) v3 x3_1) ∧ Aside0 (Below w.heap.size w w'))
  case atStart => exact ⟨(([] : List (S56))), (0), (by first | rfl | (simp; done) | (simp [*]; done)), H', ⟨Nat.le_refl _⟩, ⟨by first | exact Kd.R_nil _ _ _ _ _ | exact Kd.N_nil _ _ _ _ _ | exact Kd.V_nil _ _ _ _ _ | exact Kd.Q_nil _ _ _ _ _ | exact Kd.S_nil _ _ _ _ _⟩, ⟨by repeat (first | (with_reducible first | exact HB.out | apply below_alloc | apply pw_below_drewN | apply below_drew1) | exact HB.out)⟩⟩
  case round =>
    clear H'
    obtain ⟨x3_1, x8_1, rfl, HA, HK1, HO_3, HB⟩ := hrel
    cases gk with
    | zero => exact absurd HA.out (by simp [walk_Reverse.l0])
    | succ k1 =>
      have H := HA.out
      clear HA
      simp only [walk_Reverse.l0] at H
      by_cases c2 : x8_1 < (l0.length : Int)
      · rw [if_pos c2] at H
        have c2b0 : decide (x8_1 < (l0.length : Int)) = true := decide_eq_true c2
        clear c2
        obtain ⟨ji3, hji3⟩ : ∃ j_ : Int, (wrap64 ((wrap64 ((l0.length : Int) - 1)) - x8_1)) = j_ := ⟨_, rfl⟩
        replace H : (if 0 ≤ (ji3) then (if (ji3) < (l0.length : Int) then (if ((rd_T56 l0 (ji3)).f0) ≥ 1 then (if ((rd_T56 l0 (ji3)).f0) ≤ 4 then (if x3_1.length < 8796093022208 then (walk_Reverse.l0 k1 l0 (x3_1 ++ [(⟨wrap64 ((Go.bits .xor .i64 (wrap64 (((rd_T56 l0 (ji3)).f0) - 1)) 1) + 1), (rd_T56 l0 (ji3)).f1⟩ : S56)]) (l0.length : Int) (wrap64 (x8_1 + 1))) else (none)) else (if x3_1.length < 8796093022208 then (walk_Reverse.l0 k1 l0 (x3_1 ++ [(⟨(rd_T56 l0 (ji3)).f0, (rd_T56 l0 (ji3)).f1⟩ : S56)]) (l0.length : Int) (wrap64 (x8_1 + 1))) else (none))) else (if x3_1.length < 8796093022208 then (walk_Reverse.l0 k1 l0 (x3_1 ++ [(⟨(rd_T56 l0 (ji3)).f0, (rd_T56 l0 (ji3)).f1⟩ : S56)]) (l0.length : Int) (wrap64 (x8_1 + 1))) else (none))) else (none)) else (none)) = some r := by first | (rw [hji3] at H; exact H) | (simp only [hji3] at H ⊢; exact H)
        have hji3w : (IntKind.i64.wrap ((wrap64 ((l0.length : Int) - 1)) - x8_1)) = ji3 := (i64_w _).trans hji3
        by_cases c4 : 0 ≤ (ji3)
        · rw [if_pos c4] at H
          have c4b0 : decide (0 ≤ (ji3)) = true := decide_eq_true c4
          clear c4
          by_cases c5 : (ji3) < (l0.length : Int)
          · rw [if_pos c5] at H
            have c5b0 : decide ((ji3) < (l0.length : Int)) = true := decide_eq_true c5
            clear c5
            by_cases c6 : ((rd_T56 l0 (ji3)).f0) ≥ 1
            · rw [if_pos c6] at H
              have c6b0 : decide (1 ≤ ((rd_T56 l0 (ji3)).f0)) = true := decide_eq_true c6
              clear c6
              by_cases c7 : ((rd_T56 l0 (ji3)).f0) ≤ 4
              · rw [if_pos c7] at H
                have c7b0 : decide (((rd_T56 l0 (ji3)).f0) ≤ 4) = true := decide_eq_true c7
                clear c7
                by_cases c8 : x3_1.length < 8796093022208
                · rw [if_pos c8] at H
                  have LMc8 := Aside0.mk c8
                  clear c8
                  obtain ⟨y103, hy103⟩ : ∃ y_ : List (S56), y_ = (x3_1 ++ [(⟨wrap64 ((Go.bits .xor .i64 (wrap64 (((rd_T56 l0 (ji3)).f0) - 1)) 1) + 1), (rd_T56 l0 (ji3)).f1⟩ : S56)]) := ⟨_, rfl⟩
                  replace H : (walk_Reverse.l0 k1 l0 y103 (l0.length : Int) (wrap64 (x8_1 + 1))) = some r := by first | (rw [hy103]; with_reducible exact H) | (have H2_ := (Option.bind_some _ _).symm.trans H; rw [hy103]; with_reducible exact H2_) | (have H2_ := (Option.bind_some _ _).symm.trans H; with_reducible exact H2_) | with_reducible exact H | (rw [hy103]; exact H) | exact H
                  have Ny103 := Aside0.mk hy103
                  clear hy103
                  have H' := Aside0.mk H
                  clear H
                  have p101 : 0 ≤ ((ji3) : Int) := of_decide_eq_true (by first | (with_reducible assumption) | assumption)
                  have q101 : (ji3) < (l0.length : Int) := of_decide_eq_true (by first | (with_reducible assumption) | assumption)
                  obtain ⟨ad101, e101, hx101_0, hx101_1⟩ := at_T56 HR0.out (ji3) p101 q101
                  cases e101
                  replace hx101_0 := (HB.out.cell (World.block_lt_of_cell? w _ hx101_0)).trans hx101_0
                  replace hx101_1 := (HB.out.cell (World.block_lt_of_cell? w _ hx101_1)).trans hx101_1
                  replace p101 := eq_true p101
                  replace q101 := eq_true q101
                  go_wp2_with (first | ((with_reducible refine gate_dst (N := 5) rfl ?_); refine box_event ?hg (N := 5) ?hd (cs := #[.int .i64 0, .int .i64 0]) (t := 56) ?hr ?_; (case hd => rfl); (case hg => rfl); (case hr => first | (go_simp; done) | (go_simp; rfl)); intro gb102 hg w9 hbox hb; have n0_ := Aside0.mk (Kd.R_below (Kd.R_elderB (by (with_reducible repeat (first | apply Kd.R_alloc | apply Kd.R_drewN | apply Kd.R_drew)); exact HO_3.out) gb102 (Nat.le_of_eq hg.symm)) hb); have n1_ := Aside0.mk (below_step (by repeat (first | (with_reducible first | exact HB.out | apply below_alloc | apply pw_below_drewN | apply below_drew1) | exact HB.out)) hb); have n2_ := Aside0.mk (hbox); have n3_ := Aside0.mk ((by rw [hg]; exact (below_size (by repeat (first | (with_reducible first | exact HB.out | apply below_alloc | apply pw_below_drewN | apply below_drew1) | exact HB.out))) : w.heap.size ≤ gb102)); have n4_ := Aside0.mk ((by rw [hg]; exact (below_size (by repeat (first | (with_reducible first | exact HB.out | apply below_alloc | apply pw_below_drewN | apply below_drew1) | exact HB.out))) : w.heap.size ≤ gb102)); clear HO_3; clear HB; have HO_3 := n0_; have HB := n1_; have BK102 := n2_; have GW102 := n3_; have GE102 := n4_; clear n0_ n1_ n2_ n3_ n4_; clear hb hbox hg; have hcz10_0 : w9.cell? ⟨gb102, 0, none⟩ = some (.int .i64 0) := (blk_cell BK102.out 0).trans rfl; have hcz10_1 : w9.cell? ⟨gb102, 1, none⟩ = some (.int .i64 0) := (blk_cell BK102.out 1).trans rfl; have hfz10_0 := blk_frozen BK102.out 0; have hfz10_1 := blk_frozen BK102.out 1) | ((with_reducible refine gate_builtin (b := .append) (xs := #[.tmp 33, .tmp 35]) rfl ?_); at_builtin; refine Kd.R_append k56 (w0 := w) w.heap.size rfl (.tmp 33) (.tmp 35) 41 56 (.agg #[(.int .i64 0), (.int .i64 0)]) 16 rfl Try.underlying41 info56 rfl (by decide) (by omega) u3 x3_1 (⟨wrap64 ((Go.bits .xor .i64 (wrap64 (((rd_T56 l0 (ji3)).f0) - 1)) 1) + 1), (rd_T56 l0 (ji3)).f1⟩ : S56) [.int .i64 (wrap64 ((Go.bits .xor .i64 (wrap64 (((rd_T56 l0 (ji3)).f0) - 1)) 1) + 1)), .int .i64 ((rd_T56 l0 (ji3)).f1)] (fun k_ => k_ ≠ gb102) (fun _ => False) rfl (by first | (go_simp; done) | (go_simp; rfl)) ?aP (fun _ hk => hk.elim) ?aF ?aO ?aB ?aS ?aL ?_; (case aP => exact k56_mkM _ _ _ (⟨wrap64 ((Go.bits .xor .i64 (wrap64 (((rd_T56 l0 (ji3)).f0) - 1)) 1) + 1), (rd_T56 l0 (ji3)).f1⟩ : S56)); (case aB => exact (by repeat (first | (with_reducible first | exact HB.out | apply below_alloc | apply pw_below_drewN | apply below_drew1 | refine below_set ?_ GE102.out) | exact HB.out))); (case aF => exact (fun k_ hk => Kd.freshB (g := gb102) (o := .cells #[.int .i64 (wrap64 ((Go.bits .xor .i64 (wrap64 (((rd_T56 l0 (ji3)).f0) - 1)) 1) + 1)), .int .i64 ((rd_T56 l0 (ji3)).f1)] 56 (0, 0)) (by (with_reducible repeat (first | refine blk_drewN ?_ _ | refine blk_drew ?_ | refine blk_alloc ?_ _)); refine blk_put (cs := #[.int .i64 ((rd_T56 l0 (ji3)).f0), .int .i64 ((rd_T56 l0 (ji3)).f1)]) ?_ 0 _ rfl; (with_reducible repeat (first | refine blk_drewN ?_ _ | refine blk_drew ?_ | refine blk_alloc ?_ _)); refine blk_put (cs := #[.int .i64 ((rd_T56 l0 (ji3)).f0), .int .i64 0]) ?_ 1 _ rfl; (with_reducible repeat (first | refine blk_drewN ?_ _ | refine blk_drew ?_ | refine blk_alloc ?_ _)); refine blk_put (cs := #[.int .i64 0, .int .i64 0]) ?_ 0 _ rfl; (with_reducible repeat (first | refine blk_drewN ?_ _ | refine blk_drew ?_ | refine blk_alloc ?_ _)); exact BK102.out) k_ hk)); (case aO => exact (by (with_reducible repeat (first | apply Kd.R_alloc | apply Kd.R_drewN | apply Kd.R_drew)); exact Kd.R_mono (Kd.R_far (p := ⟨gb102, 0, none⟩) (Kd.R_far (p := ⟨gb102, 1, none⟩) (Kd.R_far (p := ⟨gb102, 0, none⟩) (Kd.R_mono HO_3.out (fun k_ hk => (⟨hk, hk.2⟩ : _ ∧ k_ ≠ gb102))) (fun _ hk => hk.2) (.int .i64 ((rd_T56 l0 (ji3)).f0))) (fun _ hk => hk.2) (.int .i64 ((rd_T56 l0 (ji3)).f1))) (fun _ hk => hk.2) (.int .i64 (wrap64 ((Go.bits .xor .i64 (wrap64 (((rd_T56 l0 (ji3)).f0) - 1)) 1) + 1)))) (fun _ hk => hk.1.2))); (case aS => exact (below_size (by repeat (first | (with_reducible first | exact HB.out | apply below_alloc | apply pw_below_drewN | apply below_drew1 | refine below_set ?_ GE102.out) | exact HB.out)))); (case aL => have := LMc8.out; omega); intro v104 w11 ho hb hg hat; rw [← Ny103.out] at ho; have n0_ := Aside0.mk (blk_grown (g := gb102) (o := .cells #[.int .i64 (wrap64 ((Go.bits .xor .i64 (wrap64 (((rd_T56 l0 (ji3)).f0) - 1)) 1) + 1)), .int .i64 ((rd_T56 l0 (ji3)).f1)] 56 (0, 0)) (by (with_reducible repeat (first | refine blk_drewN ?_ _ | refine blk_drew ?_ | refine blk_alloc ?_ _)); refine blk_put (cs := #[.int .i64 ((rd_T56 l0 (ji3)).f0), .int .i64 ((rd_T56 l0 (ji3)).f1)]) ?_ 0 _ rfl; (with_reducible repeat (first | refine blk_drewN ?_ _ | refine blk_drew ?_ | refine blk_alloc ?_ _)); refine blk_put (cs := #[.int .i64 ((rd_T56 l0 (ji3)).f0), .int .i64 0]) ?_ 1 _ rfl; (with_reducible repeat (first | refine blk_drewN ?_ _ | refine blk_drew ?_ | refine blk_alloc ?_ _)); refine blk_put (cs := #[.int .i64 0, .int .i64 0]) ?_ 0 _ rfl; (with_reducible repeat (first | refine blk_drewN ?_ _ | refine blk_drew ?_ | refine blk_alloc ?_ _)); exact BK102.out) hg (Kd.R_away HO_3.out (fun _ hk => hk.2))); have n1_ := Aside0.mk (hb); have n2_ := Aside0.mk (ho); clear BK102; clear HB; clear HO_3; have BK102 := n0_; have HB := n1_; have HO105 := n2_; clear n0_ n1_ n2_; clear ho hb hg hat))
                  go_roundg k1
                  case measure => have := HK1.out; omega
                  case rel => exact ⟨(y103), (wrap64 (x8_1 + 1)), (by first | rfl | (simp; done) | (simp [*]; done)), H', ⟨by have := HK1.out; omega⟩, ⟨by (with_reducible repeat (first | apply Kd.R_alloc | apply Kd.R_drewN | apply Kd.R_drew)); exact Kd.R_mono HO105.out (fun _ hk => trivial)⟩, ⟨by repeat (first | (with_reducible first | exact HB.out | apply below_alloc | apply pw_below_drewN | apply below_drew1 | refine below_set ?_ GE102.out) | exact HB.out)⟩⟩
                · rw [if_neg c8] at H
                  exact absurd H (by simp)
              · rw [if_neg c7] at H
                have c7b0 : decide (((rd_T56 l0 (ji3)).f0) ≤ 4) = false := decide_eq_false c7
                clear c7
                by_cases c12 : x3_1.length < 8796093022208
                · rw [if_pos c12] at H
                  have LMc12 := Aside0.mk c12
                  clear c12
                  obtain ⟨y106, hy106⟩ : ∃ y_ : List (S56), y_ = (x3_1 ++ [(⟨(rd_T56 l0 (ji3)).f0, (rd_T56 l0 (ji3)).f1⟩ : S56)]) := ⟨_, rfl⟩
                  replace H : (walk_Reverse.l0 k1 l0 y106 (l0.length : Int) (wrap64 (x8_1 + 1))) = some r := by first | (rw [hy106]; with_reducible exact H) | (have H2_ := (Option.bind_some _ _).symm.trans H; rw [hy106]; with_reducible exact H2_) | (have H2_ := (Option.bind_some _ _).symm.trans H; with_reducible exact H2_) | with_reducible exact H | (rw [hy106]; exact H) | exact H
                  have Ny106 := Aside0.mk hy106
                  clear hy106
                  have H' := Aside0.mk H
                  clear H
                  have p101 : 0 ≤ ((ji3) : Int) := of_decide_eq_true (by first | (with_reducible assumption) | assumption)
                  have q101 : (ji3) < (l0.length : Int) := of_decide_eq_true (by first | (with_reducible assumption) | assumption)
                  obtain ⟨ad101, e101, hx101_0, hx101_1⟩ := at_T56 HR0.out (ji3) p101 q101
                  cases e101
                  replace hx101_0 := (HB.out.cell (World.block_lt_of_cell? w _ hx101_0)).trans hx101_0
                  replace hx101_1 := (HB.out.cell (World.block_lt_of_cell? w _ hx101_1)).trans hx101_1
                  replace p101 := eq_true p101
                  replace q101 := eq_true q101
                  go_wp2_with (first | ((with_reducible refine gate_dst (N := 5) rfl ?_); refine box_event ?hg (N := 5) ?hd (cs := #[.int .i64 0, .int .i64 0]) (t := 56) ?hr ?_; (case hd => rfl); (case hg => rfl); (case hr => first | (go_simp; done) | (go_simp; rfl)); intro gb102 hg w13 hbox hb; have n0_ := Aside0.mk (Kd.R_below (Kd.R_elderB (by (with_reducible repeat (first | apply Kd.R_alloc | apply Kd.R_drewN | apply Kd.R_drew)); exact HO_3.out) gb102 (Nat.le_of_eq hg.symm)) hb); have n1_ := Aside0.mk (below_step (by repeat (first | (with_reducible first | exact HB.out | apply below_alloc | apply pw_below_drewN | apply below_drew1) | exact HB.out)) hb); have n2_ := Aside0.mk (hbox); have n3_ := Aside0.mk ((by rw [hg]; exact (below_size (by repeat (first | (with_reducible first | exact HB.out | apply below_alloc | apply pw_below_drewN | apply below_drew1) | exact HB.out))) : w.heap.size ≤ gb102)); have n4_ := Aside0.mk ((by rw [hg]; exact (below_size (by repeat (first | (with_reducible first | exact HB.out | apply below_alloc | apply pw_below_drewN | apply below_drew1) | exact HB.out))) : w.heap.size ≤ gb102)); clear HO_3; clear HB; have HO_3 := n0_; have HB := n1_; have BK102 := n2_; have GW102 := n3_; have GE102 := n4_; clear n0_ n1_ n2_ n3_ n4_; clear hb hbox hg; have hcz14_0 : w13.cell? ⟨gb102, 0, none⟩ = some (.int .i64 0) := (blk_cell BK102.out 0).trans rfl; have hcz14_1 : w13.cell? ⟨gb102, 1, none⟩ = some (.int .i64 0) := (blk_cell BK102.out 1).trans rfl; have hfz14_0 := blk_frozen BK102.out 0; have hfz14_1 := blk_frozen BK102.out 1) | ((with_reducible refine gate_builtin (b := .append) (xs := #[.tmp 33, .tmp 35]) rfl ?_); at_builtin; refine Kd.R_append k56 (w0 := w) w.heap.size rfl (.tmp 33) (.tmp 35) 41 56 (.agg #[(.int .i64 0), (.int .i64 0)]) 16 rfl Try.underlying41 info56 rfl (by decide) (by omega) u3 x3_1 (⟨(rd_T56 l0 (ji3)).f0, (rd_T56 l0 (ji3)).f1⟩ : S56) [.int .i64 ((rd_T56 l0 (ji3)).f0), .int .i64 ((rd_T56 l0 (ji3)).f1)] (fun k_ => k_ ≠ gb102) (fun _ => False) rfl (by first | (go_simp; done) | (go_simp; rfl)) ?aP (fun _ hk => hk.elim) ?aF ?aO ?aB ?aS ?aL ?_; (case aP => exact k56_mkM _ _ _ (⟨(rd_T56 l0 (ji3)).f0, (rd_T56 l0 (ji3)).f1⟩ : S56)); (case aB => exact (by repeat (first | (with_reducible first | exact HB.out | apply below_alloc | apply pw_below_drewN | apply below_drew1 | refine below_set ?_ GE102.out) | exact HB.out))); (case aF => exact (fun k_ hk => Kd.freshB (g := gb102) (o := .cells #[.int .i64 ((rd_T56 l0 (ji3)).f0), .int .i64 ((rd_T56 l0 (ji3)).f1)] 56 (0, 0)) (by (with_reducible repeat (first | refine blk_drewN ?_ _ | refine blk_drew ?_ | refine blk_alloc ?_ _)); refine blk_put (cs := #[.int .i64 ((rd_T56 l0 (ji3)).f0), .int .i64 0]) ?_ 1 _ rfl; (with_reducible repeat (first | refine blk_drewN ?_ _ | refine blk_drew ?_ | refine blk_alloc ?_ _)); refine blk_put (cs := #[.int .i64 0, .int .i64 0]) ?_ 0 _ rfl; (with_reducible repeat (first | refine blk_drewN ?_ _ | refine blk_drew ?_ | refine blk_alloc ?_ _)); exact BK102.out) k_ hk)); (case aO => exact (by (with_reducible repeat (first | apply Kd.R_alloc | apply Kd.R_drewN | apply Kd.R_drew)); exact Kd.R_mono (Kd.R_far (p := ⟨gb102, 1, none⟩) (Kd.R_far (p := ⟨gb102, 0, none⟩) (Kd.R_mono HO_3.out (fun k_ hk => (⟨hk, hk.2⟩ : _ ∧ k_ ≠ gb102))) (fun _ hk => hk.2) (.int .i64 ((rd_T56 l0 (ji3)).f0))) (fun _ hk => hk.2) (.int .i64 ((rd_T56 l0 (ji3)).f1))) (fun _ hk => hk.1.2))); (case aS => exact (below_size (by repeat (first | (with_reducible first | exact HB.out | apply below_alloc | apply pw_below_drewN | apply below_drew1 | refine below_set ?_ GE102.out) | exact HB.out)))); (case aL => have := LMc12.out; omega); intro v107 w15 ho hb hg hat; rw [← Ny106.out] at ho; have n0_ := Aside0.mk (blk_grown (g := gb102) (o := .cells #[.int .i64 ((rd_T56 l0 (ji3)).f0), .int .i64 ((rd_T56 l0 (ji3)).f1)] 56 (0, 0)) (by (with_reducible repeat (first | refine blk_drewN ?_ _ | refine blk_drew ?_ | refine blk_alloc ?_ _)); refine blk_put (cs := #[.int .i64 ((rd_T56 l0 (ji3)).f0), .int .i64 0]) ?_ 1 _ rfl; (with_reducible repeat (first | refine blk_drewN ?_ _ | refine blk_drew ?_ | refine blk_alloc ?_ _)); refine blk_put (cs := #[.int .i64 0, .int .i64 0]) ?_ 0 _ rfl; (with_reducible repeat (first | refine blk_drewN ?_ _ | refine blk_drew ?_ | refine blk_alloc ?_ _)); exact BK102.out) hg (Kd.R_away HO_3.out (fun _ hk => hk.2))); have n1_ := Aside0.mk (hb); have n2_ := Aside0.mk (ho); clear BK102; clear HB; clear HO_3; have BK102 := n0_; have HB := n1_; have HO108 := n2_; clear n0_ n1_ n2_; clear ho hb hg hat))
                  go_roundg k1
                  case measure => have := HK1.out; omega
                  case rel => exact ⟨(y106), (wrap64 (x8_1 + 1)), (by first | rfl | (simp; done) | (simp [*]; done)), H', ⟨by have := HK1.out; omega⟩, ⟨by (with_reducible repeat (first | apply Kd.R_alloc | apply Kd.R_drewN | apply Kd.R_drew)); exact Kd.R_mono HO108.out (fun _ hk => trivial)⟩, ⟨by repeat (first | (with_reducible first | exact HB.out | apply below_alloc | apply pw_below_drewN | apply below_drew1 | refine below_set ?_ GE102.out) | exact HB.out)⟩⟩
                · rw [if_neg c12] at H
                  exact absurd H (by simp)
            · rw [if_neg c6] at H
              have c6b0 : decide (1 ≤ ((rd_T56 l0 (ji3)).f0)) = false := decide_eq_false c6
              clear c6
              by_cases c16 : x3_1.length < 8796093022208
              · rw [if_pos c16] at H
                have LMc16 := Aside0.mk c16
                clear c16
                obtain ⟨y109, hy109⟩ : ∃ y_ : List (S56), y_ = (x3_1 ++ [(⟨(rd_T56 l0 (ji3)).f0, (rd_T56 l0 (ji3)).f1⟩ : S56)]) := ⟨_, rfl⟩
                replace H : (walk_Reverse.l0 k1 l0 y109 (l0.length : Int) (wrap64 (x8_1 + 1))) = some r := by first | (rw [hy109]; with_reducible exact H) | (have H2_ := (Option.bind_some _ _).symm.trans H; rw [hy109]; with_reducible exact H2_) | (have H2_ := (Option.bind_some _ _).symm.trans H; with_reducible exact H2_) | with_reducible exact H | (rw [hy109]; exact H) | exact H
                have Ny109 := Aside0.mk hy109
                clear hy109
                have H' := Aside0.mk H
                clear H
                have p101 : 0 ≤ ((ji3) : Int) := of_decide_eq_true (by first | (with_reducible assumption) | assumption)
                have q101 : (ji3) < (l0.length : Int) := of_decide_eq_true (by first | (with_reducible assumption) | assumption)
                obtain ⟨ad101, e101, hx101_0, hx101_1⟩ := at_T56 HR0.out (ji3) p101 q101
                cases e101
                replace hx101_0 := (HB.out.cell (World.block_lt_of_cell? w _ hx101_0)).trans hx101_0
                replace hx101_1 := (HB.out.cell (World.block_lt_of_cell? w _ hx101_1)).trans hx101_1
                replace p101 := eq_true p101
                replace q101 := eq_true q101
                go_wp2_with (first | ((with_reducible refine gate_dst (N := 5) rfl ?_); refine box_event ?hg (N := 5) ?hd (cs := #[.int .i64 0, .int .i64 0]) (t := 56) ?hr ?_; (case hd => rfl); (case hg => rfl); (case hr => first | (go_simp; done) | (go_simp; rfl)); intro gb102 hg w17 hbox hb; have n0_ := Aside0.mk (Kd.R_below (Kd.R_elderB (by (with_reducible repeat (first | apply Kd.R_alloc | apply Kd.R_drewN | apply Kd.R_drew)); exact HO_3.out) gb102 (Nat.le_of_eq hg.symm)) hb); have n1_ := Aside0.mk (below_step (by repeat (first | (with_reducible first | exact HB.out | apply below_alloc | apply pw_below_drewN | apply below_drew1) | exact HB.out)) hb); have n2_ := Aside0.mk (hbox); have n3_ := Aside0.mk ((by rw [hg]; exact (below_size (by repeat (first | (with_reducible first | exact HB.out | apply below_alloc | apply pw_below_drewN | apply below_drew1) | exact HB.out))) : w.heap.size ≤ gb102)); have n4_ := Aside0.mk ((by rw [hg]; exact (below_size (by repeat (first | (with_reducible first | exact HB.out | apply below_alloc | apply pw_below_drewN | apply below_drew1) | exact HB.out))) : w.heap.size ≤ gb102)); clear HO_3; clear HB; have HO_3 := n0_; have HB := n1_; have BK102 := n2_; have GW102 := n3_; have GE102 := n4_; clear n0_ n1_ n2_ n3_ n4_; clear hb hbox hg; have hcz18_0 : w17.cell? ⟨gb102, 0, none⟩ = some (.int .i64 0) := (blk_cell BK102.out 0).trans rfl; have hcz18_1 : w17.cell? ⟨gb102, 1, none⟩ = some (.int .i64 0) := (blk_cell BK102.out 1).trans rfl; have hfz18_0 := blk_frozen BK102.out 0; have hfz18_1 := blk_frozen BK102.out 1) | ((with_reducible refine gate_builtin (b := .append) (xs := #[.tmp 33, .tmp 35]) rfl ?_); at_builtin; refine Kd.R_append k56 (w0 := w) w.heap.size rfl (.tmp 33) (.tmp 35) 41 56 (.agg #[(.int .i64 0), (.int .i64 0)]) 16 rfl Try.underlying41 info56 rfl (by decide) (by omega) u3 x3_1 (⟨(rd_T56 l0 (ji3)).f0, (rd_T56 l0 (ji3)).f1⟩ : S56) [.int .i64 ((rd_T56 l0 (ji3)).f0), .int .i64 ((rd_T56 l0 (ji3)).f1)] (fun k_ => k_ ≠ gb102) (fun _ => False) rfl (by first | (go_simp; done) | (go_simp; rfl)) ?aP (fun _ hk => hk.elim) ?aF ?aO ?aB ?aS ?aL ?_; (case aP => exact k56_mkM _ _ _ (⟨(rd_T56 l0 (ji3)).f0, (rd_T56 l0 (ji3)).f1⟩ : S56)); (case aB => exact (by repeat (first | (with_reducible first | exact HB.out | apply below_alloc | apply pw_below_drewN | apply below_drew1 | refine below_set ?_ GE102.out) | exact HB.out))); (case aF => exact (fun k_ hk => Kd.freshB (g := gb102) (o := .cells #[.int .i64 ((rd_T56 l0 (ji3)).f0), .int .i64 ((rd_T56 l0 (ji3)).f1)] 56 (0, 0)) (by (with_reducible repeat (first | refine blk_drewN ?_ _ | refine blk_drew ?_ | refine blk_alloc ?_ _)); refine blk_put (cs := #[.int .i64 ((rd_T56 l0 (ji3)).f0), .int .i64 0]) ?_ 1 _ rfl; (with_reducible repeat (first | refine blk_drewN ?_ _ | refine blk_drew ?_ | refine blk_alloc ?_ _)); refine blk_put (cs := #[.int .i64 0, .int .i64 0]) ?_ 0 _ rfl; (with_reducible repeat (first | refine blk_drewN ?_ _ | refine blk_drew ?_ | refine blk_alloc ?_ _)); exact BK102.out) k_ hk)); (case aO => exact (by (with_reducible repeat (first | apply Kd.R_alloc | apply Kd.R_drewN | apply Kd.R_drew)); exact Kd.R_mono (Kd.R_far (p := ⟨gb102, 1, none⟩) (Kd.R_far (p := ⟨gb102, 0, none⟩) (Kd.R_mono HO_3.out (fun k_ hk => (⟨hk, hk.2⟩ : _ ∧ k_ ≠ gb102))) (fun _ hk => hk.2) (.int .i64 ((rd_T56 l0 (ji3)).f0))) (fun _ hk => hk.2) (.int .i64 ((rd_T56 l0 (ji3)).f1))) (fun _ hk => hk.1.2))); (case aS => exact (below_size (by repeat (first | (with_reducible first | exact HB.out | apply below_alloc | apply pw_below_drewN | apply below_drew1 | refine below_set ?_ GE102.out) | exact HB.out)))); (case aL => have := LMc16.out; omega); intro v110 w19 ho hb hg hat; rw [← Ny109.out] at ho; have n0_ := Aside0.mk (blk_grown (g := gb102) (o := .cells #[.int .i64 ((rd_T56 l0 (ji3)).f0), .int .i64 ((rd_T56 l0 (ji3)).f1)] 56 (0, 0)) (by (with_reducible repeat (first | refine blk_drewN ?_ _ | refine blk_drew ?_ | refine blk_alloc ?_ _)); refine blk_put (cs := #[.int .i64 ((rd_T56 l0 (ji3)).f0), .int .i64 0]) ?_ 1 _ rfl; (with_reducible repeat (first | refine blk_drewN ?_ _ | refine blk_drew ?_ | refine blk_alloc ?_ _)); refine blk_put (cs := #[.int .i64 0, .int .i64 0]) ?_ 0 _ rfl; (with_reducible repeat (first | refine blk_drewN ?_ _ | refine blk_drew ?_ | refine blk_alloc ?_ _)); exact BK102.out) hg (Kd.R_away HO_3.out (fun _ hk => hk.2))); have n1_ := Aside0.mk (hb); have n2_ := Aside0.mk (ho); clear BK102; clear HB; clear HO_3; have BK102 := n0_; have HB := n1_; have HO111 := n2_; clear n0_ n1_ n2_; clear ho hb hg hat))
                go_roundg k1
                case measure => have := HK1.out; omega
                case rel => exact ⟨(y109), (wrap64 (x8_1 + 1)), (by first | rfl | (simp; done) | (simp [*]; done)), H', ⟨by have := HK1.out; omega⟩, ⟨by (with_reducible repeat (first | apply Kd.R_alloc | apply Kd.R_drewN | apply Kd.R_drew)); exact Kd.R_mono HO111.out (fun _ hk => trivial)⟩, ⟨by repeat (first | (with_reducible first | exact HB.out | apply below_alloc | apply pw_below_drewN | apply below_drew1 | refine below_set ?_ GE102.out) | exact HB.out)⟩⟩
              · rw [if_neg c16] at H
                exact absurd H (by simp)
          · rw [if_neg c5] at H
            exact absurd H (by simp)
        · rw [if_neg c4] at H
          exact absurd H (by simp)
      · rw [if_neg c2] at H
        have c2b0 : decide (x8_1 < (l0.length : Int)) = false := decide_eq_false c2
        clear c2
        obtain rfl := Option.some.inj H
        go_wp2
        go_ret
        exact ⟨_, by first | rfl | (simp [errW_none, errW_some] <;> rfl) | (simp [*, errW_none, errW_some] <;> rfl), by (with_reducible repeat (first | apply Kd.R_alloc | apply Kd.R_drewN | apply Kd.R_drew)); exact HO_3.out, by repeat (first | (with_reducible first | exact HB.out | apply below_alloc | apply pw_below_drewN | apply below_drew1) | exact HB.out)⟩
end Go.Proofs.Ytpoghhcpoimepaa.P
end
section
-- printed by the session's own call of print.py. Not trusted: Lean checks it.
namespace Go.Proofs.Ytpoghhcpoimepaa.P
open Go.RowKit Go.Proofs.YtpoghhcpoimepaaW.PrintWords Go.Proofs.YtpoghhcpoimepaaW.PrintLast Go.Proofs.YtpoghhcpoimepaaW.PrintMore
attribute [local go_sem] max2_int min2_int max_two min_two max_three min_three max_four min_four
set_option linter.unusedVariables false
set_option linter.unusedSimpArgs false
/-! ### tallymanref05_Reverse: function 37 -/
def tallymanref05_Reverse.l0 : Nat → List (S56) → List (S56) → Int → Option ((List (S56)))
  | 0, _, _, _ => none
  | k + 1, x0, x3, x4 => if x4 ≥ 0 then (if 0 ≤ x4 then (if x4 < (x0.length : Int) then (if ((rd_T56 x0 x4).f0) = 1 then (if x3.length < 8796093022208 then (tallymanref05_Reverse.l0 k x0 (x3 ++ [(⟨2, (rd_T56 x0 x4).f1⟩ : S56)]) (wrap64 (x4 - 1))) else (none)) else (if ((rd_T56 x0 x4).f0) = 2 then (if x3.length < 8796093022208 then (tallymanref05_Reverse.l0 k x0 (x3 ++ [(⟨1, (rd_T56 x0 x4).f1⟩ : S56)]) (wrap64 (x4 - 1))) else (none)) else (if ((rd_T56 x0 x4).f0) = 3 then (if x3.length < 8796093022208 then (tallymanref05_Reverse.l0 k x0 (x3 ++ [(⟨4, (rd_T56 x0 x4).f1⟩ : S56)]) (wrap64 (x4 - 1))) else (none)) else (if ((rd_T56 x0 x4).f0) = 4 then (if x3.length < 8796093022208 then (tallymanref05_Reverse.l0 k x0 (x3 ++ [(⟨3, (rd_T56 x0 x4).f1⟩ : S56)]) (wrap64 (x4 - 1))) else (none)) else (if x3.length < 8796093022208 then (tallymanref05_Reverse.l0 k x0 (x3 ++ [(⟨(rd_T56 x0 x4).f0, (rd_T56 x0 x4).f1⟩ : S56)]) (wrap64 (x4 - 1))) else (none)))))) else (none)) else (none)) else (some x3)
def tallymanref05_Reverse.f (k : Nat) (l0 : List (S56)) : Option ((List (S56))) := tallymanref05_Reverse.l0 k l0 ([] : List (S56)) (wrap64 ((l0.length : Int) - 1))
theorem tallymanref05_Reverse.mono_l : ∀ k, (∀ y0 y1 y2, LeO (tallymanref05_Reverse.l0 k y0 y1 y2) (tallymanref05_Reverse.l0 (k + 1) y0 y1 y2))
  | 0 => fun _ _ _ r h => by simp [tallymanref05_Reverse.l0] at h
  | k + 1 => by
    have ih0 := tallymanref05_Reverse.mono_l k
    · intro y0 y1 y2
      unfold tallymanref05_Reverse.l0
      repeat' first
      | (with_reducible exact ih0 _ _ _)
      | (with_reducible exact LeO.refl _)
      | (with_reducible exact LeO.none _)
      | (with_reducible refine LeO.ite ?_ ?_)
      | (with_reducible refine LeO.bind ?_ (fun _ => ?_))
      | exact ih0 _ _ _
      | exact LeO.none _
      | refine LeO.ite ?_ ?_
      | refine LeO.bind ?_ (fun _ => ?_)
theorem tallymanref05_Reverse.mono : ∀ a0 k, LeO (tallymanref05_Reverse.f k a0) (tallymanref05_Reverse.f (k + 1) a0) := by
  intro a0 k
  have ih0 := tallymanref05_Reverse.mono_l k
  unfold tallymanref05_Reverse.f
  repeat' first
      | (with_reducible exact ih0 _ _ _)
      | (with_reducible exact LeO.refl _)
      | (with_reducible exact LeO.none _)
      | (with_reducible refine LeO.ite ?_ ?_)
      | (with_reducible refine LeO.bind ?_ (fun _ => ?_))
      | exact ih0 _ _ _
      | exact LeO.none _
      | refine LeO.ite ?_ ?_
      | refine LeO.bind ?_ (fun _ => ?_)
set_option maxHeartbeats 8000000 in
set_option maxRecDepth 100000 in
theorem tallymanref05_Reverse.calls (k : Nat) (A0 : Option Addr) (c0 : Nat) (l0 : List (S56)) (r : List (S56)) (w : World) (hr0 : Kd.C k56 w A0 l0.length l0) (hc0 : l0.length ≤ c0) (h : tallymanref05_Reverse.f k l0 = some r) :
    Calls Try.prog 37 #[.slice A0 l0.length c0] w fun e w' => ∃ v0_ : Value, e = .returned (v0_) ∧ Kd.R k56 56 w' w.heap.size (fun _ => True) v0_ r ∧ Below w.heap.size w w' := by
  have hu56 := Try.underlying56
  have HR0 := Aside0.mk hr0
  have HC0 := Aside0.mk hc0
  clear hr0 hc0
  have HB := Aside0.mk (Below.refl w.heap.size w)
  have H : (tallymanref05_Reverse.l0 k l0 ([] : List (S56)) (wrap64 ((l0.length : Int) - 1))) = some r := h
  clear h
  have H' := Aside0.mk H
  clear H
  go_enter Try.func37, Try.ntmps37
  go_wp2
  go_loopg [3, 4] k (fun kq v3 v4 w' => ∃ (x3_1 : List (S56)) (x4_1 : Int), v4 = .int .i64 x4_1 ∧ Aside0 (tallymanref05_Reverse.l0 kq l0 x3_1 x4_1 = some r) ∧ Aside0 (kq ≤ k) ∧ Aside0 (Kd.R k56 56 w' w.heap.size (fun _ => True) v3 x3_1) ∧ Aside0 (Below w.heap.size w w'))
  case atStart => exact ⟨(([] : List (S56))), (wrap64 ((l0.length : Int) - 1)), (by first | rfl | (simp; done) | (simp [*]; done)), H', ⟨Nat.le_refl _⟩, ⟨by first | exact Kd.R_nil _ _ _ _ _ | exact Kd.N_nil _ _ _ _ _ | exact Kd.V_nil _ _ _ _ _ | exact Kd.Q_nil _ _ _ _ _ | exact Kd.S_nil _ _ _ _ _⟩, ⟨by repeat (first | (with_reducible first | exact HB.out | apply below_alloc | apply pw_below_drewN | apply below_drew1) | exact HB.out)⟩⟩
  case round =>
    clear H'
    obtain ⟨x3_1, x4_1, rfl, HA, HK1, HO_3, HB⟩ := hrel
    cases gk with
    | zero => exact absurd HA.out (by simp [tallymanref05_Reverse.l0])
    | succ k1 =>
      have H := HA.out
      clear HA
      simp only [tallymanref05_Reverse.l0] at H
      by_cases c2 : x4_1 ≥ 0
      · rw [if_pos c2] at H
        have c2b0 : decide (0 ≤ x4_1) = true := decide_eq_true c2
        clear c2
        by_cases c3 : 0 ≤ x4_1
        · rw [if_pos c3] at H
          have c3b0 : decide (0 ≤ x4_1) = true := decide_eq_true c3
          clear c3
          by_cases c4 : x4_1 < (l0.length : Int)
          · rw [if_pos c4] at H
            have c4b0 : decide (x4_1 < (l0.length : Int)) = true := decide_eq_true c4
            clear c4
            by_cases c5 : ((rd_T56 l0 x4_1).f0) = 1
            · rw [if_pos c5] at H
              have c5b0 : (((rd_T56 l0 x4_1).f0) == 1) = true := beq_iff_eq.mpr c5
              have c5b1 : (((rd_T56 l0 x4_1).f0) != 1) = false := bne_eq_false_iff_eq.mpr c5
              clear c5
              by_cases c6 : x3_1.length < 8796093022208
              · rw [if_pos c6] at H
                have LMc6 := Aside0.mk c6
                clear c6
                obtain ⟨y103, hy103⟩ : ∃ y_ : List (S56), y_ = (x3_1 ++ [(⟨2, (rd_T56 l0 x4_1).f1⟩ : S56)]) := ⟨_, rfl⟩
                replace H : (tallymanref05_Reverse.l0 k1 l0 y103 (wrap64 (x4_1 - 1))) = some r := by first | (rw [hy103]; with_reducible exact H) | (have H2_ := (Option.bind_some _ _).symm.trans H; rw [hy103]; with_reducible exact H2_) | (have H2_ := (Option.bind_some _ _).symm.trans H; with_reducible exact H2_) | with_reducible exact H | (rw [hy103]; exact H) | exact H
                have Ny103 := Aside0.mk hy103
                clear hy103
                have H' := Aside0.mk H
                clear H
                have p101 : 0 ≤ (x4_1 : Int) := of_decide_eq_true (by first | (with_reducible assumption) | assumption)
                have q101 : x4_1 < (l0.length : Int) := of_decide_eq_true (by first | (with_reducible assumption) | assumption)
                obtain ⟨ad101, e101, hx101_0, hx101_1⟩ := at_T56 HR0.out x4_1 p101 q101
                cases e101
                replace hx101_0 := (HB.out.cell (World.block_lt_of_cell? w _ hx101_0)).trans hx101_0
                replace hx101_1 := (HB.out.cell (World.block_lt_of_cell? w _ hx101_1)).trans hx101_1
                replace p101 := eq_true p101
                replace q101 := eq_true q101
                go_wp2_with (first | ((with_reducible refine gate_dst (N := 5) rfl ?_); refine box_event ?hg (N := 5) ?hd (cs := #[.int .i64 0, .int .i64 0]) (t := 56) ?hr ?_; (case hd => rfl); (case hg => rfl); (case hr => first | (go_simp; done) | (go_simp; rfl)); intro gb102 hg w7 hbox hb; have n0_ := Aside0.mk (Kd.R_below (Kd.R_elderB (by (with_reducible repeat (first | apply Kd.R_alloc | apply Kd.R_drewN | apply Kd.R_drew)); exact HO_3.out) gb102 (Nat.le_of_eq hg.symm)) hb); have n1_ := Aside0.mk (below_step (by repeat (first | (with_reducible first | exact HB.out | apply below_alloc | apply pw_below_drewN | apply below_drew1) | exact HB.out)) hb); have n2_ := Aside0.mk (hbox); have n3_ := Aside0.mk ((by rw [hg]; exact (below_size (by repeat (first | (with_reducible first | exact HB.out | apply below_alloc | apply pw_below_drewN | apply below_drew1) | exact HB.out))) : w.heap.size ≤ gb102)); have n4_ := Aside0.mk ((by rw [hg]; exact (below_size (by repeat (first | (with_reducible first | exact HB.out | apply below_alloc | apply pw_below_drewN | apply below_drew1) | exact HB.out))) : w.heap.size ≤ gb102)); clear HO_3; clear HB; have HO_3 := n0_; have HB := n1_; have BK102 := n2_; have GW102 := n3_; have GE102 := n4_; clear n0_ n1_ n2_ n3_ n4_; clear hb hbox hg; have hcz8_0 : w7.cell? ⟨gb102, 0, none⟩ = some (.int .i64 0) := (blk_cell BK102.out 0).trans rfl; have hcz8_1 : w7.cell? ⟨gb102, 1, none⟩ = some (.int .i64 0) := (blk_cell BK102.out 1).trans rfl; have hfz8_0 := blk_frozen BK102.out 0; have hfz8_1 := blk_frozen BK102.out 1) | ((with_reducible refine gate_builtin (b := .append) (xs := #[.tmp 31, .tmp 33]) rfl ?_); at_builtin; refine Kd.R_append k56 (w0 := w) w.heap.size rfl (.tmp 31) (.tmp 33) 41 56 (.agg #[(.int .i64 0), (.int .i64 0)]) 16 rfl Try.underlying41 info56 rfl (by decide) (by omega) u3 x3_1 (⟨2, (rd_T56 l0 x4_1).f1⟩ : S56) [.int .i64 2, .int .i64 ((rd_T56 l0 x4_1).f1)] (fun k_ => k_ ≠ gb102) (fun _ => False) rfl (by first | (go_simp; done) | (go_simp; rfl)) ?aP (fun _ hk => hk.elim) ?aF ?aO ?aB ?aS ?aL ?_; (case aP => exact k56_mkM _ _ _ (⟨2, (rd_T56 l0 x4_1).f1⟩ : S56)); (case aB => exact (by repeat (first | (with_reducible first | exact HB.out | apply below_alloc | apply pw_below_drewN | apply below_drew1 | refine below_set ?_ GE102.out) | exact HB.out))); (case aF => exact (fun k_ hk => Kd.freshB (g := gb102) (o := .cells #[.int .i64 2, .int .i64 ((rd_T56 l0 x4_1).f1)] 56 (0, 0)) (by (with_reducible repeat (first | refine blk_drewN ?_ _ | refine blk_drew ?_ | refine blk_alloc ?_ _)); refine blk_put (cs := #[.int .i64 ((rd_T56 l0 x4_1).f0), .int .i64 ((rd_T56 l0 x4_1).f1)]) ?_ 0 _ rfl; (with_reducible repeat (first | refine blk_drewN ?_ _ | refine blk_drew ?_ | refine blk_alloc ?_ _)); refine blk_put (cs := #[.int .i64 ((rd_T56 l0 x4_1).f0), .int .i64 0]) ?_ 1 _ rfl; (with_reducible repeat (first | refine blk_drewN ?_ _ | refine blk_drew ?_ | refine blk_alloc ?_ _)); refine blk_put (cs := #[.int .i64 0, .int .i64 0]) ?_ 0 _ rfl; (with_reducible repeat (first | refine blk_drewN ?_ _ | refine blk_drew ?_ | refine blk_alloc ?_ _)); exact BK102.out) k_ hk)); (case aO => exact (by (with_reducible repeat (first | apply Kd.R_alloc | apply Kd.R_drewN | apply Kd.R_drew)); exact Kd.R_mono (Kd.R_far (p := ⟨gb102, 0, none⟩) (Kd.R_far (p := ⟨gb102, 1, none⟩) (Kd.R_far (p := ⟨gb102, 0, none⟩) (Kd.R_mono HO_3.out (fun k_ hk => (⟨hk, hk.2⟩ : _ ∧ k_ ≠ gb102))) (fun _ hk => hk.2) (.int .i64 ((rd_T56 l0 x4_1).f0))) (fun _ hk => hk.2) (.int .i64 ((rd_T56 l0 x4_1).f1))) (fun _ hk => hk.2) (.int .i64 2)) (fun _ hk => hk.1.2))); (case aS => exact (below_size (by repeat (first | (with_reducible first | exact HB.out | apply below_alloc | apply pw_below_drewN | apply below_drew1 | refine below_set ?_ GE102.out) | exact HB.out)))); (case aL => have := LMc6.out; omega); intro v104 w9 ho hb hg hat; rw [← Ny103.out] at ho; have n0_ := Aside0.mk (blk_grown (g := gb102) (o := .cells #[.int .i64 2, .int .i64 ((rd_T56 l0 x4_1).f1)] 56 (0, 0)) (by (with_reducible repeat (first | refine blk_drewN ?_ _ | refine blk_drew ?_ | refine blk_alloc ?_ _)); refine blk_put (cs := #[.int .i64 ((rd_T56 l0 x4_1).f0), .int .i64 ((rd_T56 l0 x4_1).f1)]) ?_ 0 _ rfl; (with_reducible repeat (first | refine blk_drewN ?_ _ | refine blk_drew ?_ | refine blk_alloc ?_ _)); refine blk_put (cs := #[.int .i64 ((rd_T56 l0 x4_1).f0), .int .i64 0]) ?_ 1 _ rfl; (with_reducible repeat (first | refine blk_drewN ?_ _ | refine blk_drew ?_ | refine blk_alloc ?_ _)); refine blk_put (cs := #[.int .i64 0, .int .i64 0]) ?_ 0 _ rfl; (with_reducible repeat (first | refine blk_drewN ?_ _ | refine blk_drew ?_ | refine blk_alloc ?_ _)); exact BK102.out) hg (Kd.R_away HO_3.out (fun _ hk => hk.2))); have n1_ := Aside0.mk (hb); have n2_ := Aside0.mk (ho); clear BK102; clear HB; clear HO_3; have BK102 := n0_; have HB := n1_; have HO105 := n2_; clear n0_ n1_ n2_; clear ho hb hg hat))
                go_roundg k1
                case measure => have := HK1.out; omega
                case rel => exact ⟨(y103), (wrap64 (x4_1 - 1)), (by first | rfl | (simp; done) | (simp [*]; done)), H', ⟨by have := HK1.out; omega⟩, ⟨by (with_reducible repeat (first | apply Kd.R_alloc | apply Kd.R_drewN | apply Kd.R_drew)); exact Kd.R_mono HO105.out (fun _ hk => trivial)⟩, ⟨by repeat (first | (with_reducible first | exact HB.out | apply below_alloc | apply pw_below_drewN | apply below_drew1 | refine below_set ?_ GE102.out) | exact HB.out)⟩⟩
              · rw [if_neg c6] at H
                exact absurd H (by simp)
            · rw [if_neg c5] at H
              have c5b0 : (((rd_T56 l0 x4_1).f0) == 1) = false := beq_eq_false_iff_ne.mpr c5
              have c5b1 : (((rd_T56 l0 x4_1).f0) != 1) = true := bne_iff_ne.mpr c5
              by_cases c10 : ((rd_T56 l0 x4_1).f0) = 2
              · rw [if_pos c10] at H
                have c10b0 : (((rd_T56 l0 x4_1).f0) == 2) = true := beq_iff_eq.mpr c10
                have c10b1 : (((rd_T56 l0 x4_1).f0) != 2) = false := bne_eq_false_iff_eq.mpr c10
                clear c10
                by_cases c11 : x3_1.length < 8796093022208
                · rw [if_pos c11] at H
                  have LMc11 := Aside0.mk c11
                  clear c11
                  obtain ⟨y106, hy106⟩ : ∃ y_ : List (S56), y_ = (x3_1 ++ [(⟨1, (rd_T56 l0 x4_1).f1⟩ : S56)]) := ⟨_, rfl⟩
                  replace H : (tallymanref05_Reverse.l0 k1 l0 y106 (wrap64 (x4_1 - 1))) = some r := by first | (rw [hy106]; with_reducible exact H) | (have H2_ := (Option.bind_some _ _).symm.trans H; rw [hy106]; with_reducible exact H2_) | (have H2_ := (Option.bind_some _ _).symm.trans H; with_reducible exact H2_) | with_reducible exact H | (rw [hy106]; exact H) | exact H
                  have Ny106 := Aside0.mk hy106
                  clear hy106
                  have H' := Aside0.mk H
                  clear H
                  have p101 : 0 ≤ (x4_1 : Int) := of_decide_eq_true (by first | (with_reducible assumption) | assumption)
                  have q101 : x4_1 < (l0.length : Int) := of_decide_eq_true (by first | (with_reducible assumption) | assumption)
                  obtain ⟨ad101, e101, hx101_0, hx101_1⟩ := at_T56 HR0.out x4_1 p101 q101
                  cases e101
                  replace hx101_0 := (HB.out.cell (World.block_lt_of_cell? w _ hx101_0)).trans hx101_0
                  replace hx101_1 := (HB.out.cell (World.block_lt_of_cell? w _ hx101_1)).trans hx101_1
                  replace p101 := eq_true p101
                  replace q101 := eq_true q101
                  go_wp2_with (first | ((with_reducible refine gate_dst (N := 5) rfl ?_); refine box_event ?hg (N := 5) ?hd (cs := #[.int .i64 0, .int .i64 0]) (t := 56) ?hr ?_; (case hd => rfl); (case hg => rfl); (case hr => first | (go_simp; done) | (go_simp; rfl)); intro gb102 hg w12 hbox hb; have n0_ := Aside0.mk (Kd.R_below (Kd.R_elderB (by (with_reducible repeat (first | apply Kd.R_alloc | apply Kd.R_drewN | apply Kd.R_drew)); exact HO_3.out) gb102 (Nat.le_of_eq hg.symm)) hb); have n1_ := Aside0.mk (below_step (by repeat (first | (with_reducible first | exact HB.out | apply below_alloc | apply pw_below_drewN | apply below_drew1) | exact HB.out)) hb); have n2_ := Aside0.mk (hbox); have n3_ := Aside0.mk ((by rw [hg]; exact (below_size (by repeat (first | (with_reducible first | exact HB.out | apply below_alloc | apply pw_below_drewN | apply below_drew1) | exact HB.out))) : w.heap.size ≤ gb102)); have n4_ := Aside0.mk ((by rw [hg]; exact (below_size (by repeat (first | (with_reducible first | exact HB.out | apply below_alloc | apply pw_below_drewN | apply below_drew1) | exact HB.out))) : w.heap.size ≤ gb102)); clear HO_3; clear HB; have HO_3 := n0_; have HB := n1_; have BK102 := n2_; have GW102 := n3_; have GE102 := n4_; clear n0_ n1_ n2_ n3_ n4_; clear hb hbox hg; have hcz13_0 : w12.cell? ⟨gb102, 0, none⟩ = some (.int .i64 0) := (blk_cell BK102.out 0).trans rfl; have hcz13_1 : w12.cell? ⟨gb102, 1, none⟩ = some (.int .i64 0) := (blk_cell BK102.out 1).trans rfl; have hfz13_0 := blk_frozen BK102.out 0; have hfz13_1 := blk_frozen BK102.out 1) | ((with_reducible refine gate_builtin (b := .append) (xs := #[.tmp 31, .tmp 33]) rfl ?_); at_builtin; refine Kd.R_append k56 (w0 := w) w.heap.size rfl (.tmp 31) (.tmp 33) 41 56 (.agg #[(.int .i64 0), (.int .i64 0)]) 16 rfl Try.underlying41 info56 rfl (by decide) (by omega) u3 x3_1 (⟨1, (rd_T56 l0 x4_1).f1⟩ : S56) [.int .i64 1, .int .i64 ((rd_T56 l0 x4_1).f1)] (fun k_ => k_ ≠ gb102) (fun _ => False) rfl (by first | (go_simp; done) | (go_simp; rfl)) ?aP (fun _ hk => hk.elim) ?aF ?aO ?aB ?aS ?aL ?_; (case aP => exact k56_mkM _ _ _ (⟨1, (rd_T56 l0 x4_1).f1⟩ : S56)); (case aB => exact (by repeat (first | (with_reducible first | exact HB.out | apply below_alloc | apply pw_below_drewN | apply below_drew1 | refine below_set ?_ GE102.out) | exact HB.out))); (case aF => exact (fun k_ hk => Kd.freshB (g := gb102) (o := .cells #[.int .i64 1, .int .i64 ((rd_T56 l0 x4_1).f1)] 56 (0, 0)) (by (with_reducible repeat (first | refine blk_drewN ?_ _ | refine blk_drew ?_ | refine blk_alloc ?_ _)); refine blk_put (cs := #[.int .i64 ((rd_T56 l0 x4_1).f0), .int .i64 ((rd_T56 l0 x4_1).f1)]) ?_ 0 _ rfl; (with_reducible repeat (first | refine blk_drewN ?_ _ | refine blk_drew ?_ | refine blk_alloc ?_ _)); refine blk_put (cs := #[.int .i64 ((rd_T56 l0 x4_1).f0), .int .i64 0]) ?_ 1 _ rfl; (with_reducible repeat (first | refine blk_drewN ?_ _ | refine blk_drew ?_ | refine blk_alloc ?_ _)); refine blk_put (cs := #[.int .i64 0, .int .i64 0]) ?_ 0 _ rfl; (with_reducible repeat (first | refine blk_drewN ?_ _ | refine blk_drew ?_ | refine blk_alloc ?_ _)); exact BK102.out) k_ hk)); (case aO => exact (by (with_reducible repeat (first | apply Kd.R_alloc | apply Kd.R_drewN | apply Kd.R_drew)); exact Kd.R_mono (Kd.R_far (p := ⟨gb102, 0, none⟩) (Kd.R_far (p := ⟨gb102, 1, none⟩) (Kd.R_far (p := ⟨gb102, 0, none⟩) (Kd.R_mono HO_3.out (fun k_ hk => (⟨hk, hk.2⟩ : _ ∧ k_ ≠ gb102))) (fun _ hk => hk.2) (.int .i64 ((rd_T56 l0 x4_1).f0))) (fun _ hk => hk.2) (.int .i64 ((rd_T56 l0 x4_1).f1))) (fun _ hk => hk.2) (.int .i64 1)) (fun _ hk => hk.1.2))); (case aS => exact (below_size (by repeat (first | (with_reducible first | exact HB.out | apply below_alloc | apply pw_below_drewN | apply below_drew1 | refine below_set ?_ GE102.out) | exact HB.out)))); (case aL => have := LMc11.out; omega); intro v107 w14 ho hb hg hat; rw [← Ny106.out] at ho; have n0_ := Aside0.mk (blk_grown (g := gb102) (o := .cells #[.int .i64 1, .int .i64 ((rd_T56 l0 x4_1).f1)] 56 (0, 0)) (by (with_reducible repeat (first | refine blk_drewN ?_ _ | refine blk_drew ?_ | refine blk_alloc ?_ _)); refine blk_put (cs := #[.int .i64 ((rd_T56 l0 x4_1).f0), .int .i64 ((rd_T56 l0 x4_1).f1)]) ?_ 0 _ rfl; (with_reducible repeat (first | refine blk_drewN ?_ _ | refine blk_drew ?_ | refine blk_alloc ?_ _)); refine blk_put (cs := #[.int .i64 ((rd_T56 l0 x4_1).f0), .int .i64 0]) ?_ 1 _ rfl; (with_reducible repeat (first | refine blk_drewN ?_ _ | refine blk_drew ?_ | refine blk_alloc ?_ _)); refine blk_put (cs := #[.int .i64 0, .int .i64 0]) ?_ 0 _ rfl; (with_reducible repeat (first | refine blk_drewN ?_ _ | refine blk_drew ?_ | refine blk_alloc ?_ _)); exact BK102.out) hg (Kd.R_away HO_3.out (fun _ hk => hk.2))); have n1_ := Aside0.mk (hb); have n2_ := Aside0.mk (ho); clear BK102; clear HB; clear HO_3; have BK102 := n0_; have HB := n1_; have HO108 := n2_; clear n0_ n1_ n2_; clear ho hb hg hat))
                  go_roundg k1
                  case measure => have := HK1.out; omega
                  case rel => exact ⟨(y106), (wrap64 (x4_1 - 1)), (by first | rfl | (simp; done) | (simp [*]; done)), H', ⟨by have := HK1.out; omega⟩, ⟨by (with_reducible repeat (first | apply Kd.R_alloc | apply Kd.R_drewN | apply Kd.R_drew)); exact Kd.R_mono HO108.out (fun _ hk => trivial)⟩, ⟨by repeat (first | (with_reducible first | exact HB.out | apply below_alloc | apply pw_below_drewN | apply below_drew1 | refine below_set ?_ GE102.out) | exact HB.out)⟩⟩
                · rw [if_neg c11] at H
                  exact absurd H (by simp)
              · rw [if_neg c10] at H
                have c10b0 : (((rd_T56 l0 x4_1).f0) == 2) = false := beq_eq_false_iff_ne.mpr c10
                have c10b1 : (((rd_T56 l0 x4_1).f0) != 2) = true := bne_iff_ne.mpr c10
                by_cases c15 : ((rd_T56 l0 x4_1).f0) = 3
                · rw [if_pos c15] at H
                  have c15b0 : (((rd_T56 l0 x4_1).f0) == 3) = true := beq_iff_eq.mpr c15
                  have c15b1 : (((rd_T56 l0 x4_1).f0) != 3) = false := bne_eq_false_iff_eq.mpr c15
                  clear c15
                  by_cases c16 : x3_1.length < 8796093022208
                  · rw [if_pos c16] at H
                    have LMc16 := Aside0.mk c16
                    clear c16
                    obtain ⟨y109, hy109⟩ : ∃ y_ : List (S56), y_ = (x3_1 ++ [(⟨4, (rd_T56 l0 x4_1).f1⟩ : S56)]) := ⟨_, rfl⟩
                    replace H : (tallymanref05_Reverse.l0 k1 l0 y109 (wrap64 (x4_1 - 1))) = some r := by first | (rw [hy109]; with_reducible exact H) | (have H2_ := (Option.bind_some _ _).symm.trans H; rw [hy109]; with_reducible exact H2_) | (have H2_ := (Option.bind_some _ _).symm.trans H; with_reducible exact H2_) | with_reducible exact H | (rw [hy109]; exact H) | exact H
                    have Ny109 := Aside0.mk hy109
                    clear hy109
                    have H' := Aside0.mk H
                    clear H
                    have p101 : 0 ≤ (x4_1 : Int) := of_decide_eq_true (by first | (with_reducible assumption) | assumption)
                    have q101 : x4_1 < (l0.length : Int) := of_decide_eq_true (by first | (with_reducible assumption) | assumption)
                    obtain ⟨ad101, e101, hx101_0, hx101_1⟩ := at_T56 HR0.out x4_1 p101 q101
                    cases e101
                    replace hx101_0 := (HB.out.cell (World.block_lt_of_cell? w _ hx101_0)).trans hx101_0
                    replace hx101_1 := (HB.out.cell (World.block_lt_of_cell? w _ hx101_1)).trans hx101_1
                    replace p101 := eq_true p101
                    replace q101 := eq_true q101
                    go_wp2_with (first | ((with_reducible refine gate_dst (N := 5) rfl ?_); refine box_event ?hg (N := 5) ?hd (cs := #[.int .i64 0, .int .i64 0]) (t := 56) ?hr ?_; (case hd => rfl); (case hg => rfl); (case hr => first | (go_simp; done) | (go_simp; rfl)); intro gb102 hg w17 hbox hb; have n0_ := Aside0.mk (Kd.R_below (Kd.R_elderB (by (with_reducible repeat (first | apply Kd.R_alloc | apply Kd.R_drewN | apply Kd.R_drew)); exact HO_3.out) gb102 (Nat.le_of_eq hg.symm)) hb); have n1_ := Aside0.mk (below_step (by repeat (first | (with_reducible first | exact HB.out | apply below_alloc | apply pw_below_drewN | apply below_drew1) | exact HB.out)) hb); have n2_ := Aside0.mk (hbox); have n3_ := Aside0.mk ((by rw [hg]; exact (below_size (by repeat (first | (with_reducible first | exact HB.out | apply below_alloc | apply pw_below_drewN | apply below_drew1) | exact HB.out))) : w.heap.size ≤ gb102)); have n4_ := Aside0.mk ((by rw [hg]; exact (below_size (by repeat (first | (with_reducible first | exact HB.out | apply below_alloc | apply pw_below_drewN | apply below_drew1) | exact HB.out))) : w.heap.size ≤ gb102)); clear HO_3; clear HB; have HO_3 := n0_; have HB := n1_; have BK102 := n2_; have GW102 := n3_; have GE102 := n4_; clear n0_ n1_ n2_ n3_ n4_; clear hb hbox hg; have hcz18_0 : w17.cell? ⟨gb102, 0, none⟩ = some (.int .i64 0) := (blk_cell BK102.out 0).trans rfl; have hcz18_1 : w17.cell? ⟨gb102, 1, none⟩ = some (.int .i64 0) := (blk_cell BK102.out 1).trans rfl; have hfz18_0 := blk_frozen BK102.out 0; have hfz18_1 := blk_frozen BK102.out 1) | ((with_reducible refine gate_builtin (b := .append) (xs := #[.tmp 31, .tmp 33]) rfl ?_); at_builtin; refine Kd.R_append k56 (w0 := w) w.heap.size rfl (.tmp 31) (.tmp 33) 41 56 (.agg #[(.int .i64 0), (.int .i64 0)]) 16 rfl Try.underlying41 info56 rfl (by decide) (by omega) u3 x3_1 (⟨4, (rd_T56 l0 x4_1).f1⟩ : S56) [.int .i64 4, .int .i64 ((rd_T56 l0 x4_1).f1)] (fun k_ => k_ ≠ gb102) (fun _ => False) rfl (by first | (go_simp; done) | (go_simp; rfl)) ?aP (fun _ hk => hk.elim) ?aF ?aO ?aB ?aS ?aL ?_; (case aP => exact k56_mkM _ _ _ (⟨4, (rd_T56 l0 x4_1).f1⟩ : S56)); (case aB => exact (by repeat (first | (with_reducible first | exact HB.out | apply below_alloc | apply pw_below_drewN | apply below_drew1 | refine below_set ?_ GE102.out) | exact HB.out))); (case aF => exact (fun k_ hk => Kd.freshB (g := gb102) (o := .cells #[.int .i64 4, .int .i64 ((rd_T56 l0 x4_1).f1)] 56 (0, 0)) (by (with_reducible repeat (first | refine blk_drewN ?_ _ | refine blk_drew ?_ | refine blk_alloc ?_ _)); refine blk_put (cs := #[.int .i64 ((rd_T56 l0 x4_1).f0), .int .i64 ((rd_T56 l0 x4_1).f1)]) ?_ 0 _ rfl; (with_reducible repeat (first | refine blk_drewN ?_ _ | refine blk_drew ?_ | refine blk_alloc ?_ _)); refine blk_put (cs := #[.int .i64 ((rd_T56 l0 x4_1).f0), .int .i64 0]) ?_ 1 _ rfl; (with_reducible repeat (first | refine blk_drewN ?_ _ | refine blk_drew ?_ | refine blk_alloc ?_ _)); refine blk_put (cs := #[.int .i64 0, .int .i64 0]) ?_ 0 _ rfl; (with_reducible repeat (first | refine blk_drewN ?_ _ | refine blk_drew ?_ | refine blk_alloc ?_ _)); exact BK102.out) k_ hk)); (case aO => exact (by (with_reducible repeat (first | apply Kd.R_alloc | apply Kd.R_drewN | apply Kd.R_drew)); exact Kd.R_mono (Kd.R_far (p := ⟨gb102, 0, none⟩) (Kd.R_far (p := ⟨gb102, 1, none⟩) (Kd.R_far (p := ⟨gb102, 0, none⟩) (Kd.R_mono HO_3.out (fun k_ hk => (⟨hk, hk.2⟩ : _ ∧ k_ ≠ gb102))) (fun _ hk => hk.2) (.int .i64 ((rd_T56 l0 x4_1).f0))) (fun _ hk => hk.2) (.int .i64 ((rd_T56 l0 x4_1).f1))) (fun _ hk => hk.2) (.int .i64 4)) (fun _ hk => hk.1.2))); (case aS => exact (below_size (by repeat (first | (with_reducible first | exact HB.out | apply below_alloc | apply pw_below_drewN | apply below_drew1 | refine below_set ?_ GE102.out) | exact HB.out)))); (case aL => have := LMc16.out; omega); intro v110 w19 ho hb hg hat; rw [← Ny109.out] at ho; have n0_ := Aside0.mk (blk_grown (g := gb102) (o := .cells #[.int .i64 4, .int .i64 ((rd_T56 l0 x4_1).f1)] 56 (0, 0)) (by (with_reducible repeat (first | refine blk_drewN ?_ _ | refine blk_drew ?_ | refine blk_alloc ?_ _)); refine blk_put (cs := #[.int .i64 ((rd_T56 l0 x4_1).f0), .int .i64 ((rd_T56 l0 x4_1).f1)]) ?_ 0 _ rfl; (with_reducible repeat (first | refine blk_drewN ?_ _ | refine blk_drew ?_ | refine blk_alloc ?_ _)); refine blk_put (cs := #[.int .i64 ((rd_T56 l0 x4_1).f0), .int .i64 0]) ?_ 1 _ rfl; (with_reducible repeat (first | refine blk_drewN ?_ _ | refine blk_drew ?_ | refine blk_alloc ?_ _)); refine blk_put (cs := #[.int .i64 0, .int .i64 0]) ?_ 0 _ rfl; (with_reducible repeat (first | refine blk_drewN ?_ _ | refine blk_drew ?_ | refine blk_alloc ?_ _)); exact BK102.out) hg (Kd.R_away HO_3.out (fun _ hk => hk.2))); have n1_ := Aside0.mk (hb); have n2_ := Aside0.mk (ho); clear BK102; clear HB; clear HO_3; have BK102 := n0_; have HB := n1_; have HO111 := n2_; clear n0_ n1_ n2_; clear ho hb hg hat))
                    go_roundg k1
                    case measure => have := HK1.out; omega
                    case rel => exact ⟨(y109), (wrap64 (x4_1 - 1)), (by first | rfl | (simp; done) | (simp [*]; done)), H', ⟨by have := HK1.out; omega⟩, ⟨by (with_reducible repeat (first | apply Kd.R_alloc | apply Kd.R_drewN | apply Kd.R_drew)); exact Kd.R_mono HO111.out (fun _ hk => trivial)⟩, ⟨by repeat (first | (with_reducible first | exact HB.out | apply below_alloc | apply pw_below_drewN | apply below_drew1 | refine below_set ?_ GE102.out) | exact HB.out)⟩⟩
                  · rw [if_neg c16] at H
                    exact absurd H (by simp)
                · rw [if_neg c15] at H
                  have c15b0 : (((rd_T56 l0 x4_1).f0) == 3) = false := beq_eq_false_iff_ne.mpr c15
                  have c15b1 : (((rd_T56 l0 x4_1).f0) != 3) = true := bne_iff_ne.mpr c15
                  by_cases c20 : ((rd_T56 l0 x4_1).f0) = 4
                  · rw [if_pos c20] at H
                    have c20b0 : (((rd_T56 l0 x4_1).f0) == 4) = true := beq_iff_eq.mpr c20
                    have c20b1 : (((rd_T56 l0 x4_1).f0) != 4) = false := bne_eq_false_iff_eq.mpr c20
                    clear c20
                    by_cases c21 : x3_1.length < 8796093022208
                    · rw [if_pos c21] at H
                      have LMc21 := Aside0.mk c21
                      clear c21
                      obtain ⟨y112, hy112⟩ : ∃ y_ : List (S56), y_ = (x3_1 ++ [(⟨3, (rd_T56 l0 x4_1).f1⟩ : S56)]) := ⟨_, rfl⟩
                      replace H : (tallymanref05_Reverse.l0 k1 l0 y112 (wrap64 (x4_1 - 1))) = some r := by first | (rw [hy112]; with_reducible exact H) | (have H2_ := (Option.bind_some _ _).symm.trans H; rw [hy112]; with_reducible exact H2_) | (have H2_ := (Option.bind_some _ _).symm.trans H; with_reducible exact H2_) | with_reducible exact H | (rw [hy112]; exact H) | exact H
                      have Ny112 := Aside0.mk hy112
                      clear hy112
                      have H' := Aside0.mk H
                      clear H
                      have p101 : 0 ≤ (x4_1 : Int) := of_decide_eq_true (by first | (with_reducible assumption) | assumption)
                      have q101 : x4_1 < (l0.length : Int) := of_decide_eq_true (by first | (with_reducible assumption) | assumption)
                      obtain ⟨ad101, e101, hx101_0, hx101_1⟩ := at_T56 HR0.out x4_1 p101 q101
                      cases e101
                      replace hx101_0 := (HB.out.cell (World.block_lt_of_cell? w _ hx101_0)).trans hx101_0
                      replace hx101_1 := (HB.out.cell (World.block_lt_of_cell? w _ hx101_1)).trans hx101_1
                      replace p101 := eq_true p101
                      replace q101 := eq_true q101
                      go_wp2_with (first | ((with_reducible refine gate_dst (N := 5) rfl ?_); refine box_event ?hg (N := 5) ?hd (cs := #[.int .i64 0, .int .i64 0]) (t := 56) ?hr ?_; (case hd => rfl); (case hg => rfl); (case hr => first | (go_simp; done) | (go_simp; rfl)); intro gb102 hg w22 hbox hb; have n0_ := Aside0.mk (Kd.R_below (Kd.R_elderB (by (with_reducible repeat (first | apply Kd.R_alloc | apply Kd.R_drewN | apply Kd.R_drew)); exact HO_3.out) gb102 (Nat.le_of_eq hg.symm)) hb); have n1_ := Aside0.mk (below_step (by repeat (first | (with_reducible first | exact HB.out | apply below_alloc | apply pw_below_drewN | apply below_drew1) | exact HB.out)) hb); have n2_ := Aside0.mk (hbox); have n3_ := Aside0.mk ((by rw [hg]; exact (below_size (by repeat (first | (with_reducible first | exact HB.out | apply below_alloc | apply pw_below_drewN | apply below_drew1) | exact HB.out))) : w.heap.size ≤ gb102)); have n4_ := Aside0.mk ((by rw [hg]; exact (below_size (by repeat (first | (with_reducible first | exact HB.out | apply below_alloc | apply pw_below_drewN | apply below_drew1) | exact HB.out))) : w.heap.size ≤ gb102)); clear HO_3; clear HB; have HO_3 := n0_; have HB := n1_; have BK102 := n2_; have GW102 := n3_; have GE102 := n4_; clear n0_ n1_ n2_ n3_ n4_; clear hb hbox hg; have hcz23_0 : w22.cell? ⟨gb102, 0, none⟩ = some (.int .i64 0) := (blk_cell BK102.out 0).trans rfl; have hcz23_1 : w22.cell? ⟨gb102, 1, none⟩ = some (.int .i64 0) := (blk_cell BK102.out 1).trans rfl; have hfz23_0 := blk_frozen BK102.out 0; have hfz23_1 := blk_frozen BK102.out 1) | ((with_reducible refine gate_builtin (b := .append) (xs := #[.tmp 31, .tmp 33]) rfl ?_); at_builtin; refine Kd.R_append k56 (w0 := w) w.heap.size rfl (.tmp 31) (.tmp 33) 41 56 (.agg #[(.int .i64 0), (.int .i64 0)]) 16 rfl Try.underlying41 info56 rfl (by decide) (by omega) u3 x3_1 (⟨3, (rd_T56 l0 x4_1).f1⟩ : S56) [.int .i64 3, .int .i64 ((rd_T56 l0 x4_1).f1)] (fun k_ => k_ ≠ gb102) (fun _ => False) rfl (by first | (go_simp; done) | (go_simp; rfl)) ?aP (fun _ hk => hk.elim) ?aF ?aO ?aB ?aS ?aL ?_; (case aP => exact k56_mkM _ _ _ (⟨3, (rd_T56 l0 x4_1).f1⟩ : S56)); (case aB => exact (by repeat (first | (with_reducible first | exact HB.out | apply below_alloc | apply pw_below_drewN | apply below_drew1 | refine below_set ?_ GE102.out) | exact HB.out))); (case aF => exact (fun k_ hk => Kd.freshB (g := gb102) (o := .cells #[.int .i64 3, .int .i64 ((rd_T56 l0 x4_1).f1)] 56 (0, 0)) (by (with_reducible repeat (first | refine blk_drewN ?_ _ | refine blk_drew ?_ | refine blk_alloc ?_ _)); refine blk_put (cs := #[.int .i64 ((rd_T56 l0 x4_1).f0), .int .i64 ((rd_T56 l0 x4_1).f1)]) ?_ 0 _ rfl; (with_reducible repeat (first | refine blk_drewN ?_ _ | refine blk_drew ?_ | refine blk_alloc ?_ _)); refine blk_put (cs := #[.int .i64 ((rd_T56 l0 x4_1).f0), .int .i64 0]) ?_ 1 _ rfl; (with_reducible repeat (first | refine blk_drewN ?_ _ | refine blk_drew ?_ | refine blk_alloc ?_ _)); refine blk_put (cs := #[.int .i64 0, .int .i64 0]) ?_ 0 _ rfl; (with_reducible repeat (first | refine blk_drewN ?_ _ | refine blk_drew ?_ | refine blk_alloc ?_ _)); exact BK102.out) k_ hk)); (case aO => exact (by (with_reducible repeat (first | apply Kd.R_alloc | apply Kd.R_drewN | apply Kd.R_drew)); exact Kd.R_mono (Kd.R_far (p := ⟨gb102, 0, none⟩) (Kd.R_far (p := ⟨gb102, 1, none⟩) (Kd.R_far (p := ⟨gb102, 0, none⟩) (Kd.R_mono HO_3.out (fun k_ hk => (⟨hk, hk.2⟩ : _ ∧ k_ ≠ gb102))) (fun _ hk => hk.2) (.int .i64 ((rd_T56 l0 x4_1).f0))) (fun _ hk => hk.2) (.int .i64 ((rd_T56 l0 x4_1).f1))) (fun _ hk => hk.2) (.int .i64 3)) (fun _ hk => hk.1.2))); (case aS => exact (below_size (by repeat (first | (with_reducible first | exact HB.out | apply below_alloc | apply pw_below_drewN | apply below_drew1 | refine below_set ?_ GE102.out) | exact HB.out)))); (case aL => have := LMc21.out; omega); intro v113 w24 ho hb hg hat; rw [← Ny112.out] at ho; have n0_ := Aside0.mk (blk_grown (g := gb102) (o := .cells #[.int .i64 3, .int .i64 ((rd_T56 l0 x4_1).f1)] 56 (0, 0)) (by (with_reducible repeat (first | refine blk_drewN ?_ _ | refine blk_drew ?_ | refine blk_alloc ?_ _)); refine blk_put (cs := #[.int .i64 ((rd_T56 l0 x4_1).f0), .int .i64 ((rd_T56 l0 x4_1).f1)]) ?_ 0 _ rfl; (with_reducible repeat (first | refine blk_drewN ?_ _ | refine blk_drew ?_ | refine blk_alloc ?_ _)); refine blk_put (cs := #[.int .i64 ((rd_T56 l0 x4_1).f0), .int .i64 0]) ?_ 1 _ rfl; (with_reducible repeat (first | refine blk_drewN ?_ _ | refine blk_drew ?_ | refine blk_alloc ?_ _)); refine blk_put (cs := #[.int .i64 0, .int .i64 0]) ?_ 0 _ rfl; (with_reducible repeat (first | refine blk_drewN ?_ _ | refine blk_drew ?_ | refine blk_alloc ?_ _)); exact BK102.out) hg (Kd.R_away HO_3.out (fun _ hk => hk.2))); have n1_ := Aside0.mk (hb); have n2_ := Aside0.mk (ho); clear BK102; clear HB; clear HO_3; have BK102 := n0_; have HB := n1_; have HO114 := n2_; clear n0_ n1_ n2_; clear ho hb hg hat))
                      go_roundg k1
                      case measure => have := HK1.out; omega
                      case rel => exact ⟨(y112), (wrap64 (x4_1 - 1)), (by first | rfl | (simp; done) | (simp [*]; done)), H', ⟨by have := HK1.out; omega⟩, ⟨by (with_reducible repeat (first | apply Kd.R_alloc | apply Kd.R_drewN | apply Kd.R_drew)); exact Kd.R_mono HO114.out (fun _ hk => trivial)⟩, ⟨by repeat (first | (with_reducible first | exact HB.out | apply below_alloc | apply pw_below_drewN | apply below_drew1 | refine below_set ?_ GE102.out) | exact HB.out)⟩⟩
                    · rw [if_neg c21] at H
                      exact absurd H (by simp)
                  · rw [if_neg c20] at H
                    have c20b0 : (((rd_T56 l0 x4_1).f0) == 4) = false := beq_eq_false_iff_ne.mpr c20
                    have c20b1 : (((rd_T56 l0 x4_1).f0) != 4) = true := bne_iff_ne.mpr c20
                    by_cases c25 : x3_1.length < 8796093022208
                    · rw [if_pos c25] at H
                      have LMc25 := Aside0.mk c25
                      clear c25
                      obtain ⟨y115, hy115⟩ : ∃ y_ : List (S56), y_ = (x3_1 ++ [(⟨(rd_T56 l0 x4_1).f0, (rd_T56 l0 x4_1).f1⟩ : S56)]) := ⟨_, rfl⟩
                      replace H : (tallymanref05_Reverse.l0 k1 l0 y115 (wrap64 (x4_1 - 1))) = some r := by first | (rw [hy115]; with_reducible exact H) | (have H2_ := (Option.bind_some _ _).symm.trans H; rw [hy115]; with_reducible exact H2_) | (have H2_ := (Option.bind_some _ _).symm.trans H; with_reducible exact H2_) | with_reducible exact H | (rw [hy115]; exact H) | exact H
                      have Ny115 := Aside0.mk hy115
                      clear hy115
                      have H' := Aside0.mk H
                      clear H
                      have p101 : 0 ≤ (x4_1 : Int) := of_decide_eq_true (by first | (with_reducible assumption) | assumption)
                      have q101 : x4_1 < (l0.length : Int) := of_decide_eq_true (by first | (with_reducible assumption) | assumption)
                      obtain ⟨ad101, e101, hx101_0, hx101_1⟩ := at_T56 HR0.out x4_1 p101 q101
                      cases e101
                      replace hx101_0 := (HB.out.cell (World.block_lt_of_cell? w _ hx101_0)).trans hx101_0
                      replace hx101_1 := (HB.out.cell (World.block_lt_of_cell? w _ hx101_1)).trans hx101_1
                      replace p101 := eq_true p101
                      replace q101 := eq_true q101
                      go_wp2_with (first | ((with_reducible refine gate_dst (N := 5) rfl ?_); refine box_event ?hg (N := 5) ?hd (cs := #[.int .i64 0, .int .i64 0]) (t := 56) ?hr ?_; (case hd => rfl); (case hg => rfl); (case hr => first | (go_simp; done) | (go_simp; rfl)); intro gb102 hg w26 hbox hb; have n0_ := Aside0.mk (Kd.R_below (Kd.R_elderB (by (with_reducible repeat (first | apply Kd.R_alloc | apply Kd.R_drewN | apply Kd.R_drew)); exact HO_3.out) gb102 (Nat.le_of_eq hg.symm)) hb); have n1_ := Aside0.mk (below_step (by repeat (first | (with_reducible first | exact HB.out | apply below_alloc | apply pw_below_drewN | apply below_drew1) | exact HB.out)) hb); have n2_ := Aside0.mk (hbox); have n3_ := Aside0.mk ((by rw [hg]; exact (below_size (by repeat (first | (with_reducible first | exact HB.out | apply below_alloc | apply pw_below_drewN | apply below_drew1) | exact HB.out))) : w.heap.size ≤ gb102)); have n4_ := Aside0.mk ((by rw [hg]; exact (below_size (by repeat (first | (with_reducible first | exact HB.out | apply below_alloc | apply pw_below_drewN | apply below_drew1) | exact HB.out))) : w.heap.size ≤ gb102)); clear HO_3; clear HB; have HO_3 := n0_; have HB := n1_; have BK102 := n2_; have GW102 := n3_; have GE102 := n4_; clear n0_ n1_ n2_ n3_ n4_; clear hb hbox hg; have hcz27_0 : w26.cell? ⟨gb102, 0, none⟩ = some (.int .i64 0) := (blk_cell BK102.out 0).trans rfl; have hcz27_1 : w26.cell? ⟨gb102, 1, none⟩ = some (.int .i64 0) := (blk_cell BK102.out 1).trans rfl; have hfz27_0 := blk_frozen BK102.out 0; have hfz27_1 := blk_frozen BK102.out 1) | ((with_reducible refine gate_builtin (b := .append) (xs := #[.tmp 31, .tmp 33]) rfl ?_); at_builtin; refine Kd.R_append k56 (w0 := w) w.heap.size rfl (.tmp 31) (.tmp 33) 41 56 (.agg #[(.int .i64 0), (.int .i64 0)]) 16 rfl Try.underlying41 info56 rfl (by decide) (by omega) u3 x3_1 (⟨(rd_T56 l0 x4_1).f0, (rd_T56 l0 x4_1).f1⟩ : S56) [.int .i64 ((rd_T56 l0 x4_1).f0), .int .i64 ((rd_T56 l0 x4_1).f1)] (fun k_ => k_ ≠ gb102) (fun _ => False) rfl (by first | (go_simp; done) | (go_simp; rfl)) ?aP (fun _ hk => hk.elim) ?aF ?aO ?aB ?aS ?aL ?_; (case aP => exact k56_mkM _ _ _ (⟨(rd_T56 l0 x4_1).f0, (rd_T56 l0 x4_1).f1⟩ : S56)); (case aB => exact (by repeat (first | (with_reducible first | exact HB.out | apply below_alloc | apply pw_below_drewN | apply below_drew1 | refine below_set ?_ GE102.out) | exact HB.out))); (case aF => exact (fun k_ hk => Kd.freshB (g := gb102) (o := .cells #[.int .i64 ((rd_T56 l0 x4_1).f0), .int .i64 ((rd_T56 l0 x4_1).f1)] 56 (0, 0)) (by (with_reducible repeat (first | refine blk_drewN ?_ _ | refine blk_drew ?_ | refine blk_alloc ?_ _)); refine blk_put (cs := #[.int .i64 ((rd_T56 l0 x4_1).f0), .int .i64 0]) ?_ 1 _ rfl; (with_reducible repeat (first | refine blk_drewN ?_ _ | refine blk_drew ?_ | refine blk_alloc ?_ _)); refine blk_put (cs := #[.int .i64 0, .int .i64 0]) ?_ 0 _ rfl; (with_reducible repeat (first | refine blk_drewN ?_ _ | refine blk_drew ?_ | refine blk_alloc ?_ _)); exact BK102.out) k_ hk)); (case aO => exact (by (with_reducible repeat (first | apply Kd.R_alloc | apply Kd.R_drewN | apply Kd.R_drew)); exact Kd.R_mono (Kd.R_far (p := ⟨gb102, 1, none⟩) (Kd.R_far (p := ⟨gb102, 0, none⟩) (Kd.R_mono HO_3.out (fun k_ hk => (⟨hk, hk.2⟩ : _ ∧ k_ ≠ gb102))) (fun _ hk => hk.2) (.int .i64 ((rd_T56 l0 x4_1).f0))) (fun _ hk => hk.2) (.int .i64 ((rd_T56 l0 x4_1).f1))) (fun _ hk => hk.1.2))); (case aS => exact (below_size (by repeat (first | (with_reducible first | exact HB.out | apply below_alloc | apply pw_below_drewN | apply below_drew1 | refine below_set ?_ GE102.out) | exact HB.out)))); (case aL => have := LMc25.out; omega); intro v116 w28 ho hb hg hat; rw [← Ny115.out] at ho; have n0_ := Aside0.mk (blk_grown (g := gb102) (o := .cells #[.int .i64 ((rd_T56 l0 x4_1).f0), .int .i64 ((rd_T56 l0 x4_1).f1)] 56 (0, 0)) (by (with_reducible repeat (first | refine blk_drewN ?_ _ | refine blk_drew ?_ | refine blk_alloc ?_ _)); refine blk_put (cs := #[.int .i64 ((rd_T56 l0 x4_1).f0), .int .i64 0]) ?_ 1 _ rfl; (with_reducible repeat (first | refine blk_drewN ?_ _ | refine blk_drew ?_ | refine blk_alloc ?_ _)); refine blk_put (cs := #[.int .i64 0, .int .i64 0]) ?_ 0 _ rfl; (with_reducible repeat (first | refine blk_drewN ?_ _ | refine blk_drew ?_ | refine blk_alloc ?_ _)); exact BK102.out) hg (Kd.R_away HO_3.out (fun _ hk => hk.2))); have n1_ := Aside0.mk (hb); have n2_ := Aside0.mk (ho); clear BK102; clear HB; clear HO_3; have BK102 := n0_; have HB := n1_; have HO117 := n2_; clear n0_ n1_ n2_; clear ho hb hg hat))
                      go_roundg k1
                      case measure => have := HK1.out; omega
                      case rel => exact ⟨(y115), (wrap64 (x4_1 - 1)), (by first | rfl | (simp; done) | (simp [*]; done)), H', ⟨by have := HK1.out; omega⟩, ⟨by (with_reducible repeat (first | apply Kd.R_alloc | apply Kd.R_drewN | apply Kd.R_drew)); exact Kd.R_mono HO117.out (fun _ hk => trivial)⟩, ⟨by repeat (first | (with_reducible first | exact HB.out | apply below_alloc | apply pw_below_drewN | apply below_drew1 | refine below_set ?_ GE102.out) | exact HB.out)⟩⟩
                    · rw [if_neg c25] at H
                      exact absurd H (by simp)
          · rw [if_neg c4] at H
            exact absurd H (by simp)
        · rw [if_neg c3] at H
          exact absurd H (by simp)
      · rw [if_neg c2] at H
        have c2b0 : decide (0 ≤ x4_1) = false := decide_eq_false c2
        clear c2
        obtain rfl := Option.some.inj H
        go_wp2
        go_ret
        exact ⟨_, by first | rfl | (simp [errW_none, errW_some] <;> rfl) | (simp [*, errW_none, errW_some] <;> rfl), by (with_reducible repeat (first | apply Kd.R_alloc | apply Kd.R_drewN | apply Kd.R_drew)); exact HO_3.out, by repeat (first | (with_reducible first | exact HB.out | apply below_alloc | apply pw_below_drewN | apply below_drew1) | exact HB.out)⟩
end Go.Proofs.Ytpoghhcpoimepaa.P
end
section
/- Walks: the other way round (plain). -/
namespace Go.Proofs.Ytpoghhcpoimepaa.P
open Go.Proofs.Ytpoghhcpoimepaa.B Go.RowKit Go.Proofs.YtpoghhcpoimepaaW.PrintWords Go.Proofs.YtpoghhcpoimepaaW.PrintLast Go.Proofs.YtpoghhcpoimepaaW.PrintMore
set_option linter.unusedVariables false
set_option linter.unusedSimpArgs false
def flipV (m : S56) : S56 := if m.f0 = 1 then ⟨2, m.f1⟩ else if m.f0 = 2 then ⟨1, m.f1⟩ else if m.f0 = 3 then ⟨4, m.f1⟩ else if m.f0 = 4 then ⟨3, m.f1⟩ else m
def revV (l : List S56) : List S56 := l.reverse.map flipV
theorem flip_code (k : Int) (h1 : k ≥ 1) (h4 : k ≤ 4) : wrap64 (Go.bits .xor .i64 (wrap64 (k - 1)) 1 + 1) = (flipV ⟨k, 0⟩).f0 := by
  have hk : k = 1 ∨ k = 2 ∨ k = 3 ∨ k = 4 := by omega
  rcases hk with h | h | h | h <;> subst h <;> decide +kernel
theorem flip_eta (m : S56) (k : Int) (h : (flipV ⟨m.f0, 0⟩).f0 = k) : flipV m = ⟨k, m.f1⟩ := by
  obtain ⟨a, b⟩ := m
  subst h
  unfold flipV
  simp only []
  (repeat' split) <;> rfl
theorem rev_loop (l : List S56) (hl : l.length ≤ 1000) : ∀ (d i : Nat) (acc : List S56), i + d = l.length → acc.length = i → acc ++ (revV l).drop i = revV l → Ev (fun k => walk_Reverse.l0 k l acc (l.length : Int) (i : Int)) (revV l) := by
  have hrl : (revV l).length = l.length := by unfold revV; rw [List.length_map, List.length_reverse]
  intro d
  induction d with
  | zero =>
    intro i acc hi ha he
    rw [List.drop_eq_nil_of_le (by omega), List.append_nil] at he
    rw [he]
    refine Ev.step (fun k => ?_) (Ev.now _)
    rw [walk_Reverse.l0, if_neg (by omega)]
  | succ d ih =>
    intro i acc hi ha he
    have hlt : i < (revV l).length := by omega
    have hlt2 : l.length - 1 - i < l.length := by omega
    rw [List.drop_eq_getElem_cons hlt] at he
    have hgi : (revV l)[i] = flipV l[l.length - 1 - i] := by simp only [revV, List.getElem_map, List.getElem_reverse]
    have ih' := ih (i + 1) (acc ++ [(revV l)[i]]) (by omega) (by rw [List.length_append, ha]; rfl) (by rw [List.append_assoc]; exact he)
    rw [hgi] at ih'
    have e1 : wrap64 (wrap64 ((l.length : Int) - 1) - (i : Int)) = ((l.length - 1 - i : Nat) : Int) := by
      rw [w64_id (x := (l.length : Int) - 1) (by omega) (by omega), w64_id (by omega) (by omega)]
      omega
    have w1 : wrap64 ((i : Int) + 1) = ((i + 1 : Nat) : Int) := by rw [w64_id (by omega) (by omega)]; rfl
    have hr := rd56 l (l.length - 1 - i) hlt2
    refine Ev.step (fun k => by rw [walk_Reverse.l0, if_pos (by omega), e1, if_pos (by omega), if_pos (by omega), hr, w1]) ?_
    generalize l[l.length - 1 - i] = m at *
    by_cases h1 : m.f0 ≥ 1
    · refine Ev.congr (fun k => if_pos h1) ?_
      by_cases h4 : m.f0 ≤ 4
      · refine Ev.congr (fun k => if_pos h4) (Ev.congr (fun k => if_pos (by omega)) ?_)
        rw [flip_code m.f0 h1 h4, ← flip_eta m _ rfl]
        exact ih'
      · refine Ev.congr (fun k => if_neg h4) (Ev.congr (fun k => if_pos (by omega)) ?_)
        rw [show flipV m = m from by unfold flipV; rw [if_neg (by omega), if_neg (by omega), if_neg (by omega), if_neg (by omega)]] at ih'
        exact ih'
    · refine Ev.congr (fun k => if_neg h1) (Ev.congr (fun k => if_pos (by omega)) ?_)
      rw [show flipV m = m from by unfold flipV; rw [if_neg (by omega), if_neg (by omega), if_neg (by omega), if_neg (by omega)]] at ih'
      exact ih'
theorem rev_code (l : List S56) (hl : l.length ≤ 1000) : Ev (fun k => walk_Reverse.f k l) (revV l) := rev_loop l hl l.length 0 [] (by omega) rfl (by rw [List.drop_zero, List.nil_append])
theorem rrev_loop (l : List S56) (hl : l.length ≤ 1000) : ∀ (d i : Nat) (acc : List S56), i + d = l.length → acc.length = i → acc ++ (revV l).drop i = revV l → Ev (fun k => tallymanref05_Reverse.l0 k l acc ((d : Int) - 1)) (revV l) := by
  have hrl : (revV l).length = l.length := by unfold revV; rw [List.length_map, List.length_reverse]
  intro d
  induction d with
  | zero =>
    intro i acc hi ha he
    rw [List.drop_eq_nil_of_le (by omega), List.append_nil] at he
    rw [he]
    refine Ev.step (fun k => ?_) (Ev.now _)
    rw [tallymanref05_Reverse.l0, if_neg (by omega)]
  | succ d ih =>
    intro i acc hi ha he
    have hlt : i < (revV l).length := by omega
    have hlt2 : d < l.length := by omega
    rw [List.drop_eq_getElem_cons hlt] at he
    have hgi : (revV l)[i] = flipV l[d] := by
      simp only [revV, List.getElem_map, List.getElem_reverse]
      congr 2
      omega
    have ih' := ih (i + 1) (acc ++ [(revV l)[i]]) (by omega) (by rw [List.length_append, ha]; rfl) (by rw [List.append_assoc]; exact he)
    rw [hgi] at ih'
    have hr := rd56 l d hlt2
    have e1 : (((d + 1 : Nat) : Int) - 1) = (d : Int) := by omega
    have w1 : wrap64 ((d : Int) - 1) = (d : Int) - 1 := w64_id (by omega) (by omega)
    rw [e1]
    refine Ev.step (fun k => by rw [tallymanref05_Reverse.l0, if_pos (by omega), if_pos (by omega), if_pos (by omega), hr, w1]) ?_
    generalize l[d] = m at *
    unfold flipV at ih'
    by_cases c1 : m.f0 = 1
    · rw [if_pos c1] at ih'; exact Ev.congr (fun k => if_pos c1) (Ev.congr (fun k => if_pos (by omega)) ih')
    rw [if_neg c1] at ih'
    refine Ev.congr (fun k => if_neg c1) ?_
    by_cases c2 : m.f0 = 2
    · rw [if_pos c2] at ih'; exact Ev.congr (fun k => if_pos c2) (Ev.congr (fun k => if_pos (by omega)) ih')
    rw [if_neg c2] at ih'
    refine Ev.congr (fun k => if_neg c2) ?_
    by_cases c3 : m.f0 = 3
    · rw [if_pos c3] at ih'; exact Ev.congr (fun k => if_pos c3) (Ev.congr (fun k => if_pos (by omega)) ih')
    rw [if_neg c3] at ih'
    refine Ev.congr (fun k => if_neg c3) ?_
    by_cases c4 : m.f0 = 4
    · rw [if_pos c4] at ih'; exact Ev.congr (fun k => if_pos c4) (Ev.congr (fun k => if_pos (by omega)) ih')
    rw [if_neg c4] at ih'
    exact Ev.congr (fun k => if_neg c4) (Ev.congr (fun k => if_pos (by omega)) ih')
theorem rrev_ev (l : List S56) (hl : l.length ≤ 1000) : Ev (fun k => tallymanref05_Reverse.f k l) (revV l) := by
  unfold tallymanref05_Reverse.f
  rw [w64_id (by omega) (by omega)]
  exact rrev_loop l hl l.length 0 [] (by omega) rfl (by rw [List.drop_zero, List.nil_append])
end Go.Proofs.Ytpoghhcpoimepaa.P
end
section
/- strings.Builder: WriteByte and WriteString at this dump. -/
namespace Go.Proofs.Ytpoghhcpoimepaa.P
open Go.Shelf Go.RowKit
set_option linter.unusedVariables false
set_option linter.unusedSimpArgs false
set_option maxHeartbeats 1000000 in
set_option maxRecDepth 100000 in
theorem Bw.Builder_copyCheck_used (b : Nat) (w : World) (h0 : w.cell? ⟨b, 0, none⟩ = some (.pointer (some ⟨b, 0, none⟩))) :
    Calls Try.prog 90 #[.pointer (some ⟨b, 0, none⟩)] w fun e w' => e = .returned (.tuple #[]) ∧ w' = w := by
  obtain ⟨j, hj, _⟩ := Option.map_eq_some_iff.1 (show (Try.prog.info? 76).map (·.size) = some 2 by kernel_rfl)
  go_enter Try.func90, Try.ntmps90
  go_wp2
  rw [Lib.run_neq_ptr_same w _ Try.underlying73 hj]
  go_wp2
  go_end0
  exact ⟨rfl, rfl⟩
set_option maxHeartbeats 1000000 in
set_option maxRecDepth 100000 in
theorem Bw.Builder_copyCheck_fresh (b : Nat) (w : World) (h0 : w.cell? ⟨b, 0, none⟩ = some (.pointer none)) (hsh : w.shape? b = some (76, 2)) (hfz : w.frozen? ⟨b, 0, none⟩ = false) :
    Calls Try.prog 90 #[.pointer (some ⟨b, 0, none⟩)] w fun e w' => e = .returned (.tuple #[]) ∧ w' = w.setCell ⟨b, 0, none⟩ (.pointer (some ⟨b, 0, none⟩)) := by
  obtain ⟨j, hj, hjs⟩ := Option.map_eq_some_iff.1 (show (Try.prog.info? 76).map (·.size) = some 2 by kernel_rfl)
  go_enter Try.func90, Try.ntmps90
  go_wp2
  rw [Lib.run_to_unsafe w ⟨b, 0, none⟩ Try.underlying73 Try.underlying123 hj (by rw [hjs]; decide) hsh (Nat.zero_lt_succ 1)]
  simp only [Result.andThen]
  rw [Oper.upon_value]
  go_wp2
  rw [run_callFunc_extern Try.func98 (by kernel_rfl) (by kernel_rfl) (by kernel_rfl) (e := Extern.AbiNoEscape.same) (by kernel_rfl)]
  rw [Lib.run_noEscape]
  simp only [Result.andThen]
  rw [Oper.upon_value]
  go_wp2
  rw [Lib.run_from_unsafe w ⟨b, 0, none⟩ Try.underlying123 Try.underlying73 hj hsh (show liesAt Try.prog Try.prog.depth 76 (2 / Try.prog.cellsOf 76) 0 76 1 = true by kernel_rfl)]
  simp only [Result.andThen]
  rw [Oper.upon_value]
  go_wp2
  go_end0
  exact ⟨rfl, rfl⟩
theorem Bw.Builder_copyCheck (B b : Nat) (bs : List Value) (w : World) (h : Lib.IsBuilder 76 5 B b bs w) :
    Calls Try.prog 90 #[.pointer (some ⟨b, 0, none⟩)] w fun e w' => e = .returned (.tuple #[]) ∧ (Lib.BuilderAt 76 5 B b (.pointer (some ⟨b, 0, none⟩)) bs w' ∧ Below B w w') := by
  rcases h with h | h
  · refine (Bw.Builder_copyCheck_fresh b w h.cell0 h.shape h.frozen0).mono ?_
    rintro e w' ⟨rfl, rfl⟩
    exact ⟨rfl, h.used _, (Below.refl B w).setCell (p := ⟨b, 0, none⟩) h.1 _⟩
  · refine (Bw.Builder_copyCheck_used b w h.cell0).mono ?_
    rintro e w' ⟨rfl, rfl⟩
    exact ⟨rfl, h, Below.refl B _⟩
set_option maxHeartbeats 2000000 in
set_option maxRecDepth 100000 in
theorem Bw.Builder_WriteByte (B b : Nat) (bs : List Value) (c : Int) (w : World) (h : Lib.IsBuilder 76 5 B b bs w) (hlen : bs.length + 1 ≤ 140737488355328) (hBw : B ≤ w.heap.size) :
    Calls Try.prog 61 #[.pointer (some ⟨b, 0, none⟩), .int .u8 c] w fun e w' => e = .returned .nilIface ∧ (Lib.BuilderAt 76 5 B b (.pointer (some ⟨b, 0, none⟩)) (bs ++ [.int .u8 c]) w' ∧ Below B w w') := by
  obtain ⟨i0, hi, hz0, hz1, hz2⟩ := info_parts (show (Try.prog.info? 5).map (fun i => (i.zero, i.size, i.bytes)) = some (some (.int .u8 0), 1, 1) by kernel_rfl)
  have e240 : ∀ args w, (callFunc 90 args).run Try.prog w = .ok (.enter 90 args) w := enters_of Try.func90 (by kernel_rfl) rfl
  go_enter Try.func61, Try.ntmps61
  go_wp2_with (go_at_fn 90; refine (Bw.Builder_copyCheck B b bs _ h).mono ?_)
  rintro e w1 ⟨rfl, h1, hb1⟩
  obtain ⟨hB, v, hbk, hown, hne⟩ := h1
  have c0 : w1.cell? ⟨b, 0, none⟩ = some (.pointer (some ⟨b, 0, none⟩)) := by rw [Lib.cell_of_heap hbk]; rfl
  have c1 : w1.cell? ⟨b, 1, none⟩ = some v := by rw [Lib.cell_of_heap hbk]; rfl
  go_wp2_with (at_builtin; refine wpList_append_own _ rfl _ _ 74 rfl B 5 i0 (.int .u8 0) 1 1 Try.underlying74 hi hz0 hz1 hz2 rfl (by decide) _ _ _ rfl (hown.alloc _) ⟨w1.heap.size, 0, none⟩ 1 1 [.int .u8 c] rfl rfl ?c1 ?c2 ?c3 ?c4 ?c5 ?_)
  case c1 =>
    intro j u hj
    match j, hj with
    | 0, hj => simp at hj; subst hj; simp [Addr.add]
  case c2 => intro u hu; simp at hu; subst hu; rfl
  case c3 => unfold maxLen; omega
  case c4 => omega
  case c5 => have := hb1.size; simp; omega
  intro v' w2 hown' hgrow _
  have hlt : b < w1.heap.size := by
    rcases Nat.lt_or_ge b w1.heap.size with h' | h'
    · exact h'
    · simp [Array.getElem?_eq_none h'] at hbk
  have hb2 : w2.heap[b]? = some (.cells #[.pointer (some ⟨b, 0, none⟩), v] 76 (0, 0)) := by
    rw [hgrow.block b (by simp; omega) (fun e => hne e.symm), Lib.alloc_old w1 _ b hlt]
    exact hbk
  have d0 : w2.cell? ⟨b, 0, none⟩ = some (.pointer (some ⟨b, 0, none⟩)) := by rw [Lib.cell_of_heap hb2]; rfl
  have d1 : w2.cell? ⟨b, 1, none⟩ = some v := by rw [Lib.cell_of_heap hb2]; rfl
  have f1 : w2.frozen? ⟨b, 1, none⟩ = false := Lib.frozen_of_heap hb2 1
  obtain ⟨g, cap, rfl⟩ : ∃ g cap, v' = .slice (some ⟨g, 0, none⟩) (bs.length + 1) cap := by
    rcases hown'.2 with ⟨_, h0⟩ | ⟨g, cap, cur, hv, _⟩
    · omega
    · exact ⟨g, cap, hv⟩
  go_wp2
  go_ret
  refine ⟨rfl, ?_, ?_⟩
  · exact Lib.BuilderAt.put (T := 76) (e := 5) hB hb2 (bs' := bs ++ [.int .u8 c]) (by simpa using hown') (by decide)
  · exact ((hb1.alloc (by have := hb1.size; omega) _).grown hgrow (by have := hb1.size; simp; omega) (fun k hk => (hown.lt k hk).1)).setCell (p := ⟨b, 1, none⟩) hB _
set_option maxHeartbeats 2000000 in
set_option maxRecDepth 100000 in
theorem Bw.Builder_WriteString (B b : Nat) (bs : List Value) (s : ByteArray) (w : World) (h : Lib.IsBuilder 76 5 B b bs w) (hlen : bs.length + s.size ≤ 140737488355328) (hBw : B ≤ w.heap.size) :
    Calls Try.prog 62 #[.pointer (some ⟨b, 0, none⟩), .string s] w fun e w' => e = .returned (.tuple #[.int .i64 s.size, .nilIface]) ∧ (Lib.BuilderAt 76 5 B b (.pointer (some ⟨b, 0, none⟩)) (bs ++ Lib.strCells s) w' ∧ Below B w w') := by
  obtain ⟨i0, hi, hz0, hz1, hz2⟩ := info_parts (show (Try.prog.info? 5).map (fun i => (i.zero, i.size, i.bytes)) = some (some (.int .u8 0), 1, 1) by kernel_rfl)
  have e240 : ∀ args w, (callFunc 90 args).run Try.prog w = .ok (.enter 90 args) w := enters_of Try.func90 (by kernel_rfl) rfl
  go_enter Try.func62, Try.ntmps62
  go_wp2_with (go_at_fn 90; refine (Bw.Builder_copyCheck B b bs _ h).mono ?_)
  rintro e w1 ⟨rfl, h1, hb1⟩
  obtain ⟨hB, v, hbk, hown, hne⟩ := h1
  have c0 : w1.cell? ⟨b, 0, none⟩ = some (.pointer (some ⟨b, 0, none⟩)) := by rw [Lib.cell_of_heap hbk]; rfl
  have c1 : w1.cell? ⟨b, 1, none⟩ = some v := by rw [Lib.cell_of_heap hbk]; rfl
  go_wp2_with (at_builtin; refine Lib.wpList_append_own_string _ rfl _ _ 74 9 rfl B 5 i0 Try.underlying74 Try.underlying9 hi hz0 hz1 hz2 _ _ _ rfl hown s rfl ?c3 ?c4 ?c5 ?_)
  case c3 => unfold maxLen; omega
  case c4 => omega
  case c5 => have := hb1.size; omega
  intro v' w2 hown' hgrow _
  have hlt : b < w1.heap.size := by
    rcases Nat.lt_or_ge b w1.heap.size with h' | h'
    · exact h'
    · simp [Array.getElem?_eq_none h'] at hbk
  have hb2 : w2.heap[b]? = some (.cells #[.pointer (some ⟨b, 0, none⟩), v] 76 (0, 0)) := by
    rw [hgrow.block b hlt (fun e => hne e.symm)]
    exact hbk
  have d0 : w2.cell? ⟨b, 0, none⟩ = some (.pointer (some ⟨b, 0, none⟩)) := by rw [Lib.cell_of_heap hb2]; rfl
  have d1 : w2.cell? ⟨b, 1, none⟩ = some v := by rw [Lib.cell_of_heap hb2]; rfl
  have f1 : w2.frozen? ⟨b, 1, none⟩ = false := Lib.frozen_of_heap hb2 1
  obtain ⟨ao, n', cap, rfl⟩ : ∃ ao n' cap, v' = .slice ao n' cap := by
    rcases hown'.2 with ⟨hv, _⟩ | ⟨g, cap, cur, hv, _⟩
    · exact ⟨_, _, _, hv⟩
    · exact ⟨_, _, _, hv⟩
  go_wp2
  go_ret2
  refine ⟨rfl, ?_, ?_⟩
  · exact Lib.BuilderAt.put (T := 76) (e := 5) hB hb2 (bs' := bs ++ Lib.strCells s) (by simpa [Lib.strCells_length] using hown') (by decide)
  · exact (hb1.grown hgrow (by have := hb1.size; omega) (fun k hk => (hown.lt k hk).1)).setCell (p := ⟨b, 1, none⟩) hB _
end Go.Proofs.Ytpoghhcpoimepaa.P
end
section
/-
  DERIVED: THE SHELF's CONTRACTS AT THIS DUMP, IN PLAIN WORDS (tools/lay-plain.mjs out of 'TryShelf.lean', which tools/lay-shelf.mjs wrote): THE SAME DECLARATIONS UNDER THE SAME NAMES: 'import', 'namespace', 'open', 'def', 'theorem' AND NOTHING ELSE: no command of the shelf's: FOR A HAND-IN. Each laying: the table of numbers ('.._ren') and one theorem, a field a fact of the dump's own or the kernel's comparison; each contract: ONE APPLICATION.
-/
namespace Go.Proofs
open Go.Shelf Go.RowKit
def Try.lays169_ren : Go.Shelf.Ren := ⟨fun | 169 => 64 | n => n, fun | 70 => 73 | 9 => 9 | 0 => 0 | 72 => 76 | 37 => 74 | 127 => 118 | 3 => 3 | 5 => 5 | n => n, fun | n => n⟩
theorem Try.lays169 : Go.Proofs.Lays.n169 Try.prog Try.lays169_ren := {
  mixed := by kernel_rfl
  f169 := Try.func64.trans (congrArg some (by kernel_rfl))
  t0 := Try.underlying0
  a0 := Try.isAgg0
  z0 := Try.sizeOf0
  v0 := Try.zeroValue0
  t3 := Try.underlying3
  a3 := Try.isAgg3
  z3 := Try.sizeOf3
  v3 := Try.zeroValue3
  t9 := Try.underlying9
  a9 := Try.isAgg9
  z9 := Try.sizeOf9
  v9 := Try.zeroValue9
  t37 := Try.underlying74
  a37 := Try.isAgg74
  z37 := Try.sizeOf74
  v37 := Try.zeroValue74
  t70 := Try.underlying73
  a70 := Try.isAgg73
  z70 := Try.sizeOf73
  v70 := Try.zeroValue73
  t72 := Try.underlying76
  a72 := Try.isAgg76
  z72 := Try.sizeOf76
  v72 := Try.zeroValue76
  t127 := Try.underlying118
  a127 := Try.isAgg118
  z127 := Try.sizeOf118
  v127 := Try.zeroValue118 }
theorem Try.Builder_Extra_169 : Builder.Extra Try.prog Try.lays169_ren := {
  sizeBuilder := by kernel_rfl
  liesBuilder := by kernel_rfl
  t5 := Try.underlying5
  a5 := Try.isAgg5
  z5 := Try.sizeOf5
  v5 := Try.zeroValue5
  infoByte := by kernel_rfl
  cellsByte := by kernel_rfl
  sizeByte := by kernel_rfl
  neB5 := by decide }
/-- (*strings.Builder).String: "String returns the accumulated string.": WHATEVER THE BUILDER HOLDS. (LAID: no walk: one application.) -/
theorem Try.Builder_String_any (B b : Nat) (l : List UInt8) (w : World) (h : Lib.IsBuilder 76 5 B b (Lib.byteCells l) w) (hBw : B ≤ w.heap.size) :
    Calls Try.prog 64 #[.pointer (some ⟨b, 0, none⟩)] w fun e w' => e = .returned (.string ⟨l.toArray⟩) ∧ Below B w w' := Any.Builder_String_any Try.lays169 Try.Builder_Extra_169 B b l w h hBw
def Try.lays137_ren : Go.Shelf.Ren := ⟨fun | 137 => 57 | 217 => 89 | 266 => 97 | n => n, fun | 9 => 9 | 5 => 5 | 3 => 3 | n => n, fun | n => n⟩
theorem Try.lays137 : Go.Proofs.Lays.n137 Try.prog Try.lays137_ren := {
  mixed := by kernel_rfl
  f137 := Try.func57.trans (congrArg some (by kernel_rfl))
  f217 := Try.func89.trans (congrArg some (by kernel_rfl))
  f266 := Try.func97.trans (congrArg some (by kernel_rfl))
  t3 := Try.underlying3
  a3 := Try.isAgg3
  z3 := Try.sizeOf3
  v3 := Try.zeroValue3
  t5 := Try.underlying5
  a5 := Try.isAgg5
  z5 := Try.sizeOf5
  v5 := Try.zeroValue5
  t9 := Try.underlying9
  a9 := Try.isAgg9
  z9 := Try.sizeOf9
  v9 := Try.zeroValue9 }
/-- strings.IndexByte: "IndexByte returns the index of the first instance of c in s, or -1 if c is not present in s.": IT RETURNS 'Lib.indexByte s c'; the world is as it was. (LAID: no walk: one application.) -/
theorem Try.strings_IndexByte (s : ByteArray) (c : Int) (w : World) :
    Calls Try.prog 57 #[.string s, .int .u8 c] w fun e w' => e = .returned (.int .i64 (Lib.indexByte s.data.toList c.toNat.toUInt8)) ∧ w' = w := Any.strings_IndexByte Try.lays137 s c w
end Go.Proofs
end
section
/- walk.Text. -/
namespace Go.Proofs.Ytpoghhcpoimepaa.P
open Go.Proofs.Ytpoghhcpoimepaa.B Go.RowKit Go.Proofs.YtpoghhcpoimepaaW.PrintWords Go.Proofs.YtpoghhcpoimepaaW.PrintLast Go.Proofs.YtpoghhcpoimepaaW.PrintMore
set_option linter.unusedVariables false
set_option linter.unusedSimpArgs false
theorem isB_keep {B b : Nat} {bs : List Value} {w w' : World} (h : Lib.IsBuilder 76 5 B b bs w) (hb : Below w.heap.size w w') : Lib.IsBuilder 76 5 B b bs w' := by
  rcases h with ⟨h1, v, h2, h3, h4⟩ | ⟨h1, v, h2, h3, h4⟩
  · exact .inl ⟨h1, v, blk_keep h2 hb, pw_own_below h3 hb, h4⟩
  · exact .inr ⟨h1, v, blk_keep h2 hb, pw_own_below h3 hb, h4⟩
theorem isB_new (w : World) : Lib.IsBuilder 76 5 w.heap.size w.heap.size (Lib.byteCells []) (w.alloc (.cells #[.pointer none, .slice none 0 0] 76)) :=
  .inl ⟨Nat.le_refl _, _, blk_new w _, own_nil _ _ _ _, by intro h; simp [Value.ownBlock] at h⟩
def TextPost (w : World) (l : List S56) (e : Ending) (w' : World) : Prop := e = .returned (.string ⟨(textS l).toArray⟩) ∧ Below w.heap.size w w'
set_option maxHeartbeats 2000000 in
set_option maxRecDepth 100000 in
theorem text_calls (A : Option Addr) (c : Nat) (l : List S56) (w : World) (hC : Kd.C k56 w A l.length l) (hl : l.length ≤ 1000000) : Calls Try.prog 31 #[.slice A l.length c] w (TextPost w l) := by
  have HC := Aside0.mk hC; clear hC
  go_enter Try.func31, Try.ntmps31
  go_wp2
  go_loopw [9] (fun v wr => ∃ i : Nat, i ≤ l.length ∧ v = .int .i64 i ∧ Aside0 (Lib.IsBuilder 76 5 w.heap.size w.heap.size (Lib.byteCells (textS (l.take i))) wr) ∧ Aside0 (Below w.heap.size w wr)) (fun v _ => l.length - (intOf v).toNat)
  case atStart => exact ⟨0, by omega, rfl, ⟨isB_new w⟩, ⟨below_alloc (Below.refl _ _) _⟩⟩
  case round =>
    obtain ⟨i, hi, rfl, HI, HB⟩ := hrel
    by_cases hlt : i < l.length
    · obtain ⟨ad, hA, x0, x1⟩ := at_T56 (Kd.C_below HC.out HB.out) (i : Int) (by omega) (by omega)
      subst hA
      rw [Int.toNat_natCast, rd56 l i hlt] at x0 x1
      have HT := Aside0.mk (take_more l i hlt)
      have HW := Aside0.mk (textS_snoc l[i] (l.take i))
      have HL := Aside0.mk (show (textS (l.take i)).length ≤ 66000000 by have := textS_len (l.take i); rw [List.length_take] at this; omega)
      obtain ⟨k, hk⟩ : ∃ k, l[i].f0 = k := ⟨_, rfl⟩
      obtain ⟨n, hn⟩ : ∃ n, l[i].f1 = n := ⟨_, rfl⟩
      rw [hk] at x0
      rw [hn] at x1
      have HW := Aside0.mk (by have := HW.out; rw [hk, hn] at this; exact this)
      clear hk hn
      have hof := often_v k n
      have HKD := Aside0.mk (ofV_kind (k := k) (n := n))
      have HLE := Aside0.mk (ofV_le k n)
      obtain ⟨v, hv⟩ : ∃ v, ofV k n = v := ⟨_, rfl⟩
      rw [hv] at hof
      have HOF := Aside0.mk hof; clear hof
      by_cases hv0 : v = 0
      · subst hv0
        have HW2 := Aside0.mk (show textS (l.take (i + 1)) = textS (l.take i) by rw [HT.out, HW.out, mvS, if_pos hv, List.append_nil])
        clear HW HT hv HKD HLE HL
        go_wp2_with (go_at_call 60; (with_reducible refine (walk_often.calls k n _ _ HOF.out).mono ?_); rintro e w1 ⟨rfl, hb1⟩; have HB1 := Aside0.mk (below_step (below_alloc HB.out (.cells #[.int .i64 k, .int .i64 n] 56)) hb1); have HI1 := Aside0.mk (isB_keep (isB_keep HI.out (below_alloc (Below.refl wr.heap.size wr) (.cells #[.int .i64 k, .int .i64 n] 56))) hb1); clear hb1)
        go_roundw
        case rel => exact ⟨i + 1, by omega, by go_num, ⟨by rw [HW2.out]; exact HI1.out⟩, HB1⟩
        case measure => simp [intOf]; omega
      · obtain ⟨hk1, hk4⟩ := HKD.out (by rw [hv]; exact hv0)
        obtain ⟨K, rfl⟩ : ∃ K : Nat, k = (K : Int) := ⟨k.toNat, by omega⟩
        have hv0' : ((v : Int) == 0) = false := by simp; omega
        have hK5 : K < (⟨#[32, 70, 66, 76, 82]⟩ : ByteArray).size := by show K < 5; omega
        have HLT := Aside0.mk (ltr_at K (by omega) (by omega) hK5)
        by_cases hv1 : v = 1
        · subst hv1
          have HW2 := Aside0.mk (show textS (l.take (i + 1)) = textS (l.take i) ++ [ltr K] by rw [HT.out, HW.out, mvS, if_neg (by omega), if_pos hv])
          clear HW HT hv HKD HLE
          go_wp2_with (first | (go_at_call 60; (with_reducible refine (walk_often.calls K n _ _ HOF.out).mono ?_); rintro e w1 ⟨rfl, hb1⟩; have bk1 := blk_keep (blk_new wr (.cells #[.int .i64 K, .int .i64 n] 56)) hb1; have hc0 := blk_cell bk1 0; have HB1 := Aside0.mk (below_step (below_alloc HB.out (.cells #[.int .i64 K, .int .i64 n] 56)) hb1); have HI1 := Aside0.mk (isB_keep (isB_keep HI.out (below_alloc (Below.refl wr.heap.size wr) (.cells #[.int .i64 K, .int .i64 n] 56))) hb1); clear hb1 bk1) | (go_at_call 61; (with_reducible refine (Bw.Builder_WriteByte _ _ _ _ _ HI1.out (by rw [Lib.byteCells_length]; have := HL.out; omega) HB1.out.size).mono ?_); rintro e w2 ⟨rfl, hI2, hb2⟩; rw [HLT.out] at hI2; have HB2 := Aside0.mk (HB1.out.trans hb2); have HI2 := Aside0.mk (show Lib.IsBuilder 76 5 w.heap.size w.heap.size _ w2 from .inr hI2); clear hI2 hb2))
          go_roundw
          case rel => exact ⟨i + 1, by omega, by go_num, ⟨by rw [HW2.out, Lib.byteCells_append]; exact HI2.out⟩, HB2⟩
          case measure => simp [intOf]; omega
        · have HW2 := Aside0.mk (show textS (l.take (i + 1)) = textS (l.take i) ++ ([ltr K] ++ printS v) by rw [HT.out, HW.out, mvS, if_neg (by omega), if_neg (by omega), hv]; rfl)
          have hv1' : decide ((v : Int) > 1) = true := decide_eq_true (by omega)
          have hv1n : decide (1 < v) = true := decide_eq_true (by omega)
          have HPR := Aside0.mk (print_code (v : Int) (by omega) (by have := HLE.out; omega))
          clear HW HT hv HKD HLE
          go_wp2_with (first | (go_at_call 60; (with_reducible refine (walk_often.calls K n _ _ HOF.out).mono ?_); rintro e w1 ⟨rfl, hb1⟩; have bk1 := blk_keep (blk_new wr (.cells #[.int .i64 K, .int .i64 n] 56)) hb1; have hc0 := blk_cell bk1 0; have HB1 := Aside0.mk (below_step (below_alloc HB.out (.cells #[.int .i64 K, .int .i64 n] 56)) hb1); have HI1 := Aside0.mk (isB_keep (isB_keep HI.out (below_alloc (Below.refl wr.heap.size wr) (.cells #[.int .i64 K, .int .i64 n] 56))) hb1); clear hb1 bk1) | (go_at_call 61; (with_reducible refine (Bw.Builder_WriteByte _ _ _ _ _ HI1.out (by rw [Lib.byteCells_length]; have := HL.out; omega) HB1.out.size).mono ?_); rintro e w2 ⟨rfl, hI2, hb2⟩; rw [HLT.out] at hI2; have HB2 := Aside0.mk (HB1.out.trans hb2); have HI2 := Aside0.mk (show Lib.IsBuilder 76 5 w.heap.size w.heap.size _ w2 from .inr hI2); clear hI2 hb2) | (go_at_call 63; (with_reducible refine (num_Print.calls _ _ _ HPR.out).mono ?_); rintro e w3 ⟨rfl, hb3⟩; have HB3 := Aside0.mk (below_step HB2.out hb3); have HI3 := Aside0.mk (isB_keep HI2.out hb3); clear hb3) | (go_at_call 62; (with_reducible refine (Bw.Builder_WriteString _ _ _ _ _ HI3.out (by rw [List.length_append, Lib.byteCells_length, size_l]; have h1 := HL.out; have h2 := printS_len (v : Int); simp only [List.length_cons, List.length_nil]; omega) HB3.out.size).mono ?_); rintro e w4 ⟨rfl, hI4, hb4⟩; have HB4 := Aside0.mk (HB3.out.trans hb4); have HI4 := Aside0.mk (show Lib.IsBuilder 76 5 w.heap.size w.heap.size _ w4 from .inr hI4); clear hI4 hb4))
          go_roundw
          case rel => exact ⟨i + 1, by omega, by go_num, ⟨by rw [HW2.out, Lib.byteCells_append, Lib.byteCells_append, ← List.append_assoc]; exact HI4.out⟩, HB4⟩
          case measure => simp [intOf]; omega
    · obtain rfl : i = l.length := by omega
      have HI2 := Aside0.mk (by have := HI.out; rw [List.take_length] at this; exact this)
      go_wp2_with (go_at_call 64; (with_reducible refine (Try.Builder_String_any _ _ _ _ HI2.out HB.out.size).mono ?_); rintro e w1 ⟨rfl, hb1⟩; have HB1 := Aside0.mk (HB.out.trans hb1); clear hb1)
      go_ret
      exact ⟨rfl, HB1.out⟩
def walk_Text.f (l0 : List (S56)) : Option (ByteArray) := if l0.length ≤ 1000000 then some ⟨(textS l0).toArray⟩ else none
theorem walk_Text.calls (A0 : Option Addr) (c0 : Nat) (l0 : List (S56)) (r : ByteArray) (w : World) (hr0 : Kd.C k56 w A0 l0.length l0) (hc0 : l0.length ≤ c0) (h : walk_Text.f l0 = some r) :
    Calls Try.prog 31 #[.slice A0 l0.length c0] w fun e w' => e = .returned (.string r) ∧ Below w.heap.size w w' := by
  unfold walk_Text.f at h
  split at h
  · rename_i hl
    obtain rfl := Option.some.inj h
    exact text_calls A0 c0 l0 w hr0 hl
  · cases h
end Go.Proofs.Ytpoghhcpoimepaa.P
end
section
/- A scope with two labels, to which the run jumps back. -/
namespace Go.Proofs.Ytpoghhcpoimepaa.H
/-- As Q; by a goto to label l: J l. -/
def Exit.jumps (J : Nat → Act → World → Prop) (Q : Exit → Act → World → Prop) : Exit → Act → World → Prop
  | .goto l', a, w => J l' a w
  | e, a, w => Q e a w
def ScopeGoL (P : Program) (c : Code) (Q : Exit → Act → World → Prop) (l : Nat) (a : Act) (w : World) : Prop := ∃ rest, findLabel c l = some rest ∧ ScopeGo P c rest Q a w
section
variable {P : Program} {a : Act} {w : World} {Q : Exit → Act → World → Prop}
theorem wp_scope_enter2 {c : Code} (h : c.wp P (Exit.jumps (ScopeGoL P c Q) Q) a w) : (Code.scope c).wp P Q a w := by
  intro b k cs
  obtain ⟨e, a₁, w₁, hq, harr⟩ := h b (.inScope c :: k) cs
  cases e with
  | normal => exact ⟨.normal, a₁, w₁, hq, .head step_scope (Steps.trans harr (.one step_inScope))⟩
  | exit id => exact ⟨.exit id, a₁, w₁, hq, fun k' hk => .head step_scope (harr k' (by simp [exitTo, hk]))⟩
  | goto l' =>
    obtain ⟨rest, hf, hJ'⟩ := hq
    have hg : gotoIn l' (.inScope c :: k) = some (.code rest :: .inScope c :: k) := by simp [gotoIn, hf]
    obtain ⟨e₂, a₂, w₂, hq₂, harr₂⟩ := hJ' b k cs
    exact ⟨e₂, a₂, w₂, hq₂, .of_steps (.head step_scope (harr _ hg)) harr₂⟩
  | ret => exact ⟨_, a₁, w₁, hq, .of_steps (.one step_scope) harr⟩
  | panic ch => exact ⟨_, a₁, w₁, hq, .of_steps (.one step_scope) harr⟩
  | outgrown => exact ⟨_, a₁, w₁, hq, .of_steps (.one step_scope) harr⟩
theorem scopeGoL_of {c : Code} (I : Nat → Nat → Act → World → Prop)
    (pass : ∀ l n a w, I l n a w → ∃ rest, findLabel c l = some rest ∧ rest.wp P (Exit.jumps (fun l' a' w' => ∃ n', n' < n ∧ I l' n' a' w') Q) a w) : ∀ n l a w, I l n a w → ScopeGoL P c Q l a w := by
  intro n
  induction n using Nat.strongRecOn with
  | _ n ih =>
    intro l a w hI
    obtain ⟨rest, hf, hp⟩ := pass l n a w hI
    refine ⟨rest, hf, fun b k cs => ?_⟩
    obtain ⟨e, a₁, w₁, hq, harr⟩ := hp b (.inScope c :: k) cs
    cases e with
    | normal => exact ⟨.normal, a₁, w₁, hq, Steps.trans harr (.one step_inScope)⟩
    | exit id => exact ⟨.exit id, a₁, w₁, hq, fun k' hk => harr k' (by simp [exitTo, hk])⟩
    | goto l' =>
      obtain ⟨n', hlt, hJ'⟩ := hq
      obtain ⟨rest', hf', hgo⟩ := ih n' hlt l' a₁ w₁ hJ'
      have hg : gotoIn l' (.inScope c :: k) = some (.code rest' :: .inScope c :: k) := by simp [gotoIn, hf']
      obtain ⟨e₂, a₂, w₂, hq₂, harr₂⟩ := hgo b k cs
      exact ⟨e₂, a₂, w₂, hq₂, .of_steps (harr _ hg) harr₂⟩
    | ret => exact ⟨_, a₁, w₁, hq, harr⟩
    | panic ch => exact ⟨_, a₁, w₁, hq, harr⟩
    | outgrown => exact ⟨_, a₁, w₁, hq, harr⟩
theorem jumps_mono {J J' : Nat → Act → World → Prop} (h : ∀ l a w, J l a w → J' l a w) (e : Exit) (a : Act) (w : World) (hq : Exit.jumps J Q e a w) : Exit.jumps J' Q e a w := by
  cases e with
  | goto l' => exact h _ _ _ hq
  | normal => exact hq
  | exit id => exact hq
  | ret => exact hq
  | panic ch => exact hq
  | outgrown => exact hq
def lab2 (R0 R1 : Nat → Act → World → Prop) : Nat → Nat → Act → World → Prop
  | 0 => R0
  | 1 => R1
  | _ => fun _ _ _ => False
/-- At the first label of two: ds: the slots that the code behind it writes. -/
theorem wp_labels2 {c X0 X1 : Code} (h0 : findLabel c 0 = some (.seq .skip X0)) (h1 : findLabel c 1 = some (.seq .skip X1)) (ds : List Tmp) (R0 R1 : Nat → List Value → World → Prop) (n₀ : Nat) (start : R0 n₀ (ds.map fun d => a.tmps.getD d undef) w)
    (round1 : ∀ n us w, us.length = ds.length → R1 n us w → ∀ (J0 J1 : Nat → Act → World → Prop) (K : Nat → Act → World → Prop),
      (∀ k us' a' w', us'.length = ds.length → putS a ds us' = a' → R0 k us' w' → J0 k a' w') → (∀ k us' a' w', us'.length = ds.length → putS a ds us' = a' → R1 k us' w' → J1 k a' w') →
      (∀ k a' w', k < n → J0 k a' w' → K 0 a' w') → (∀ k a' w', k < n → J1 k a' w' → K 1 a' w') → X1.wp P (Exit.jumps K Q) (putS a ds us) w)
    (round0 : ∀ n us w, us.length = ds.length → R0 n us w → ∀ (J0 J1 : Nat → Act → World → Prop) (K : Nat → Act → World → Prop),
      (∀ k us' a' w', us'.length = ds.length → putS a ds us' = a' → R0 k us' w' → J0 k a' w') → (∀ k us' a' w', us'.length = ds.length → putS a ds us' = a' → R1 k us' w' → J1 k a' w') →
      (∀ k a' w', k < n → J0 k a' w' → K 0 a' w') → (∀ k a' w', k < n → J1 k a' w' → K 1 a' w') → (∀ k a' w', k ≤ n → J1 k a' w' → X1.wp P (Exit.jumps K Q) a' w') → X0.wp P (Exit.jumps K Q) (putS a ds us) w) :
    X0.wp P (Exit.jumps (ScopeGoL P c Q) Q) a w := by
  let S := fun (R : Nat → List Value → World → Prop) (n : Nat) (a' : Act) (w' : World) => ∃ us, us.length = ds.length ∧ a' = putS a ds us ∧ R n us w'
  let I := lab2 (S R0) (S R1)
  have hp1 : ∀ n a' w', S R1 n a' w' → X1.wp P (Exit.jumps (fun l a'' w'' => ∃ n', n' < n ∧ I l n' a'' w'') Q) a' w' := by
    rintro n _ w ⟨us, hl, rfl, hR⟩
    exact round1 n us w hl hR (S R0) (S R1) _ (fun k us' a' w' hl' ha hR' => ⟨us', hl', ha.symm, hR'⟩) (fun k us' a' w' hl' ha hR' => ⟨us', hl', ha.symm, hR'⟩) (fun k a' w' hk h => ⟨k, hk, h⟩) (fun k a' w' hk h => ⟨k, hk, h⟩)
  have hp0 : ∀ n a' w', S R0 n a' w' → X0.wp P (Exit.jumps (fun l a'' w'' => ∃ n', n' < n ∧ I l n' a'' w'') Q) a' w' := by
    rintro n _ w ⟨us, hl, rfl, hR⟩
    refine round0 n us w hl hR (S R0) (S R1) _ (fun k us' a' w' hl' ha hR' => ⟨us', hl', ha.symm, hR'⟩) (fun k us' a' w' hl' ha hR' => ⟨us', hl', ha.symm, hR'⟩) (fun k a' w' hk h => ⟨k, hk, h⟩) (fun k a' w' hk h => ⟨k, hk, h⟩) (fun k a' w' hk h => ?_)
    exact wp_mono (hp1 k a' w' h) (jumps_mono fun l a w ⟨n', hn, hI⟩ => ⟨n', by omega, hI⟩)
  have hall := scopeGoL_of (P := P) (Q := Q) (c := c) I (fun l n a' w' hI => by
    match l, hI with
    | 0, hI => exact ⟨_, h0, wp_skip_seq (hp0 n a' w' hI)⟩
    | 1, hI => exact ⟨_, h1, wp_skip_seq (hp1 n a' w' hI)⟩)
  refine wp_mono (hp0 n₀ a w ⟨_, by simp, (putS_self a ds).symm, start⟩) (jumps_mono fun l a w ⟨n', hn, hI⟩ => hall n' l a w hI)
end
end Go.Proofs.Ytpoghhcpoimepaa.H
end
section
-- printed by the session's own call of print.py. Not trusted: Lean checks it.
namespace Go.Proofs.Ytpoghhcpoimepaa.P
open Go.RowKit Go.Proofs.YtpoghhcpoimepaaW.PrintWords Go.Proofs.YtpoghhcpoimepaaW.PrintLast Go.Proofs.YtpoghhcpoimepaaW.PrintMore
attribute [local go_sem] max2_int min2_int max_two min_two max_three min_three max_four min_four
set_option linter.unusedVariables false
set_option linter.unusedSimpArgs false
/-! ### walk_digit: function 58 -/
def walk_digit.f (a0 : Int) : Option (Bool) := if 48 ≤ a0 then (some (decide (a0 ≤ 57))) else (some false)
set_option maxHeartbeats 8000000 in
set_option maxRecDepth 100000 in
theorem walk_digit.calls (a0 : Int) (r : Bool) (w : World) (h : walk_digit.f a0 = some r) :
    Calls Try.prog 58 #[.int .u8 a0] w fun e w' => e = .returned (.bool r) ∧ Drawn0 w w' := by
  have H : (if 48 ≤ a0 then (some (decide (a0 ≤ 57))) else (some false)) = some r := h
  clear h
  by_cases c2 : 48 ≤ a0
  · rw [if_pos c2] at H
    have c2b0 : decide (48 ≤ a0) = true := decide_eq_true c2
    clear c2
    obtain rfl := Option.some.inj H
    go_enter Try.func58, Try.ntmps58
    go_wp2
    go_ret
    exact ⟨by first | rfl | ((repeat first | rw [Int.tdiv_eq_ediv_of_nonneg (by omega)] | rw [Int.tmod_eq_emod_of_nonneg (by omega)]); rfl) | (simp; done) | (simp [*]; done), by repeat (first | exact Drawn0.refl _ | apply Drawn0.step)⟩
  · rw [if_neg c2] at H
    have c2b0 : decide (48 ≤ a0) = false := decide_eq_false c2
    clear c2
    obtain rfl := Option.some.inj H
    go_enter Try.func58, Try.ntmps58
    go_wp2
    go_ret
    exact ⟨by first | rfl | ((repeat first | rw [Int.tdiv_eq_ediv_of_nonneg (by omega)] | rw [Int.tmod_eq_emod_of_nonneg (by omega)]); rfl) | (simp; done) | (simp [*]; done), by repeat (first | exact Drawn0.refl _ | apply Drawn0.step)⟩
end Go.Proofs.Ytpoghhcpoimepaa.P
end
