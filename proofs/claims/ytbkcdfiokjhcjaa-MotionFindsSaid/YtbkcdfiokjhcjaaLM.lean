/- Motions of small parts: plain facts. -/
import Derived.Test.YtbkcdfiokjhcjaaMC
namespace Go.Proofs.Ytbkcdfiokjhcjaa.P
open Go.Proofs.Ytbkcdfiokjhcjaa.B Go.RowKit Go.Proofs.YtbkcdfiokjhcjaaW.PrintWords Go.Proofs.YtbkcdfiokjhcjaaW.PrintLast Go.Proofs.YtbkcdfiokjhcjaaW.PrintMore
set_option linter.unusedVariables false
set_option linter.unusedSimpArgs false
def thenP (x y : Int) (q : Nat) (u v : Int) : Int × Int := ((cm (x, y) (ip q)).1 + u, (cm (x, y) (ip q)).2 + v)
theorem thenBy_P (x y n' x' y' : Int) : thenBy x y n' x' y' = thenP (fx x) (fx y) (qt n') (fx x') (fx y') := rfl
theorem doBy_P (n x y u v : Int) : doBy n x y u v = thenP (fx u) (fx v) (qt n) (fx x) (fx y) := rfl
theorem four (q : Nat) (h : q < 4) : q = 0 ∨ q = 1 ∨ q = 2 ∨ q = 3 := by omega
theorem cm_bd (n x y : Int) (q : Nat) (hq : q < 4) (hx : -n ≤ x ∧ x ≤ n) (hy : -n ≤ y ∧ y ≤ n) : (-n ≤ (cm (x, y) (ip q)).1 ∧ (cm (x, y) (ip q)).1 ≤ n) ∧ (-n ≤ (cm (x, y) (ip q)).2 ∧ (cm (x, y) (ip q)).2 ≤ n) := by
  rcases four q hq with rfl | rfl | rfl | rfl <;> simp [cm, ip] <;> omega
theorem thenP_bd (n m x y u v : Int) (q : Nat) (hq : q < 4) (hx : -n ≤ x ∧ x ≤ n) (hy : -n ≤ y ∧ y ≤ n) (hu : -m ≤ u ∧ u ≤ m) (hv : -m ≤ v ∧ v ≤ m) : (-(n + m) ≤ (thenP x y q u v).1 ∧ (thenP x y q u v).1 ≤ n + m) ∧ (-(n + m) ≤ (thenP x y q u v).2 ∧ (thenP x y q u v).2 ≤ n + m) := by
  have h := cm_bd n x y q hq hx hy
  unfold thenP
  simp only []
  omega
theorem fx_in {n : Int} (h : -1048576 ≤ n ∧ n ≤ 1048576) : fx n = n := by
  unfold fx; rw [if_neg (by omega), if_neg (by omega)]
theorem do_then (p1 p2 a2 a3 b2 b3 : Int) (α β : Nat) (hα : α < 4) (hβ : β < 4) : thenP p1 p2 ((α + β) % 4) (thenP a2 a3 β b2 b3).1 (thenP a2 a3 β b2 b3).2 = thenP (thenP p1 p2 α a2 a3).1 (thenP p1 p2 α a2 a3).2 β b2 b3 := by
  rcases four α hα with rfl | rfl | rfl | rfl <;> rcases four β hβ with rfl | rfl | rfl | rfl <;> simp [thenP, cm, ip] <;> omega
def backP (x y : Int) (q : Nat) : Int × Int := cm (-x, -y) (ip (ipBack q))
theorem backBy_P (n x y : Int) : backBy n x y = backP (fx x) (fx y) (qt n) := rfl
theorem ipBack_lt (q : Nat) : ipBack q < 4 := by unfold ipBack; omega
theorem then_back (x y : Int) (q : Nat) (hq : q < 4) : (q + ipBack q) % 4 = 0 ∧ thenP x y (ipBack q) (backP x y q).1 (backP x y q).2 = (0, 0) ∧ thenP (backP x y q).1 (backP x y q).2 q x y = (0, 0) := by
  rcases four q hq with rfl | rfl | rfl | rfl <;> simp [thenP, backP, ipBack, cm, ip] <;> omega
theorem do_back (x y u v : Int) (q : Nat) (hq : q < 4) : thenP (thenP u v q x y).1 (thenP u v q x y).2 (ipBack q) (backP x y q).1 (backP x y q).2 = (u, v) := by
  rcases four q hq with rfl | rfl | rfl | rfl <;> simp [thenP, backP, ipBack, cm, ip] <;> omega
/-- How far two points are apart, in steps and as a norm. -/
def stepsP (x y : Int) : Int := mx x (-x) + mx y (-y)
theorem apart (x y u v a b : Int) (q : Nat) (hq : q < 4) :
    stepsP ((thenP x y q a b).1 - (thenP u v q a b).1) ((thenP x y q a b).2 - (thenP u v q a b).2) = stepsP (x - u) (y - v) ∧
    ((thenP x y q a b).1 - (thenP u v q a b).1) * ((thenP x y q a b).1 - (thenP u v q a b).1) + ((thenP x y q a b).2 - (thenP u v q a b).2) * ((thenP x y q a b).2 - (thenP u v q a b).2) = (x - u) * (x - u) + (y - v) * (y - v) := by
  obtain ⟨s, hs⟩ : ∃ s, x - u = s := ⟨_, rfl⟩
  obtain ⟨t, ht⟩ : ∃ t, y - v = t := ⟨_, rfl⟩
  have e : ((thenP x y q a b).1 - (thenP u v q a b).1, (thenP x y q a b).2 - (thenP u v q a b).2) = cm (s, t) (ip q) := by
    subst hs ht
    rcases four q hq with rfl | rfl | rfl | rfl <;> simp [thenP, cm, ip] <;> omega
  have e1 := congrArg Prod.fst e
  have e2 := congrArg Prod.snd e
  simp only [] at e1 e2
  rw [e1, e2, hs, ht]
  clear e e1 e2 hs ht
  rcases four q hq with rfl | rfl | rfl | rfl <;> simp [cm, ip, stepsP, Int.add_comm, Int.neg_mul_neg] <;> unfold mx <;> (try split) <;> (try split) <;> omega
end Go.Proofs.Ytbkcdfiokjhcjaa.P
