/- Several texts of this proof in one: what the law's functions come to, and the lemmas (some as the kit's print.sh printed them, what is not used struck). -/
import Derived.Test.YtopblnecdabcgaaProg
import Derived.Below
import Derived.Deep.Draws
import Derived.Deep.AppendLies
import Derived.Maps.AppendAt
import Derived.OwnWalk
import Derived.Laws.BytesArg
import Derived.Laws.MakeOwn
import Derived.Laws.OwnMore
import Derived.Deep.OwnRows
import Derived.Tactics
import Derived.Lib.ConvBytes
import Derived.Laws.Slices
import Derived.WalkKit
import Derived.KernelRfl
import Derived.RowKit3
import Derived.Deep.LoopGhost
import Derived.Deep.QuietTactic
import Derived.BigQuiet
import Derived.WideLaws
import Derived.Deep.DeepCutAuto
import Derived.Deep.CutBlock
import Derived.Deep.RegionHeld3
import Derived.Laws.Rows
import Derived.Lib.AppendStr
import Derived.ArgAppend
import Derived.Laws.IdiomCopy
import Derived.OrdersHeld
import Derived.Laws.BitsLemmas
import Derived.RowKit
import Derived.Test.YtopblnecdabcgaaM1
import Derived.Maps.OwnSet
import Derived.ScopeJumps
import Derived.RegionTactic
import Derived.ChangeAlike
import Derived.Scope
section
-- printed by the session's own call of print.py. Not trusted: Lean checks it.
namespace Go.Proofs.Ytopblnecdabcgaa.P
open Go.RowKit Go.Proofs.YtopblnecdabcgaaW.PrintWords Go.Proofs.YtopblnecdabcgaaW.PrintLast Go.Proofs.YtopblnecdabcgaaW.PrintMore
attribute [local go_sem] max2_int min2_int max_two min_two max_three min_three max_four min_four
set_option linter.unusedVariables false
set_option linter.unusedSimpArgs false
def errW : Option Int → Value
  | none => .nilIface
  | some c => .iface 0 (.int .i64 c)
theorem errW_none : errW none = .nilIface := rfl
theorem errW_some (c : Int) : errW (some c) = .iface 0 (.int .i64 c) := rfl
theorem info3 : (Try.prog.info? 3).map (fun i => (i.zero, i.size, i.bytes)) = some (some (.int .i64 0), 1, 8) := by kernel_rfl
theorem info37 : (Try.prog.info? 37).map (fun i => (i.zero, i.size, i.bytes)) = some (some (.agg #[(.int .i64 0), (.int .i64 0), (.int .i64 0)]), 3, 24) := by kernel_rfl
-- the values' own types
/-! #### struct type 23 -/
structure S23 where
  f0 : Int
  f1 : Int
  f2 : Int
  f3 : Int
/-! #### struct type 37 -/
structure S37 where
  f0 : Int
  f1 : Int
  f2 : Int
def z37 : S37 := ⟨(0 : Int), (0 : Int), (0 : Int)⟩
def k37 : Kd S37 := Kd.iso (Kd.pair (Kd.int .i64) (Kd.pair (Kd.int .i64) (Kd.int .i64))) (fun x : S37 => (x.f0, x.f1, x.f2))
theorem k37_open {w : World} {x : S37} {cs : List Value} (h : k37.K w x cs) : cs = [.int .i64 x.f0, .int .i64 x.f1, .int .i64 x.f2] := by
  obtain ⟨_, _, rfl, rfl, ⟨_, _, rfl, rfl, rfl⟩⟩ := h
  exact rfl
theorem k37_openM {w : World} {base : Nat} {ok : Nat → Prop} {x : S37} {cs : List Value} (h : k37.M w base ok x cs) : cs = [.int .i64 x.f0, .int .i64 x.f1, .int .i64 x.f2] := by
  obtain ⟨_, _, rfl, rfl, ⟨_, _, rfl, rfl, rfl⟩⟩ := h
  exact rfl
theorem k37_mkM (w : World) (base : Nat) (ok : Nat → Prop) (x : S37)  : k37.M w base ok x [.int .i64 x.f0, .int .i64 x.f1, .int .i64 x.f2] := ⟨[.int .i64 x.f0], [.int .i64 x.f1, .int .i64 x.f2], rfl, rfl, ⟨[.int .i64 x.f1], [.int .i64 x.f2], rfl, rfl, rfl⟩⟩
def rd_T37 (xs : List S37) (i : Int) : S37 := xs.getD i.toNat z37
theorem at_T37 {w : World} {A : Option Addr} {n : Nat} {xs : List S37} (h : Kd.C k37 w A n xs) (i : Int) (h0 : 0 ≤ i) (h1 : i < n) : ∃ ad , A = some ad ∧ w.cell? (ad.add (i.toNat * 3)) = some (.int .i64 (rd_T37 xs i).f0) ∧ w.cell? ⟨(ad.add (i.toNat * 3)).block, (ad.add (i.toNat * 3)).off + 1, none⟩ = some (.int .i64 (rd_T37 xs i).f1) ∧ w.cell? ⟨(ad.add (i.toNat * 3)).block, (ad.add (i.toNat * 3)).off + 2, none⟩ = some (.int .i64 (rd_T37 xs i).f2) := by
  obtain ⟨ad, c, e, _, hK, hc0⟩ := Kd.C_get h z37 i h0 h1
  have hc : ∀ j u, c[j]? = some u → w.cell? (ad.add (i.toNat * 3 + j)) = some u := hc0
  obtain rfl := k37_open hK
  exact ⟨ad, e, hc 0 _ rfl, by rw [← add_field _ _ 1 (by omega)]; exact hc 1 _ rfl, by rw [← add_field _ _ 2 (by omega)]; exact hc 2 _ rfl⟩
/-! #### struct type 155 -/
structure S155 where
  f0 : Int
  f1 : Int
  f2 : Int
/-! #### struct type 108 -/
structure S108 where
  f0 : Int
  f1 : Int
/-! #### struct type 110 -/
structure S110 where
  f0 : Int
  f1 : S108
  f2 : S108
/-! #### struct type 61 -/
structure S61 where
  f0 : Int
  f1 : Int
  f2 : Int
  f3 : Int
  f4 : Int
  f5 : Int
  f6 : Int
  f7 : (List S110)
/-! #### struct type 129 -/
structure S129 where
  f0 : Int
  f1 : Int
  f2 : Int
  f3 : Int
  f4 : S108
  f5 : S108
  f6 : (List Int)
/-! #### struct type 131 -/
structure S131 where
  f0 : S129
  f1 : Int
  f2 : Int
  f3 : Int
  f4 : Int
  f5 : (List Int)
/-! #### struct type 124 -/
structure S124 where
  f0 : Int
  f1 : Int
  f2 : Int
  f3 : Int
  f4 : Int
  f5 : Int
  f6 : (List Int)
/-! #### struct type 126 -/
structure S126 where
  f0 : Int
  f1 : Int
  f2 : (List Int)
/-! #### struct type 183 -/
structure S183 where
  f0 : Int
  f1 : Int
  f2 : Bool
end Go.Proofs.Ytopblnecdabcgaa.P
end
section
/- Heaps (plain): what they have, in what order, and where. -/
namespace Go.Proofs.Ytopblnecdabcgaa.P
open Go.RowKit
set_option linter.unusedVariables false
abbrev Th := S37
/-- A thing is ahead of another one: by its key, then its number, then its id. -/
def ahd (x y : Th) : Prop := y.f1 < x.f1 ∨ (x.f1 = y.f1 ∧ (x.f2 < y.f2 ∨ (x.f2 = y.f2 ∧ x.f0 < y.f0)))
instance (x y : Th) : Decidable (ahd x y) := by unfold ahd; infer_instance
theorem ahd_asymm {x y : Th} (h : ahd x y) : ¬ ahd y x := by unfold ahd at *; omega
theorem ahd_irr (x : Th) : ¬ ahd x x := by unfold ahd; omega
theorem ahd_trans {x y z : Th} (h : ahd x y) (k : ahd y z) : ahd x z := by unfold ahd at *; omega
/-- What is not ahead of what is not ahead is not ahead. -/
theorem nah_trans {x y z : Th} (h : ¬ ahd x y) (k : ¬ ahd y z) : ¬ ahd x z := by unfold ahd at *; omega
theorem nah_of {x y z : Th} (h : ¬ ahd x y) (k : ahd z y) : ¬ ahd x z := fun c => h (ahd_trans c k)
/-- The thing at a place. -/
def atH (a : List Th) (i : Nat) : Th := a.getD i ⟨0, 0, 0⟩
theorem atH_set_same (a : List Th) (i : Nat) (x : Th) (h : i < a.length) : atH (a.set i x) i = x := by
  unfold atH; rw [List.getD_eq_getElem?_getD, List.getElem?_set_self h]; rfl
theorem atH_set_other (a : List Th) (i j : Nat) (x : Th) (h : i ≠ j) : atH (a.set i x) j = atH a j := by
  unfold atH; rw [List.getD_eq_getElem?_getD, List.getElem?_set_ne h, List.getD_eq_getElem?_getD]
theorem atH_get (a : List Th) (i : Nat) (h : i < a.length) : atH a i = a[i] := by
  unfold atH; rw [List.getD_eq_getElem?_getD, List.getElem?_eq_getElem h]; rfl
/-- Nobody is ahead of who stands above it. -/
def HeapO (a : List Th) : Prop := ∀ j, 0 < j → j < a.length → ¬ ahd (atH a j) (atH a ((j - 1) / 2))
/-- Heaps with a hole at i: what the hole's thing is, nobody asks. -/
def HoleO (a : List Th) (i : Nat) : Prop := (∀ j, 0 < j → j < a.length → j ≠ i → (j - 1) / 2 ≠ i → ¬ ahd (atH a j) (atH a ((j - 1) / 2))) ∧ (0 < i → ∀ c, 0 < c → c < a.length → (c - 1) / 2 = i → ¬ ahd (atH a c) (atH a ((i - 1) / 2)))
/-- No child of i is ahead of x. -/
def NoKid (a : List Th) (i : Nat) (x : Th) : Prop := ∀ c, 0 < c → c < a.length → (c - 1) / 2 = i → ¬ ahd (atH a c) x
theorem hole_up {a : List Th} {i : Nat} {x : Th} (hi : 0 < i) (hl : i < a.length) (h : HoleO a i) (ha : ahd x (atH a ((i - 1) / 2))) :
    HoleO (a.set i (atH a ((i - 1) / 2))) ((i - 1) / 2) ∧ NoKid (a.set i (atH a ((i - 1) / 2))) ((i - 1) / 2) x := by
  obtain ⟨h1, h2⟩ := h
  obtain ⟨p, hp⟩ : ∃ p, (i - 1) / 2 = p := ⟨_, rfl⟩
  rw [hp] at ha ⊢
  have h2' := h2 hi
  rw [hp] at h2'
  have hpi : p < i := by omega
  have hpl : p < a.length := by omega
  have hpp : p ≠ i := by omega
  refine ⟨⟨?_, ?_⟩, ?_⟩
  · intro j hj hjl hjp hjj
    rw [List.length_set] at hjl
    by_cases e : j = i
    · subst e; exact absurd hp hjj
    · rw [atH_set_other _ _ _ _ (Ne.symm e)]
      by_cases e2 : (j - 1) / 2 = i
      · rw [e2, atH_set_same _ _ _ hl]; exact h2' j hj hjl e2
      · rw [atH_set_other _ _ _ _ (Ne.symm e2)]; exact h1 j hj hjl e e2
  · intro hp0 c hc hcl hcp
    rw [List.length_set] at hcl
    rw [atH_set_other _ _ ((p - 1) / 2) _ (by omega)]
    have hup : ¬ ahd (atH a p) (atH a ((p - 1) / 2)) := h1 p hp0 hpl hpp (by omega)
    by_cases e : c = i
    · subst e; rw [atH_set_same _ _ _ hl]; exact hup
    · rw [atH_set_other _ _ _ _ (Ne.symm e)]
      have := h1 c hc hcl e (by omega)
      rw [hcp] at this
      exact nah_trans this hup
  · intro c hc hcl hcp
    rw [List.length_set] at hcl
    by_cases e : c = i
    · subst e; rw [atH_set_same _ _ _ hl]; exact ahd_asymm ha
    · rw [atH_set_other _ _ _ _ (Ne.symm e)]
      have := h1 c hc hcl e (by omega)
      rw [hcp] at this
      exact nah_of this ha
/-- The hole is filled where its thing may stand. -/
theorem hole_fill {a : List Th} {i : Nat} {x : Th} (hl : i < a.length) (h : HoleO a i) (hu : 0 < i → ¬ ahd x (atH a ((i - 1) / 2))) (hk : NoKid a i x) : HeapO (a.set i x) := by
  intro j hj hjl
  rw [List.length_set] at hjl
  by_cases e : j = i
  · subst e
    rw [atH_set_same _ _ _ hl, atH_set_other _ _ _ _ (by omega)]
    exact hu hj
  · rw [atH_set_other _ _ j _ (Ne.symm e)]
    by_cases e2 : (j - 1) / 2 = i
    · rw [e2, atH_set_same _ _ _ hl]; exact hk j hj hjl e2
    · rw [atH_set_other _ _ _ _ (Ne.symm e2)]; exact h.1 j hj hjl e e2
/-- Which child is the one to look at. -/
def kidH (a : List Th) (i : Nat) : Nat := if 2 * i + 2 < a.length ∧ ahd (atH a (2 * i + 2)) (atH a (2 * i + 1)) then 2 * i + 2 else 2 * i + 1
theorem kid_par (a : List Th) (i : Nat) : (kidH a i - 1) / 2 = i ∧ 0 < kidH a i ∧ i < kidH a i := by unfold kidH; split <;> omega
theorem kid_best (a : List Th) (i : Nat) (c : Nat) (hc : 0 < c) (hcl : c < a.length) (hp : (c - 1) / 2 = i) : ¬ ahd (atH a c) (atH a (kidH a i)) := by
  have hc2 : c = 2 * i + 1 ∨ c = 2 * i + 2 := by omega
  unfold kidH
  split
  · rename_i h
    rcases hc2 with e | e <;> subst e
    · exact ahd_asymm h.2
    · exact ahd_irr _
  · rename_i h
    rcases hc2 with e | e <;> subst e
    · exact ahd_irr _
    · exact fun k => h ⟨hcl, k⟩
theorem kid_lt (a : List Th) (i : Nat) (h : 2 * i + 1 < a.length) : kidH a i < a.length := by unfold kidH; split <;> omega
theorem hole_down {a : List Th} {i : Nat} {x : Th} (hl : i < a.length) (h : HoleO a i) (hk : kidH a i < a.length) (ha : ahd (atH a (kidH a i)) x) :
    HoleO (a.set i (atH a (kidH a i))) (kidH a i) ∧ ¬ ahd x (atH (a.set i (atH a (kidH a i))) ((kidH a i - 1) / 2)) := by
  obtain ⟨h1, h2⟩ := h
  obtain ⟨k1, k2, k3⟩ := kid_par a i
  have kb := kid_best a i
  generalize kidH a i = k at *
  refine ⟨⟨?_, ?_⟩, ?_⟩
  · intro j hj hjl hjk hjj
    rw [List.length_set] at hjl
    by_cases e : j = i
    · subst e
      rw [atH_set_same _ _ _ hl, atH_set_other _ _ _ _ (by omega)]
      exact h2 hj k k2 hk k1
    · rw [atH_set_other _ _ j _ (Ne.symm e)]
      by_cases e2 : (j - 1) / 2 = i
      · rw [e2, atH_set_same _ _ _ hl]; exact kb j hj hjl e2
      · rw [atH_set_other _ _ _ _ (Ne.symm e2)]; exact h1 j hj hjl e e2
  · intro hk0 c hc hcl hcp
    rw [List.length_set] at hcl
    rw [k1, atH_set_same _ _ _ hl, atH_set_other _ _ _ _ (by omega)]
    have := h1 c hc hcl (by omega) (by omega)
    rw [hcp] at this
    exact this
  · rw [k1, atH_set_same _ _ _ hl]; exact ahd_asymm ha
theorem kid_none {a : List Th} {i : Nat} {x : Th} (h : kidH a i < a.length → ¬ ahd (atH a (kidH a i)) x) : NoKid a i x := by
  intro c hc hcl hp
  have hkl : kidH a i < a.length := kid_lt a i (by omega)
  exact nah_trans (kid_best a i c hc hcl hp) (h hkl)
/-! the things, whatever their order -/
/-- What is in a heap but for its hole. -/
theorem perm_set : ∀ (a : List Th) (i : Nat) (x : Th), i < a.length → (a.set i x).Perm (x :: a.eraseIdx i)
  | [], i, x, h => by simp at h
  | y :: a, 0, x, _ => by simp
  | y :: a, i + 1, x, h => by
    have := perm_set a i x (by simpa using h)
    rw [List.set_cons_succ, List.eraseIdx_cons_succ]
    exact (this.cons y).trans (List.Perm.swap x y _)
theorem set_self (a : List Th) (i : Nat) : a.set i (atH a i) = a := by
  by_cases h : i < a.length
  · rw [atH_get a i h]; exact List.set_getElem_self h
  · rw [List.set_eq_of_length_le (by omega)]
theorem perm_get (a : List Th) (i : Nat) (h : i < a.length) : a.Perm (atH a i :: a.eraseIdx i) := by
  have := perm_set a i (atH a i) h
  rwa [set_self] at this
theorem perm_move (a : List Th) (i p : Nat) (hi : i < a.length) (hp : p < a.length) (hne : i ≠ p) : ((a.set i (atH a p)).eraseIdx p).Perm (a.eraseIdx i) := by
  have h1 := perm_get (a.set i (atH a p)) p (by rw [List.length_set]; exact hp)
  rw [atH_set_other _ _ _ _ hne] at h1
  exact (h1.symm.trans (perm_set a i _ hi)).cons_inv
/-- In order, each once. -/
def SortH (l : List Th) : Prop := l.Pairwise ahd
theorem sort_eq : ∀ (l m : List Th), SortH l → SortH m → l.Perm m → l = m
  | [], m, _, _, h => h.symm.eq_nil.symm
  | x :: l, [], _, _, h => absurd h.eq_nil (by simp)
  | x :: l, y :: m, hl, hm, h => by
    have hl' := List.pairwise_cons.1 hl
    have hm' := List.pairwise_cons.1 hm
    have e : x = y := by
      have hx : x ∈ y :: m := h.mem_iff.1 (List.mem_cons_self ..)
      have hy : y ∈ x :: l := h.mem_iff.2 (List.mem_cons_self ..)
      rcases List.mem_cons.1 hx with e | hx
      · exact e
      rcases List.mem_cons.1 hy with e | hy
      · exact e.symm
      exact absurd (hl'.1 y hy) (ahd_asymm (hm'.1 x hx))
    subst e
    rw [sort_eq l m hl'.2 hm'.2 (h.cons_inv)]
/-- The first of a heap is the first in order. -/
theorem heap_min {a : List Th} (h : HeapO a) : ∀ j, j < a.length → ¬ ahd (atH a j) (atH a 0) := by
  intro j
  induction j using Nat.strongRecOn with
  | ind j ih =>
    intro hj
    by_cases e : j = 0
    · subst e; exact ahd_irr _
    · exact nah_trans (h j (by omega) hj) (ih ((j - 1) / 2) (by omega) (by omega))
theorem heap_first {a : List Th} {x : Th} {l : List Th} (h : HeapO a) (hs : SortH (x :: l)) (hp : a.Perm (x :: l)) : atH a 0 = x := by
  have hlen := hp.length_eq
  have h0 : 0 < a.length := by rw [hlen]; simp
  have hx : x ∈ a := hp.mem_iff.2 (List.mem_cons_self ..)
  have h0m : atH a 0 ∈ x :: l := by rw [atH_get a 0 h0]; exact hp.mem_iff.1 (List.getElem_mem ..)
  rcases List.mem_cons.1 h0m with e | hm
  · exact e
  · exfalso
    obtain ⟨j, hj, e⟩ := List.getElem_of_mem hx
    have hmin := heap_min h j hj
    rw [atH_get a j hj, e] at hmin
    exact hmin ((List.pairwise_cons.1 hs).1 _ hm)
theorem erase_set (a : List Th) (i : Nat) (x : Th) : (a.set i x).eraseIdx i = a.eraseIdx i := by
  induction a generalizing i with
  | nil => rfl
  | cons y a ih =>
    cases i with
    | zero => rfl
    | succ i => rw [List.set_cons_succ, List.eraseIdx_cons_succ, List.eraseIdx_cons_succ, ih]
theorem hole_set {a : List Th} {i : Nat} (x : Th) (h : HoleO a i) : HoleO (a.set i x) i := by
  obtain ⟨h1, h2⟩ := h
  refine ⟨fun j hj hjl e1 e2 => ?_, fun hi c hc hcl hp => ?_⟩
  · rw [List.length_set] at hjl
    rw [atH_set_other _ _ _ _ (Ne.symm e1), atH_set_other _ _ _ _ (Ne.symm e2)]
    exact h1 j hj hjl e1 e2
  · rw [List.length_set] at hcl
    rw [atH_set_other _ _ _ _ (by omega), atH_set_other _ _ _ _ (by omega)]
    exact h2 hi c hc hcl hp
theorem hole_of {a : List Th} (h : HeapO a) (i : Nat) (hi : i < a.length) : HoleO a i := by
  refine ⟨fun j hj hjl _ _ => h j hj hjl, fun h0 c hc hcl hp => ?_⟩
  have h1 := h c hc hcl
  rw [hp] at h1
  exact nah_trans h1 (h i h0 hi)
theorem atH_app (a b : List Th) (j : Nat) (h : j < a.length) : atH (a ++ b) j = atH a j := by
  unfold atH; rw [List.getD_eq_getElem?_getD, List.getElem?_append_left h, List.getD_eq_getElem?_getD]
theorem hole_new {a : List Th} (h : HeapO a) (x : Th) : HoleO (a ++ [x]) a.length := by
  refine ⟨fun j hj hjl e1 e2 => ?_, fun h0 c hc hcl hp => ?_⟩
  · rw [List.length_append, List.length_singleton] at hjl
    rw [atH_app _ _ _ (by omega), atH_app _ _ _ (by omega)]
    exact h j hj (by omega)
  · rw [List.length_append, List.length_singleton] at hcl
    omega
theorem atH_take (a : List Th) (n j : Nat) (h : j < n) : atH (a.take n) j = atH a j := by
  unfold atH; rw [List.getD_eq_getElem?_getD, List.getElem?_take_of_lt h, List.getD_eq_getElem?_getD]
theorem heap_take {a : List Th} (h : HeapO a) (n : Nat) : HeapO (a.take n) := by
  intro j hj hjl
  rw [List.length_take] at hjl
  rw [atH_take _ _ _ (by omega), atH_take _ _ _ (by omega)]
  exact h j hj (by omega)
/-- No two have one id. -/
def IdsD (a : List Th) : Prop := a.Pairwise (fun x y => x.f0 ≠ y.f0)
theorem ids_perm {a b : List Th} (h : a.Perm b) : IdsD a → IdsD b := fun k => (List.Perm.pairwise_iff (R := fun x y : Th => x.f0 ≠ y.f0) (fun e => Ne.symm e) h).1 k
theorem ids_at {a : List Th} (h : IdsD a) {i j : Nat} (hi : i < a.length) (hj : j < a.length) (e : (atH a i).f0 = (atH a j).f0) : i = j := by
  have hp := List.pairwise_iff_getElem.1 h
  rw [atH_get a i hi, atH_get a j hj] at e
  rcases Nat.lt_trichotomy i j with c | c | c
  · exact absurd e (hp i j hi hj c)
  · exact c
  · exact absurd e.symm (hp j i hj hi c)
/-- A map that tells the place of each id but x's. -/
def MapB (f : Int → Option Int) (b : List Th) (x : Th) : Prop := ∀ id, id ≠ x.f0 → ∀ v, f id = some v ↔ ∃ k : Nat, k < b.length ∧ (atH b k).f0 = id ∧ v = (k : Int)
/-- A map that tells the place of each id. -/
def MapA (f : Int → Option Int) (b : List Th) : Prop := ∀ id v, f id = some v ↔ ∃ k : Nat, k < b.length ∧ (atH b k).f0 = id ∧ v = (k : Int)
def updF (f : Int → Option Int) (k v : Int) : Int → Option Int := fun i => if i = k then some v else f i
def delF (f : Int → Option Int) (k : Int) : Int → Option Int := fun i => if i = k then none else f i
theorem map_step {f : Int → Option Int} {a : List Th} {j p : Nat} {x : Th} (h : MapB f (a.set j x) x) (hd : IdsD (a.set j x)) (hj : j < a.length) (hp : p < a.length) (hne : j ≠ p) :
    MapB (updF f (atH a p).f0 (j : Int)) ((a.set j (atH a p)).set p x) x ∧ IdsD ((a.set j (atH a p)).set p x) := by
  have hperm : ((a.set j (atH a p)).set p x).Perm (a.set j x) := by
    refine (perm_set _ p x (by rw [List.length_set]; exact hp)).trans (((perm_move a j p hj hp hne).cons x).trans ?_)
    exact (perm_set a j x hj).symm
  have hd2 := ids_perm hperm.symm hd
  refine ⟨fun id hid v => ?_, hd2⟩
  have hlen : ((a.set j (atH a p)).set p x).length = a.length := by rw [List.length_set, List.length_set]
  have ej : atH ((a.set j (atH a p)).set p x) j = atH a p := by rw [atH_set_other _ _ _ _ (Ne.symm hne), atH_set_same _ _ _ hj]
  have ep : atH ((a.set j (atH a p)).set p x) p = x := atH_set_same _ _ _ (by rw [List.length_set]; exact hp)
  unfold updF
  by_cases e : id = (atH a p).f0
  · rw [if_pos e]
    constructor
    · intro h1
      exact ⟨j, by omega, by rw [ej, e], (Option.some.inj h1).symm⟩
    · rintro ⟨k, hk, hk2, rfl⟩
      rw [ids_at hd2 hk (by omega) (hk2.trans (e.trans (congrArg S37.f0 ej.symm)))]
  · rw [if_neg e, h id hid v]
    constructor
    · rintro ⟨k, hk, hk2, rfl⟩
      rw [List.length_set] at hk
      have k1 : k ≠ j := fun c => by subst c; rw [atH_set_same _ _ _ hj] at hk2; exact hid hk2.symm
      have k2 : k ≠ p := fun c => by subst c; rw [atH_set_other _ _ _ _ hne] at hk2; exact e hk2.symm
      refine ⟨k, by omega, ?_, rfl⟩
      rw [atH_set_other _ _ _ _ (Ne.symm k2), atH_set_other _ _ _ _ (Ne.symm k1)]
      rw [atH_set_other _ _ _ _ (Ne.symm k1)] at hk2
      exact hk2
    · rintro ⟨k, hk, hk2, rfl⟩
      have k1 : k ≠ j := fun c => by subst c; rw [ej] at hk2; exact e hk2.symm
      have k2 : k ≠ p := fun c => by subst c; rw [ep] at hk2; exact hid hk2.symm
      refine ⟨k, by rw [List.length_set]; omega, ?_, rfl⟩
      rw [atH_set_other _ _ _ _ (Ne.symm k2), atH_set_other _ _ _ _ (Ne.symm k1)] at hk2
      rw [atH_set_other _ _ _ _ (Ne.symm k1)]
      exact hk2
theorem map_end {f : Int → Option Int} {b : List Th} {j : Nat} {x : Th} (h : MapB f b x) (hd : IdsD b) (hj : j < b.length) (e : atH b j = x) : MapA (updF f x.f0 (j : Int)) b := by
  intro id v
  unfold updF
  by_cases c : id = x.f0
  · rw [if_pos c]
    constructor
    · intro h1
      exact ⟨j, hj, by rw [e, c], (Option.some.inj h1).symm⟩
    · rintro ⟨k, hk, hk2, rfl⟩
      rw [c, ← e] at hk2
      rw [ids_at hd hk hj hk2]
  · rw [if_neg c]
    exact h id c v
theorem mapA_B {f : Int → Option Int} {b : List Th} (x : Th) (h : MapA f b) : MapB f b x := fun id _ v => h id v
/-- The state of a heap: what it has, and where. -/
structure HpI (f : Int → Option Int) (a : List Th) : Prop where
  heap : HeapO a
  ids : IdsD a
  map : MapA f a
/-- A heap in which x is to be laid into the hole at j. -/
structure HpH (f : Int → Option Int) (a : List Th) (j : Nat) (x : Th) : Prop where
  lt : j < a.length
  hole : HoleO a j
  ids : IdsD (a.set j x)
  map : MapB f (a.set j x) x
/-- As it goes up. -/
theorem hp_up {f : Int → Option Int} {a : List Th} {j : Nat} {x : Th} (h : HpH f a j x) (h0 : 0 < j) (ha : ahd x (atH a ((j - 1) / 2))) :
    HpH (updF f (atH a ((j - 1) / 2)).f0 (j : Int)) (a.set j (atH a ((j - 1) / 2))) ((j - 1) / 2) x ∧ NoKid (a.set j (atH a ((j - 1) / 2))) ((j - 1) / 2) x ∧ ((a.set j (atH a ((j - 1) / 2))).eraseIdx ((j - 1) / 2)).Perm (a.eraseIdx j) := by
  have hl := h.lt
  obtain ⟨h1, h2⟩ := hole_up h0 h.lt h.hole ha
  obtain ⟨h3, h4⟩ := map_step h.map h.ids h.lt (p := (j - 1) / 2) (by omega) (by omega)
  exact ⟨⟨by rw [List.length_set]; omega, h1, h4, h3⟩, h2, perm_move a j _ hl (by omega) (by omega)⟩
theorem hp_down {f : Int → Option Int} {a : List Th} {j : Nat} {x : Th} (h : HpH f a j x) (hk : kidH a j < a.length) (ha : ahd (atH a (kidH a j)) x) :
    HpH (updF f (atH a (kidH a j)).f0 (j : Int)) (a.set j (atH a (kidH a j))) (kidH a j) x ∧ ¬ ahd x (atH (a.set j (atH a (kidH a j))) ((kidH a j - 1) / 2)) ∧ ((a.set j (atH a (kidH a j))).eraseIdx (kidH a j)).Perm (a.eraseIdx j) := by
  have hl := h.lt
  have hkp := kid_par a j
  obtain ⟨h1, h2⟩ := hole_down h.lt h.hole hk ha
  obtain ⟨h3, h4⟩ := map_step h.map h.ids h.lt (p := kidH a j) hk (by omega)
  exact ⟨⟨by rw [List.length_set]; omega, h1, h4, h3⟩, h2, perm_move a j _ hl hk (by omega)⟩
theorem hp_fill {f : Int → Option Int} {a : List Th} {j : Nat} {x : Th} (h : HpH f a j x) (hu : 0 < j → ¬ ahd x (atH a ((j - 1) / 2))) (hk : NoKid a j x) :
    HpI (updF f x.f0 (j : Int)) (a.set j x) := by
  have hl := h.lt
  refine ⟨hole_fill h.lt h.hole hu hk, h.ids, map_end h.map h.ids (by rw [List.length_set]; exact hl) (atH_set_same _ _ _ hl)⟩
/-- The hole's thing laid, though a child may be ahead of it. -/
theorem hp_lay {f : Int → Option Int} {a : List Th} {j : Nat} {x : Th} (h : HpH f a j x) : HpH (updF f x.f0 (j : Int)) (a.set j x) j x := by
  have hl := h.lt
  have e : (a.set j x).set j x = a.set j x := by rw [List.set_set]
  refine ⟨by rw [List.length_set]; exact hl, hole_set x h.hole, by rw [e]; exact h.ids, ?_⟩
  rw [e]
  exact mapA_B x (map_end h.map h.ids (by rw [List.length_set]; exact hl) (atH_set_same _ _ _ hl))
/-! what the document has: a row in order -/
def dropH (l : List Th) (id : Int) : List Th := l.filter (fun y => decide (y.f0 ≠ id))
def insH (x : Th) : List Th → List Th
  | [] => [x]
  | y :: l => if ahd x y then x :: y :: l else y :: insH x l
def putH (l : List Th) (x : Th) : List Th := insH x (dropH l x.f0)
def hasH (l : List Th) (id : Int) : Prop := ∃ x ∈ l, x.f0 = id
theorem ins_perm (x : Th) : ∀ l, (insH x l).Perm (x :: l)
  | [] => List.Perm.refl _
  | y :: l => by
    rw [insH]
    split
    · exact List.Perm.refl _
    · exact ((ins_perm x l).cons y).trans (List.Perm.swap x y l)
theorem ahd_of_ne {x y : Th} (h : ¬ ahd x y) (e : x.f0 ≠ y.f0) : ahd y x := by unfold ahd at *; omega
theorem ins_sort (x : Th) : ∀ l, SortH l → (∀ y ∈ l, y.f0 ≠ x.f0) → SortH (insH x l)
  | [], _, _ => List.pairwise_singleton _ _
  | y :: l, h, hn => by
    have h' := List.pairwise_cons.1 h
    rw [insH]
    split
    · rename_i c
      refine List.pairwise_cons.2 ⟨fun z hz => ?_, h⟩
      rcases List.mem_cons.1 hz with e | hz
      · rw [e]; exact c
      · exact ahd_trans c (h'.1 z hz)
    · rename_i c
      refine List.pairwise_cons.2 ⟨fun z hz => ?_, ins_sort x l h'.2 (fun z hz => hn z (List.mem_cons_of_mem _ hz))⟩
      rcases List.mem_cons.1 ((ins_perm x l).mem_iff.1 hz) with e | hz
      · rw [e]; exact ahd_of_ne c (Ne.symm (hn y (List.mem_cons_self ..)))
      · exact h'.1 z hz
/-- The state of what the document has. -/
structure RowI (l : List Th) : Prop where
  sort : SortH l
  ids : IdsD l
theorem row_nil : RowI [] := ⟨List.Pairwise.nil, List.Pairwise.nil⟩
theorem row_drop {l : List Th} (h : RowI l) (id : Int) : RowI (dropH l id) := ⟨h.sort.sublist List.filter_sublist, h.ids.sublist List.filter_sublist⟩
theorem drop_no (l : List Th) (id : Int) : ∀ y ∈ dropH l id, y.f0 ≠ id := fun y hy => of_decide_eq_true (List.mem_filter.1 hy).2
theorem row_put {l : List Th} (h : RowI l) (x : Th) : RowI (putH l x) := by
  have hn := drop_no l x.f0
  have hd := row_drop h x.f0
  refine ⟨ins_sort x _ hd.sort hn, ids_perm (ins_perm x _).symm (List.pairwise_cons.2 ⟨fun y hy => Ne.symm (hn y hy), hd.ids⟩)⟩
theorem drop_perm {a b : List Th} (h : a.Perm b) (id : Int) : (dropH a id).Perm (dropH b id) := h.filter _
theorem drop_id_none {l : List Th} {id : Int} (h : ∀ y ∈ l, y.f0 ≠ id) : dropH l id = l := List.filter_eq_self.2 (fun y hy => decide_eq_true (h y hy))
theorem drop_cons_same {l : List Th} {x : Th} {id : Int} (e : x.f0 = id) : dropH (x :: l) id = dropH l id := by unfold dropH; rw [List.filter_cons_of_neg (by simpa using e)]
theorem drop_cons_other {l : List Th} {x : Th} {id : Int} (e : x.f0 ≠ id) : dropH (x :: l) id = x :: dropH l id := by unfold dropH; rw [List.filter_cons_of_pos (by simpa using e)]
/-- What of a heap is left without the thing at i. -/
theorem erase_drop {a : List Th} (h : IdsD a) (i : Nat) (hi : i < a.length) : (a.eraseIdx i).Perm (dropH a (atH a i).f0) := by
  have hp := perm_get a i hi
  have hd := ids_perm hp h
  have h2 := drop_perm hp (atH a i).f0
  rw [drop_cons_same rfl, drop_id_none (fun y hy => Ne.symm ((List.pairwise_cons.1 hd).1 y hy))] at h2
  exact h2.symm
theorem heap_has {f : Int → Option Int} {a l : List Th} (h : HpI f a) (hp : a.Perm l) (id : Int) : (∃ v, f id = some v) ↔ hasH l id := by
  constructor
  · rintro ⟨v, hv⟩
    obtain ⟨k, hk, e, _⟩ := (h.map id v).1 hv
    refine ⟨atH a k, hp.mem_iff.1 ?_, e⟩
    rw [atH_get a k hk]
    exact List.getElem_mem ..
  · rintro ⟨x, hx, e⟩
    obtain ⟨k, hk, e2⟩ := List.getElem_of_mem (hp.mem_iff.2 hx)
    exact ⟨k, (h.map id k).2 ⟨k, hk, by rw [atH_get a k hk, e2, e], rfl⟩⟩
theorem put_old {a r l : List Th} {i : Nat} {x : Th} (hd : IdsD a) (hi : i < a.length) (e : (atH a i).f0 = x.f0) (hp : a.Perm l) (hr : r.Perm (x :: a.eraseIdx i)) : r.Perm (putH l x) := by
  have h1 := (erase_drop hd i hi).trans (drop_perm hp _)
  rw [e] at h1
  exact hr.trans ((h1.cons x).trans (ins_perm x _).symm)
theorem put_new {a r l : List Th} {x : Th} (hn : ¬ hasH l x.f0) (hp : a.Perm l) (hr : r.Perm (x :: a)) : r.Perm (putH l x) := by
  have h1 : dropH l x.f0 = l := drop_id_none (fun y hy e => hn ⟨y, hy, e⟩)
  refine hr.trans ((hp.cons x).trans ?_)
  unfold putH
  rw [h1]
  exact (ins_perm x _).symm
end Go.Proofs.Ytopblnecdabcgaa.P
end
section
/- Maps with whole numbers for keys, as functions. -/
namespace Go.Proofs.Ytopblnecdabcgaa.MP
open Go Go.Maps Go.RowKit Go.ChangeMaps Go.MapKept Go.WideShapes
set_option linter.unusedVariables false
/-- Every value reads as itself. -/
def hR : Value → Option (DataW Value × List MemPlace) := fun v => some (.held v, [])
/-- Block b is a map of at most n entries that has f's. -/
def MpV (w : World) (P : Program) (K : TypeId) (b n : Nat) (f : Int → Option Value) : Prop :=
  ∃ D : DataW Value, w.ownsMap P K hR b n D ∧ (∀ k, Maps.has D (.int .i64 k) = (f k).isSome) ∧ ∀ k v, f k = some v → ∀ z, D.atKey (.int .i64 k) z = .held v
def updV (f : Int → Option Value) (k : Int) (v : Value) : Int → Option Value := fun i => if i = k then some v else f i
def delV (f : Int → Option Value) (k : Int) : Int → Option Value := fun i => if i = k then none else f i
def wfI (k : Int) : Prop := (Lit.int .i64 k).wf = true
theorem wf_of {k : Int} (h1 : -9223372036854775808 ≤ k) (h2 : k ≤ 9223372036854775807) : wfI k := by
  unfold wfI
  have e1 : IntKind.i64.min = -9223372036854775808 := by kernel_rfl
  have e2 : IntKind.i64.max = 9223372036854775807 := by kernel_rfl
  simp only [Lit.wf, e1, e2, decide_eq_true h1, decide_eq_true h2, Bool.and_self]
variable {P : Program} {w : World} {K b n : Nat} {f : Int → Option Value}
theorem mp_lt (h : MpV w P K b n f) : b < w.heap.size := by obtain ⟨D, h, _⟩ := h; exact h.lt
theorem mp_is (h : MpV w P K b n f) : ∃ es c, w.heap[b]? = some (.map es c) := by obtain ⟨D, ⟨es, c, hb, _⟩, _⟩ := h; exact ⟨es, c, hb⟩
theorem mp_move {w' : World} (h : MpV w P K b n f) (hb : w'.heap[b]? = w.heap[b]?) : MpV w' P K b n f := by
  obtain ⟨D, ⟨es, c, h1, r1⟩, r⟩ := h
  exact ⟨D, ⟨es, c, hb.trans h1, r1⟩, r⟩
theorem mp_made (w : World) (P : Program) (K : TypeId) : MpV (w.alloc (.map #[] 0)) P K w.heap.size 0 (fun _ => none) :=
  ⟨.map [], World.ownsMap_made w P K hR, fun _ => rfl, fun _ _ h => by cases h⟩
theorem key_ne {a b : Int} (h : a ≠ b) : (Lit.int .i64 a) ≠ (Lit.int .i64 b) := fun e => h (by injection e)
theorem mp_put {D : DataW Value} (hm : IsMap D) (h : (∀ k, Maps.has D (.int .i64 k) = (f k).isSome) ∧ ∀ k v, f k = some v → ∀ z, D.atKey (.int .i64 k) z = .held v) (k : Int) (v : Value) :
    (∀ i, Maps.has (D.put (.int .i64 k) (.held v)) (.int .i64 i) = (updV f k v i).isSome) ∧ ∀ i u, updV f k v i = some u → ∀ z, (D.put (.int .i64 k) (.held v)).atKey (.int .i64 i) z = .held u := by
  have hk : WideAt.IsKeyLit (.int .i64 k) := trivial
  refine ⟨fun i => ?_, fun i u hu z => ?_⟩
  · unfold updV
    by_cases e : i = k
    · subst e; rw [if_pos rfl, Maps.has_put_same hm hk]; rfl
    · rw [if_neg e, Maps.has_put_other (key_ne e)]; exact h.1 i
  · unfold updV at hu
    by_cases e : i = k
    · subst e; rw [if_pos rfl] at hu; rw [Maps.atKey_put_same hm hk, Option.some.inj hu]
    · rw [if_neg e] at hu; rw [Maps.atKey_put_other (key_ne e)]; exact h.2 i u hu z
theorem mp_drop {D : DataW Value} (h : (∀ k, Maps.has D (.int .i64 k) = (f k).isSome) ∧ ∀ k v, f k = some v → ∀ z, D.atKey (.int .i64 k) z = .held v) (k : Int) :
    (∀ i, Maps.has (D.del (.int .i64 k)) (.int .i64 i) = (delV f k i).isSome) ∧ ∀ i u, delV f k i = some u → ∀ z, (D.del (.int .i64 k)).atKey (.int .i64 i) z = .held u := by
  refine ⟨fun i => ?_, fun i u hu z => ?_⟩
  · unfold delV
    by_cases e : i = k
    · subst e; rw [if_pos rfl, Maps.has_del_same]; rfl
    · rw [if_neg e, Maps.has_del_other (key_ne e)]; exact h.1 i
  · unfold delV at hu
    by_cases e : i = k
    · subst e; rw [if_pos rfl] at hu; cases hu
    · rw [if_neg e] at hu; rw [Maps.atKey_del_other (key_ne e)]; exact h.2 i u hu z
/-- What a look-up finds. -/
theorem mp_look {t E : TypeId} (c : Bool) (h : MpV w P K b n f) (hK : P.underlying K = some (.int .i64)) (ht : P.underlying t = some (.map K E)) {z : Value} (hz : (zeroValue E).run P w = .ok z w) {k : Int} (hk : wfI k) :
    (Instr.lookup t (.map (some b)) (.int .i64 k) c).run P w = .ok (if c then .tuple #[(f k).getD z, .bool (f k).isSome] else (f k).getD z) w := by
  obtain ⟨D, ⟨es, clock, hb, F, hs, rfl⟩, h1, h2⟩ := h
  have hkey := keyOf_int_mk hK hk
  have e1 := h1 k
  rcases Maps.fit_look c (int_keyed hK) ht hz hb F hkey with ⟨hrun, _, hat⟩ | ⟨e0, y, _, _, hrun, hRv, hat, _⟩
  · rw [Maps.has_false_of_atKey hat] at e1
    have e : f k = none := by cases hf : f k with | none => rfl | some _ => rw [hf] at e1; cases e1
    rw [hrun, e]
    cases c <;> rfl
  · rw [Maps.has_true_of_atKey hat] at e1
    obtain ⟨v, hv⟩ : ∃ v, f k = some v := by cases hf : f k with | some v => exact ⟨v, rfl⟩ | none => rw [hf] at e1; cases e1
    have h3 := h2 k v hv .nil
    rw [hat .nil] at h3
    have h4 : e0.val = v := by
      unfold hR at hRv
      have h5 := Option.some.inj hRv
      rw [← h5] at h3
      injection h3
    rw [hrun, hv, h4]
    cases c <;> rfl
theorem mp_store {t E : TypeId} (h : MpV w P K b n f) (hK : P.underlying K = some (.int .i64)) (ht : P.underlying t = some (.map K E)) (hn : n < 9223372036854775807) {k : Int} (hk : wfI k) (v : Value) :
    ∃ w', (Instr.mapUpdate t (.map (some b)) (.int .i64 k) v).run P w = .ok () w' ∧ MpV w' P K b (n + 1) (updV f k v) ∧ w.grownBy w' (some b) ∧ w'.heap.size = w.heap.size := by
  obtain ⟨D, hD, h1⟩ := h
  obtain ⟨w', hrun, ho, ht⟩ := hD.store (int_keyed hK) ht hn (keyOf_int_mk hK hk) (d := .held v) (ps := []) rfl
  obtain ⟨es, c, es', c', hb, rfl⟩ := ht
  exact ⟨_, hrun, ⟨_, ho, mp_put hD.isMap h1 k v⟩, World.mapTurned.grown ⟨es, c, es', c', hb, rfl⟩, by simp [setBlock]⟩
theorem mp_delete {t E : TypeId} (h : MpV w P K b n f) (hK : P.underlying K = some (.int .i64)) (ht : P.underlying t = some (.map K E)) {k : Int} (hk : wfI k) (ty : TypeId) :
    ∃ w', (Builtin.delete_ #[t, K] ty #[.map (some b), .int .i64 k]).run P w = .ok (.tuple #[]) w' ∧ MpV w' P K b n (delV f k) ∧ w.grownBy w' (some b) ∧ w'.heap.size = w.heap.size := by
  obtain ⟨D, hD, h1⟩ := h
  obtain ⟨w', hrun, ho, ht⟩ := hD.drop (int_keyed hK) ht (keyOf_int_mk hK hk) ty
  obtain ⟨es, c, es', c', hb, rfl⟩ := ht
  exact ⟨_, hrun, ⟨_, ho, mp_drop h1 k⟩, World.mapTurned.grown ⟨es, c, es', c', hb, rfl⟩, by simp [setBlock]⟩
/-- 'delete(m, k)' at the operation. -/
theorem wp_delete {ops : Array Oper} {rest : List Oper} {o : Oper} {a : Act} {Q : Exit → Act → World → Prop} (hg : o.guard = none) (m x : Operand) (t : TypeId) (hop : o.op = Op.call { callee := Callee.builtin Builtin.delete, args := #[m, x], argTypes := #[t, K] }) (E : TypeId)
    (hK : P.underlying K = some (.int .i64)) (ht : P.underlying t = some (.map K E)) (hm : a.eval m = .map (some b)) (h : MpV w P K b n f) (k : Int) (hx : a.eval x = .int .i64 k) (hk : wfI k)
    (hC : ∀ w', MpV w' P K b n (delV f k) → w.grownBy w' (some b) → w'.heap.size = w.heap.size → wpList P ops Q rest (a.put o.dst (.tuple #[])) w') : wpList P ops Q (o :: rest) a w := by
  refine wpList_plain hg fun K' hK' => ?_
  obtain ⟨w', hrun, r1, r2, r3⟩ := mp_delete h hK ht hk o.type
  unfold Oper.wp
  simp [execOp, hop, resolve, invoke, builtin, hm, hx, hrun, Result.andThen]
  exact hK' _ _ (hC w' r1 r2 r3)
end Go.Proofs.Ytopblnecdabcgaa.MP
end
section
/- Rows of elements of several cells: an element laid anew. -/
namespace Go.Proofs.Ytopblnecdabcgaa.RP
open Go Go.RowKit Go.Proofs.YtopblnecdabcgaaW.PrintWords Go.Proofs.YtopblnecdabcgaaW.PrintLast Go.Proofs.YtopblnecdabcgaaW.PrintMore
set_option linter.unusedVariables false
section
variable {α : Type} {d : Kd α} {enc : α → List Value}
theorem flat_len (henc : ∀ x, (enc x).length = d.sz) : ∀ a : List α, (a.flatMap enc).length = a.length * d.sz
  | [] => by simp
  | x :: a => by rw [List.flatMap_cons, List.length_append, henc, flat_len henc a, List.length_cons, Nat.add_mul, Nat.one_mul]; omega
theorem reps_flat (henc : ∀ x, (enc x).length = d.sz) {R : α → List Value → Prop} (hM : ∀ {x cs}, R x cs → cs = enc x) : ∀ (a : List α) (cs : List Value), Reps R d.sz a cs → cs = a.flatMap enc
  | [], cs, h => by
    have := h.1
    rw [List.length_nil, Nat.zero_mul] at this
    rw [List.flatMap_nil]
    exact List.length_eq_zero_iff.1 this
  | x :: a, cs, h => by
    have h0 := hM (h.2 0 x rfl)
    rw [Nat.zero_mul, List.drop_zero] at h0
    have h1 : Reps R d.sz a (cs.drop d.sz) := by
      refine ⟨by rw [List.length_drop, h.1, List.length_cons, Nat.add_mul, Nat.one_mul]; omega, fun j p hj => ?_⟩
      have h2 := h.2 (j + 1) p hj
      rw [List.drop_drop, show d.sz + j * d.sz = (j + 1) * d.sz by rw [Nat.add_mul, Nat.one_mul, Nat.add_comm]]
      exact h2
    rw [List.flatMap_cons, ← reps_flat henc hM a _ h1, ← h0, List.take_append_drop]
theorem flat_reps (henc : ∀ x, (enc x).length = d.sz) {R : α → List Value → Prop} (hR : ∀ x, R x (enc x)) : ∀ (a : List α), Reps R d.sz a (a.flatMap enc)
  | [] => Reps.none _ _
  | x :: a => by
    have ih := flat_reps henc hR a
    refine ⟨flat_len henc _, fun j p hj => ?_⟩
    rw [List.flatMap_cons]
    cases j with
    | zero =>
      obtain rfl : x = p := Option.some.inj hj
      rw [Nat.zero_mul, List.drop_zero, ← henc x, List.take_left]
      exact hR x
    | succ j =>
      have := ih.2 j p hj
      rw [show (j + 1) * d.sz = (enc x).length + j * d.sz by rw [henc, Nat.add_mul, Nat.one_mul, Nat.add_comm], List.drop_length_add_append]
      exact this
theorem flat_set (henc : ∀ x, (enc x).length = d.sz) (x : α) : ∀ (a : List α) (i : Nat), i < a.length → (a.set i x).flatMap enc = (a.flatMap enc).take (i * d.sz) ++ enc x ++ (a.flatMap enc).drop (i * d.sz + d.sz)
  | [], i, h => by simp at h
  | y :: a, 0, _ => by
    rw [List.set_cons_zero, List.flatMap_cons, List.flatMap_cons, Nat.zero_mul, List.take_zero, List.nil_append, Nat.zero_add, ← henc y, List.drop_left]
  | y :: a, i + 1, h => by
    have ih := flat_set henc x a i (by simpa using h)
    rw [List.set_cons_succ, List.flatMap_cons, List.flatMap_cons, ih, show (i + 1) * d.sz = (enc y).length + i * d.sz by rw [henc, Nat.add_mul, Nat.one_mul, Nat.add_comm], List.take_length_add_append, Nat.add_assoc, List.drop_length_add_append]
    simp only [List.append_assoc]
theorem grown_cells (w : World) (g o : Nat) (vs : List Value) : w.grownBy (w.setCells g o vs) (some g) ∧ (w.setCells g o vs).heap.size = w.heap.size := by
  obtain ⟨h1, h2, h3, h4⟩ := setCells_same g vs o w
  exact ⟨⟨h1, h2, h3, Nat.le_of_eq h4.symm, fun k _ hk => setCells_far vs o k (fun e => hk (by rw [e]))⟩, h4⟩
theorem cutMid (X E D : List Value) (n : Nat) {m : Nat} (h1 : X.length ≤ n) (h2 : X.length + E.length ≤ n) (h3 : X.length + E.length = m) : (X ++ (E ++ D)).take n = X ++ (E ++ D.take (n - m)) := by
  rw [List.take_append, List.take_of_length_le h1, List.take_append, List.take_of_length_le (by omega), show n - X.length - E.length = n - m by omega]
/-- An element of a row of the call's own is laid anew. -/
theorem R_putN (henc : ∀ x, (enc x).length = d.sz) (hM : ∀ {w : World} {base : Nat} {ok : Nat → Prop} {x : α} {cs : List Value}, d.M w base ok x cs → cs = enc x) (hmk : ∀ (w : World) (base : Nat) (ok : Nat → Prop) (x : α), d.M w base ok x (enc x))
    {e : Nat} {w : World} {base g cap : Nat} {ok : Nat → Prop} {a : List α} (h : d.R e w base ok (.slice (some ⟨g, 0, none⟩) a.length cap) a) (i : Nat) (hi : i < a.length) (x : α) :
    d.R e (w.setCells g (i * d.sz) (enc x)) base ok (.slice (some ⟨g, 0, none⟩) a.length cap) (a.set i x) ∧ w.grownBy (w.setCells g (i * d.sz) (enc x)) (some g) ∧ (w.setCells g (i * d.sz) (enc x)).heap.size = w.heap.size := by
  refine ⟨?_, grown_cells w g _ _⟩
  obtain ⟨h0, inner, ho, hr⟩ := h
  have hin := reps_flat henc (fun h => hM h) a inner hr
  subst hin
  refine ⟨h0, (a.set i x).flatMap enc, ?_, flat_reps henc (fun y => hmk _ _ _ y) _⟩
  rw [List.length_set]
  obtain ⟨hl, hc⟩ := ho
  refine ⟨by rw [flat_len henc, List.length_set], .inr ?_⟩
  rcases hc with ⟨hnil, _⟩ | ⟨g', cap', cur, he, hbg, hh, hnc, hcm, hcs, ht⟩
  · cases hnil
  · injection he with e1 e2 e3
    injection e1 with e1
    injection e1 with e1 _ _
    subst e1 e3
    have hsz : a.length * d.sz ≤ cur.size := by rw [hcs]; exact Nat.mul_le_mul_right _ hnc
    have hiu : i * d.sz + d.sz ≤ a.length * d.sz := by rw [← Nat.succ_mul]; exact Nat.mul_le_mul_right _ hi
    obtain ⟨cur', h1, h2, h3⟩ := setCells_row (enc x) (i * d.sz) w cur hh (by rw [henc]; omega)
    refine ⟨g, cap, cur', rfl, hbg, h1, hnc, hcm, h2.trans hcs, ?_⟩
    have hlt : (cur.toList.take (i * d.sz)).length = i * d.sz := by rw [List.length_take, Array.length_toList]; omega
    have hfl : (a.flatMap enc).take (i * d.sz) = cur.toList.take (i * d.sz) := by rw [← ht, List.take_take, Nat.min_eq_left (by omega)]
    have hfd : (a.flatMap enc).drop (i * d.sz + d.sz) = (cur.toList.drop (i * d.sz + d.sz)).take (a.length * d.sz - (i * d.sz + d.sz)) := by rw [← ht, List.drop_take]
    rw [h3, henc, flat_set henc x a i hi, hfl, hfd, List.append_assoc, List.append_assoc]
    exact cutMid _ _ _ _ (by rw [hlt]; omega) (by rw [hlt, henc]; omega) (by rw [hlt, henc])
/-- What a cell of a row of the call's own holds. -/
theorem R_cellN (henc : ∀ x, (enc x).length = d.sz) (hM : ∀ {w : World} {base : Nat} {ok : Nat → Prop} {x : α} {cs : List Value}, d.M w base ok x cs → cs = enc x)
    {e : Nat} {w : World} {base g cap : Nat} {ok : Nat → Prop} {a : List α} (h : d.R e w base ok (.slice (some ⟨g, 0, none⟩) a.length cap) a) (i : Nat) (hi : i < a.length) (j : Nat) (hj : j < d.sz) :
    w.cell? ⟨g, i * d.sz + j, none⟩ = (enc a[i])[j]? ∧ w.frozen? ⟨g, i * d.sz + j, none⟩ = false := by
  obtain ⟨h0, inner, ho, hr⟩ := h
  have hri := hM (hr.2 i a[i] (List.getElem?_eq_getElem hi))
  obtain ⟨hl, hc⟩ := ho
  rcases hc with ⟨hnil, _⟩ | ⟨g', cap', cur, he, hbg, hh, hnc, hcm, hcs, ht⟩
  · cases hnil
  · injection he with e1 e2 e3
    injection e1 with e1
    injection e1 with e1 _ _
    subst e1
    refine ⟨?_, blk_frozen hh _⟩
    have hiu : i * d.sz + d.sz ≤ a.length * d.sz := by rw [← Nat.succ_mul]; exact Nat.mul_le_mul_right _ hi
    rw [blk_cell hh, ← hri, List.getElem?_take_of_lt hj, List.getElem?_drop, ← ht, List.getElem?_take_of_lt (by omega), Array.getElem?_toList]
end
end Go.Proofs.Ytopblnecdabcgaa.RP
end
section
-- printed by the session's own call of print.py. Not trusted: Lean checks it.
namespace Go.Proofs.Ytopblnecdabcgaa.P
open Go.RowKit Go.Proofs.YtopblnecdabcgaaW.PrintWords Go.Proofs.YtopblnecdabcgaaW.PrintLast Go.Proofs.YtopblnecdabcgaaW.PrintMore
attribute [local go_sem] max2_int min2_int max_two min_two max_three min_three max_four min_four
set_option linter.unusedVariables false
set_option linter.unusedSimpArgs false
/-! ### cmp_Or_int: function 107 -/
def cmp_Or_int.l0 : Nat → Int → List Int → Int → Int → Option (Int)
  | 0, _, _, _, _ => none
  | k + 1, x3, x6, x7, x8 => if x8 < x7 then (if 0 ≤ x8 then (if x8 < (x6.length : Int) then (if (rd x6 x8) = x3 then (cmp_Or_int.l0 k x3 x6 x7 (wrap64 (x8 + 1))) else (some (rd x6 x8))) else (none)) else (none)) else (some x3)
def cmp_Or_int.f (k : Nat) (l0 : List Int) : Option (Int) := cmp_Or_int.l0 k 0 l0 (l0.length : Int) 0
theorem cmp_Or_int.mono_l : ∀ k, (∀ y0 y1 y2 y3, LeO (cmp_Or_int.l0 k y0 y1 y2 y3) (cmp_Or_int.l0 (k + 1) y0 y1 y2 y3))
  | 0 => fun _ _ _ _ r h => by simp [cmp_Or_int.l0] at h
  | k + 1 => by
    have ih0 := cmp_Or_int.mono_l k
    · intro y0 y1 y2 y3
      unfold cmp_Or_int.l0
      repeat' first
      | (with_reducible exact ih0 _ _ _ _)
      | (with_reducible exact LeO.refl _)
      | (with_reducible exact LeO.none _)
      | (with_reducible refine LeO.ite ?_ ?_)
      | (with_reducible refine LeO.bind ?_ (fun _ => ?_))
      | exact ih0 _ _ _ _
      | exact LeO.none _
      | refine LeO.ite ?_ ?_
      | refine LeO.bind ?_ (fun _ => ?_)
theorem cmp_Or_int.mono : ∀ a0 k, LeO (cmp_Or_int.f k a0) (cmp_Or_int.f (k + 1) a0) := by
  intro a0 k
  have ih0 := cmp_Or_int.mono_l k
  unfold cmp_Or_int.f
  repeat' first
      | (with_reducible exact ih0 _ _ _ _)
      | (with_reducible exact LeO.refl _)
      | (with_reducible exact LeO.none _)
      | (with_reducible refine LeO.ite ?_ ?_)
      | (with_reducible refine LeO.bind ?_ (fun _ => ?_))
      | exact ih0 _ _ _ _
      | exact LeO.none _
      | refine LeO.ite ?_ ?_
      | refine LeO.bind ?_ (fun _ => ?_)
set_option maxHeartbeats 8000000 in
set_option maxRecDepth 100000 in
theorem cmp_Or_int.calls (k : Nat) (A0 : Option Addr) (c0 : Nat) (l0 : List Int) (r : Int) (w : World) (hr0 : Kd.C (Kd.int .i64) w A0 l0.length l0) (hc0 : l0.length ≤ c0) (h : cmp_Or_int.f k l0 = some r) :
    Calls Try.prog 107 #[.slice A0 l0.length c0] w fun e w' => e = .returned (.int .i64 r) ∧ Drawn0 w w' := by
  have HR0 := Aside0.mk hr0
  have HC0 := Aside0.mk hc0
  clear hr0 hc0
  have H : (cmp_Or_int.l0 k 0 l0 (l0.length : Int) 0) = some r := h
  clear h
  have H' := Aside0.mk H
  clear H
  go_enter Try.func107, Try.ntmps107
  go_wp2
  go_loopg [8] k (fun kq v8 w' => ∃ (x8_1 : Int), v8 = .int .i64 x8_1 ∧ Aside0 (cmp_Or_int.l0 kq 0 l0 (l0.length : Int) x8_1 = some r) ∧ Aside0 (kq ≤ k) ∧ Drawn0 w w')
  case atStart => exact ⟨(0), (by first | rfl | (simp; done) | (simp [*]; done)), H', ⟨Nat.le_refl _⟩, by repeat (first | exact Drawn0.refl _ | apply Drawn0.step)⟩
  case round =>
    clear H'
    try clear c1
    obtain ⟨x8_1, rfl, HA, HK1, ⟨m1, rfl⟩⟩ := hrel
    cases gk with
    | zero => exact absurd HA.out (by simp [cmp_Or_int.l0])
    | succ k1 =>
      have H := HA.out
      clear HA
      simp only [cmp_Or_int.l0] at H
      by_cases c2 : x8_1 < (l0.length : Int)
      · rw [if_pos c2] at H
        have c2b0 : decide (x8_1 < (l0.length : Int)) = true := decide_eq_true c2
        clear c2
        by_cases c3 : 0 ≤ x8_1
        · rw [if_pos c3] at H
          have c3b0 : decide (0 ≤ x8_1) = true := decide_eq_true c3
          clear c3
          by_cases c4 : x8_1 < (l0.length : Int)
          · rw [if_pos c4] at H
            have c4b0 : decide (x8_1 < (l0.length : Int)) = true := decide_eq_true c4
            clear c4
            by_cases c5 : (rd l0 x8_1) = 0
            · rw [if_pos c5] at H
              have c5b0 : ((rd l0 x8_1) == 0) = true := beq_iff_eq.mpr c5
              have c5b1 : ((rd l0 x8_1) != 0) = false := bne_eq_false_iff_eq.mpr c5
              clear c5
              have H' := Aside0.mk H
              clear H
              have p101 : 0 ≤ (x8_1 : Int) := of_decide_eq_true (by first | (with_reducible assumption) | assumption)
              have q101 : x8_1 < (l0.length : Int) := of_decide_eq_true (by first | (with_reducible assumption) | assumption)
              obtain ⟨ad101, e101, hx101_0⟩ := Kd.at_int HR0.out x8_1 p101 q101
              cases e101
              replace p101 := eq_true p101
              replace q101 := eq_true q101
              go_wp2
              go_roundg k1
              case measure => have := HK1.out; omega
              case rel => exact ⟨(wrap64 (x8_1 + 1)), (by first | rfl | (simp; done) | (simp [*]; done)), H', ⟨by have := HK1.out; omega⟩, by repeat (first | exact Drawn0.refl _ | apply Drawn0.step)⟩
            · rw [if_neg c5] at H
              have c5b0 : ((rd l0 x8_1) == 0) = false := beq_eq_false_iff_ne.mpr c5
              have c5b1 : ((rd l0 x8_1) != 0) = true := bne_iff_ne.mpr c5
              obtain rfl := Option.some.inj H
              have p101 : 0 ≤ (x8_1 : Int) := of_decide_eq_true (by first | (with_reducible assumption) | assumption)
              have q101 : x8_1 < (l0.length : Int) := of_decide_eq_true (by first | (with_reducible assumption) | assumption)
              obtain ⟨ad101, e101, hx101_0⟩ := Kd.at_int HR0.out x8_1 p101 q101
              cases e101
              replace p101 := eq_true p101
              replace q101 := eq_true q101
              go_wp2
              go_ret
              exact ⟨by first | rfl | ((repeat first | rw [Int.tdiv_eq_ediv_of_nonneg (by omega)] | rw [Int.tmod_eq_emod_of_nonneg (by omega)]); rfl) | (simp; done) | (simp [*]; done), by repeat (first | exact Drawn0.refl _ | apply Drawn0.step)⟩
          · rw [if_neg c4] at H
            exact absurd H (by simp)
        · rw [if_neg c3] at H
          exact absurd H (by simp)
      · rw [if_neg c2] at H
        have c2b0 : decide (x8_1 < (l0.length : Int)) = false := decide_eq_false c2
        clear c2
        obtain rfl := Option.some.inj H
        go_wp2
        go_ret
        exact ⟨by first | rfl | ((repeat first | rw [Int.tdiv_eq_ediv_of_nonneg (by omega)] | rw [Int.tmod_eq_emod_of_nonneg (by omega)]); rfl) | (simp; done) | (simp [*]; done), by repeat (first | exact Drawn0.refl _ | apply Drawn0.step)⟩
end Go.Proofs.Ytopblnecdabcgaa.P
end
section
-- printed by the session's own call of print.py. Not trusted: Lean checks it.
namespace Go.Proofs.Ytopblnecdabcgaa.P
open Go.RowKit Go.Proofs.YtopblnecdabcgaaW.PrintWords Go.Proofs.YtopblnecdabcgaaW.PrintLast Go.Proofs.YtopblnecdabcgaaW.PrintMore
attribute [local go_sem] max2_int min2_int max_two min_two max_three min_three max_four min_four
set_option linter.unusedVariables false
set_option linter.unusedSimpArgs false
/-! ### cmp_isNaN_int: function 118 -/
def cmp_isNaN_int.f (a0 : Int) : Option (Bool) := some (a0 != a0)
set_option maxHeartbeats 8000000 in
set_option maxRecDepth 100000 in
theorem cmp_isNaN_int.calls (a0 : Int) (r : Bool) (w : World) (h : cmp_isNaN_int.f a0 = some r) :
    Calls Try.prog 118 #[.int .i64 a0] w fun e w' => e = .returned (.bool r) ∧ Drawn0 w w' := by
  have H : (some (a0 != a0)) = some r := h
  clear h
  obtain rfl := Option.some.inj H
  go_enter Try.func118, Try.ntmps118
  go_wp2
  go_ret
  exact ⟨by first | rfl | ((repeat first | rw [Int.tdiv_eq_ediv_of_nonneg (by omega)] | rw [Int.tmod_eq_emod_of_nonneg (by omega)]); rfl) | (simp; done) | (simp [*]; done), by repeat (first | exact Drawn0.refl _ | apply Drawn0.step)⟩
end Go.Proofs.Ytopblnecdabcgaa.P
end
section
-- printed by the session's own call of print.py. Not trusted: Lean checks it.
namespace Go.Proofs.Ytopblnecdabcgaa.P
open Go.RowKit Go.Proofs.YtopblnecdabcgaaW.PrintWords Go.Proofs.YtopblnecdabcgaaW.PrintLast Go.Proofs.YtopblnecdabcgaaW.PrintMore
attribute [local go_sem] max2_int min2_int max_two min_two max_three min_three max_four min_four
set_option linter.unusedVariables false
set_option linter.unusedSimpArgs false
/-! ### cmp_Compare_int: function 108 -/
def cmp_Compare_int.f (a0 : Int) (a1 : Int) : Option (Int) := (cmp_isNaN_int.f a0).bind fun t101 => ((cmp_isNaN_int.f a1).bind fun t102 => (if t101 = true then (if t102 = true then (some 0) else (some (-1))) else (if t102 = true then (some 1) else (if a0 < a1 then (some (-1)) else (if a0 > a1 then (some 1) else (some 0))))))
set_option maxHeartbeats 8000000 in
set_option maxRecDepth 100000 in
theorem cmp_Compare_int.calls (a0 : Int) (a1 : Int) (r : Int) (w : World) (h : cmp_Compare_int.f a0 a1 = some r) :
    Calls Try.prog 108 #[.int .i64 a0, .int .i64 a1] w fun e w' => e = .returned (.int .i64 r) ∧ Drawn0 w w' := by
  have H : ((cmp_isNaN_int.f a0).bind fun t101 => ((cmp_isNaN_int.f a1).bind fun t102 => (if t101 = true then (if t102 = true then (some 0) else (some (-1))) else (if t102 = true then (some 1) else (if a0 < a1 then (some (-1)) else (if a0 > a1 then (some 1) else (some 0))))))) = some r := h
  clear h
  replace H := Option.bind_eq_some_iff.mp H
  obtain ⟨t101, A30, H⟩ := H
  replace H : ((cmp_isNaN_int.f a1).bind fun t102 => (if t101 = true then (if t102 = true then (some 0) else (some (-1))) else (if t102 = true then (some 1) else (if a0 < a1 then (some (-1)) else (if a0 > a1 then (some 1) else (some 0)))))) = some r := H
  have A3 := Aside0.mk A30
  clear A30
  replace H := Option.bind_eq_some_iff.mp H
  obtain ⟨t102, A40, H⟩ := H
  replace H : (if t101 = true then (if t102 = true then (some 0) else (some (-1))) else (if t102 = true then (some 1) else (if a0 < a1 then (some (-1)) else (if a0 > a1 then (some 1) else (some 0))))) = some r := H
  have A4 := Aside0.mk A40
  clear A40
  by_cases c5 : t101 = true
  · subst c5
    have H1 : (if t102 = true then (some 0) else (some (-1))) = some r := by rw [if_pos rfl] at H; exact H
    clear H
    have H := H1
    clear H1
    by_cases c6 : t102 = true
    · subst c6
      have H1 : (some 0) = some r := by rw [if_pos rfl] at H; exact H
      clear H
      have H := H1
      clear H1
      obtain rfl := Option.some.inj H
      go_enter Try.func108, Try.ntmps108
      go_wp2_with (first | ((with_reducible refine gate_callee (f := 118) rfl ?_); refine goesL_ (some 8) rfl rfl Try.func118 (by kernel_rfl) rfl #[.int .i64 a0] rfl (by (try simp only [List.map_toArray, List.map_cons, List.map_nil]); first | done | rfl | (simp only [List.length_drop, List.length_take]; rfl)) ?_; (with_reducible refine (cmp_isNaN_int.calls a0 true _ A3.out).mono ?_); rintro e w' ⟨rfl, ⟨nd, rfl⟩⟩; refine ⟨_, rfl, ?_⟩) | (go_at_call 118; (with_reducible refine (cmp_isNaN_int.calls a0 true _ A3.out).mono ?_); rintro e w' ⟨rfl, ⟨nd, rfl⟩⟩) | ((with_reducible refine gate_callee (f := 118) rfl ?_); refine goesL_ (some 10) rfl rfl Try.func118 (by kernel_rfl) rfl #[.int .i64 a1] rfl (by (try simp only [List.map_toArray, List.map_cons, List.map_nil]); first | done | rfl | (simp only [List.length_drop, List.length_take]; rfl)) ?_; (with_reducible refine (cmp_isNaN_int.calls a1 true _ A4.out).mono ?_); rintro e w' ⟨rfl, ⟨nd, rfl⟩⟩; refine ⟨_, rfl, ?_⟩) | (go_at_call 118; (with_reducible refine (cmp_isNaN_int.calls a1 true _ A4.out).mono ?_); rintro e w' ⟨rfl, ⟨nd, rfl⟩⟩))
      go_ret
      exact ⟨by first | rfl | ((repeat first | rw [Int.tdiv_eq_ediv_of_nonneg (by omega)] | rw [Int.tmod_eq_emod_of_nonneg (by omega)]); rfl) | (simp; done) | (simp [*]; done), by repeat (first | exact Drawn0.refl _ | apply Drawn0.step)⟩
    · replace c6 := Bool.eq_false_iff.mpr c6
      subst c6
      have H1 : (some (-1)) = some r := by rw [if_neg (show ¬ (false = true) by decide)] at H; exact H
      clear H
      have H := H1
      clear H1
      obtain rfl := Option.some.inj H
      go_enter Try.func108, Try.ntmps108
      go_wp2_with (first | ((with_reducible refine gate_callee (f := 118) rfl ?_); refine goesL_ (some 8) rfl rfl Try.func118 (by kernel_rfl) rfl #[.int .i64 a0] rfl (by (try simp only [List.map_toArray, List.map_cons, List.map_nil]); first | done | rfl | (simp only [List.length_drop, List.length_take]; rfl)) ?_; (with_reducible refine (cmp_isNaN_int.calls a0 true _ A3.out).mono ?_); rintro e w' ⟨rfl, ⟨nd, rfl⟩⟩; refine ⟨_, rfl, ?_⟩) | (go_at_call 118; (with_reducible refine (cmp_isNaN_int.calls a0 true _ A3.out).mono ?_); rintro e w' ⟨rfl, ⟨nd, rfl⟩⟩) | ((with_reducible refine gate_callee (f := 118) rfl ?_); refine goesL_ (some 10) rfl rfl Try.func118 (by kernel_rfl) rfl #[.int .i64 a1] rfl (by (try simp only [List.map_toArray, List.map_cons, List.map_nil]); first | done | rfl | (simp only [List.length_drop, List.length_take]; rfl)) ?_; (with_reducible refine (cmp_isNaN_int.calls a1 false _ A4.out).mono ?_); rintro e w' ⟨rfl, ⟨nd, rfl⟩⟩; refine ⟨_, rfl, ?_⟩) | (go_at_call 118; (with_reducible refine (cmp_isNaN_int.calls a1 false _ A4.out).mono ?_); rintro e w' ⟨rfl, ⟨nd, rfl⟩⟩))
      go_ret
      exact ⟨by first | rfl | ((repeat first | rw [Int.tdiv_eq_ediv_of_nonneg (by omega)] | rw [Int.tmod_eq_emod_of_nonneg (by omega)]); rfl) | (simp; done) | (simp [*]; done), by repeat (first | exact Drawn0.refl _ | apply Drawn0.step)⟩
  · replace c5 := Bool.eq_false_iff.mpr c5
    subst c5
    have H1 : (if t102 = true then (some 1) else (if a0 < a1 then (some (-1)) else (if a0 > a1 then (some 1) else (some 0)))) = some r := by rw [if_neg (show ¬ (false = true) by decide)] at H; exact H
    clear H
    have H := H1
    clear H1
    by_cases c7 : t102 = true
    · subst c7
      have H1 : (some 1) = some r := by rw [if_pos rfl] at H; exact H
      clear H
      have H := H1
      clear H1
      obtain rfl := Option.some.inj H
      go_enter Try.func108, Try.ntmps108
      go_wp2_with (first | ((with_reducible refine gate_callee (f := 118) rfl ?_); refine goesL_ (some 8) rfl rfl Try.func118 (by kernel_rfl) rfl #[.int .i64 a0] rfl (by (try simp only [List.map_toArray, List.map_cons, List.map_nil]); first | done | rfl | (simp only [List.length_drop, List.length_take]; rfl)) ?_; (with_reducible refine (cmp_isNaN_int.calls a0 false _ A3.out).mono ?_); rintro e w' ⟨rfl, ⟨nd, rfl⟩⟩; refine ⟨_, rfl, ?_⟩) | (go_at_call 118; (with_reducible refine (cmp_isNaN_int.calls a0 false _ A3.out).mono ?_); rintro e w' ⟨rfl, ⟨nd, rfl⟩⟩) | ((with_reducible refine gate_callee (f := 118) rfl ?_); refine goesL_ (some 10) rfl rfl Try.func118 (by kernel_rfl) rfl #[.int .i64 a1] rfl (by (try simp only [List.map_toArray, List.map_cons, List.map_nil]); first | done | rfl | (simp only [List.length_drop, List.length_take]; rfl)) ?_; (with_reducible refine (cmp_isNaN_int.calls a1 true _ A4.out).mono ?_); rintro e w' ⟨rfl, ⟨nd, rfl⟩⟩; refine ⟨_, rfl, ?_⟩) | (go_at_call 118; (with_reducible refine (cmp_isNaN_int.calls a1 true _ A4.out).mono ?_); rintro e w' ⟨rfl, ⟨nd, rfl⟩⟩))
      go_ret
      exact ⟨by first | rfl | ((repeat first | rw [Int.tdiv_eq_ediv_of_nonneg (by omega)] | rw [Int.tmod_eq_emod_of_nonneg (by omega)]); rfl) | (simp; done) | (simp [*]; done), by repeat (first | exact Drawn0.refl _ | apply Drawn0.step)⟩
    · replace c7 := Bool.eq_false_iff.mpr c7
      subst c7
      have H1 : (if a0 < a1 then (some (-1)) else (if a0 > a1 then (some 1) else (some 0))) = some r := by rw [if_neg (show ¬ (false = true) by decide)] at H; exact H
      clear H
      have H := H1
      clear H1
      by_cases c8 : a0 < a1
      · rw [if_pos c8] at H
        have c8b0 : decide (a0 < a1) = true := decide_eq_true c8
        clear c8
        obtain rfl := Option.some.inj H
        go_enter Try.func108, Try.ntmps108
        go_wp2_with (first | ((with_reducible refine gate_callee (f := 118) rfl ?_); refine goesL_ (some 8) rfl rfl Try.func118 (by kernel_rfl) rfl #[.int .i64 a0] rfl (by (try simp only [List.map_toArray, List.map_cons, List.map_nil]); first | done | rfl | (simp only [List.length_drop, List.length_take]; rfl)) ?_; (with_reducible refine (cmp_isNaN_int.calls a0 false _ A3.out).mono ?_); rintro e w' ⟨rfl, ⟨nd, rfl⟩⟩; refine ⟨_, rfl, ?_⟩) | (go_at_call 118; (with_reducible refine (cmp_isNaN_int.calls a0 false _ A3.out).mono ?_); rintro e w' ⟨rfl, ⟨nd, rfl⟩⟩) | ((with_reducible refine gate_callee (f := 118) rfl ?_); refine goesL_ (some 10) rfl rfl Try.func118 (by kernel_rfl) rfl #[.int .i64 a1] rfl (by (try simp only [List.map_toArray, List.map_cons, List.map_nil]); first | done | rfl | (simp only [List.length_drop, List.length_take]; rfl)) ?_; (with_reducible refine (cmp_isNaN_int.calls a1 false _ A4.out).mono ?_); rintro e w' ⟨rfl, ⟨nd, rfl⟩⟩; refine ⟨_, rfl, ?_⟩) | (go_at_call 118; (with_reducible refine (cmp_isNaN_int.calls a1 false _ A4.out).mono ?_); rintro e w' ⟨rfl, ⟨nd, rfl⟩⟩))
        go_ret
        exact ⟨by first | rfl | ((repeat first | rw [Int.tdiv_eq_ediv_of_nonneg (by omega)] | rw [Int.tmod_eq_emod_of_nonneg (by omega)]); rfl) | (simp; done) | (simp [*]; done), by repeat (first | exact Drawn0.refl _ | apply Drawn0.step)⟩
      · rw [if_neg c8] at H
        have c8b0 : decide (a0 < a1) = false := decide_eq_false c8
        clear c8
        by_cases c9 : a0 > a1
        · rw [if_pos c9] at H
          have c9b0 : decide (a1 < a0) = true := decide_eq_true c9
          clear c9
          obtain rfl := Option.some.inj H
          go_enter Try.func108, Try.ntmps108
          go_wp2_with (first | ((with_reducible refine gate_callee (f := 118) rfl ?_); refine goesL_ (some 8) rfl rfl Try.func118 (by kernel_rfl) rfl #[.int .i64 a0] rfl (by (try simp only [List.map_toArray, List.map_cons, List.map_nil]); first | done | rfl | (simp only [List.length_drop, List.length_take]; rfl)) ?_; (with_reducible refine (cmp_isNaN_int.calls a0 false _ A3.out).mono ?_); rintro e w' ⟨rfl, ⟨nd, rfl⟩⟩; refine ⟨_, rfl, ?_⟩) | (go_at_call 118; (with_reducible refine (cmp_isNaN_int.calls a0 false _ A3.out).mono ?_); rintro e w' ⟨rfl, ⟨nd, rfl⟩⟩) | ((with_reducible refine gate_callee (f := 118) rfl ?_); refine goesL_ (some 10) rfl rfl Try.func118 (by kernel_rfl) rfl #[.int .i64 a1] rfl (by (try simp only [List.map_toArray, List.map_cons, List.map_nil]); first | done | rfl | (simp only [List.length_drop, List.length_take]; rfl)) ?_; (with_reducible refine (cmp_isNaN_int.calls a1 false _ A4.out).mono ?_); rintro e w' ⟨rfl, ⟨nd, rfl⟩⟩; refine ⟨_, rfl, ?_⟩) | (go_at_call 118; (with_reducible refine (cmp_isNaN_int.calls a1 false _ A4.out).mono ?_); rintro e w' ⟨rfl, ⟨nd, rfl⟩⟩))
          go_ret
          exact ⟨by first | rfl | ((repeat first | rw [Int.tdiv_eq_ediv_of_nonneg (by omega)] | rw [Int.tmod_eq_emod_of_nonneg (by omega)]); rfl) | (simp; done) | (simp [*]; done), by repeat (first | exact Drawn0.refl _ | apply Drawn0.step)⟩
        · rw [if_neg c9] at H
          have c9b0 : decide (a1 < a0) = false := decide_eq_false c9
          clear c9
          obtain rfl := Option.some.inj H
          go_enter Try.func108, Try.ntmps108
          go_wp2_with (first | ((with_reducible refine gate_callee (f := 118) rfl ?_); refine goesL_ (some 8) rfl rfl Try.func118 (by kernel_rfl) rfl #[.int .i64 a0] rfl (by (try simp only [List.map_toArray, List.map_cons, List.map_nil]); first | done | rfl | (simp only [List.length_drop, List.length_take]; rfl)) ?_; (with_reducible refine (cmp_isNaN_int.calls a0 false _ A3.out).mono ?_); rintro e w' ⟨rfl, ⟨nd, rfl⟩⟩; refine ⟨_, rfl, ?_⟩) | (go_at_call 118; (with_reducible refine (cmp_isNaN_int.calls a0 false _ A3.out).mono ?_); rintro e w' ⟨rfl, ⟨nd, rfl⟩⟩) | ((with_reducible refine gate_callee (f := 118) rfl ?_); refine goesL_ (some 10) rfl rfl Try.func118 (by kernel_rfl) rfl #[.int .i64 a1] rfl (by (try simp only [List.map_toArray, List.map_cons, List.map_nil]); first | done | rfl | (simp only [List.length_drop, List.length_take]; rfl)) ?_; (with_reducible refine (cmp_isNaN_int.calls a1 false _ A4.out).mono ?_); rintro e w' ⟨rfl, ⟨nd, rfl⟩⟩; refine ⟨_, rfl, ?_⟩) | (go_at_call 118; (with_reducible refine (cmp_isNaN_int.calls a1 false _ A4.out).mono ?_); rintro e w' ⟨rfl, ⟨nd, rfl⟩⟩))
          go_ret
          exact ⟨by first | rfl | ((repeat first | rw [Int.tdiv_eq_ediv_of_nonneg (by omega)] | rw [Int.tmod_eq_emod_of_nonneg (by omega)]); rfl) | (simp; done) | (simp [*]; done), by repeat (first | exact Drawn0.refl _ | apply Drawn0.step)⟩
end Go.Proofs.Ytopblnecdabcgaa.P
end
section
-- printed by the session's own call of print.py. Not trusted: Lean checks it.
namespace Go.Proofs.Ytopblnecdabcgaa.P
open Go.RowKit Go.Proofs.YtopblnecdabcgaaW.PrintWords Go.Proofs.YtopblnecdabcgaaW.PrintLast Go.Proofs.YtopblnecdabcgaaW.PrintMore
attribute [local go_sem] max2_int min2_int max_two min_two max_three min_three max_four min_four
set_option linter.unusedVariables false
set_option linter.unusedSimpArgs false
/-! ### heap_thing_ahead: function 119 -/
def heap_thing_ahead.f (k : Nat) (a0_0 : Int) (a0_1 : Int) (a0_2 : Int) (a1_0 : Int) (a1_1 : Int) (a1_2 : Int) : Option (Bool) := (cmp_Compare_int.f a1_1 a0_1).bind fun t103 => ((cmp_Compare_int.f a0_2 a1_2).bind fun t104 => ((cmp_Compare_int.f a0_0 a1_0).bind fun t105 => ((cmp_Or_int.f k (([t103, t104, t105] : List Int))).bind fun t109 => (some (decide (t109 < 0))))))
theorem heap_thing_ahead.mono : ∀ a0 a1 a2 a3 a4 a5 k, LeO (heap_thing_ahead.f k a0 a1 a2 a3 a4 a5) (heap_thing_ahead.f (k + 1) a0 a1 a2 a3 a4 a5) := by
  intro a0 a1 a2 a3 a4 a5 k
  unfold heap_thing_ahead.f
  repeat' first
      | (with_reducible exact cmp_Or_int.mono _ _)
      | (with_reducible exact LeO.refl _)
      | (with_reducible exact LeO.none _)
      | (with_reducible refine LeO.ite ?_ ?_)
      | (with_reducible refine LeO.bind ?_ (fun _ => ?_))
      | exact cmp_Or_int.mono _ _
      | exact LeO.none _
      | refine LeO.ite ?_ ?_
      | refine LeO.bind ?_ (fun _ => ?_)
def heap_thing_ahead.T1 : Bool × List (List Nat × List Nat) := (true, [([], []), ([0], [0]), ([], []), ([2], [2]), ([1, 3], [1, 3]), ([], []), ([5], [5]), ([], []), ([7], [7]), ([6, 8, 4], [6, 8]), ([], []), ([10], [10]), ([], []), ([12], [12]), ([11, 13, 9], [11, 13]), ([4, 9, 14], [4, 9, 14]), ([15, 14], [15]), ([16], [16]), ([17, 16, 0, 1, 2, 3, 4, 5, 6, 7, 8, 9, 10, 11, 12, 13, 14, 15, 16, 17], [17])])
def heap_thing_ahead.B1 : List Nat := [0, 1, 0, 4, 15, 0, 32, 0, 128, 511, 0, 1024, 0, 4096, 16383, 32767, 65535, 131071, 262143]
theorem heap_thing_ahead.tab1 : rtab .any (opsOf Try.f119 1) = heap_thing_ahead.T1 := by kernel_rfl
theorem heap_thing_ahead.bits1 : waitsOk heap_thing_ahead.T1.2 heap_thing_ahead.B1 = true := by kernel_rfl
set_option maxHeartbeats 8000000 in
set_option maxRecDepth 100000 in
theorem heap_thing_ahead.calls (k : Nat) (a0_0 : Int) (a0_1 : Int) (a0_2 : Int) (a1_0 : Int) (a1_1 : Int) (a1_2 : Int) (r : Bool) (w : World) (h : heap_thing_ahead.f k a0_0 a0_1 a0_2 a1_0 a1_1 a1_2 = some r) :
    Calls Try.prog 119 #[.agg #[.int .i64 a0_0, .int .i64 a0_1, .int .i64 a0_2], .agg #[.int .i64 a1_0, .int .i64 a1_1, .int .i64 a1_2]] w fun e w' => e = .returned (.bool r) ∧ Below w.heap.size w w' := by
  have hu105 := Try.underlying105
  have HB := Aside0.mk (Below.refl w.heap.size w)
  have H : ((cmp_Compare_int.f a1_1 a0_1).bind fun t103 => ((cmp_Compare_int.f a0_2 a1_2).bind fun t104 => ((cmp_Compare_int.f a0_0 a1_0).bind fun t105 => ((cmp_Or_int.f k (([t103, t104, t105] : List Int))).bind fun t109 => (some (decide (t109 < 0))))))) = some r := h
  clear h
  replace H := Option.bind_eq_some_iff.mp H
  obtain ⟨t103, A30, H⟩ := H
  replace H : ((cmp_Compare_int.f a0_2 a1_2).bind fun t104 => ((cmp_Compare_int.f a0_0 a1_0).bind fun t105 => ((cmp_Or_int.f k (([t103, t104, t105] : List Int))).bind fun t109 => (some (decide (t109 < 0)))))) = some r := H
  have A3 := Aside0.mk A30
  clear A30
  replace H := Option.bind_eq_some_iff.mp H
  obtain ⟨t104, A40, H⟩ := H
  replace H : ((cmp_Compare_int.f a0_0 a1_0).bind fun t105 => ((cmp_Or_int.f k (([t103, t104, t105] : List Int))).bind fun t109 => (some (decide (t109 < 0))))) = some r := H
  have A4 := Aside0.mk A40
  clear A40
  replace H := Option.bind_eq_some_iff.mp H
  obtain ⟨t105, A50, H⟩ := H
  replace H : ((cmp_Or_int.f k (([t103, t104, t105] : List Int))).bind fun t109 => (some (decide (t109 < 0)))) = some r := H
  have A5 := Aside0.mk A50
  clear A50
  obtain ⟨y106, hy106⟩ : ∃ y_ : List Int, y_ = (([t103, t104, t105] : List Int)) := ⟨_, rfl⟩
  replace H : ((cmp_Or_int.f k y106).bind fun t109 => (some (decide (t109 < 0)))) = some r := by first | (rw [hy106]; with_reducible exact H) | (have H2_ := (Option.bind_some _ _).symm.trans H; rw [hy106]; with_reducible exact H2_) | (have H2_ := (Option.bind_some _ _).symm.trans H; with_reducible exact H2_) | with_reducible exact H | (rw [hy106]; exact H) | exact H
  have Ny106 := Aside0.mk hy106
  clear hy106
  replace H := Option.bind_eq_some_iff.mp H
  obtain ⟨t109, A60, H⟩ := H
  replace H : (some (decide (t109 < 0))) = some r := H
  have A6 := Aside0.mk A60
  clear A60
  obtain rfl := Option.some.inj H
  go_enter Try.func119, Try.ntmps119
  try go_wp2_with (first | ((with_reducible refine gate_dst (N := 2) rfl ?_); refine box_event ?hg (N := 2) ?hd (cs := #[.int .i64 a0_0, .int .i64 a0_1, .int .i64 a0_2]) (t := 105) ?hr ?_; (case hd => rfl); (case hg => rfl); (case hr => first | (go_simp; done) | (go_simp; rfl)); intro gb101 hg w7 hbox hb; have n0_ := Aside0.mk (below_step (by repeat (first | (with_reducible first | exact HB.out | apply below_alloc | apply pw_below_drewN | apply below_drew1) | exact HB.out)) hb); have n1_ := Aside0.mk (hbox); have n2_ := Aside0.mk ((by rw [hg]; exact (below_size (by repeat (first | (with_reducible first | exact HB.out | apply below_alloc | apply pw_below_drewN | apply below_drew1) | exact HB.out))) : w.heap.size ≤ gb101)); have n3_ := Aside0.mk ((by rw [hg]; exact (below_size (by repeat (first | (with_reducible first | exact HB.out | apply below_alloc | apply pw_below_drewN | apply below_drew1) | exact HB.out))) : w.heap.size ≤ gb101)); clear HB; have HB := n0_; have BK101 := n1_; have GW101 := n2_; have GE101 := n3_; clear n0_ n1_ n2_ n3_; clear hb hbox hg) | ((with_reducible refine gate_dst (N := 3) rfl ?_); refine box_event ?hg (N := 3) ?hd (cs := #[.int .i64 a1_0, .int .i64 a1_1, .int .i64 a1_2]) (t := 105) ?hr ?_; (case hd => rfl); (case hg => rfl); (case hr => first | (go_simp; done) | (go_simp; rfl)); intro gb102 hg w8 hbox hb; have n0_ := Aside0.mk (blk_below (g := gb101) (o := .cells #[.int .i64 a0_0, .int .i64 a0_1, .int .i64 a0_2] 105 (0, 0)) (by (with_reducible repeat (first | refine blk_drewN ?_ _ | refine blk_drew ?_ | refine blk_alloc ?_ _)); exact BK101.out) hb); have n1_ := Aside0.mk (below_step (by repeat (first | (with_reducible first | exact HB.out | apply below_alloc | apply pw_below_drewN | apply below_drew1 | refine below_set ?_ GE101.out) | exact HB.out)) hb); have n2_ := Aside0.mk (hbox); have n3_ := Aside0.mk ((by rw [hg]; exact (below_size (by repeat (first | (with_reducible first | exact HB.out | apply below_alloc | apply pw_below_drewN | apply below_drew1 | refine below_set ?_ GE101.out) | exact HB.out))) : w.heap.size ≤ gb102)); have n4_ := Aside0.mk ((by rw [hg]; exact (below_size (by repeat (first | (with_reducible first | exact HB.out | apply below_alloc | apply pw_below_drewN | apply below_drew1 | refine below_set ?_ GE101.out) | exact HB.out))) : w.heap.size ≤ gb102)); have n5_ := Aside0.mk ((by rw [hg]; exact Nat.ne_of_lt (blk_lt (g := gb101) (o := .cells #[.int .i64 a0_0, .int .i64 a0_1, .int .i64 a0_2] 105 (0, 0)) (by (with_reducible repeat (first | refine blk_drewN ?_ _ | refine blk_drew ?_ | refine blk_alloc ?_ _)); exact BK101.out)) : gb101 ≠ gb102)); have n6_ := Aside0.mk ((by rw [hg]; exact Nat.ne_of_gt (blk_lt (g := gb101) (o := .cells #[.int .i64 a0_0, .int .i64 a0_1, .int .i64 a0_2] 105 (0, 0)) (by (with_reducible repeat (first | refine blk_drewN ?_ _ | refine blk_drew ?_ | refine blk_alloc ?_ _)); exact BK101.out)) : gb102 ≠ gb101)); clear BK101; clear HB; have BK101 := n0_; have HB := n1_; have BK102 := n2_; have GW102 := n3_; have GE102 := n4_; have NB101_102 := n5_; have NB102_101 := n6_; clear n0_ n1_ n2_ n3_ n4_ n5_ n6_; clear hb hbox hg))
  have n0_ := Aside0.mk (blk_drew BK101.out)
  have n1_ := Aside0.mk (blk_drew BK102.out)
  have n2_ := Aside0.mk (below_drew1 HB.out)
  clear BK101
  clear BK102
  clear HB
  have BK101 := n0_
  have BK102 := n1_
  have HB := n2_
  clear n0_ n1_ n2_
  refine start_ (n := 19) (S := fun w' => w'.cell? ⟨gb102, 0, none⟩ = some (.int .i64 a1_0) ∧ w'.cell? ⟨gb102, 1, none⟩ = some (.int .i64 a1_1) ∧ w'.cell? ⟨gb102, 2, none⟩ = some (.int .i64 a1_2) ∧ w'.cell? ⟨gb101, 0, none⟩ = some (.int .i64 a0_0) ∧ w'.cell? ⟨gb101, 1, none⟩ = some (.int .i64 a0_1) ∧ w'.cell? ⟨gb101, 2, none⟩ = some (.int .i64 a0_2)) (ds := []) #[false, false, false, false, false, false, false, false, false, false, false, false, false, false, false, false, false, false, false] (by kernel_rfl) rfl rfl ⟨(blk_cell BK102.out 0).trans rfl, (blk_cell BK102.out 1).trans rfl, (blk_cell BK102.out 2).trans rfl, (blk_cell BK101.out 0).trans rfl, (blk_cell BK101.out 1).trans rfl, (blk_cell BK101.out 2).trans rfl⟩ (fun hHeld => ?_); refine with_tabW heap_thing_ahead.tab1 heap_thing_ahead.bits1 (fun HT_ HW_ => ?_)
  generalize w8.drew = w9 at BK101 BK102 HB hHeld ⊢
  refine pure_ (i := 0) (N := some 5) (v := ?_) (a' := ?_) #[true, false, false, false, false, false, false, false, false, false, false, false, false, false, false, false, false, false, false] rfl rfl (any_of HT_.out (by kernel_rfl)) (fun _ _ _ h => h) (Or.inl ⟨by rfl, ?_⟩) ?_ ?_
  rotate_left
  · intro w'
    go_simp
    with_reducible rfl
  rotate_left
  · simp only [Act.put, List.setIfInBounds_toArray, List.set_cons_zero, List.set_cons_succ, i64_w, i32_w]
    rfl
  refine pure_ (i := 2) (N := some 7) (v := ?_) (a' := ?_) #[true, false, true, false, false, false, false, false, false, false, false, false, false, false, false, false, false, false, false] rfl rfl (any_of HT_.out (by kernel_rfl)) (fun _ _ _ h => h) (Or.inl ⟨by rfl, ?_⟩) ?_ ?_
  rotate_left
  · intro w'
    go_simp
    with_reducible rfl
  rotate_left
  · simp only [Act.put, List.setIfInBounds_toArray, List.set_cons_zero, List.set_cons_succ, i64_w, i32_w]
    rfl
  refine pure_ (i := 5) (N := some 10) (v := ?_) (a' := ?_) #[true, false, true, false, false, true, false, false, false, false, false, false, false, false, false, false, false, false, false] rfl rfl (any_of HT_.out (by kernel_rfl)) (fun _ _ _ h => h) (Or.inl ⟨by rfl, ?_⟩) ?_ ?_
  rotate_left
  · intro w'
    go_simp
    with_reducible rfl
  rotate_left
  · simp only [Act.put, List.setIfInBounds_toArray, List.set_cons_zero, List.set_cons_succ, i64_w, i32_w]
    rfl
  refine pure_ (i := 7) (N := some 12) (v := ?_) (a' := ?_) #[true, false, true, false, false, true, false, true, false, false, false, false, false, false, false, false, false, false, false] rfl rfl (any_of HT_.out (by kernel_rfl)) (fun _ _ _ h => h) (Or.inl ⟨by rfl, ?_⟩) ?_ ?_
  rotate_left
  · intro w'
    go_simp
    with_reducible rfl
  rotate_left
  · simp only [Act.put, List.setIfInBounds_toArray, List.set_cons_zero, List.set_cons_succ, i64_w, i32_w]
    rfl
  refine pure_ (i := 10) (N := some 15) (v := ?_) (a' := ?_) #[true, false, true, false, false, true, false, true, false, false, true, false, false, false, false, false, false, false, false] rfl rfl (any_of HT_.out (by kernel_rfl)) (fun _ _ _ h => h) (Or.inl ⟨by rfl, ?_⟩) ?_ ?_
  rotate_left
  · intro w'
    go_simp
    with_reducible rfl
  rotate_left
  · simp only [Act.put, List.setIfInBounds_toArray, List.set_cons_zero, List.set_cons_succ, i64_w, i32_w]
    rfl
  refine pure_ (i := 12) (N := some 17) (v := ?_) (a' := ?_) #[true, false, true, false, false, true, false, true, false, false, true, false, true, false, false, false, false, false, false] rfl rfl (any_of HT_.out (by kernel_rfl)) (fun _ _ _ h => h) (Or.inl ⟨by rfl, ?_⟩) ?_ ?_
  rotate_left
  · intro w'
    go_simp
    with_reducible rfl
  rotate_left
  · simp only [Act.put, List.setIfInBounds_toArray, List.set_cons_zero, List.set_cons_succ, i64_w, i32_w]
    rfl
  refine take_ (i := 1) (N := some 6) (v := ?_) (a' := ?_) #[true, true, true, false, false, true, false, true, false, false, true, false, true, false, false, false, false, false, false] rfl rfl (take_ofW HT_.out HW_.out (by kernel_rfl)) (fun _ _ _ h => h) (Or.inl ⟨by rfl, ?_⟩) hHeld ?_ ?_
  rotate_left
  · rintro w' ⟨s0, s1, s2, s3, s4, s5⟩
    go_simp
    with_reducible rfl
  rotate_left
  · simp only [Act.put, List.setIfInBounds_toArray, List.set_cons_zero, List.set_cons_succ, i64_w, i32_w]
    rfl
  refine take_ (i := 3) (N := some 8) (v := ?_) (a' := ?_) #[true, true, true, true, false, true, false, true, false, false, true, false, true, false, false, false, false, false, false] rfl rfl (take_ofW HT_.out HW_.out (by kernel_rfl)) (fun _ _ _ h => h) (Or.inl ⟨by rfl, ?_⟩) hHeld ?_ ?_
  rotate_left
  · rintro w' ⟨s0, s1, s2, s3, s4, s5⟩
    go_simp
    with_reducible rfl
  rotate_left
  · simp only [Act.put, List.setIfInBounds_toArray, List.set_cons_zero, List.set_cons_succ, i64_w, i32_w]
    rfl
  refine take_ (i := 6) (N := some 11) (v := ?_) (a' := ?_) #[true, true, true, true, false, true, true, true, false, false, true, false, true, false, false, false, false, false, false] rfl rfl (take_ofW HT_.out HW_.out (by kernel_rfl)) (fun _ _ _ h => h) (Or.inl ⟨by rfl, ?_⟩) hHeld ?_ ?_
  rotate_left
  · rintro w' ⟨s0, s1, s2, s3, s4, s5⟩
    go_simp
    with_reducible rfl
  rotate_left
  · simp only [Act.put, List.setIfInBounds_toArray, List.set_cons_zero, List.set_cons_succ, i64_w, i32_w]
    rfl
  refine take_ (i := 8) (N := some 13) (v := ?_) (a' := ?_) #[true, true, true, true, false, true, true, true, true, false, true, false, true, false, false, false, false, false, false] rfl rfl (take_ofW HT_.out HW_.out (by kernel_rfl)) (fun _ _ _ h => h) (Or.inl ⟨by rfl, ?_⟩) hHeld ?_ ?_
  rotate_left
  · rintro w' ⟨s0, s1, s2, s3, s4, s5⟩
    go_simp
    with_reducible rfl
  rotate_left
  · simp only [Act.put, List.setIfInBounds_toArray, List.set_cons_zero, List.set_cons_succ, i64_w, i32_w]
    rfl
  refine take_ (i := 11) (N := some 16) (v := ?_) (a' := ?_) #[true, true, true, true, false, true, true, true, true, false, true, true, true, false, false, false, false, false, false] rfl rfl (take_ofW HT_.out HW_.out (by kernel_rfl)) (fun _ _ _ h => h) (Or.inl ⟨by rfl, ?_⟩) hHeld ?_ ?_
  rotate_left
  · rintro w' ⟨s0, s1, s2, s3, s4, s5⟩
    go_simp
    with_reducible rfl
  rotate_left
  · simp only [Act.put, List.setIfInBounds_toArray, List.set_cons_zero, List.set_cons_succ, i64_w, i32_w]
    rfl
  refine take_ (i := 13) (N := some 18) (v := ?_) (a' := ?_) #[true, true, true, true, false, true, true, true, true, false, true, true, true, true, false, false, false, false, false] rfl rfl (take_ofW HT_.out HW_.out (by kernel_rfl)) (fun _ _ _ h => h) (Or.inl ⟨by rfl, ?_⟩) hHeld ?_ ?_
  rotate_left
  · rintro w' ⟨s0, s1, s2, s3, s4, s5⟩
    go_simp
    with_reducible rfl
  rotate_left
  · simp only [Act.put, List.setIfInBounds_toArray, List.set_cons_zero, List.set_cons_succ, i64_w, i32_w]
    rfl
  refine one_ (i := 4) (N := some 9) #[true, true, true, true, true, true, true, true, true, false, true, true, true, true, false, false, false, false, false] rfl rfl (one_of HT_.out (by kernel_rfl)) (by decide) (fun K hK => ?_)
  refine goes_ Try.func108 (by kernel_rfl) rfl #[.int .i64 a1_1, .int .i64 a0_1] (by rfl) rfl rfl (by (try simp only [List.map_toArray, List.map_cons, List.map_nil]); first | done | rfl | (simp only [List.length_drop, List.length_take]; rfl)) ?_
  with_reducible refine (cmp_Compare_int.calls a1_1 a0_1 t103 _ A3.out).mono ?_
  rintro e w' ⟨rfl, ⟨nd, rfl⟩⟩
  refine ⟨_, rfl, ?_⟩
  refine hK.out _ _ ⟨(blk_cell BK102.out 0).trans rfl, (blk_cell BK102.out 1).trans rfl, (blk_cell BK102.out 2).trans rfl, (blk_cell BK101.out 0).trans rfl, (blk_cell BK101.out 1).trans rfl, (blk_cell BK101.out 2).trans rfl⟩ (fun hHeld => ?_)
  clear hK K
  refine norm_ (a' := ?_) ?_ ?_
  rotate_left
  · show Act.put _ (some 9) _ = _
    simp only [Act.put, List.setIfInBounds_toArray, List.set_cons_zero, List.set_cons_succ, i64_w, i32_w]
    rfl
  refine one_ (i := 9) (N := some 14) #[true, true, true, true, true, true, true, true, true, true, true, true, true, true, false, false, false, false, false] rfl rfl (one_of HT_.out (by kernel_rfl)) (by decide) (fun K hK => ?_)
  refine goes_ Try.func108 (by kernel_rfl) rfl #[.int .i64 a0_2, .int .i64 a1_2] (by rfl) rfl rfl (by (try simp only [List.map_toArray, List.map_cons, List.map_nil]); first | done | rfl | (simp only [List.length_drop, List.length_take]; rfl)) ?_
  with_reducible refine (cmp_Compare_int.calls a0_2 a1_2 t104 _ A4.out).mono ?_
  rintro e w' ⟨rfl, ⟨nd, rfl⟩⟩
  refine ⟨_, rfl, ?_⟩
  refine hK.out _ _ ⟨(blk_cell BK102.out 0).trans rfl, (blk_cell BK102.out 1).trans rfl, (blk_cell BK102.out 2).trans rfl, (blk_cell BK101.out 0).trans rfl, (blk_cell BK101.out 1).trans rfl, (blk_cell BK101.out 2).trans rfl⟩ (fun hHeld => ?_)
  clear hK K
  refine norm_ (a' := ?_) ?_ ?_
  rotate_left
  · show Act.put _ (some 14) _ = _
    simp only [Act.put, List.setIfInBounds_toArray, List.set_cons_zero, List.set_cons_succ, i64_w, i32_w]
    rfl
  refine one_ (i := 14) (N := some 19) #[true, true, true, true, true, true, true, true, true, true, true, true, true, true, true, false, false, false, false] rfl rfl (one_of HT_.out (by kernel_rfl)) (by decide) (fun K hK => ?_)
  refine goes_ Try.func108 (by kernel_rfl) rfl #[.int .i64 a0_0, .int .i64 a1_0] (by rfl) rfl rfl (by (try simp only [List.map_toArray, List.map_cons, List.map_nil]); first | done | rfl | (simp only [List.length_drop, List.length_take]; rfl)) ?_
  with_reducible refine (cmp_Compare_int.calls a0_0 a1_0 t105 _ A5.out).mono ?_
  rintro e w' ⟨rfl, ⟨nd, rfl⟩⟩
  refine ⟨_, rfl, ?_⟩
  refine hK.out _ _ ⟨(blk_cell BK102.out 0).trans rfl, (blk_cell BK102.out 1).trans rfl, (blk_cell BK102.out 2).trans rfl, (blk_cell BK101.out 0).trans rfl, (blk_cell BK101.out 1).trans rfl, (blk_cell BK101.out 2).trans rfl⟩ (fun hHeld => ?_)
  clear hK K
  refine norm_ (a' := ?_) ?_ ?_
  rotate_left
  · show Act.put _ (some 19) _ = _
    simp only [Act.put, List.setIfInBounds_toArray, List.set_cons_zero, List.set_cons_succ, i64_w, i32_w]
    rfl
  refine one_ (i := 15) (N := some 20) #[true, true, true, true, true, true, true, true, true, true, true, true, true, true, true, true, false, false, false] rfl rfl (one_of HT_.out (by kernel_rfl)) (by decide) (fun K hK => ?_)
  refine Kd.R_lit_step (Kd.int .i64) _ 3 ?hg (N := 20) ?hd (xs := ([t103, t104, t105] : List Int)) (inner := [.int .i64 t103, .int .i64 t104, .int .i64 t105]) (ok := fun _ => True) (okp := fun _ => True) ?hr ?hp (fun _ hk => hk) trivial (Below.refl _ _) (Nat.le_refl _) (by simp) ?_; (case hd => rfl); (case hg => rfl); (case hr => first | (go_simp; done) | (go_simp; rfl)); (case hp => exact (Reps.one (show Kd.M (Kd.int .i64) _ _ _ t103 [.int .i64 t103] from rfl) (Reps.one (show Kd.M (Kd.int .i64) _ _ _ t104 [.int .i64 t104] from rfl) (Reps.one (show Kd.M (Kd.int .i64) _ _ _ t105 [.int .i64 t105] from rfl) (Reps.none _ _)))))
  intro v107 w10 ho11 hb hg_ hnew_
  clear hg_ hnew_
  (first | rw [← Ny106.out] at ho11 | (simp only [Int.reduceToNat] at ho11; rw [← Ny106.out] at ho11))
  have n0_ := Aside0.mk (Kd.R_lower ho11 (below_size (by repeat (first | (with_reducible first | exact HB.out | apply below_alloc | apply pw_below_drewN | apply below_drew1 | refine below_set ?_ GE101.out | refine below_set ?_ GE102.out) | exact HB.out))))
  have n1_ := Aside0.mk (blk_below (g := gb101) (o := .cells #[.int .i64 a0_0, .int .i64 a0_1, .int .i64 a0_2] 105 (0, 0)) (by (with_reducible repeat (first | refine blk_drewN ?_ _ | refine blk_drew ?_ | refine blk_alloc ?_ _)); exact BK101.out) hb)
  have n2_ := Aside0.mk (blk_below (g := gb102) (o := .cells #[.int .i64 a1_0, .int .i64 a1_1, .int .i64 a1_2] 105 (0, 0)) (by (with_reducible repeat (first | refine blk_drewN ?_ _ | refine blk_drew ?_ | refine blk_alloc ?_ _)); exact BK102.out) hb)
  have n3_ := Aside0.mk (below_step (by repeat (first | (with_reducible first | exact HB.out | apply below_alloc | apply pw_below_drewN | apply below_drew1 | refine below_set ?_ GE101.out | refine below_set ?_ GE102.out) | exact HB.out)) hb)
  clear BK101
  clear BK102
  clear HB
  have HO108 := n0_
  have BK101 := n1_
  have BK102 := n2_
  have HB := n3_
  clear n0_ n1_ n2_ n3_
  clear hb ho11
  obtain ⟨Ao12, co12, eo12⟩ := Kd.R_slice HO108.out
  (first | subst eo12 | (injection eo12 with f1_ f2_ f3_; have f4_ := f1_.symm; have f5_ := f3_.symm; clear f1_ f2_ f3_; subst f4_; subst f5_))
  refine hK.out _ _ ⟨(blk_cell BK102.out 0).trans rfl, (blk_cell BK102.out 1).trans rfl, (blk_cell BK102.out 2).trans rfl, (blk_cell BK101.out 0).trans rfl, (blk_cell BK101.out 1).trans rfl, (blk_cell BK101.out 2).trans rfl⟩ (fun hHeld => ?_)
  clear hK K
  refine norm_ (a' := ?_) ?_ ?_
  rotate_left
  · show Act.put _ (some 20) _ = _
    simp only [Act.put, List.setIfInBounds_toArray, List.set_cons_zero, List.set_cons_succ, i64_w, i32_w]
    rfl
  refine one_ (i := 16) (N := some 21) #[true, true, true, true, true, true, true, true, true, true, true, true, true, true, true, true, true, false, false] rfl rfl (one_of HT_.out (by kernel_rfl)) (by decide) (fun K hK => ?_)
  refine goes_ Try.func107 (by kernel_rfl) rfl #[.slice Ao12 y106.length co12] (by rfl) rfl rfl (by (try simp only [List.map_toArray, List.map_cons, List.map_nil]); first | done | rfl | (simp only [List.length_drop, List.length_take]; rfl)) ?_
  with_reducible refine (cmp_Or_int.calls k _ _ y106 t109 _ ?side1 ?side2 A6.out).mono ?_
  (case side1 => repeat (first | exact (Kd.R_reads' HO108.out).2.2 | (with_reducible refine Kd.C_alloc ?_ _) | (with_reducible refine Kd.C_drewN ?_ _) | (with_reducible refine Kd.C_drew ?_)))
  (case side2 => exact (Kd.R_reads' HO108.out).2.1)
  rintro e w' ⟨rfl, ⟨nd, rfl⟩⟩
  refine ⟨_, rfl, ?_⟩
  refine hK.out _ _ ⟨(blk_cell BK102.out 0).trans rfl, (blk_cell BK102.out 1).trans rfl, (blk_cell BK102.out 2).trans rfl, (blk_cell BK101.out 0).trans rfl, (blk_cell BK101.out 1).trans rfl, (blk_cell BK101.out 2).trans rfl⟩ (fun hHeld => ?_)
  clear hK K
  refine norm_ (a' := ?_) ?_ ?_
  rotate_left
  · show Act.put _ (some 21) _ = _
    simp only [Act.put, List.setIfInBounds_toArray, List.set_cons_zero, List.set_cons_succ, i64_w, i32_w]
    rfl
  refine pure_ (i := 17) (N := some 22) (v := ?_) (a' := ?_) #[true, true, true, true, true, true, true, true, true, true, true, true, true, true, true, true, true, true, false] rfl rfl (any_of HT_.out (by kernel_rfl)) (fun _ _ _ h => h) (Or.inl ⟨by rfl, ?_⟩) ?_ ?_
  rotate_left
  · intro w'
    go_simp
    with_reducible rfl
  rotate_left
  · simp only [Act.put, List.setIfInBounds_toArray, List.set_cons_zero, List.set_cons_succ, i64_w, i32_w]
    rfl
  refine pure_ (i := 18) (N := some 4) (v := ?_) (a' := ?_) #[true, true, true, true, true, true, true, true, true, true, true, true, true, true, true, true, true, true, true] rfl rfl (any_of HT_.out (by kernel_rfl)) (fun _ _ _ h => h) (Or.inl ⟨by rfl, ?_⟩) ?_ ?_
  rotate_left
  · intro w'
    go_simp
    with_reducible rfl
  rotate_left
  · simp only [Act.put, List.setIfInBounds_toArray, List.set_cons_zero, List.set_cons_succ, i64_w, i32_w]
    rfl
  refine done_ (done_of HT_.out (by kernel_rfl)) ?_
  try go_wp2
  go_ret
  exact ⟨by first | rfl | ((repeat first | rw [Int.tdiv_eq_ediv_of_nonneg (by omega)] | rw [Int.tmod_eq_emod_of_nonneg (by omega)]); rfl) | (simp [errW_none, errW_some] <;> rfl) | (simp [*, errW_none, errW_some] <;> rfl), by repeat (first | (with_reducible first | exact HB.out | apply below_alloc | apply pw_below_drewN | apply below_drew1 | refine below_set ?_ GE101.out | refine below_set ?_ GE102.out) | exact HB.out)⟩
end Go.Proofs.Ytopblnecdabcgaa.P
end
section
namespace Go.Proofs.Ytopblnecdabcgaa.H
/-- The code behind label l, run inside its scope, comes to Q. -/
def ScopeGo (P : Program) (c rest : Code) (Q : Exit → Act → World → Prop) (a : Act) (w : World) : Prop :=
  ∀ b k cs, ∃ e a' w', Q e a' w' ∧ Arrives P (lone (b.at a (.code rest :: .inScope c :: k)) cs w) b k cs e a' w'
section
variable {P : Program} {a : Act} {w : World} {Q : Exit → Act → World → Prop}
theorem wp_scope_enter {c rest : Code} (l : Nat) (hf : findLabel c l = some rest) (h : c.wp P (Exit.jump l (ScopeGo P c rest Q) Q) a w) : (Code.scope c).wp P Q a w := by
  intro b k cs
  have hg : gotoIn l (.inScope c :: k) = some (.code rest :: .inScope c :: k) := by simp [gotoIn, hf]
  obtain ⟨e, a₁, w₁, hq, harr⟩ := h b (.inScope c :: k) cs
  cases e with
  | normal => exact ⟨.normal, a₁, w₁, hq, .head step_scope (Steps.trans harr (.one step_inScope))⟩
  | exit id => exact ⟨.exit id, a₁, w₁, hq, fun k' hk => .head step_scope (harr k' (by simp [exitTo, hk]))⟩
  | goto l' =>
    obtain ⟨rfl, hJ'⟩ := hq
    obtain ⟨e₂, a₂, w₂, hq₂, harr₂⟩ := hJ' b k cs
    exact ⟨e₂, a₂, w₂, hq₂, .of_steps (.head step_scope (harr _ hg)) harr₂⟩
  | ret => exact ⟨_, a₁, w₁, hq, .of_steps (.one step_scope) harr⟩
  | panic ch => exact ⟨_, a₁, w₁, hq, .of_steps (.one step_scope) harr⟩
  | outgrown => exact ⟨_, a₁, w₁, hq, .of_steps (.one step_scope) harr⟩
theorem scopeGo_of {c rest : Code} (l : Nat) (I : Nat → Act → World → Prop) (hf : findLabel c l = some rest)
    (pass : ∀ n a w, I n a w → rest.wp P (Exit.jump l (fun a' w' => ∃ n', n' < n ∧ I n' a' w') Q) a w) : ∀ n a w, I n a w → ScopeGo P c rest Q a w := by
  intro n
  induction n using Nat.strongRecOn with
  | _ n ih =>
    intro a w hI b k cs
    have hg : gotoIn l (.inScope c :: k) = some (.code rest :: .inScope c :: k) := by simp [gotoIn, hf]
    obtain ⟨e, a₁, w₁, hq, harr⟩ := pass n a w hI b (.inScope c :: k) cs
    cases e with
    | normal => exact ⟨.normal, a₁, w₁, hq, Steps.trans harr (.one step_inScope)⟩
    | exit id => exact ⟨.exit id, a₁, w₁, hq, fun k' hk => harr k' (by simp [exitTo, hk])⟩
    | goto l' =>
      obtain ⟨rfl, n', hlt, hJ'⟩ := hq
      obtain ⟨e₂, a₂, w₂, hq₂, harr₂⟩ := ih n' hlt a₁ w₁ hJ' b k cs
      exact ⟨e₂, a₂, w₂, hq₂, .of_steps (harr _ hg) harr₂⟩
    | ret => exact ⟨_, a₁, w₁, hq, harr⟩
    | panic ch => exact ⟨_, a₁, w₁, hq, harr⟩
    | outgrown => exact ⟨_, a₁, w₁, hq, harr⟩
def putS (a : Act) : List Tmp → List Value → Act
  | d :: ds, u :: us => putS (a.put (some d) u) ds us
  | _, _ => a
theorem put_self (a : Act) (d : Tmp) : a.put (some d) (a.tmps.getD d undef) = a := by
  cases a with
  | mk tmps defers =>
    simp only [Act.put, Act.mk.injEq, and_true]
    apply Array.ext (by simp)
    intro i h1 h2
    rw [Array.getElem_setIfInBounds]
    split
    · rename_i e; subst e; simp [h2]
    · rfl
theorem putS_self (a : Act) (ds : List Tmp) : putS a ds (ds.map fun d => a.tmps.getD d undef) = a := by
  induction ds with
  | nil => rfl
  | cons d ds ih => rw [List.map_cons, putS, put_self]; exact ih
theorem wp_skip_seq {X : Code} (h : X.wp P Q a w) : (Code.seq .skip X).wp P Q a w := wp_seq (wp_skip h)
/-- At the label: ds: the slots that the code behind it writes. -/
theorem wp_label_slots {c X : Code} (l : Nat) (hf : findLabel c l = some (.seq .skip X)) (ds : List Tmp) (R : Nat → List Value → World → Prop) (n₀ : Nat) (h₀ : R n₀ (ds.map fun d => a.tmps.getD d undef) w)
    (round : ∀ n us w, us.length = ds.length → R n us w → ∀ (J : Nat → Act → World → Prop) (K : Act → World → Prop), (∀ k us' a' w', us'.length = ds.length → putS a ds us' = a' → R k us' w' → J k a' w') → (∀ a' w', Handed J n a' w' → K a' w') →
      X.wp P (Exit.jump l K Q) (putS a ds us) w) : X.wp P (Exit.jump l (ScopeGo P c (.seq .skip X) Q) Q) a w := by
  have hp : ∀ n a' w', (∃ us, us.length = ds.length ∧ a' = putS a ds us ∧ R n us w') → X.wp P (Exit.jump l (fun a'' w'' => ∃ n', n' < n ∧ (∃ us, us.length = ds.length ∧ a'' = putS a ds us ∧ R n' us w'')) Q) a' w' := by
    rintro n _ w ⟨us, hl, rfl, hR⟩
    exact round n us w hl hR _ _ (fun k us' a' w' hl' ha hR' => ⟨us', hl', ha.symm, hR'⟩) (fun _ _ h => h)
  refine wp_mono (hp n₀ a w ⟨_, by simp, (putS_self a ds).symm, h₀⟩) ?_
  intro e a' w' hq
  cases e with
  | goto l' =>
    obtain ⟨rfl, n', _, hI⟩ := hq
    exact ⟨rfl, scopeGo_of l' _ hf (fun n a w h => wp_skip_seq (hp n a w h)) n' a' w' hI⟩
  | normal => exact hq
  | exit id => exact hq
  | ret => exact hq
  | panic ch => exact hq
  | outgrown => exact hq
end
end Go.Proofs.Ytopblnecdabcgaa.H
end
section
/- Small facts of blocks and of worlds that lie below one another. -/
namespace Go.Proofs.Ytopblnecdabcgaa.P
open Go.RowKit Go.Proofs.YtopblnecdabcgaaW.PrintWords Go.Proofs.YtopblnecdabcgaaW.PrintLast Go.Proofs.YtopblnecdabcgaaW.PrintMore
set_option linter.unusedVariables false
set_option linter.unusedSimpArgs false
theorem blk_keep {w w' : World} {g : Nat} {o : Obj} (h : w.heap[g]? = some o) (hb : Below w.heap.size w w') : w'.heap[g]? = some o := (hb.block g (Array.getElem?_eq_some_iff.1 h).1).trans h
theorem alloc_size (w : World) (o : Obj) : (w.alloc o).heap.size = w.heap.size + 1 := by simp
theorem far1 {W : World} {a b : Nat} {o : Obj} (h : W.heap[b]? = some o) (hne : b ≠ a) (i : Nat) (v : Value) : (W.setCell ⟨a, i, none⟩ v).heap[b]? = some o := by
  rw [Below.heap_setCell _ _ _ b hne]; exact h
theorem lt_blk {W : World} {g : Nat} {o : Obj} (h : W.heap[g]? = some o) : g < W.heap.size := (Array.getElem?_eq_some_iff.1 h).1
theorem below_dN (W : World) (n : Nat) : Below W.heap.size W (W.drewN n) := ⟨rfl, rfl, rfl, Nat.le_refl _, fun _ _ => rfl⟩
end Go.Proofs.Ytopblnecdabcgaa.P
end
section
/- heap.Heap: how it lies in memory; a thing laid at a place. -/
namespace Go.Proofs.Ytopblnecdabcgaa.P
open Go.RowKit Go.Proofs.YtopblnecdabcgaaW.PrintWords Go.Proofs.YtopblnecdabcgaaW.PrintLast Go.Proofs.YtopblnecdabcgaaW.PrintMore Go.Proofs.Ytopblnecdabcgaa.H Go.Proofs.Ytopblnecdabcgaa.MP Go.Proofs.Ytopblnecdabcgaa.RP
set_option linter.unusedVariables false
set_option linter.unusedSimpArgs false
def encT (x : Th) : List Value := [.int .i64 x.f0, .int .i64 x.f1, .int .i64 x.f2]
/-- The heap at block hb: its things, and where they are; its blocks satisfy Q. -/
def HpR (w : World) (hb : Nat) (Q : Nat → Prop) (f : Int → Option Int) (n : Nat) (a : List Th) : Prop :=
  ∃ v mb, w.heap[hb]? = some (.cells #[v, .map (some mb)] 103 (0, 0)) ∧ Q hb ∧ Q mb ∧ Kd.R k37 105 w 0 Q v a ∧ MpV w Try.prog 3 mb n (fun k => (f k).map (Value.int .i64))
/-- Nothing but Q's blocks has turned. -/
structure KpB (Q : Nat → Prop) (w w' : World) : Prop where
  os : w'.os = w.os
  tape : w'.tape = w.tape
  output : w'.output = w.output
  size : w.heap.size ≤ w'.heap.size
  block : ∀ k, k < w.heap.size → ¬ Q k → w'.heap[k]? = w.heap[k]?
theorem KpB.refl (Q : Nat → Prop) (w : World) : KpB Q w w := ⟨rfl, rfl, rfl, Nat.le_refl _, fun _ _ _ => rfl⟩
theorem KpB.trans {Q Q' : Nat → Prop} {w w1 w2 : World} (h : KpB Q w w1) (k : KpB Q' w1 w2) (hq : ∀ j, Q' j → Q j ∨ w.heap.size ≤ j) : KpB Q w w2 :=
  ⟨k.os.trans h.os, k.tape.trans h.tape, k.output.trans h.output, Nat.le_trans h.size k.size, fun j hj hn => (k.block j (Nat.lt_of_lt_of_le hj h.size) (fun c => (hq j c).elim hn (fun c => by omega))).trans (h.block j hj hn)⟩
theorem KpB.below {Q : Nat → Prop} {w w' : World} (h : KpB Q w w') {b : Nat} (hb : b ≤ w.heap.size) (hq : ∀ j, j < b → ¬ Q j) : Below b w w' :=
  ⟨h.os, h.tape, h.output, h.size, fun k hk => h.block k (Nat.lt_of_lt_of_le hk hb) (hq k hk)⟩
theorem KpB.of_below {Q : Nat → Prop} {w w' : World} (h : Below w.heap.size w w') : KpB Q w w' := ⟨h.os, h.tape, h.output, h.size, fun k hk _ => h.block k hk⟩
theorem KpB.of_grown {Q : Nat → Prop} {w w' : World} {g : Nat} (h : w.grownBy w' (some g)) (hg : Q g) : KpB Q w w' :=
  ⟨h.os, h.tape, h.output, h.size, fun k hk hn => h.block k hk (fun e => by injection e with e; subst e; exact hn hg)⟩
theorem KpB.mono {Q Q' : Nat → Prop} {w w' : World} (h : KpB Q w w') (hq : ∀ j, Q j → Q' j) : KpB Q' w w' := ⟨h.os, h.tape, h.output, h.size, fun k hk hn => h.block k hk (fun c => hn (hq k c))⟩
theorem hp_keep {w w' : World} {hb : Nat} {Q Q' : Nat → Prop} {f : Int → Option Int} {n : Nat} {a : List Th} (h : HpR w hb Q f n a) (k : KpB Q' w w') (hq : ∀ j, Q j → ¬ Q' j) : HpR w' hb Q f n a := by
  obtain ⟨v, mb, h0, h1, h2, h3, h4⟩ := h
  refine ⟨v, mb, (k.block hb (lt_blk h0) (hq _ h1)).trans h0, h1, h2, Kd.R_step h3 (fun j hj hl => k.block j hl (hq j hj)), mp_move h4 (k.block mb (mp_lt h4) (hq _ h2))⟩
theorem hp_below {w w' : World} {hb : Nat} {Q : Nat → Prop} {f : Int → Option Int} {n : Nat} {a : List Th} (h : HpR w hb Q f n a) (k : Below w.heap.size w w') : HpR w' hb Q f n a :=
  hp_keep h (KpB.of_below (Q := fun _ => False) k) (fun _ _ h => h)
theorem hp_mono {w : World} {hb : Nat} {Q Q' : Nat → Prop} {f : Int → Option Int} {n : Nat} {a : List Th} (h : HpR w hb Q f n a) (hq : ∀ j, Q j → Q' j) : HpR w hb Q' f n a := by
  obtain ⟨v, mb, h0, h1, h2, h3, h4⟩ := h
  exact ⟨v, mb, h0, hq _ h1, hq _ h2, Kd.R_mono h3 hq, h4⟩
theorem k37_enc {w : World} {base : Nat} {ok : Nat → Prop} {x : Th} {cs : List Value} (h : k37.M w base ok x cs) : cs = encT x := k37_openM h
/-- What is read of a heap. -/
theorem hp_open {w : World} {hb : Nat} {Q : Nat → Prop} {f : Int → Option Int} {n : Nat} {a : List Th} (h : HpR w hb Q f n a) : ∃ v mb, w.heap[hb]? = some (.cells #[v, .map (some mb)] 103 (0, 0)) ∧ Q hb ∧ Q mb ∧ Kd.R k37 105 w 0 Q v a ∧ MpV w Try.prog 3 mb n (fun k => (f k).map (Value.int .i64)) ∧
    w.cell? ⟨hb, 0, none⟩ = some v ∧ w.cell? ⟨hb, 1, none⟩ = some (.map (some mb)) ∧ w.frozen? ⟨hb, 0, none⟩ = false ∧ hb < w.heap.size := by
  obtain ⟨v, mb, h0, h1, h2, h3, h4⟩ := h
  exact ⟨v, mb, h0, h1, h2, h3, h4, blk_cell h0 0, blk_cell h0 1, blk_frozen h0 0, lt_blk h0⟩
/-- A thing's three cells. -/
theorem hp_cells {w : World} {Q : Nat → Prop} {a : List Th} {g c : Nat} (h : Kd.R k37 105 w 0 Q (.slice (some ⟨g, 0, none⟩) a.length c) a) (i : Nat) (hi : i < a.length) :
    w.cell? ⟨g, i * 3, none⟩ = some (.int .i64 (atH a i).f0) ∧ w.cell? ⟨g, i * 3 + 1, none⟩ = some (.int .i64 (atH a i).f1) ∧ w.cell? ⟨g, i * 3 + 2, none⟩ = some (.int .i64 (atH a i).f2) ∧
    w.frozen? ⟨g, i * 3, none⟩ = false ∧ w.frozen? ⟨g, i * 3 + 1, none⟩ = false ∧ w.frozen? ⟨g, i * 3 + 2, none⟩ = false := by
  have e := atH_get a i hi
  rw [e]
  have h0 := R_cellN (d := k37) (enc := encT) (fun _ => rfl) (fun h => k37_enc h) h i hi 0 (by decide)
  have h1 := R_cellN (d := k37) (enc := encT) (fun _ => rfl) (fun h => k37_enc h) h i hi 1 (by decide)
  have h2 := R_cellN (d := k37) (enc := encT) (fun _ => rfl) (fun h => k37_enc h) h i hi 2 (by decide)
  exact ⟨h0.1, h1.1, h2.1, h0.2, h1.2, h2.2⟩
/-- The row's block is not the heap's. -/
theorem hp_ne {w : World} {Q : Nat → Prop} {a : List Th} {g c hb n : Nat} {v u : Value} (h : Kd.R k37 105 w 0 Q (.slice (some ⟨g, 0, none⟩) n c) a) (h0 : w.heap[hb]? = some (.cells #[v, u] 103 (0, 0))) : hb ≠ g := by
  intro e
  subst e
  exact Kd.R_ne h h0 (by decide) rfl
/-- What stands behind a thing laid: the row, the rest as it was. -/
def SetS (w : World) (hb : Nat) (Q : Nat → Prop) (f : Int → Option Int) (n : Nat) (a : List Th) (v : Value) (mb : Nat) (b : Nat) (x : Th) (W : World) : Prop :=
  W.heap[hb]? = some (.cells #[v, .map (some mb)] 103 (0, 0)) ∧ Q hb ∧ Q mb ∧ Kd.R k37 105 W 0 Q v a ∧ MpV W Try.prog 3 mb n (fun k => (f k).map (Value.int .i64)) ∧ KpB Q w W ∧ W.heap[b]? = some (.cells #[.int .i64 x.f0, .int .i64 x.f1, .int .i64 x.f2] 105 (0, 0))
theorem set_made {w : World} {hb mb g c n : Nat} {Q : Nat → Prop} {f : Int → Option Int} {a : List Th} (h0 : w.heap[hb]? = some (.cells #[.slice (some ⟨g, 0, none⟩) a.length c, .map (some mb)] 103 (0, 0))) (q0 : Q hb) (q1 : Q mb) (h3 : Kd.R k37 105 w 0 Q (.slice (some ⟨g, 0, none⟩) a.length c) a)
    (h4 : MpV w Try.prog 3 mb n (fun k => (f k).map (Value.int .i64))) (i : Nat) (hi : i < a.length) (x : Th) :
    SetS w hb Q f n (a.set i x) (.slice (some ⟨g, 0, none⟩) a.length c) mb w.heap.size x ((((w.setCell ⟨g, i * 3, none⟩ (.int .i64 x.f0)).setCell ⟨g, i * 3 + 1, none⟩ (.int .i64 x.f1)).setCell ⟨g, i * 3 + 2, none⟩ (.int .i64 x.f2)).alloc (.cells #[.int .i64 x.f0, .int .i64 x.f1, .int .i64 x.f2] 105)).drew := by
  obtain ⟨p1, p2, p3⟩ := R_putN (d := k37) (enc := encT) (fun _ => rfl) (fun h => k37_enc h) (fun w b o x => k37_mkM w b o x) h3 i hi x
  have hne := hp_ne h3 h0
  have hmg : some mb ≠ some g := by
    intro e
    injection e with e
    subst e
    obtain ⟨es, cl, hm⟩ := mp_is h4
    obtain ⟨g', cap', he, _, _, cells, hc⟩ := Kd.R_form h3 (by omega)
    injection he with he
    injection he with he
    injection he with he
    subst he
    rw [hc] at hm
    cases hm
  have e : ((w.setCell ⟨g, i * 3, none⟩ (.int .i64 x.f0)).setCell ⟨g, i * 3 + 1, none⟩ (.int .i64 x.f1)).setCell ⟨g, i * 3 + 2, none⟩ (.int .i64 x.f2) = w.setCells g (i * k37.sz) (encT x) := rfl
  rw [e]
  generalize w.setCells g (i * k37.sz) (encT x) = w1 at p1 p2 p3 ⊢
  have hb0 := lt_blk h0
  have g0 : w1.heap[hb]? = some (.cells #[.slice (some ⟨g, 0, none⟩) a.length c, .map (some mb)] 103 (0, 0)) := (p2.block hb hb0 (fun e => by injection e with e; exact hne e)).trans h0
  have b1 : Below w1.heap.size w1 (w1.alloc (.cells #[.int .i64 x.f0, .int .i64 x.f1, .int .i64 x.f2] 105)).drew := below_drew (below_alloc (Below.refl _ _) _)
  have h4' := mp_move h4 (p2.block mb (mp_lt h4) hmg)
  refine ⟨blk_keep g0 b1, q0, q1, Kd.R_below p1 b1, mp_move h4' (b1.block mb (mp_lt h4')), ?_, ?_⟩
  · have k1 := KpB.of_grown (Q := Q) p2 (h3.1 g rfl)
    exact k1.trans (KpB.of_below b1) (fun j hj => .inl hj)
  · have := blk_new w1 (.cells #[.int .i64 x.f0, .int .i64 x.f1, .int .i64 x.f2] 105)
    rw [p3] at this
    exact this
theorem upd_map (f : Int → Option Int) (k v : Int) : updV (fun i => (f i).map (Value.int .i64)) k (.int .i64 v) = fun i => (updF f k v i).map (Value.int .i64) := by
  funext i
  unfold updV updF
  split <;> rfl
set_option maxHeartbeats 1000000 in
set_option maxRecDepth 100000 in
theorem set_calls (hb : Nat) (i : Nat) (x : Th) (w : World) (Q : Nat → Prop) (f : Int → Option Int) (n : Nat) (a : List Th) (h : HpR w hb Q f n a) (hi : i < a.length) (hwf : wfI x.f0) (hn : n < 9223372036854775807) :
    Calls Try.prog 120 #[.pointer (some ⟨hb, 0, none⟩), .int .i64 i, .agg #[.int .i64 x.f0, .int .i64 x.f1, .int .i64 x.f2]] w fun e w' => e = .returned (.tuple #[]) ∧ HpR w' hb Q (updF f x.f0 i) (n + 1) (a.set i x) ∧ KpB Q w w' := by
  obtain ⟨v, mb, h0, q0, q1, h3, h4, k0, k1, kf, hbx⟩ := hp_open h
  clear h
  obtain ⟨g, c, rfl, _, hgx, _⟩ := Kd.R_form h3 (by omega)
  obtain ⟨c0, c1, c2, f0, f1, f2⟩ := hp_cells h3 i hi
  have hne := hp_ne h3 h0
  have hlt : (i : Int) < (a.length : Int) := by omega
  have eN : (i : Int).toNat = i := rfl
  have HS := set_made h0 q0 q1 h3 h4 i hi x
  have HM := Aside0.mk h4; have H3 := Aside0.mk h3; have H0 := Aside0.mk h0
  clear h0 h3 h4 q0 q1
  go_enter Try.func120, Try.ntmps120
  go_wp2
  go_region
  simp only [Exit.then]
  rename_i hk
  refine hk _ _ ?_
  clear hk
  generalize (((_ : World).setCell _ _).alloc _).drew = W at HS ⊢
  obtain ⟨g0, q0, q1, g3, g4, HK, hbox⟩ := HS
  obtain ⟨w3, hrun, hM3, hg3, hs3⟩ := mp_store (w := W.drew) (t := 100) (E := 3) (mp_move g4 rfl) Try.underlying3 Try.underlying100 hn hwf (.int .i64 i)
  have j1 : W.cell? ⟨hb, 1, none⟩ = some (.map (some mb)) := blk_cell g0 1
  have j0 : W.cell? ⟨w.heap.size, 0, none⟩ = some (.int .i64 x.f0) := blk_cell hbox 0
  have R := Aside0.mk (And.intro g0 (And.intro g3 (And.intro hM3 (And.intro hg3 HK))))
  clear g0 g3 g4 hM3 hg3 HK hbox k0 k1 kf c0 c1 c2 f0 f1 f2 eN hlt
  go_region
  go_end0
  obtain ⟨g0, g3, hM3, hg3, HK⟩ := R.out
  have hbm : hb ≠ mb := fun e => by
    subst e
    obtain ⟨es, cl, hm⟩ := mp_is HM.out
    rw [H0.out] at hm
    cases hm
  rw [upd_map] at hM3
  have hgm : ∀ k, (Value.slice (some ⟨g, 0, none⟩) a.length c).ownBlock = some k → k ≠ mb := fun k hk e => by
    subst e
    obtain ⟨es, cl, hm⟩ := mp_is HM.out
    obtain ⟨cells, hc⟩ := own_typed (Kd.R_own H3.out).choose_spec _ hk
    rw [hc] at hm
    cases hm
  have hK3 : KpB Q W w3 := ⟨hg3.os, hg3.tape, hg3.output, hg3.size, fun k hk hn => hg3.block k hk (fun e => by injection e with e; subst e; exact hn q1)⟩
  refine ⟨rfl, ⟨_, mb, (hg3.block hb (lt_blk g0) (fun e => by injection e with e; exact hbm e)).trans g0, q0, q1, ?_, hM3⟩, HK.trans hK3 (fun j hj => .inl hj)⟩
  obtain ⟨z0, inner, zo, zr⟩ := g3
  exact ⟨z0, inner, own_move zo (fun k hk => hg3.block k (own_lt zo k hk) (fun e => by injection e with e; exact hgm k hk e)), zr⟩
end Go.Proofs.Ytopblnecdabcgaa.P
end
section
/- heap.Heap: who is ahead; up. -/
namespace Go.Proofs.Ytopblnecdabcgaa.P
open Go.RowKit Go.Proofs.YtopblnecdabcgaaW.PrintWords Go.Proofs.YtopblnecdabcgaaW.PrintLast Go.Proofs.YtopblnecdabcgaaW.PrintMore Go.Proofs.Ytopblnecdabcgaa.H Go.Proofs.Ytopblnecdabcgaa.MP Go.Proofs.Ytopblnecdabcgaa.RP
set_option linter.unusedVariables false
set_option linter.unusedSimpArgs false
def cmpV (a b : Int) : Int := if a < b then -1 else if a > b then 1 else 0
theorem cmp_is (a b : Int) : cmp_Compare_int.f a b = some (cmpV a b) := by
  unfold cmp_Compare_int.f cmp_isNaN_int.f cmpV
  simp only [bne_self_eq_false, Option.bind_some, Bool.false_eq_true, if_false]
  split
  · rfl
  · split <;> rfl
theorem or_is (p q r : Int) : cmp_Or_int.f 5 [p, q, r] = some (if p ≠ 0 then p else if q ≠ 0 then q else r) := by
  have w1 : wrap64 (0 + 1) = 1 := by decide +kernel
  have w2 : wrap64 (1 + 1) = 2 := by decide +kernel
  have w3 : wrap64 (2 + 1) = 3 := by decide +kernel
  have r0 : rd [p, q, r] 0 = p := rfl
  have r1 : rd [p, q, r] 1 = q := rfl
  have r2 : rd [p, q, r] 2 = r := rfl
  unfold cmp_Or_int.f
  have e3 : (([p, q, r] : List Int).length : Int) = 3 := rfl
  rw [e3]
  rw [cmp_Or_int.l0, if_pos (by decide), if_pos (by decide), if_pos (by rw [e3]; decide), r0]
  by_cases hp : p = 0
  · rw [if_pos hp, w1, cmp_Or_int.l0, if_pos (by decide), if_pos (by decide), if_pos (by rw [e3]; decide), r1, if_neg (show ¬ p ≠ 0 by simp [hp])]
    by_cases hq : q = 0
    · rw [if_pos hq, w2, cmp_Or_int.l0, if_pos (by decide), if_pos (by decide), if_pos (by rw [e3]; decide), r2, if_neg (show ¬ q ≠ 0 by simp [hq])]
      by_cases hr : r = 0
      · rw [if_pos hr, w3, cmp_Or_int.l0, if_neg (by decide), hr]
      · rw [if_neg hr]
    · rw [if_neg hq, if_pos hq]
  · rw [if_neg hp, if_pos hp]
theorem ahead_is (x y : Th) : heap_thing_ahead.f 5 x.f0 x.f1 x.f2 y.f0 y.f1 y.f2 = some (decide (ahd x y)) := by
  unfold heap_thing_ahead.f
  rw [cmp_is, Option.bind_some, cmp_is, Option.bind_some, cmp_is, Option.bind_some, or_is, Option.bind_some]
  congr 1
  rw [decide_eq_decide]
  unfold ahd cmpV
  (repeat' split) <;> omega
theorem ahead_calls (x y : Th) (w : World) : Calls Try.prog 119 #[.agg #[.int .i64 x.f0, .int .i64 x.f1, .int .i64 x.f2], .agg #[.int .i64 y.f0, .int .i64 y.f1, .int .i64 y.f2]] w fun e w' => e = .returned (.bool (decide (ahd x y))) ∧ Below w.heap.size w w' :=
  heap_thing_ahead.calls 5 _ _ _ _ _ _ _ w (ahead_is x y)
end Go.Proofs.Ytopblnecdabcgaa.P
end
section
/- heap.Heap: up. -/
namespace Go.Proofs.Ytopblnecdabcgaa.P
open Go.RowKit Go.Proofs.YtopblnecdabcgaaW.PrintWords Go.Proofs.YtopblnecdabcgaaW.PrintLast Go.Proofs.YtopblnecdabcgaaW.PrintMore Go.Proofs.Ytopblnecdabcgaa.H Go.Proofs.Ytopblnecdabcgaa.MP Go.Proofs.Ytopblnecdabcgaa.RP
set_option linter.unusedVariables false
set_option linter.unusedSimpArgs false
def WfA (a : List Th) : Prop := ∀ j, j < a.length → wfI (atH a j).f0
theorem wf_set {a : List Th} (h : WfA a) (i : Nat) (x : Th) (hx : wfI x.f0) : WfA (a.set i x) := by
  intro j hj
  rw [List.length_set] at hj
  by_cases e : i = j
  · subst e; rw [atH_set_same _ _ _ hj]; exact hx
  · rw [atH_set_other _ _ _ _ e]; exact h j hj
theorem w64_id {x : Int} (h0 : -9223372036854775808 ≤ x) (h1 : x ≤ 9223372036854775807) : wrap64 x = x := by unfold wrap64; omega
theorem half_up {j p : Nat} (hj : 0 < j) (hp : (j - 1) / 2 = p) (hl : j ≤ 1000000) : wrap64 ((wrap64 ((j : Int) - 1)).tdiv 2) = (p : Int) := by
  rw [w64_id (x := (j : Int) - 1) (by omega) (by omega), Int.tdiv_eq_ediv_of_nonneg (by omega), w64_id (by omega) (by omega)]
  omega
/-- What up leaves. -/
def UpP (f' : Int → Option Int) (a a' : List Th) (i i' : Nat) (x : Th) : Prop :=
  a'.Perm (x :: a.eraseIdx i) ∧ a'.length = a.length ∧ WfA a' ∧ ((i' = i ∧ HpH f' a' i x ∧ a'.eraseIdx i = a.eraseIdx i ∧ (0 < i → ¬ ahd x (atH a' ((i - 1) / 2)))) ∨ (i' < i ∧ HpI f' a'))
def UpPost (w : World) (hb : Nat) (Q : Nat → Prop) (n : Nat) (a : List Th) (i : Nat) (x : Th) (e : Ending) (w' : World) : Prop :=
  ∃ f' n' a' i', e = .returned (.int .i64 (i' : Nat)) ∧ HpR w' hb Q f' n' a' ∧ UpP f' a a' i i' x ∧ n' ≤ n + i + 1 ∧ KpB Q w w'
theorem up_end {f1 : Int → Option Int} {a b : List Th} {i j : Nat} {x : Th} (hHH : HpH f1 b j x) (hbl : b.length = a.length) (hbp : (b.eraseIdx j).Perm (a.eraseIdx i)) (hwb : WfA b) (hx : wfI x.f0) (hcase : (j = i ∧ b = a) ∨ (j < i ∧ NoKid b j x)) (hu : 0 < j → ¬ ahd x (atH b ((j - 1) / 2))) :
    UpP (updF f1 x.f0 j) a (b.set j x) i j x := by
  have hjl := hHH.lt
  refine ⟨(perm_set b j x hjl).trans (hbp.cons x), by rw [List.length_set]; exact hbl, wf_set hwb _ _ hx, ?_⟩
  rcases hcase with ⟨e1, e2⟩ | ⟨e1, e2⟩
  · subst e1
    subst e2
    refine .inl ⟨rfl, hp_lay hHH, erase_set b j x, fun h0 => ?_⟩
    rw [atH_set_other _ _ _ _ (by omega)]
    exact hu h0
  · exact .inr ⟨e1, hp_fill hHH hu e2⟩
/-- What a test reads: the heap's row, the thing in hand, another one. -/
abbrev UpS (wr : World) (hb g bx len c p : Nat) (x y : Th) (W : World) : Prop :=
  Aside0 (Below wr.heap.size wr W) ∧ W.cell? ⟨hb, 0, none⟩ = some (.slice (some ⟨g, 0, none⟩) len c) ∧ W.cell? ⟨bx, 0, none⟩ = some (.int .i64 x.f0) ∧ W.cell? ⟨bx, 1, none⟩ = some (.int .i64 x.f1) ∧ W.cell? ⟨bx, 2, none⟩ = some (.int .i64 x.f2) ∧
  W.cell? ⟨g, p * 3, none⟩ = some (.int .i64 y.f0) ∧ W.cell? ⟨g, p * 3 + 1, none⟩ = some (.int .i64 y.f1) ∧ W.cell? ⟨g, p * 3 + 2, none⟩ = some (.int .i64 y.f2)
theorem UpS.keep {wr : World} {hb g bx len c p : Nat} {x y : Th} {W W2 : World} (h : UpS wr hb g bx len c p x y W) (k : Below W.heap.size W W2) : UpS wr hb g bx len c p x y W2 :=
  ⟨⟨below_step h.1.out k⟩, pw_cell_below k h.2.1, pw_cell_below k h.2.2.1, pw_cell_below k h.2.2.2.1, pw_cell_below k h.2.2.2.2.1, pw_cell_below k h.2.2.2.2.2.1, pw_cell_below k h.2.2.2.2.2.2.1, pw_cell_below k h.2.2.2.2.2.2.2⟩
/-- On its way up. -/
structure UpI (w : World) (hb : Nat) (Q : Nat → Prop) (f : Int → Option Int) (n : Nat) (a : List Th) (i : Nat) (x : Th) (j : Nat) (wr : World) : Prop where
  ex : ∃ b f1 n1, HpR wr hb Q f1 n1 b ∧ HpH f1 b j x ∧ b.length = a.length ∧ (b.eraseIdx j).Perm (a.eraseIdx i) ∧ KpB Q w wr ∧ n1 + j ≤ n + i ∧ WfA b ∧ ((j = i ∧ b = a) ∨ (j < i ∧ NoKid b j x))
theorem up_next {w wr w2 w3 : World} {hb : Nat} {Q : Nat → Prop} {f : Int → Option Int} {m0 : Nat} {a : List Th} {i : Nat} {x : Th} {j p : Nat} {y : Th} {b : List Th} {f1 : Int → Option Int} {n1 : Nat}
    (hHH : HpH f1 b j x) (hbl : b.length = a.length) (hbp : (b.eraseIdx j).Perm (a.eraseIdx i)) (hK : KpB Q w wr) (hnj : n1 + j ≤ m0 + i) (hwb : WfA b) (hcase : (j = i ∧ b = a) ∨ (j < i ∧ NoKid b j x))
    (hj : 0 < j) (hp : (j - 1) / 2 = p) (hy : atH b p = y) (ht : ahd x y) (k2 : Below wr.heap.size wr w2) (hR3 : HpR w3 hb Q (updF f1 y.f0 j) (n1 + 1) (b.set j y)) (hK3 : KpB Q w2 w3) : UpI w hb Q f m0 a i x p w3 := by
  subst hp
  subst hy
  obtain ⟨u1, u2, u3⟩ := hp_up hHH hj ht
  have hjl := hHH.lt
  refine ⟨_, _, _, hR3, u1, by rw [List.length_set]; exact hbl, u3.trans hbp, (hK.trans (KpB.of_below (Q := Q) k2) (fun j h => .inl h)).trans hK3 (fun j h => .inl h), by omega, wf_set hwb _ _ (hwb _ (by omega)), .inr ⟨by rcases hcase with ⟨e, _⟩ | ⟨e, _⟩ <;> omega, u2⟩⟩
set_option maxHeartbeats 1000000 in
set_option maxRecDepth 100000 in
theorem up_calls (hb : Nat) (i : Nat) (x : Th) (w : World) (Q : Nat → Prop) (f : Int → Option Int) (m0 : Nat) (a : List Th) (h : HpR w hb Q f m0 a) (hH : HpH f a i x) (hQ : ∀ k, Q k → k < w.heap.size) (hwa : WfA a) (hx : wfI x.f0) (ha : a.length ≤ 1000000) (hn : m0 ≤ 1000000000) :
    Calls Try.prog 109 #[.pointer (some ⟨hb, 0, none⟩), .int .i64 i, .agg #[.int .i64 x.f0, .int .i64 x.f1, .int .i64 x.f2]] w (UpPost w hb Q m0 a i x) := by
  have HX := Aside0.mk hx; have HQ := Aside0.mk hQ
  have HI : Aside0 (i < a.length ∧ a.length ≤ 1000000 ∧ m0 ≤ 1000000000) := ⟨hH.lt, ha, hn⟩
  have HS : UpI w hb Q f m0 a i x i (w.alloc (.cells #[.int .i64 x.f0, .int .i64 x.f1, .int .i64 x.f2] 105)) := ⟨a, f, m0, hp_below h (below_alloc (Below.refl _ _) _), hH, rfl, List.Perm.refl _, KpB.of_below (below_alloc (Below.refl _ _) _), Nat.le_refl _, hwa, .inl ⟨rfl, rfl⟩⟩
  have HBX := blk_new w (.cells #[.int .i64 x.f0, .int .i64 x.f1, .int .i64 x.f2] 105)
  clear h hH hQ hwa hx ha hn
  go_enter Try.func109, Try.ntmps109
  go_wp2
  refine wp_scope_enter 0 rfl ?_
  go_wp2
  go_step3
  simp only [Exit.then]
  rename_i hk
  refine hk _ _ ?_
  clear hk
  refine wp_label_slots 0 (by rfl) ([1, 7, 8, 9, 10, 11, 12, 13, 14, 15, 16, 17, 18, 19, 20, 21, 22, 23, 24, 25, 26, 27, 28, 29, 30, 31, 32, 33, 34, 35, 36, 37, 38, 39] : List Nat) (fun n us wr => ∃ (j : Nat), Aside0 (n = j) ∧ us.getD 0 undef = .int .i64 j ∧ Aside0 (UpI w hb Q f m0 a i x j wr) ∧ Aside0 (wr.heap[w.heap.size]? = some (.cells #[.int .i64 x.f0, .int .i64 x.f1, .int .i64 x.f2] 105 (0, 0)))) (i) ?_ ?_
  · refine ⟨i, ⟨rfl⟩, rfl, ⟨HS⟩, ⟨HBX⟩⟩
  · rintro n us wr hln ⟨j, HN, h5, HU, HB⟩ J K hJ hK
    simp only [List.length_cons, List.length_nil] at hln
    match us, hln with
    | u1 :: u7 :: u8 :: u9 :: u10 :: u11 :: u12 :: u13 :: u14 :: u15 :: u16 :: u17 :: u18 :: u19 :: u20 :: u21 :: u22 :: u23 :: u24 :: u25 :: u26 :: u27 :: u28 :: u29 :: u30 :: u31 :: u32 :: u33 :: u34 :: u35 :: u36 :: u37 :: u38 :: u39 :: [], _ =>
    rename_i hx; clear hx
    simp only [List.getD_cons_succ, List.getD_cons_zero] at h5
    subst h5
    simp only [putS, Act.put, List.setIfInBounds_toArray, List.set_cons_zero, List.set_cons_succ]
    have hJ2 := fun (k : Nat) (v1 v7 v8 v9 v10 v11 v12 v13 v14 v15 v16 v17 v18 v19 v20 v21 v22 v23 v24 v25 v26 v27 v28 v29 v30 v31 v32 v33 v34 v35 v36 v37 v38 v39 : Value) (w' : World) => hJ k (v1 :: v7 :: v8 :: v9 :: v10 :: v11 :: v12 :: v13 :: v14 :: v15 :: v16 :: v17 :: v18 :: v19 :: v20 :: v21 :: v22 :: v23 :: v24 :: v25 :: v26 :: v27 :: v28 :: v29 :: v30 :: v31 :: v32 :: v33 :: v34 :: v35 :: v36 :: v37 :: v38 :: v39 :: []) _ w' rfl rfl
    clear hJ
    simp only [putS, Act.put, List.setIfInBounds_toArray, List.set_cons_zero, List.set_cons_succ] at hJ2
    have HJ := Aside0.mk hJ2; clear hJ2
    have HK := Aside0.mk hK; clear hK
    obtain ⟨b, f1, n1, hR, hHH, hbl, hbp, hK, hnj, hwb, hcase⟩ := HU.out.ex
    obtain ⟨v, mb, h0, q0, q1, h3, h4, k0, k1, kf, hbx⟩ := hp_open hR
    have hjl := hHH.lt
    obtain ⟨g, c, rfl, _, hgx, _⟩ := Kd.R_form h3 (by omega)
    have x0 : wr.cell? ⟨w.heap.size, 0, none⟩ = some (.int .i64 x.f0) := blk_cell HB.out 0
    have x1 : wr.cell? ⟨w.heap.size, 1, none⟩ = some (.int .i64 x.f1) := blk_cell HB.out 1
    have x2 : wr.cell? ⟨w.heap.size, 2, none⟩ = some (.int .i64 x.f2) := blk_cell HB.out 2
    by_cases hj : 0 < j
    · obtain ⟨p, hp⟩ : ∃ p, (j - 1) / 2 = p := ⟨_, rfl⟩
      have eP : wrap64 ((wrap64 ((j : Int) - 1)).tdiv 2) = (p : Int) := half_up hj hp (by have := HI.out; omega)
      have hpl : p < b.length := by omega
      have gt : decide (0 < j) = true := by simp; omega
      obtain ⟨c0, c1, c2, z0, z1, z2⟩ := hp_cells h3 p hpl
      have lp : (p : Int) < (b.length : Int) := by omega
      have hS : UpS wr hb g w.heap.size b.length c p x (atH b p) wr := ⟨⟨Below.refl _ _⟩, k0, x0, x1, x2, c0, c1, c2⟩
      obtain ⟨y, hy⟩ : ∃ y, atH b p = y := ⟨_, rfl⟩
      rw [hy] at hS
      have ST := Aside0.mk (And.intro h0 (And.intro h3 (And.intro h4 (And.intro hR (And.intro hHH (And.intro hbl (And.intro hbp (And.intro hK (And.intro hnj (And.intro hwb hcase))))))))))
      have HJP := Aside0.mk (And.intro hj hp)
      clear h0 h3 h4 hR hHH hbl hbp hK hnj hwb hcase k0 k1 kf x0 x1 x2 c0 c1 c2 z0 z1 z2 hj hp
      by_cases ht : ahd x y
      · have td : decide (ahd x y) = true := decide_eq_true ht
        go_wp2
        go_region_held3 (UpS wr hb g w.heap.size b.length c p x y) (first | exact UpS.keep (by assumption) hbb | exact UpS.keep hS (below_dN _ 1))
          (first | (go_at_call 119; refine (ahead_calls x y _).mono ?_; rintro e w' ⟨rfl, hbb⟩))
        rename_i hHeld
        obtain ⟨KB, k0, x0, x1, x2, c0, c1, c2⟩ := hHeld
        clear hbb
        have hR2 := Aside0.mk (hp_below ST.out.2.2.2.1 KB.out)
        have HY := Aside0.mk hy
        have hyw : wfI y.f0 := hy ▸ ST.out.2.2.2.2.2.2.2.2.2.1 p hpl
        have hn1 : n1 < 9223372036854775807 := by have := ST.out.2.2.2.2.2.2.2.2.1; have := HI.out; omega
        have HJL := Aside0.mk hjl
        clear hy hS hjl
        go_wp2_with (first | (go_at_call 120; (with_reducible refine (set_calls hb j y _ Q f1 n1 b hR2.out HJL.out hyw hn1).mono ?_); rintro e w3 ⟨rfl, hR3, hK3⟩; have R3 := Aside0.mk (And.intro hR3 hK3); clear hR3 hK3))
        obtain ⟨h0, h3, h4, hR, hHH, hbl, hbp, hK, hnj, hwb, hcase⟩ := ST.out
        have HB2 := blk_keep HB.out KB.out
        have HB3 := (R3.out.2.block w.heap.size (lt_blk HB2) (fun c => by have := HQ.out _ c; omega)).trans HB2
        go_step3
        refine ⟨rfl, HK.out _ _ (Handed.intro (p) ?_ (HJ.out _ _ _ _ _ _ _ _ _ _ _ _ _ _ _ _ _ _ _ _ _ _ _ _ _ _ _ _ _ _ _ _ _ _ _ _ ⟨p, ⟨rfl⟩, rfl, ⟨up_next hHH hbl hbp hK hnj hwb hcase HJP.out.1 HJP.out.2 HY.out ht KB.out R3.out.1 R3.out.2⟩, ⟨HB3⟩⟩))⟩
        have := HJP.out
        have := HN.out
        omega
      · have td : decide (ahd x y) = false := decide_eq_false ht
        go_wp2
        go_region_held3 (UpS wr hb g w.heap.size b.length c p x y) (first | exact UpS.keep (by assumption) hbb | exact UpS.keep hS (below_dN _ 1))
          (first | (go_at_call 119; refine (ahead_calls x y _).mono ?_; rintro e w' ⟨rfl, hbb⟩))
        rename_i hHeld
        obtain ⟨KB, k0, x0, x1, x2, c0, c1, c2⟩ := hHeld
        clear hbb
        have hR2 := Aside0.mk (hp_below ST.out.2.2.2.1 KB.out)
        have hn1 : n1 < 9223372036854775807 := by have := ST.out.2.2.2.2.2.2.2.2.1; have := HI.out; omega
        have HY := Aside0.mk hy
        have HJL := Aside0.mk hjl
        clear hy hS hjl
        go_wp2_with (first | (go_at_call 120; (with_reducible refine (set_calls hb j x _ Q f1 n1 b hR2.out HJL.out HX.out hn1).mono ?_); rintro e w3 ⟨rfl, hR3, hK3⟩; have R3 := Aside0.mk (And.intro hR3 hK3); clear hR3 hK3))
        obtain ⟨h0, h3, h4, hR, hHH, hbl, hbp, hK, hnj, hwb, hcase⟩ := ST.out
        obtain ⟨hj, hp⟩ := HJP.out
        simp only [Exit.jump]
        go_ret
        exact ⟨_, _, _, j, rfl, R3.out.1, up_end hHH hbl hbp hwb HX.out hcase (fun _ => by rw [hp, HY.out]; exact ht), by omega, (hK.trans (KpB.of_below (Q := Q) KB.out) (fun j h => .inl h)).trans R3.out.2 (fun j h => .inl h)⟩
    · obtain rfl : j = 0 := by omega
      have eP : wrap64 ((wrap64 (((0 : Nat) : Int) - 1)).tdiv 2) = 0 := by decide +kernel
      have hR2 := Aside0.mk hR
      have hn1 : n1 < 9223372036854775807 := by have := HI.out; omega
      have HJL := Aside0.mk hjl
      have ST := Aside0.mk (And.intro hHH (And.intro hbl (And.intro hbp (And.intro hK (And.intro hnj (And.intro hwb hcase))))))
      clear h0 h3 h4 hR hHH hbl hbp hK hnj hwb hcase k0 k1 kf hjl
      have S0 := fun W h => (show Calls Try.prog 120 #[.pointer (some ⟨hb, 0, none⟩), .int .i64 0, .agg #[.int .i64 x.f0, .int .i64 x.f1, .int .i64 x.f2]] W _ from set_calls hb 0 x W Q f1 n1 b h HJL.out HX.out hn1)
      have HS0 := Aside0.mk S0; clear S0
      go_wp2
      go_quiet (fail)
      go_wp2_with (first | (go_at_call 120; (with_reducible refine (HS0.out _ (hp_below hR2.out (below_dN _ _))).mono ?_); rintro e w3 ⟨rfl, hR3, hK3⟩; have R3 := Aside0.mk (And.intro hR3 hK3); clear hR3 hK3))
      obtain ⟨hHH, hbl, hbp, hK, hnj, hwb, hcase⟩ := ST.out
      simp only [Exit.jump]
      go_ret
      exact ⟨_, _, _, 0, rfl, R3.out.1, up_end hHH hbl hbp hwb HX.out hcase (fun h => absurd h (by omega)), by omega, (hK.trans (KpB.of_below (Q := Q) (below_dN _ _)) (fun j h => .inl h)).trans R3.out.2 (fun j h => .inl h)⟩
end Go.Proofs.Ytopblnecdabcgaa.P
end
section
/- heap.Heap: down. -/
namespace Go.Proofs.Ytopblnecdabcgaa.P
open Go.RowKit Go.Proofs.YtopblnecdabcgaaW.PrintWords Go.Proofs.YtopblnecdabcgaaW.PrintLast Go.Proofs.YtopblnecdabcgaaW.PrintMore Go.Proofs.Ytopblnecdabcgaa.H Go.Proofs.Ytopblnecdabcgaa.MP Go.Proofs.Ytopblnecdabcgaa.RP
set_option linter.unusedVariables false
set_option linter.unusedSimpArgs false
/-- What down leaves. -/
def DnPost (w : World) (hb : Nat) (Q : Nat → Prop) (n : Nat) (a : List Th) (i : Nat) (x : Th) (e : Ending) (w' : World) : Prop :=
  ∃ f' n' a', e = .returned (.tuple #[]) ∧ HpR w' hb Q f' n' a' ∧ HpI f' a' ∧ a'.Perm (x :: a.eraseIdx i) ∧ a'.length = a.length ∧ WfA a' ∧ n' ≤ n + a.length + 1 ∧ KpB Q w w'
/-- On its way down. -/
structure DnI (w : World) (hb : Nat) (Q : Nat → Prop) (n : Nat) (a : List Th) (i : Nat) (x : Th) (j : Nat) (wr : World) : Prop where
  ex : ∃ b f1 n1, HpR wr hb Q f1 n1 b ∧ HpH f1 b j x ∧ b.length = a.length ∧ (b.eraseIdx j).Perm (a.eraseIdx i) ∧ KpB Q w wr ∧ n1 + i ≤ n + j ∧ WfA b ∧ (0 < j → ¬ ahd x (atH b ((j - 1) / 2)))
/-- What the first test reads: the heap's row, two things. -/
abbrev DnS (wr : World) (hb g len c p q : Nat) (x y : Th) (W : World) : Prop :=
  Aside0 (Below wr.heap.size wr W) ∧ W.cell? ⟨hb, 0, none⟩ = some (.slice (some ⟨g, 0, none⟩) len c) ∧ W.cell? ⟨g, p * 3, none⟩ = some (.int .i64 x.f0) ∧ W.cell? ⟨g, p * 3 + 1, none⟩ = some (.int .i64 x.f1) ∧ W.cell? ⟨g, p * 3 + 2, none⟩ = some (.int .i64 x.f2) ∧
  W.cell? ⟨g, q * 3, none⟩ = some (.int .i64 y.f0) ∧ W.cell? ⟨g, q * 3 + 1, none⟩ = some (.int .i64 y.f1) ∧ W.cell? ⟨g, q * 3 + 2, none⟩ = some (.int .i64 y.f2)
theorem DnS.keep {wr : World} {hb g len c p q : Nat} {x y : Th} {W W2 : World} (h : DnS wr hb g len c p q x y W) (k : Below W.heap.size W W2) : DnS wr hb g len c p q x y W2 :=
  ⟨⟨below_step h.1.out k⟩, pw_cell_below k h.2.1, pw_cell_below k h.2.2.1, pw_cell_below k h.2.2.2.1, pw_cell_below k h.2.2.2.2.1, pw_cell_below k h.2.2.2.2.2.1, pw_cell_below k h.2.2.2.2.2.2.1, pw_cell_below k h.2.2.2.2.2.2.2⟩
theorem dn_next {w wr w2 w3 : World} {hb : Nat} {Q : Nat → Prop} {m0 : Nat} {a : List Th} {i : Nat} {x : Th} {j p : Nat} {y : Th} {b : List Th} {f1 : Int → Option Int} {n1 : Nat}
    (hHH : HpH f1 b j x) (hbl : b.length = a.length) (hbp : (b.eraseIdx j).Perm (a.eraseIdx i)) (hK : KpB Q w wr) (hnj : n1 + i ≤ m0 + j) (hwb : WfA b)
    (hp : kidH b j = p) (hpl : p < b.length) (hy : atH b p = y) (ht : ahd y x) (k2 : Below wr.heap.size wr w2) (hR3 : HpR w3 hb Q (updF f1 y.f0 j) (n1 + 1) (b.set j y)) (hK3 : KpB Q w2 w3) : DnI w hb Q m0 a i x p w3 := by
  subst hp
  subst hy
  obtain ⟨u1, u2, u3⟩ := hp_down hHH hpl ht
  have hk := kid_par b j
  refine ⟨_, _, _, hR3, u1, by rw [List.length_set]; exact hbl, u3.trans hbp, (hK.trans (KpB.of_below (Q := Q) k2) (fun j h => .inl h)).trans hK3 (fun j h => .inl h), by omega, wf_set hwb _ _ (hwb _ hpl), fun _ => u2⟩
theorem dn_end {w wr w2 w3 : World} {hb : Nat} {Q : Nat → Prop} {m0 : Nat} {a : List Th} {i : Nat} {x : Th} {j : Nat} {b : List Th} {f1 : Int → Option Int} {n1 : Nat}
    (hHH : HpH f1 b j x) (hbl : b.length = a.length) (hbp : (b.eraseIdx j).Perm (a.eraseIdx i)) (hK : KpB Q w wr) (hnj : n1 + i ≤ m0 + j) (hwb : WfA b) (hu : 0 < j → ¬ ahd x (atH b ((j - 1) / 2))) (hx : wfI x.f0)
    (hk : kidH b j < b.length → ¬ ahd (atH b (kidH b j)) x) (k2 : Below wr.heap.size wr w2) (hR3 : HpR w3 hb Q (updF f1 x.f0 j) (n1 + 1) (b.set j x)) (hK3 : KpB Q w2 w3) : DnPost w hb Q m0 a i x (.returned (.tuple #[])) w3 := by
  have hjl := hHH.lt
  refine ⟨_, _, _, rfl, hR3, hp_fill hHH hu (kid_none hk), (perm_set b j x hjl).trans (hbp.cons x), by rw [List.length_set]; exact hbl, wf_set hwb _ _ hx, by omega, (hK.trans (KpB.of_below (Q := Q) k2) (fun j h => .inl h)).trans hK3 (fun j h => .inl h)⟩
theorem two_one {j p : Nat} (hp : 2 * j + 1 = p) (hl : j ≤ 1000000) : wrap64 (wrap64 (2 * (j : Int)) + 1) = (p : Int) := by
  rw [w64_id (x := 2 * (j : Int)) (by omega) (by omega), w64_id (by omega) (by omega)]
  omega
theorem one_more {p q : Nat} (hp : p + 1 = q) (hl : p ≤ 10000000) : wrap64 ((p : Int) + 1) = (q : Int) := by
  rw [w64_id (by omega) (by omega)]
  omega
set_option maxHeartbeats 1000000 in
set_option maxRecDepth 100000 in
theorem down_calls (hb : Nat) (i : Nat) (x : Th) (w : World) (Q : Nat → Prop) (f : Int → Option Int) (m0 : Nat) (a : List Th) (h : HpR w hb Q f m0 a) (hH : HpH f a i x) (hu : 0 < i → ¬ ahd x (atH a ((i - 1) / 2))) (hQ : ∀ k, Q k → k < w.heap.size) (hwa : WfA a) (hx : wfI x.f0) (ha : a.length ≤ 1000000) (hn : m0 ≤ 1000000000) :
    Calls Try.prog 110 #[.pointer (some ⟨hb, 0, none⟩), .int .i64 i, .agg #[.int .i64 x.f0, .int .i64 x.f1, .int .i64 x.f2]] w (DnPost w hb Q m0 a i x) := by
  have HX := Aside0.mk hx; have HQ := Aside0.mk hQ
  have HI : Aside0 (i < a.length ∧ a.length ≤ 1000000 ∧ m0 ≤ 1000000000) := ⟨hH.lt, ha, hn⟩
  have HS : DnI w hb Q m0 a i x i (w.alloc (.cells #[.int .i64 x.f0, .int .i64 x.f1, .int .i64 x.f2] 105)) := ⟨a, f, m0, hp_below h (below_alloc (Below.refl _ _) _), hH, rfl, List.Perm.refl _, KpB.of_below (below_alloc (Below.refl _ _) _), Nat.le_refl _, hwa, hu⟩
  have HBX := blk_new w (.cells #[.int .i64 x.f0, .int .i64 x.f1, .int .i64 x.f2] 105)
  have hil := hH.lt
  clear h hH hQ hwa hx ha hn hu
  go_enter Try.func110, Try.ntmps110
  go_wp2
  refine wp_scope_enter 0 rfl ?_
  go_wp2
  go_step3
  simp only [Exit.then]
  rename_i hk
  refine hk _ _ ?_
  clear hk
  refine wp_label_slots 0 (by rfl) ([1, 6, 7, 8, 9, 10, 11, 12, 13, 14, 15, 16, 17, 18, 19, 20, 21, 22, 23, 24, 25, 26, 27, 28, 29, 30, 31, 32, 33, 34, 35, 36, 37, 38, 39, 40, 41, 42, 43, 44, 45, 46, 47, 48, 49, 50, 51, 52, 53, 54, 55, 56, 57, 58, 59, 60, 61, 62, 63, 64, 65, 66, 67, 68, 69, 70] : List Nat) (fun n us wr => ∃ (j : Nat), j < a.length ∧ Aside0 (n = a.length - j) ∧ us.getD 0 undef = .int .i64 j ∧ Aside0 (DnI w hb Q m0 a i x j wr) ∧ Aside0 (wr.heap[w.heap.size]? = some (.cells #[.int .i64 x.f0, .int .i64 x.f1, .int .i64 x.f2] 105 (0, 0)))) (a.length - i) ?_ ?_
  · refine ⟨i, hil, ⟨rfl⟩, rfl, ⟨HS⟩, ⟨HBX⟩⟩
  · rintro n us wr hln ⟨j, hja, HN, h5, HU, HB⟩ J K hJ hK
    simp only [List.length_cons, List.length_nil] at hln
    match us, hln with
    | u1 :: u6 :: u7 :: u8 :: u9 :: u10 :: u11 :: u12 :: u13 :: u14 :: u15 :: u16 :: u17 :: u18 :: u19 :: u20 :: u21 :: u22 :: u23 :: u24 :: u25 :: u26 :: u27 :: u28 :: u29 :: u30 :: u31 :: u32 :: u33 :: u34 :: u35 :: u36 :: u37 :: u38 :: u39 :: u40 :: u41 :: u42 :: u43 :: u44 :: u45 :: u46 :: u47 :: u48 :: u49 :: u50 :: u51 :: u52 :: u53 :: u54 :: u55 :: u56 :: u57 :: u58 :: u59 :: u60 :: u61 :: u62 :: u63 :: u64 :: u65 :: u66 :: u67 :: u68 :: u69 :: u70 :: [], _ =>
    rename_i hx; clear hx
    simp only [List.getD_cons_succ, List.getD_cons_zero] at h5
    subst h5
    simp only [putS, Act.put, List.setIfInBounds_toArray, List.set_cons_zero, List.set_cons_succ]
    have hJ2 := fun (k : Nat) (v1 v6 v7 v8 v9 v10 v11 v12 v13 v14 v15 v16 v17 v18 v19 v20 v21 v22 v23 v24 v25 v26 v27 v28 v29 v30 v31 v32 v33 v34 v35 v36 v37 v38 v39 v40 v41 v42 v43 v44 v45 v46 v47 v48 v49 v50 v51 v52 v53 v54 v55 v56 v57 v58 v59 v60 v61 v62 v63 v64 v65 v66 v67 v68 v69 v70 : Value) (w' : World) => hJ k (v1 :: v6 :: v7 :: v8 :: v9 :: v10 :: v11 :: v12 :: v13 :: v14 :: v15 :: v16 :: v17 :: v18 :: v19 :: v20 :: v21 :: v22 :: v23 :: v24 :: v25 :: v26 :: v27 :: v28 :: v29 :: v30 :: v31 :: v32 :: v33 :: v34 :: v35 :: v36 :: v37 :: v38 :: v39 :: v40 :: v41 :: v42 :: v43 :: v44 :: v45 :: v46 :: v47 :: v48 :: v49 :: v50 :: v51 :: v52 :: v53 :: v54 :: v55 :: v56 :: v57 :: v58 :: v59 :: v60 :: v61 :: v62 :: v63 :: v64 :: v65 :: v66 :: v67 :: v68 :: v69 :: v70 :: []) _ w' rfl rfl
    clear hJ
    simp only [putS, Act.put, List.setIfInBounds_toArray, List.set_cons_zero, List.set_cons_succ] at hJ2
    have HJ := Aside0.mk hJ2; clear hJ2
    have HK := Aside0.mk hK; clear hK
    obtain ⟨b, f1, n1, hR, hHH, hbl, hbp, hK, hnj, hwb, hu⟩ := HU.out.ex
    obtain ⟨v, mb, h0, q0, q1, h3, h4, k0, k1, kf, hbx⟩ := hp_open hR
    have hjl := hHH.lt
    obtain ⟨g, c, rfl, _, hgx, _⟩ := Kd.R_form h3 (by omega)
    have hn1 : n1 < 9223372036854775807 := by have := HI.out; omega
    obtain ⟨p, hp⟩ : ∃ p, 2 * j + 1 = p := ⟨_, rfl⟩
    obtain ⟨q, hq⟩ : ∃ q, p + 1 = q := ⟨_, rfl⟩
    have e1 := two_one hp (by have := HI.out; omega)
    have e2 := one_more hq (by have := HI.out; omega)
    have e3 : IntKind.i64.wrap ((p : Int) + 1) = (q : Int) := (i64_w _).trans e2
    have K0 := Aside0.mk k0
    have H3 := Aside0.mk h3
    have HBL := Aside0.mk hbl
    have HJL := Aside0.mk hjl
    have ST := Aside0.mk (And.intro h0 (And.intro h3 (And.intro h4 (And.intro hR (And.intro hHH (And.intro hbl (And.intro hbp (And.intro hK (And.intro hnj (And.intro hwb hu))))))))))
    by_cases h2 : q < b.length
    · have l1 : (p : Int) < (b.length : Int) := by omega
      have l2 : (q : Int) < (b.length : Int) := by omega
      have gt : decide (q < b.length) = true := by simp; exact h2
      obtain ⟨c0, c1, c2, z0, z1, z2⟩ := hp_cells h3 q h2
      obtain ⟨d0, d1, d2, z3, z4, z5⟩ := hp_cells h3 p (by omega)
      obtain ⟨y1, hy1⟩ : ∃ y, atH b p = y := ⟨_, rfl⟩
      obtain ⟨y2, hy2⟩ : ∃ y, atH b q = y := ⟨_, rfl⟩
      rw [hy1] at d0 d1 d2
      rw [hy2] at c0 c1 c2
      have hS : DnS wr hb g b.length c q p y2 y1 wr := ⟨⟨Below.refl _ _⟩, k0, c0, c1, c2, d0, d1, d2⟩
      have HJP := Aside0.mk (And.intro hp hq)
      have HY1 := Aside0.mk (And.intro hy1 hy2)
      have H2 := Aside0.mk h2
      clear h0 h3 h4 hR hHH hbl hbp hK hnj hwb hu k0 k1 kf c0 c1 c2 z0 z1 z2 d0 d1 d2 z3 z4 z5 hp hq hy1 hy2 h2 hjl
      by_cases ht1 : ahd y2 y1
      · have td : decide (ahd y2 y1) = true := decide_eq_true ht1
        have HT1 := Aside0.mk ht1
        clear ht1
        go_wp2
        go_region_held3 (DnS wr hb g b.length c q p y2 y1) (first | exact DnS.keep (by assumption) hbb | exact DnS.keep hS (below_dN _ 1))
          (first | (go_at_call 119; refine (ahead_calls y2 y1 _).mono ?_; rintro e w2 ⟨rfl, hbb⟩))
        rename_i hHeld
        have KB := hHeld.1
        clear hHeld hbb hS
        have HKD : Aside0 (kidH b j = q) := ⟨by obtain ⟨e3, e4⟩ := HJP.out; unfold kidH; rw [show 2 * j + 2 = q by omega, show 2 * j + 1 = p by omega, HY1.out.1, HY1.out.2, if_pos ⟨H2.out, HT1.out⟩]⟩
        have hpl := H2.out
        clear td gt l1
        have HPL : Aside0 (q < a.length) := ⟨by rw [← HBL.out]; exact hpl⟩
        obtain ⟨c0, c1, c2, z0, z1, z2⟩ := hp_cells (Kd.R_below H3.out KB.out) q hpl
        have x0 : w2.cell? ⟨w.heap.size, 0, none⟩ = some (.int .i64 x.f0) := blk_cell (blk_keep HB.out KB.out) 0
        have x1 : w2.cell? ⟨w.heap.size, 1, none⟩ = some (.int .i64 x.f1) := blk_cell (blk_keep HB.out KB.out) 1
        have x2 : w2.cell? ⟨w.heap.size, 2, none⟩ = some (.int .i64 x.f2) := blk_cell (blk_keep HB.out KB.out) 2
        have k0 := pw_cell_below KB.out K0.out
        obtain ⟨y, hy⟩ : ∃ y, atH b q = y := ⟨_, rfl⟩
        rw [hy] at c0 c1 c2
        have hS : UpS wr hb g w.heap.size b.length c q x y w2 := ⟨⟨KB.out⟩, k0, x0, x1, x2, c0, c1, c2⟩
        have gt2 : decide (q < b.length) = true := by simp; exact hpl
        clear k0 x0 x1 x2 c0 c1 c2 z0 z1 z2
        by_cases ht : ahd y x
        · have td2 : decide (ahd y x) = true := decide_eq_true ht
          go_wp2
          go_region_held3 (UpS wr hb g w.heap.size b.length c q x y) (first | exact UpS.keep (by assumption) hbb | exact UpS.keep hS (below_dN _ 1))
            (first | (go_at_call 119; refine (ahead_calls y x _).mono ?_; rintro e w' ⟨rfl, hbb⟩))
          rename_i hHeld
          clear KB
          obtain ⟨KB, k0, x0, x1, x2, c0, c1, c2⟩ := hHeld
          clear hbb hS
          have hR2 := Aside0.mk (hp_below ST.out.2.2.2.1 KB.out)
          have hyw : wfI y.f0 := hy ▸ ST.out.2.2.2.2.2.2.2.2.2.1 q hpl
          have HY := Aside0.mk hy
          clear hy hpl
          go_wp2_with (first | (go_at_call 120; (with_reducible refine (set_calls hb j y _ Q f1 n1 b hR2.out HJL.out hyw hn1).mono ?_); rintro e w3 ⟨rfl, hR3, hK3⟩; have R3 := Aside0.mk (And.intro hR3 hK3); clear hR3 hK3))
          obtain ⟨h0, h3, h4, hR, hHH, hbl, hbp, hK, hnj, hwb, hu⟩ := ST.out
          have HB2 := blk_keep HB.out KB.out
          have HB3 := (R3.out.2.block w.heap.size (lt_blk HB2) (fun c => by have := HQ.out _ c; omega)).trans HB2
          go_step3
          refine ⟨rfl, HK.out _ _ (Handed.intro (a.length - q) ?_ (HJ.out _ _ _ _ _ _ _ _ _ _ _ _ _ _ _ _ _ _ _ _ _ _ _ _ _ _ _ _ _ _ _ _ _ _ _ _ _ _ _ _ _ _ _ _ _ _ _ _ _ _ _ _ _ _ _ _ _ _ _ _ _ _ _ _ _ _ _ _ ⟨q, HPL.out, ⟨rfl⟩, rfl, ⟨dn_next hHH hbl hbp hK hnj hwb HKD.out (by rw [hbl]; exact HPL.out) HY.out ht KB.out R3.out.1 R3.out.2⟩, ⟨HB3⟩⟩))⟩
          have := HJP.out
          have := HN.out
          have := HPL.out
          omega
        · have td2 : decide (ahd y x) = false := decide_eq_false ht
          go_wp2
          go_region_held3 (UpS wr hb g w.heap.size b.length c q x y) (first | exact UpS.keep (by assumption) hbb | exact UpS.keep hS (below_dN _ 1))
            (first | (go_at_call 119; refine (ahead_calls y x _).mono ?_; rintro e w' ⟨rfl, hbb⟩))
          rename_i hHeld
          clear KB
          obtain ⟨KB, k0, x0, x1, x2, c0, c1, c2⟩ := hHeld
          clear hbb hS
          have hR2 := Aside0.mk (hp_below ST.out.2.2.2.1 KB.out)
          go_wp2_with (first | (go_at_call 120; (with_reducible refine (set_calls hb j x _ Q f1 n1 b hR2.out HJL.out HX.out hn1).mono ?_); rintro e w3 ⟨rfl, hR3, hK3⟩; have R3 := Aside0.mk (And.intro hR3 hK3); clear hR3 hK3))
          obtain ⟨h0, h3, h4, hR, hHH, hbl, hbp, hK, hnj, hwb, hu⟩ := ST.out
          have HHK := fun _ : kidH b j < b.length => (by rw [HKD.out, hy]; exact ht : ¬ ahd (atH b (kidH b j)) x)
          simp only [Exit.jump]
          go_end0
          exact dn_end hHH hbl hbp hK hnj hwb hu HX.out HHK KB.out R3.out.1 R3.out.2
      · have td : decide (ahd y2 y1) = false := decide_eq_false ht1
        have HT1 := Aside0.mk ht1
        clear ht1
        go_wp2
        go_region_held3 (DnS wr hb g b.length c q p y2 y1) (first | exact DnS.keep (by assumption) hbb | exact DnS.keep hS (below_dN _ 1))
          (first | (go_at_call 119; refine (ahead_calls y2 y1 _).mono ?_; rintro e w2 ⟨rfl, hbb⟩))
        rename_i hHeld
        have KB := hHeld.1
        clear hHeld hbb hS
        have HKD : Aside0 (kidH b j = p) := ⟨by obtain ⟨e3, e4⟩ := HJP.out; unfold kidH; rw [show 2 * j + 2 = q by omega, show 2 * j + 1 = p by omega, HY1.out.1, HY1.out.2, if_neg (fun k => HT1.out k.2)]⟩
        have hpl : p < b.length := by have := H2.out; have := HJP.out; omega
        clear td gt l2
        have HPL : Aside0 (p < a.length) := ⟨by rw [← HBL.out]; exact hpl⟩
        obtain ⟨c0, c1, c2, z0, z1, z2⟩ := hp_cells (Kd.R_below H3.out KB.out) p hpl
        have x0 : w2.cell? ⟨w.heap.size, 0, none⟩ = some (.int .i64 x.f0) := blk_cell (blk_keep HB.out KB.out) 0
        have x1 : w2.cell? ⟨w.heap.size, 1, none⟩ = some (.int .i64 x.f1) := blk_cell (blk_keep HB.out KB.out) 1
        have x2 : w2.cell? ⟨w.heap.size, 2, none⟩ = some (.int .i64 x.f2) := blk_cell (blk_keep HB.out KB.out) 2
        have k0 := pw_cell_below KB.out K0.out
        obtain ⟨y, hy⟩ : ∃ y, atH b p = y := ⟨_, rfl⟩
        rw [hy] at c0 c1 c2
        have hS : UpS wr hb g w.heap.size b.length c p x y w2 := ⟨⟨KB.out⟩, k0, x0, x1, x2, c0, c1, c2⟩
        have gt2 : decide (p < b.length) = true := by simp; exact hpl
        clear k0 x0 x1 x2 c0 c1 c2 z0 z1 z2
        by_cases ht : ahd y x
        · have td2 : decide (ahd y x) = true := decide_eq_true ht
          go_wp2
          go_region_held3 (UpS wr hb g w.heap.size b.length c p x y) (first | exact UpS.keep (by assumption) hbb | exact UpS.keep hS (below_dN _ 1))
            (first | (go_at_call 119; refine (ahead_calls y x _).mono ?_; rintro e w' ⟨rfl, hbb⟩))
          rename_i hHeld
          clear KB
          obtain ⟨KB, k0, x0, x1, x2, c0, c1, c2⟩ := hHeld
          clear hbb hS
          have hR2 := Aside0.mk (hp_below ST.out.2.2.2.1 KB.out)
          have hyw : wfI y.f0 := hy ▸ ST.out.2.2.2.2.2.2.2.2.2.1 p hpl
          have HY := Aside0.mk hy
          clear hy hpl
          go_wp2_with (first | (go_at_call 120; (with_reducible refine (set_calls hb j y _ Q f1 n1 b hR2.out HJL.out hyw hn1).mono ?_); rintro e w3 ⟨rfl, hR3, hK3⟩; have R3 := Aside0.mk (And.intro hR3 hK3); clear hR3 hK3))
          obtain ⟨h0, h3, h4, hR, hHH, hbl, hbp, hK, hnj, hwb, hu⟩ := ST.out
          have HB2 := blk_keep HB.out KB.out
          have HB3 := (R3.out.2.block w.heap.size (lt_blk HB2) (fun c => by have := HQ.out _ c; omega)).trans HB2
          go_step3
          refine ⟨rfl, HK.out _ _ (Handed.intro (a.length - p) ?_ (HJ.out _ _ _ _ _ _ _ _ _ _ _ _ _ _ _ _ _ _ _ _ _ _ _ _ _ _ _ _ _ _ _ _ _ _ _ _ _ _ _ _ _ _ _ _ _ _ _ _ _ _ _ _ _ _ _ _ _ _ _ _ _ _ _ _ _ _ _ _ ⟨p, HPL.out, ⟨rfl⟩, rfl, ⟨dn_next hHH hbl hbp hK hnj hwb HKD.out (by rw [hbl]; exact HPL.out) HY.out ht KB.out R3.out.1 R3.out.2⟩, ⟨HB3⟩⟩))⟩
          have := HJP.out
          have := HN.out
          have := HPL.out
          omega
        · have td2 : decide (ahd y x) = false := decide_eq_false ht
          go_wp2
          go_region_held3 (UpS wr hb g w.heap.size b.length c p x y) (first | exact UpS.keep (by assumption) hbb | exact UpS.keep hS (below_dN _ 1))
            (first | (go_at_call 119; refine (ahead_calls y x _).mono ?_; rintro e w' ⟨rfl, hbb⟩))
          rename_i hHeld
          clear KB
          obtain ⟨KB, k0, x0, x1, x2, c0, c1, c2⟩ := hHeld
          clear hbb hS
          have hR2 := Aside0.mk (hp_below ST.out.2.2.2.1 KB.out)
          go_wp2_with (first | (go_at_call 120; (with_reducible refine (set_calls hb j x _ Q f1 n1 b hR2.out HJL.out HX.out hn1).mono ?_); rintro e w3 ⟨rfl, hR3, hK3⟩; have R3 := Aside0.mk (And.intro hR3 hK3); clear hR3 hK3))
          obtain ⟨h0, h3, h4, hR, hHH, hbl, hbp, hK, hnj, hwb, hu⟩ := ST.out
          have HHK := fun _ : kidH b j < b.length => (by rw [HKD.out, hy]; exact ht : ¬ ahd (atH b (kidH b j)) x)
          simp only [Exit.jump]
          go_end0
          exact dn_end hHH hbl hbp hK hnj hwb hu HX.out HHK KB.out R3.out.1 R3.out.2
    · have gt : decide (q < b.length) = false := by simp; omega
      have HJP := Aside0.mk (And.intro hp hq)
      have H2 := Aside0.mk h2
      have HKD : Aside0 (kidH b j = p) := ⟨by unfold kidH; rw [show 2 * j + 2 = q by omega, if_neg (fun k => h2 k.1), hp]⟩
      have KB0 : Aside0 (Below wr.heap.size wr wr) := ⟨Below.refl _ _⟩
      by_cases hpl : p < b.length
      · have l1 : (p : Int) < (b.length : Int) := by omega
        clear h0 h3 h4 hR hHH hbl hbp hK hnj hwb hu k1 kf hp hq h2 hjl
        go_wp2
        go_quiet (fail)
        generalize hW : wr.drewN _ = w2
        have KB : Aside0 (Below wr.heap.size wr w2) := ⟨by rw [← hW]; exact below_dN _ _⟩
        clear hW
        have HPL : Aside0 (p < a.length) := ⟨by rw [← HBL.out]; exact hpl⟩
        obtain ⟨c0, c1, c2, z0, z1, z2⟩ := hp_cells (Kd.R_below H3.out KB.out) p hpl
        have x0 : w2.cell? ⟨w.heap.size, 0, none⟩ = some (.int .i64 x.f0) := blk_cell (blk_keep HB.out KB.out) 0
        have x1 : w2.cell? ⟨w.heap.size, 1, none⟩ = some (.int .i64 x.f1) := blk_cell (blk_keep HB.out KB.out) 1
        have x2 : w2.cell? ⟨w.heap.size, 2, none⟩ = some (.int .i64 x.f2) := blk_cell (blk_keep HB.out KB.out) 2
        have k0 := pw_cell_below KB.out K0.out
        obtain ⟨y, hy⟩ : ∃ y, atH b p = y := ⟨_, rfl⟩
        rw [hy] at c0 c1 c2
        have hS : UpS wr hb g w.heap.size b.length c p x y w2 := ⟨⟨KB.out⟩, k0, x0, x1, x2, c0, c1, c2⟩
        have gt2 : decide (p < b.length) = true := by simp; exact hpl
        clear k0 x0 x1 x2 c0 c1 c2 z0 z1 z2
        by_cases ht : ahd y x
        · have td2 : decide (ahd y x) = true := decide_eq_true ht
          go_wp2
          go_region_held3 (UpS wr hb g w.heap.size b.length c p x y) (first | exact UpS.keep (by assumption) hbb | exact UpS.keep hS (below_dN _ 1))
            (first | (go_at_call 119; refine (ahead_calls y x _).mono ?_; rintro e w' ⟨rfl, hbb⟩))
          rename_i hHeld
          clear KB
          obtain ⟨KB, k0, x0, x1, x2, c0, c1, c2⟩ := hHeld
          clear hbb hS
          have hR2 := Aside0.mk (hp_below ST.out.2.2.2.1 KB.out)
          have hyw : wfI y.f0 := hy ▸ ST.out.2.2.2.2.2.2.2.2.2.1 p hpl
          have HY := Aside0.mk hy
          clear hy hpl
          go_wp2_with (first | (go_at_call 120; (with_reducible refine (set_calls hb j y _ Q f1 n1 b hR2.out HJL.out hyw hn1).mono ?_); rintro e w3 ⟨rfl, hR3, hK3⟩; have R3 := Aside0.mk (And.intro hR3 hK3); clear hR3 hK3))
          obtain ⟨h0, h3, h4, hR, hHH, hbl, hbp, hK, hnj, hwb, hu⟩ := ST.out
          have HB2 := blk_keep HB.out KB.out
          have HB3 := (R3.out.2.block w.heap.size (lt_blk HB2) (fun c => by have := HQ.out _ c; omega)).trans HB2
          go_step3
          refine ⟨rfl, HK.out _ _ (Handed.intro (a.length - p) ?_ (HJ.out _ _ _ _ _ _ _ _ _ _ _ _ _ _ _ _ _ _ _ _ _ _ _ _ _ _ _ _ _ _ _ _ _ _ _ _ _ _ _ _ _ _ _ _ _ _ _ _ _ _ _ _ _ _ _ _ _ _ _ _ _ _ _ _ _ _ _ _ ⟨p, HPL.out, ⟨rfl⟩, rfl, ⟨dn_next hHH hbl hbp hK hnj hwb HKD.out (by rw [hbl]; exact HPL.out) HY.out ht KB.out R3.out.1 R3.out.2⟩, ⟨HB3⟩⟩))⟩
          have := HJP.out
          have := HN.out
          have := HPL.out
          omega
        · have td2 : decide (ahd y x) = false := decide_eq_false ht
          go_wp2
          go_region_held3 (UpS wr hb g w.heap.size b.length c p x y) (first | exact UpS.keep (by assumption) hbb | exact UpS.keep hS (below_dN _ 1))
            (first | (go_at_call 119; refine (ahead_calls y x _).mono ?_; rintro e w' ⟨rfl, hbb⟩))
          rename_i hHeld
          clear KB
          obtain ⟨KB, k0, x0, x1, x2, c0, c1, c2⟩ := hHeld
          clear hbb hS
          have hR2 := Aside0.mk (hp_below ST.out.2.2.2.1 KB.out)
          go_wp2_with (first | (go_at_call 120; (with_reducible refine (set_calls hb j x _ Q f1 n1 b hR2.out HJL.out HX.out hn1).mono ?_); rintro e w3 ⟨rfl, hR3, hK3⟩; have R3 := Aside0.mk (And.intro hR3 hK3); clear hR3 hK3))
          obtain ⟨h0, h3, h4, hR, hHH, hbl, hbp, hK, hnj, hwb, hu⟩ := ST.out
          have HHK := fun _ : kidH b j < b.length => (by rw [HKD.out, hy]; exact ht : ¬ ahd (atH b (kidH b j)) x)
          simp only [Exit.jump]
          go_end0
          exact dn_end hHH hbl hbp hK hnj hwb hu HX.out HHK KB.out R3.out.1 R3.out.2
      · have gt2 : decide (p < b.length) = false := by simp; omega
        have HP2 := Aside0.mk hpl
        clear h0 h3 h4 hR hHH hbl hbp hK hnj hwb hu k1 kf hp hq h2 hjl hpl
        go_wp2
        go_quiet (fail)
        generalize hW : wr.drewN _ = w2
        have KB2 : Aside0 (Below wr.heap.size wr w2) := ⟨by rw [← hW]; exact below_dN _ _⟩
        have k2 := pw_cell_below KB2.out K0.out
        clear hW k0
        go_wp2
        go_quiet (fail)
        generalize hW : w2.drewN _ = w4
        have KB : Aside0 (Below wr.heap.size wr w4) := ⟨by rw [← hW]; exact below_step KB2.out (below_dN _ _)⟩
        clear hW k2
        have hR2 := Aside0.mk (hp_below ST.out.2.2.2.1 KB.out)
        have x0 : w4.cell? ⟨w.heap.size, 0, none⟩ = some (.int .i64 x.f0) := blk_cell (blk_keep HB.out KB.out) 0
        have x1 : w4.cell? ⟨w.heap.size, 1, none⟩ = some (.int .i64 x.f1) := blk_cell (blk_keep HB.out KB.out) 1
        have x2 : w4.cell? ⟨w.heap.size, 2, none⟩ = some (.int .i64 x.f2) := blk_cell (blk_keep HB.out KB.out) 2
        go_wp2_with (first | (go_at_call 120; (with_reducible refine (set_calls hb j x _ Q f1 n1 b hR2.out HJL.out HX.out hn1).mono ?_); rintro e w3 ⟨rfl, hR3, hK3⟩; have R3 := Aside0.mk (And.intro hR3 hK3); clear hR3 hK3))
        obtain ⟨h0, h3, h4, hR, hHH, hbl, hbp, hK, hnj, hwb, hu⟩ := ST.out
        have HHK := (fun k => absurd (show p < b.length by rw [← HKD.out]; exact k) HP2.out : kidH b j < b.length → ¬ ahd (atH b (kidH b j)) x)
        simp only [Exit.jump]
        go_end0
        exact dn_end hHH hbl hbp hK hnj hwb hu HX.out HHK KB.out R3.out.1 R3.out.2
end Go.Proofs.Ytopblnecdabcgaa.P
end
