/- Several texts of this proof in one: what the law's functions come to, and the lemmas (some as the kit's print.sh printed them, what is not used struck). -/
import Derived.Test.YtpoghhcpoimepaaM2
import Derived.Test.YtpoghhcpoimepaaM3
import Derived.Test.YtpoghhcpoimepaaM4
import Derived.Test.YtpoghhcpoimepaaM5
import Derived.Deep.Slices
import Derived.ChangeArms
import Derived.Test.YtpoghhcpoimepaaM7
import Derived.Test.YtpoghhcpoimepaaM8
section
-- printed by the session's own call of print.py. Not trusted: Lean checks it.
namespace Go.Proofs.Ytpoghhcpoimepaa.P
open Go.RowKit Go.Proofs.YtpoghhcpoimepaaW.PrintWords Go.Proofs.YtpoghhcpoimepaaW.PrintLast Go.Proofs.YtpoghhcpoimepaaW.PrintMore
attribute [local go_sem] max2_int min2_int max_two min_two max_three min_three max_four min_four
set_option linter.unusedVariables false
set_option linter.unusedSimpArgs false
/-! ### tallymanlaw06_FenceCells: function 4 -/
mutual
def tallymanlaw06_FenceCells.j0 : Nat → List (S24) → Bool → Int → Int → Int → Int → Option (Bool)
  | 0, _, _, _, _, _, _ => none
  | k + 1, x0, x52, x106000, x106001, x107000, x107001 => if x52 = true then ((tallymanlaw06_alive.f).bind fun t111 => (some t111)) else (tallymanlaw06_FenceCells.l0 k x0 0 (wrap64 (x106000 - 1)) x106000 x106001 x107000 x107001)
def tallymanlaw06_FenceCells.l0 : Nat → List (S24) → Int → Int → Int → Int → Int → Int → Option (Bool)
  | 0, _, _, _, _, _, _, _ => none
  | k + 1, x0, x5, x6, x106000, x106001, x107000, x107001 => if x6 ≤ x107000 then (tallymanlaw06_FenceCells.l1 k x0 x5 x6 (wrap64 (x106001 - 1)) x106000 x106001 x107000 x107001) else ((fence_Area.f x0).bind fun t112 => (if x5 = t112 then ((tallymanlaw06_alive.f).bind fun t113 => (some t113)) else (some false)))
def tallymanlaw06_FenceCells.l1 : Nat → List (S24) → Int → Int → Int → Int → Int → Int → Int → Option (Bool)
  | 0, _, _, _, _, _, _, _, _ => none
  | k + 1, x0, x5, x6, x7, x106000, x106001, x107000, x107001 => if x7 ≤ x107001 then ((fence_Cell.f x0 x6 x7).bind fun t114 => (if t114 = 0 then (tallymanlaw06_FenceCells.l1 k x0 (wrap64 (x5 + t114)) x6 (wrap64 (x7 + 1)) x106000 x106001 x107000 x107001) else (if x6 < x106000 then (some false) else (if x7 < x106001 then (some false) else (if x6 = x107000 then (some false) else (if x7 = x107001 then (some false) else (tallymanlaw06_FenceCells.l1 k x0 (wrap64 (x5 + t114)) x6 (wrap64 (x7 + 1)) x106000 x106001 x107000 x107001))))))) else (tallymanlaw06_FenceCells.l0 k x0 x5 (wrap64 (x6 + 1)) x106000 x106001 x107000 x107001)
end
def tallymanlaw06_FenceCells.f (k : Nat) (l0 : List (S24)) : Option (Bool) := (fence_Box.f l0).bind fun bt101 => (if (l0.length : Int) > 40 then (tallymanlaw06_FenceCells.j0 k l0 true bt101.1 bt101.2.1 bt101.2.2.1 bt101.2.2.2) else ((tallymanref03_Small.f bt101.1 bt101.2.1 500).bind fun t107 => (if t107 = true then ((tallymanref03_Small.f bt101.2.2.1 bt101.2.2.2 500).bind fun t108 => (if t108 = true then (if (wrap64 (bt101.2.2.1 - bt101.1)) > 14 then (tallymanlaw06_FenceCells.j0 k l0 true bt101.1 bt101.2.1 bt101.2.2.1 bt101.2.2.2) else (if (wrap64 (bt101.2.2.2 - bt101.2.1)) > 14 then (tallymanlaw06_FenceCells.j0 k l0 true bt101.1 bt101.2.1 bt101.2.2.1 bt101.2.2.2) else ((fence_Right.f l0).bind fun t109 => (if t109 = true then ((tallymanref06_Right.f k l0).bind fun t110 => (tallymanlaw06_FenceCells.j0 k l0 (!t110) bt101.1 bt101.2.1 bt101.2.2.1 bt101.2.2.2)) else (tallymanlaw06_FenceCells.j0 k l0 true bt101.1 bt101.2.1 bt101.2.2.1 bt101.2.2.2))))) else (tallymanlaw06_FenceCells.j0 k l0 true bt101.1 bt101.2.1 bt101.2.2.1 bt101.2.2.2))) else (tallymanlaw06_FenceCells.j0 k l0 true bt101.1 bt101.2.1 bt101.2.2.1 bt101.2.2.2))))
theorem tallymanlaw06_FenceCells.mono_l : ∀ k, (∀ y0 y1 y2 y3 y4 y5, LeO (tallymanlaw06_FenceCells.j0 k y0 y1 y2 y3 y4 y5) (tallymanlaw06_FenceCells.j0 (k + 1) y0 y1 y2 y3 y4 y5)) ∧ (∀ y0 y1 y2 y3 y4 y5 y6, LeO (tallymanlaw06_FenceCells.l0 k y0 y1 y2 y3 y4 y5 y6) (tallymanlaw06_FenceCells.l0 (k + 1) y0 y1 y2 y3 y4 y5 y6)) ∧ (∀ y0 y1 y2 y3 y4 y5 y6 y7, LeO (tallymanlaw06_FenceCells.l1 k y0 y1 y2 y3 y4 y5 y6 y7) (tallymanlaw06_FenceCells.l1 (k + 1) y0 y1 y2 y3 y4 y5 y6 y7))
  | 0 => ⟨fun _ _ _ _ _ _ r h => by simp [tallymanlaw06_FenceCells.j0] at h, fun _ _ _ _ _ _ _ r h => by simp [tallymanlaw06_FenceCells.l0] at h, fun _ _ _ _ _ _ _ _ r h => by simp [tallymanlaw06_FenceCells.l1] at h⟩
  | k + 1 => by
    obtain ⟨ih0, ih1, ih2⟩ := tallymanlaw06_FenceCells.mono_l k
    refine ⟨?_, ?_, ?_⟩
    · intro y0 y1 y2 y3 y4 y5
      unfold tallymanlaw06_FenceCells.j0
      repeat' first
      | (with_reducible exact ih0 _ _ _ _ _ _)
      | (with_reducible exact ih1 _ _ _ _ _ _ _)
      | (with_reducible exact ih2 _ _ _ _ _ _ _ _)
      | (with_reducible exact tallymanref06_Right.mono _ _)
      | (with_reducible exact LeO.refl _)
      | (with_reducible exact LeO.none _)
      | (with_reducible refine LeO.ite ?_ ?_)
      | (with_reducible refine LeO.bind ?_ (fun _ => ?_))
      | exact ih0 _ _ _ _ _ _
      | exact ih1 _ _ _ _ _ _ _
      | exact ih2 _ _ _ _ _ _ _ _
      | exact tallymanref06_Right.mono _ _
      | exact LeO.none _
      | refine LeO.ite ?_ ?_
      | refine LeO.bind ?_ (fun _ => ?_)
    · intro y0 y1 y2 y3 y4 y5 y6
      unfold tallymanlaw06_FenceCells.l0
      repeat' first
      | (with_reducible exact ih0 _ _ _ _ _ _)
      | (with_reducible exact ih1 _ _ _ _ _ _ _)
      | (with_reducible exact ih2 _ _ _ _ _ _ _ _)
      | (with_reducible exact tallymanref06_Right.mono _ _)
      | (with_reducible exact LeO.refl _)
      | (with_reducible exact LeO.none _)
      | (with_reducible refine LeO.ite ?_ ?_)
      | (with_reducible refine LeO.bind ?_ (fun _ => ?_))
      | exact ih0 _ _ _ _ _ _
      | exact ih1 _ _ _ _ _ _ _
      | exact ih2 _ _ _ _ _ _ _ _
      | exact tallymanref06_Right.mono _ _
      | exact LeO.none _
      | refine LeO.ite ?_ ?_
      | refine LeO.bind ?_ (fun _ => ?_)
    · intro y0 y1 y2 y3 y4 y5 y6 y7
      unfold tallymanlaw06_FenceCells.l1
      repeat' first
      | (with_reducible exact ih0 _ _ _ _ _ _)
      | (with_reducible exact ih1 _ _ _ _ _ _ _)
      | (with_reducible exact ih2 _ _ _ _ _ _ _ _)
      | (with_reducible exact tallymanref06_Right.mono _ _)
      | (with_reducible exact LeO.refl _)
      | (with_reducible exact LeO.none _)
      | (with_reducible refine LeO.ite ?_ ?_)
      | (with_reducible refine LeO.bind ?_ (fun _ => ?_))
      | exact ih0 _ _ _ _ _ _
      | exact ih1 _ _ _ _ _ _ _
      | exact ih2 _ _ _ _ _ _ _ _
      | exact tallymanref06_Right.mono _ _
      | exact LeO.none _
      | refine LeO.ite ?_ ?_
      | refine LeO.bind ?_ (fun _ => ?_)
theorem tallymanlaw06_FenceCells.mono : ∀ a0 k, LeO (tallymanlaw06_FenceCells.f k a0) (tallymanlaw06_FenceCells.f (k + 1) a0) := by
  intro a0 k
  obtain ⟨ih0, ih1, ih2⟩ := tallymanlaw06_FenceCells.mono_l k
  unfold tallymanlaw06_FenceCells.f
  repeat' first
      | (with_reducible exact ih0 _ _ _ _ _ _)
      | (with_reducible exact ih1 _ _ _ _ _ _ _)
      | (with_reducible exact ih2 _ _ _ _ _ _ _ _)
      | (with_reducible exact tallymanref06_Right.mono _ _)
      | (with_reducible exact LeO.refl _)
      | (with_reducible exact LeO.none _)
      | (with_reducible refine LeO.ite ?_ ?_)
      | (with_reducible refine LeO.bind ?_ (fun _ => ?_))
      | exact ih0 _ _ _ _ _ _
      | exact ih1 _ _ _ _ _ _ _
      | exact ih2 _ _ _ _ _ _ _ _
      | exact tallymanref06_Right.mono _ _
      | exact LeO.none _
      | refine LeO.ite ?_ ?_
      | refine LeO.bind ?_ (fun _ => ?_)
end Go.Proofs.Ytpoghhcpoimepaa.P
end
section
/- What came in, of any type that is made of numbers, texts, slices and structs: its value, and how it reads. -/
namespace Go.Proofs.Ytpoghhcpoimepaa.TR
open Go.RowKit Go.ChangeShapes Go.WideShapes Go.Deep Go.Proofs.YtpoghhcpoimepaaW.PrintWords Go.Proofs.YtpoghhcpoimepaaW.PrintLast Go.Proofs.YtpoghhcpoimepaaW.PrintMore
set_option linter.unusedVariables false
set_option linter.unusedSimpArgs false
/-- What the cells of type t hold, where they are well formed, is of the kind d. -/
def Tr {α : Type} (P : Program) (t : TypeId) (d : Kd α) (Wf : α → Prop) : Prop :=
  ∀ (H : Type) (enc : TypeId × Value → H) (w : World) (n : Nat) (cs : List Value) (x : DataW H × List MemPlace), DataW.trod enc P w 0 (fun _ => true) true n t cs = some x → ∃ a, d.K w a cs ∧ Wf a
theorem Tr_int {P : Program} {t : TypeId} {k : IntKind} (ht : P.underlying t = some (.int k)) : Tr P t (Kd.int k) (fun z => (Lit.int k z).wf = true) := by
  intro H enc w n cs x h
  obtain ⟨z, rfl, _, hw⟩ := DataW.trod_int ht h
  exact ⟨z, rfl, hw⟩
theorem Tr_iso {α β : Type} {P : Program} {t : TypeId} {d : Kd α} {Wf : α → Prop} (f : β → α) (g : α → β) (hg : ∀ a, f (g a) = a) (h : Tr P t d Wf) : Tr P t (Kd.iso d f) (fun b => Wf (f b)) := by
  intro H enc w n cs x hx
  obtain ⟨a, hK, hW⟩ := h H enc w n cs x hx
  exact ⟨g a, by show d.K w (f (g a)) cs; rw [hg]; exact hK, by show Wf (f (g a)); rw [hg]; exact hW⟩
theorem build {α : Type} (p : Nat → α → Prop) : ∀ n, (∀ i, i < n → ∃ a, p i a) → ∃ l : List α, l.length = n ∧ ∀ j a, l[j]? = some a → p j a := by
  intro n
  induction n with
  | zero => intro _; exact ⟨[], rfl, fun j a h => by simp at h⟩
  | succ n ih =>
    intro h
    obtain ⟨l, hl, hp⟩ := ih (fun i hi => h i (by omega))
    obtain ⟨a, ha⟩ := h n (by omega)
    refine ⟨l ++ [a], by simp [hl], fun j b hb => ?_⟩
    by_cases hj : j < l.length
    · rw [List.getElem?_append_left hj] at hb
      exact hp j b hb
    · rw [List.getElem?_append_right (by omega)] at hb
      have : j - l.length = 0 := by
        have := (List.getElem?_eq_some_iff.1 hb).1
        simp at this
        omega
      rw [this] at hb
      simp only [List.getElem?_cons_zero, Option.some.injEq] at hb
      subst hb
      rw [show j = n by omega]
      exact ha
theorem Tr_slice {α : Type} {P : Program} {t e : TypeId} {d : Kd α} {Wf : α → Prop} (ht : P.underlying t = some (.slice e)) (hc : P.cellsOf e = d.sz) (h : Tr P e d Wf) : Tr P t (Kd.slice e d) (fun l => ∀ a ∈ l, Wf a) := by
  intro H enc w n cs x hx
  rcases open_slice ht hx with ⟨rfl, _⟩ | ⟨a, len, cap, m, n', D, Pl, rfl, _, hle, hm, hmm, _, hel⟩
  · exact ⟨[], ⟨none, 0, rfl, Nat.le_refl _, Kd.C_nil d w⟩, fun a ha => by simp at ha⟩
  · have hmc : m = cap := by simpa using hmm
    obtain ⟨l, hl, hp⟩ := build (fun i (b : α) => (∃ cs', cs'.length = d.sz ∧ d.K w b cs' ∧ ∀ j u, cs'[j]? = some u → w.cell? (a.add (i * d.sz + j)) = some u) ∧ Wf b) len (fun i hi => by
      obtain ⟨cs', h1, h2⟩ := hel i (by omega)
      obtain ⟨_, h3, h4⟩ := World.cells?_some h1
      obtain ⟨b, hK, hW⟩ := h H enc w n' cs' _ h2
      refine ⟨b, ⟨cs', by rw [h3, hc], hK, fun j u hu => ?_⟩, hW⟩
      have hj := (List.getElem?_eq_some_iff.1 hu).1
      rw [← hc, ← Go.Deep.add_add, h4 j (by omega), hu])
    refine ⟨l, ⟨some a, cap, by rw [hl], by omega, ⟨rfl, ?_, fun _ => ⟨a, rfl, fun j b hb => (hp j b hb).1⟩⟩⟩, fun b hb => ?_⟩
    · unfold maxLen at hm; omega
    · obtain ⟨j, hj⟩ := List.getElem?_of_mem hb
      exact (hp j b hj).2
/-- The fields from one on, one behind the other. -/
theorem seg (cs : List Value) (o a b : Nat) : (cs.drop o).take (a + b) = (cs.drop o).take a ++ (cs.drop (o + a)).take b := by
  rw [List.take_add, List.drop_drop]
theorem pair_K {α β : Type} {d : Kd α} {e : Kd β} {w : World} {cs : List Value} {o : Nat} {a : α} {b : β} {s r : Nat} (h1 : d.K w a ((cs.drop o).take s)) (h2 : e.K w b ((cs.drop (o + s)).take r)) : (Kd.pair d e).K w (a, b) ((cs.drop o).take (s + r)) :=
  ⟨_, _, seg cs o s r, h1, h2⟩
/-- A struct's fields from one offset on, of the kinds of a pair of pairs. -/
def Fs {α : Type} (P : Program) (fs : List Field) (o : Nat) (d : Kd α) (Wf : α → Prop) (sz : Nat) : Prop :=
  ∀ (H : Type) (enc : TypeId × Value → H) (w : World) (n : Nat) (cs : List Value), (∀ f ∈ fs, ∃ y, DataW.trod enc P w 0 (fun _ => true) true n f.type ((cs.drop f.offset).take (P.cellsOf f.type)) = some y) → ∃ a, d.K w a ((cs.drop o).take sz) ∧ Wf a
theorem Fs_one {α : Type} {P : Program} {f : Field} {d : Kd α} {Wf : α → Prop} {o s : Nat} (ho : f.offset = o) (hs : P.cellsOf f.type = s) (h : Tr P f.type d Wf) : Fs P [f] o d Wf s := by
  intro H enc w n cs hf
  obtain ⟨y, hy⟩ := hf f (by simp)
  rw [ho, hs] at hy
  exact h H enc w n _ y hy
theorem Fs_cons {α β : Type} {P : Program} {f : Field} {fs : List Field} {d : Kd α} {e : Kd β} {Wf : α → Prop} {Wg : β → Prop} {o s r : Nat} (ho : f.offset = o) (hs : P.cellsOf f.type = s) (h : Tr P f.type d Wf) (hr : Fs P fs (o + s) e Wg r) : Fs P (f :: fs) o (Kd.pair d e) (fun x => Wf x.1 ∧ Wg x.2) (s + r) := by
  intro H enc w n cs hf
  obtain ⟨y, hy⟩ := hf f (by simp)
  rw [ho, hs] at hy
  obtain ⟨a, ha, hwa⟩ := h H enc w n _ y hy
  obtain ⟨b, hb, hwb⟩ := hr H enc w n cs (fun g hg => hf g (by simp [hg]))
  exact ⟨(a, b), pair_K ha hb, hwa, hwb⟩
theorem Tr_struct {α : Type} {P : Program} {t : TypeId} {fs : List Field} {d : Kd α} {Wf : α → Prop} {s : Nat} (ht : P.underlying t = some (.struct fs.toArray)) (hs : P.cellsOf t = s) (h : Fs P fs 0 d Wf s) : Tr P t d Wf := by
  intro H enc w n cs x hx
  obtain ⟨xs, n', _, _, hl, hlen, hf⟩ := DataW.trod_struct ht hx
  obtain ⟨a, hK, hW⟩ := h H enc w n' cs (fun f hfm => by
    obtain ⟨i, hi⟩ := List.getElem?_of_mem hfm
    have h1 := hf i f (by simpa using hi)
    have hil : i < fs.length := (List.getElem?_eq_some_iff.1 hi).1
    have h2 : i < xs.length := by rw [hlen]; simpa using hil
    exact ⟨xs[i], by rw [h1]; exact List.getElem?_eq_getElem h2⟩)
  rw [List.drop_zero, List.take_of_length_le (by omega)] at hK
  exact ⟨a, hK, hW⟩
end Go.Proofs.Ytpoghhcpoimepaa.TR
end
section
/- The law FenceMeasures, for any points. -/
namespace Go.Proofs.Ytpoghhcpoimepaa.P
open Go.Proofs.Ytpoghhcpoimepaa.B Go.RowKit Go.Proofs.YtpoghhcpoimepaaW.PrintWords Go.Proofs.YtpoghhcpoimepaaW.PrintLast Go.Proofs.YtpoghhcpoimepaaW.PrintMore
set_option linter.unusedVariables false
set_option linter.unusedSimpArgs false
theorem i64_of {x : Int} (h : (Lit.int .i64 x).wf = true) : -9223372036854775808 ≤ x ∧ x ≤ 9223372036854775807 := by
  have h1 : (decide ((-9223372036854775808 : Int) ≤ x) && decide (x ≤ 9223372036854775807)) = true := h
  rw [Bool.and_eq_true, decide_eq_true_iff, decide_eq_true_iff] at h1
  exact h1
set_option maxRecDepth 100000 in
theorem Tr22 : TR.Tr Try.prog 22 (Kd.slice 24 k24) (fun l => ∀ p ∈ l, rangeP p) := by
  have h := TR.Tr_slice (P := Try.prog) Try.underlying22 (by kernel_rfl) (TR.Tr_iso (fun x : S24 => (x.f0, x.f1)) (fun p => ⟨p.1, p.2⟩) (fun _ => rfl) (TR.Tr_struct (s := 2) Try.underlying24 (by kernel_rfl) (TR.Fs_cons (s := 1) rfl (by kernel_rfl) (TR.Tr_int Try.underlying3) (TR.Fs_one (s := 1) rfl (by kernel_rfl) (TR.Tr_int Try.underlying3)))))
  intro H enc w n cs x hv
  obtain ⟨l, h1, h2⟩ := h _ _ _ _ _ _ hv
  exact ⟨l, h1, fun p hp => by have := h2 p hp; exact ⟨i64_of this.1, i64_of this.2⟩⟩
end Go.Proofs.Ytpoghhcpoimepaa.P
end
section
/- The law FenceCells. -/
namespace Go.Proofs.Ytpoghhcpoimepaa.P
open Go.Proofs.Ytpoghhcpoimepaa.B Go.RowKit Go.Proofs.YtpoghhcpoimepaaW.PrintWords Go.Proofs.YtpoghhcpoimepaaW.PrintLast Go.Proofs.YtpoghhcpoimepaaW.PrintMore Go.Proofs.Ytpoghhcpoimepaa.FX Go.Proofs.Ytpoghhcpoimepaa.H
set_option linter.unusedVariables false
set_option linter.unusedSimpArgs false
theorem smallN (x y n : Int) (hn : 0 ≤ n ∧ n ≤ 1000) (h : tallymanref03_Small.f x y n = some true) : (-n ≤ x ∧ x ≤ n) ∧ (-n ≤ y ∧ y ≤ n) := by
  unfold tallymanref03_Small.f at h
  rw [n64 (by omega) (by omega)] at h
  split at h
  · split at h
    · split at h
      · have := of_decide_eq_true (Option.some.inj h); omega
      · cases h
    · cases h
  · cases h
theorem small_some (x y n : Int) : ∃ b, tallymanref03_Small.f x y n = some b := by
  unfold tallymanref03_Small.f
  split
  · split
    · split
      · exact ⟨_, rfl⟩
      · exact ⟨_, rfl⟩
    · exact ⟨_, rfl⟩
  · exact ⟨_, rfl⟩
end Go.Proofs.Ytpoghhcpoimepaa.P
end
section
/- The law FenceTurns. -/
namespace Go.Proofs.Ytpoghhcpoimepaa.P
open Go.Proofs.Ytpoghhcpoimepaa.B Go.RowKit Go.Proofs.YtpoghhcpoimepaaW.PrintWords Go.Proofs.YtpoghhcpoimepaaW.PrintLast Go.Proofs.YtpoghhcpoimepaaW.PrintMore Go.Proofs.Ytpoghhcpoimepaa.FX Go.Proofs.Ytpoghhcpoimepaa.H
set_option linter.unusedVariables false
set_option linter.unusedSimpArgs false
theorem areaV_le (l : List S24) : -1000000000000000 ≤ areaV l ∧ areaV l ≤ 1000000000000000 := by
  unfold areaV
  by_cases hR : RightP l
  · rw [if_pos hR]
    have := sumTo_le (fun j => crs (atP l j) (atP l (j + 1))) 2199023255552 (fun j => crs_le (hR.small _) (hR.small _)) l.length
    have h2 := hR.1
    generalize sumTo (fun j => crs (atP l j) (atP l (j + 1))) l.length = S at *
    have h3 : (Int.tdiv S 2).natAbs = S.natAbs / 2 := Int.natAbs_tdiv S 2
    omega
  · rw [if_neg hR]; omega
theorem cellV_le (l : List S24) (x y : Int) : -1000 ≤ cellV l x y ∧ cellV l x y ≤ 1000 := by
  unfold cellV
  by_cases hR : RightP l
  · rw [if_pos hR]
    have := sumTo_le (fun j => cellS (atP l j).f0 (atP l j).f1 (atP l (j + 1)).f0 (atP l (j + 1)).f1 x y) 1 (fun j => cellS_le _ _ _ _ _ _) l.length
    have h2 := hR.1
    omega
  · rw [if_neg hR]; omega
theorem j3_true (l : List S24) (n x y : Int) : Ev (fun k => tallymanlaw06_FenceTurns.j3 k l true n x y) true :=
  Ev.step (fun k => by rw [tallymanlaw06_FenceTurns.j3, if_pos rfl, alive06]; rfl) (Ev.now _)
theorem j3_false {l : List S24} (hR : RightP l) (hr : ∀ p ∈ l, rangeP p) (n x y : Int) (hx : -500 ≤ x ∧ x ≤ 500) (hy : -500 ≤ y ∧ y ≤ 500) (hb : ∀ j, (-500 ≤ (atP l j).f0 ∧ (atP l j).f0 ≤ 500) ∧ (-500 ≤ (atP l j).f1 ∧ (atP l j).f1 ≤ 500)) : Ev (fun k => tallymanlaw06_FenceTurns.j3 k l false n x y) true := by
  have hn := hR.1
  have e : l.map (mvB n x y) = l.map (mvP (qt n) x y) := by
    refine List.map_congr_left (fun p hp => ?_)
    obtain ⟨j, hj, rfl⟩ := List.getElem_of_mem hp
    have hs := hR.small j
    rw [atP_get l j hj] at hs
    rw [mvB_small n x y _ hs, fx_near (n := x) (by omega), fx_near (n := y) (by omega)]
  have hs : ∀ j, smallP (mvP (qt n) x y (atP l j)) := by
    intro j
    have := hb j
    unfold mvP smallP
    split
    · exact ⟨fx_near (by simp only []; omega), fx_near (by simp only []; omega)⟩
    · split
      · exact ⟨fx_near (by simp only []; omega), fx_near (by simp only []; omega)⟩
      · split
        · exact ⟨fx_near (by simp only []; omega), fx_near (by simp only []; omega)⟩
        · exact ⟨fx_near (by simp only []; omega), fx_near (by simp only []; omega)⟩
  have hm := move_ev n x y l (by omega)
  rw [e] at hm
  have hR2 := right_mv hR (qt n) x y hs
  have hrm : ∀ p ∈ l.map (mvP (qt n) x y), rangeP p := by
    intro p hp
    obtain ⟨j, hj, rfl⟩ := List.getElem_of_mem hp
    have h2 := hR2.small j
    rw [atP_get _ j hj] at h2
    have h3 := small_le h2
    unfold rangeP
    omega
  have q1 : fence_Right.f (l.map (mvP (qt n) x y)) = some (decide (RightP (l.map (mvP (qt n) x y)))) := if_pos hrm
  have q2 : fence_Area.f (l.map (mvP (qt n) x y)) = some (areaV (l.map (mvP (qt n) x y))) := if_pos hrm
  have q3 : fence_Area.f l = some (areaV l) := if_pos hr
  rw [decide_eq_true hR2] at q1
  rw [area_mv hR (qt n) x y hs] at q2
  have hm2 : Ev (fun k => (fence_Move.f k n x y l).bind fun t125 => ((fence_Right.f t125).bind fun t128 => (if t128 = true then ((fence_Area.f t125).bind fun t129 => ((fence_Area.f l).bind fun t130 => (if t129 = t130 then ((tallymanlaw06_alive.f).bind fun t131 => (some t131)) else (some false)))) else (some false)))) true := by
    refine Ev.bind hm ?_
    rw [q1, Option.bind_some, if_pos rfl, q2, Option.bind_some, q3, Option.bind_some, if_pos rfl, alive06]
    exact Ev.now _
  refine Ev.step (fun k => ?_) hm2
  rw [tallymanlaw06_FenceTurns.j3, if_neg Bool.false_ne_true]
theorem j2_false {l : List S24} (hR : RightP l) (hr : ∀ p ∈ l, rangeP p) (n x y : Int) : Ev (fun k => tallymanlaw06_FenceTurns.j2 k l false n x y) true := by
  have hn := hR.1
  have hbx := in_box hR
  obtain ⟨⟨⟨ax, ay⟩, bx, by'⟩, hb⟩ : ∃ b, bxT l l.length = b := ⟨_, rfl⟩
  have hbr := box_ref l (by omega)
  rw [hb] at hbr hbx
  simp only [] at hbr hbx
  refine Ev.step (fun k => by rw [tallymanlaw06_FenceTurns.j2, if_neg Bool.false_ne_true]) ?_
  refine Ev.bind hbr ?_
  simp only []
  obtain ⟨b1, e1⟩ := small_some ax ay 500
  rw [e1]
  refine Ev.congr (fun k => Option.bind_some _ _) ?_
  cases b1
  · exact Ev.congr (fun k => if_neg Bool.false_ne_true) (j3_true ..)
  refine Ev.congr (fun k => if_pos rfl) ?_
  obtain ⟨b2, e2⟩ := small_some bx by' 500
  rw [e2]
  refine Ev.congr (fun k => Option.bind_some _ _) ?_
  cases b2
  · exact Ev.congr (fun k => if_neg Bool.false_ne_true) (j3_true ..)
  refine Ev.congr (fun k => if_pos rfl) ?_
  obtain ⟨b3, e3⟩ := small_some x y 500
  unfold tallymanref04_Small.f
  rw [e3]
  refine Ev.congr (fun k => Option.bind_some _ _) ?_
  cases b3
  · exact j3_true ..
  have s1 := smallN _ _ _ (by omega) e1
  have s2 := smallN _ _ _ (by omega) e2
  have s3 := smallN _ _ _ (by omega) e3
  exact j3_false hR hr n x y (by omega) (by omega) (fun j => by have := hbx j; omega)
theorem l0_turns {l : List S24} (hR : RightP l) (hr : ∀ p ∈ l, rangeP p) (n x y u v : Int) : ∀ (d i : Nat) (acc : List S24), i + d = l.length → acc.length = i → acc ++ l.reverse.drop i = l.reverse → Ev (fun k => tallymanlaw06_FenceTurns.l0 k l acc (l.length : Int) (i : Int) n x y u v) true := by
  have hn := hR.1
  intro d
  induction d with
  | zero =>
    intro i acc hi ha he
    rw [List.drop_eq_nil_of_le (by rw [List.length_reverse]; omega), List.append_nil] at he
    subst he
    have hr2 : ∀ p ∈ l.reverse, rangeP p := fun p hp => hr p (List.mem_reverse.1 hp)
    have hR2 := right_rev hR
    have q1 : fence_Right.f l.reverse = some (decide (RightP l.reverse)) := if_pos hr2
    have q2 : fence_Area.f l.reverse = some (areaV l.reverse) := if_pos hr2
    have q3 : fence_Area.f l = some (areaV l) := if_pos hr
    have q4 : fence_Cell.f l.reverse u v = some (cellV l.reverse u v) := if_pos hr2
    have q5 : fence_Cell.f l u v = some (cellV l u v) := if_pos hr
    have b1 := areaV_le l
    have b2 := cellV_le l u v
    rw [decide_eq_true hR2] at q1
    rw [area_rev hR] at q2
    rw [cell_rev hR] at q4
    refine Ev.step (fun k => ?_) (j2_false hR hr n x y)
    rw [tallymanlaw06_FenceTurns.l0, if_neg (by omega), q1, Option.bind_some, if_pos rfl, q2, Option.bind_some, q3, Option.bind_some, n64 (by omega) (by omega), if_pos rfl, q4, Option.bind_some, q5, Option.bind_some, n64 (by omega) (by omega)]
    congr 1
    simp
  | succ d ih =>
    intro i acc hi ha he
    have hlt : i < l.reverse.length := by rw [List.length_reverse]; omega
    have hlt2 : l.length - 1 - i < l.length := by omega
    rw [List.drop_eq_getElem_cons hlt] at he
    have hgi : l.reverse[i] = l[l.length - 1 - i] := by rw [List.getElem_reverse]
    have ih' := ih (i + 1) (acc ++ [l.reverse[i]]) (by omega) (by rw [List.length_append, ha]; rfl) (by rw [List.append_assoc]; exact he)
    refine Ev.step (fun k => ?_) ih'
    have e1 : wrap64 (wrap64 ((l.length : Int) - 1) - (i : Int)) = ((l.length - 1 - i : Nat) : Int) := by
      rw [n64 (x := (l.length : Int) - 1) (by omega) (by omega), n64 (by omega) (by omega)]
      omega
    rw [tallymanlaw06_FenceTurns.l0, if_pos (by omega), e1, if_pos (by omega), if_pos (by omega), if_pos (by omega), rdL l _ hlt2, hgi, n64 (by omega) (by omega)]
    rfl
theorem j0_turns (l : List S24) (n x y u v : Int) : Ev (fun k => tallymanlaw06_FenceTurns.j0 k l true n x y u v) true :=
  Ev.step (fun k => by rw [tallymanlaw06_FenceTurns.j0, if_pos rfl, alive06]; rfl) (Ev.now _)
theorem turns06 (l : List S24) (n x y u v : Int) (hr : ∀ p ∈ l, rangeP p) : ∃ k, tallymanlaw06_FenceTurns.f k l n x y u v = some true := by
  refine Ev.rounds ?_
  unfold tallymanlaw06_FenceTurns.f
  by_cases hg : (l.length : Int) > 300
  · exact Ev.congr (fun k => if_pos hg) (j0_turns ..)
  refine Ev.congr (fun k => if_neg hg) ?_
  have hq : fence_Right.f l = some (decide (RightP l)) := if_pos hr
  rw [hq]
  refine Ev.congr (fun k => Option.bind_some _ _) ?_
  by_cases hR : RightP l
  · refine Ev.congr (fun k => if_pos (decide_eq_true hR)) ?_
    have hd := right_ref l
    rw [decide_eq_true hR] at hd
    refine Ev.bind hd ?_
    refine Ev.step (fun k => ?_) (l0_turns hR hr n x y u v l.length 0 [] (by omega) rfl (by rw [List.drop_zero, List.nil_append]))
    rw [tallymanlaw06_FenceTurns.j0, if_neg (by decide)]
    rfl
  · exact Ev.congr (fun k => if_neg (by rw [decide_eq_false hR]; exact Bool.false_ne_true)) (j0_turns ..)
def tallymanlaw06_FenceTurns.Pure : Prop := True
theorem tallymanlaw06_FenceTurns.walk (P : tallymanlaw06_FenceTurns.Pure) (a0 : Option Addr) (len0 cap0 : Nat) (a1_0 a1_1 a1_2 : Int) (a2_0 a2_1 : Int) (w : World) {H : Type} {enc : TypeId × Value → H} {d : DataW H} {p : List MemPlace} (h0 : DataW.Trod enc Try.prog w 0 (fun _ => true) true 22 (.slice a0 len0 cap0) d p) (w1_0 : (Lit.int .i64 a1_0).wf = true) (w1_1 : (Lit.int .i64 a1_1).wf = true) (w1_2 : (Lit.int .i64 a1_2).wf = true) (w2_0 : (Lit.int .i64 a2_0).wf = true) (w2_1 : (Lit.int .i64 a2_1).wf = true) :
    Calls Try.prog 5 #[.slice a0 len0 cap0, .agg #[.int .i64 a1_0, .int .i64 a1_1, .int .i64 a1_2], .agg #[.int .i64 a2_0, .int .i64 a2_1]] w fun e w' => e = .returned (.bool true) ∧ Below w.heap.size w w' := by
  obtain ⟨fuel, hf⟩ := h0
  obtain ⟨l, ⟨A, c, e, hc, hC⟩, hw⟩ := Tr22 _ _ _ _ _ _ hf
  simp [Value.cells] at e
  obtain ⟨rfl, rfl, rfl⟩ := e
  obtain ⟨k, hk⟩ := turns06 l a1_0 a1_1 a1_2 a2_0 a2_1 hw
  exact tallymanlaw06_FenceTurns.calls k _ _ l _ _ _ _ _ true w hC hc hk
end Go.Proofs.Ytpoghhcpoimepaa.P
end
section
/- FenceTurns: nothing is left to show. -/
namespace Go.Proofs.Ytpoghhcpoimepaa.Pure
theorem FenceTurns : P.tallymanlaw06_FenceTurns.Pure := trivial
end Go.Proofs.Ytpoghhcpoimepaa.Pure
end
