/- Several texts of this proof in one: what the law's functions come to, and the lemmas (some as the kit's print.sh printed them, what is not used struck). -/
import Derived.Test.YtpoghhcpoimepaaM2
import Derived.Deep.Slices
import Derived.ChangeArms
import Derived.Test.YtpoghhcpoimepaaM6
section
/- What came in, of any type that is made of numbers, texts, slices and structs: its value, and how it reads. -/
namespace Go.Proofs.Ytpoghhcpoimepaa.TR
open Go.RowKit Go.ChangeShapes Go.WideShapes Go.Deep Go.Proofs.YtpoghhcpoimepaaW.PrintWords Go.Proofs.YtpoghhcpoimepaaW.PrintLast Go.Proofs.YtpoghhcpoimepaaW.PrintMore
set_option linter.unusedVariables false
set_option linter.unusedSimpArgs false
/-- What the cells of type t hold, where they are well formed, is of the kind d. -/
def Tr {α : Type} (P : Program) (t : TypeId) (d : Kd α) (Wf : α → Prop) : Prop :=
  ∀ (H : Type) (enc : TypeId × Value → H) (w : World) (n : Nat) (cs : List Value) (x : DataW H × List MemPlace), DataW.trod enc P w 0 (fun _ => true) true n t cs = some x → ∃ a, d.K w a cs ∧ Wf a
theorem Tr_int {P : Program} {t : TypeId} {k : IntKind} (ht : P.underlying t = some (.int k)) : Tr P t (Kd.int k) (fun z => (Lit.int k z).wf = true) := by
  intro H enc w n cs x h
  obtain ⟨z, rfl, _, hw⟩ := DataW.trod_int ht h
  exact ⟨z, rfl, hw⟩
theorem Tr_iso {α β : Type} {P : Program} {t : TypeId} {d : Kd α} {Wf : α → Prop} (f : β → α) (g : α → β) (hg : ∀ a, f (g a) = a) (h : Tr P t d Wf) : Tr P t (Kd.iso d f) (fun b => Wf (f b)) := by
  intro H enc w n cs x hx
  obtain ⟨a, hK, hW⟩ := h H enc w n cs x hx
  exact ⟨g a, by show d.K w (f (g a)) cs; rw [hg]; exact hK, by show Wf (f (g a)); rw [hg]; exact hW⟩
theorem build {α : Type} (p : Nat → α → Prop) : ∀ n, (∀ i, i < n → ∃ a, p i a) → ∃ l : List α, l.length = n ∧ ∀ j a, l[j]? = some a → p j a := by
  intro n
  induction n with
  | zero => intro _; exact ⟨[], rfl, fun j a h => by simp at h⟩
  | succ n ih =>
    intro h
    obtain ⟨l, hl, hp⟩ := ih (fun i hi => h i (by omega))
    obtain ⟨a, ha⟩ := h n (by omega)
    refine ⟨l ++ [a], by simp [hl], fun j b hb => ?_⟩
    by_cases hj : j < l.length
    · rw [List.getElem?_append_left hj] at hb
      exact hp j b hb
    · rw [List.getElem?_append_right (by omega)] at hb
      have : j - l.length = 0 := by
        have := (List.getElem?_eq_some_iff.1 hb).1
        simp at this
        omega
      rw [this] at hb
      simp only [List.getElem?_cons_zero, Option.some.injEq] at hb
      subst hb
      rw [show j = n by omega]
      exact ha
theorem Tr_slice {α : Type} {P : Program} {t e : TypeId} {d : Kd α} {Wf : α → Prop} (ht : P.underlying t = some (.slice e)) (hc : P.cellsOf e = d.sz) (h : Tr P e d Wf) : Tr P t (Kd.slice e d) (fun l => ∀ a ∈ l, Wf a) := by
  intro H enc w n cs x hx
  rcases open_slice ht hx with ⟨rfl, _⟩ | ⟨a, len, cap, m, n', D, Pl, rfl, _, hle, hm, hmm, _, hel⟩
  · exact ⟨[], ⟨none, 0, rfl, Nat.le_refl _, Kd.C_nil d w⟩, fun a ha => by simp at ha⟩
  · have hmc : m = cap := by simpa using hmm
    obtain ⟨l, hl, hp⟩ := build (fun i (b : α) => (∃ cs', cs'.length = d.sz ∧ d.K w b cs' ∧ ∀ j u, cs'[j]? = some u → w.cell? (a.add (i * d.sz + j)) = some u) ∧ Wf b) len (fun i hi => by
      obtain ⟨cs', h1, h2⟩ := hel i (by omega)
      obtain ⟨_, h3, h4⟩ := World.cells?_some h1
      obtain ⟨b, hK, hW⟩ := h H enc w n' cs' _ h2
      refine ⟨b, ⟨cs', by rw [h3, hc], hK, fun j u hu => ?_⟩, hW⟩
      have hj := (List.getElem?_eq_some_iff.1 hu).1
      rw [← hc, ← Go.Deep.add_add, h4 j (by omega), hu])
    refine ⟨l, ⟨some a, cap, by rw [hl], by omega, ⟨rfl, ?_, fun _ => ⟨a, rfl, fun j b hb => (hp j b hb).1⟩⟩⟩, fun b hb => ?_⟩
    · unfold maxLen at hm; omega
    · obtain ⟨j, hj⟩ := List.getElem?_of_mem hb
      exact (hp j b hj).2
/-- The fields from one on, one behind the other. -/
theorem seg (cs : List Value) (o a b : Nat) : (cs.drop o).take (a + b) = (cs.drop o).take a ++ (cs.drop (o + a)).take b := by
  rw [List.take_add, List.drop_drop]
theorem pair_K {α β : Type} {d : Kd α} {e : Kd β} {w : World} {cs : List Value} {o : Nat} {a : α} {b : β} {s r : Nat} (h1 : d.K w a ((cs.drop o).take s)) (h2 : e.K w b ((cs.drop (o + s)).take r)) : (Kd.pair d e).K w (a, b) ((cs.drop o).take (s + r)) :=
  ⟨_, _, seg cs o s r, h1, h2⟩
/-- A struct's fields from one offset on, of the kinds of a pair of pairs. -/
def Fs {α : Type} (P : Program) (fs : List Field) (o : Nat) (d : Kd α) (Wf : α → Prop) (sz : Nat) : Prop :=
  ∀ (H : Type) (enc : TypeId × Value → H) (w : World) (n : Nat) (cs : List Value), (∀ f ∈ fs, ∃ y, DataW.trod enc P w 0 (fun _ => true) true n f.type ((cs.drop f.offset).take (P.cellsOf f.type)) = some y) → ∃ a, d.K w a ((cs.drop o).take sz) ∧ Wf a
theorem Fs_one {α : Type} {P : Program} {f : Field} {d : Kd α} {Wf : α → Prop} {o s : Nat} (ho : f.offset = o) (hs : P.cellsOf f.type = s) (h : Tr P f.type d Wf) : Fs P [f] o d Wf s := by
  intro H enc w n cs hf
  obtain ⟨y, hy⟩ := hf f (by simp)
  rw [ho, hs] at hy
  exact h H enc w n _ y hy
theorem Fs_cons {α β : Type} {P : Program} {f : Field} {fs : List Field} {d : Kd α} {e : Kd β} {Wf : α → Prop} {Wg : β → Prop} {o s r : Nat} (ho : f.offset = o) (hs : P.cellsOf f.type = s) (h : Tr P f.type d Wf) (hr : Fs P fs (o + s) e Wg r) : Fs P (f :: fs) o (Kd.pair d e) (fun x => Wf x.1 ∧ Wg x.2) (s + r) := by
  intro H enc w n cs hf
  obtain ⟨y, hy⟩ := hf f (by simp)
  rw [ho, hs] at hy
  obtain ⟨a, ha, hwa⟩ := h H enc w n _ y hy
  obtain ⟨b, hb, hwb⟩ := hr H enc w n cs (fun g hg => hf g (by simp [hg]))
  exact ⟨(a, b), pair_K ha hb, hwa, hwb⟩
theorem Tr_struct {α : Type} {P : Program} {t : TypeId} {fs : List Field} {d : Kd α} {Wf : α → Prop} {s : Nat} (ht : P.underlying t = some (.struct fs.toArray)) (hs : P.cellsOf t = s) (h : Fs P fs 0 d Wf s) : Tr P t d Wf := by
  intro H enc w n cs x hx
  obtain ⟨xs, n', _, _, hl, hlen, hf⟩ := DataW.trod_struct ht hx
  obtain ⟨a, hK, hW⟩ := h H enc w n' cs (fun f hfm => by
    obtain ⟨i, hi⟩ := List.getElem?_of_mem hfm
    have h1 := hf i f (by simpa using hi)
    have hil : i < fs.length := (List.getElem?_eq_some_iff.1 hi).1
    have h2 : i < xs.length := by rw [hlen]; simpa using hil
    exact ⟨xs[i], by rw [h1]; exact List.getElem?_eq_getElem h2⟩)
  rw [List.drop_zero, List.take_of_length_le (by omega)] at hK
  exact ⟨a, hK, hW⟩
end Go.Proofs.Ytpoghhcpoimepaa.TR
end
section
/- The law WalkTexts. -/
namespace Go.Proofs.Ytpoghhcpoimepaa.P
open Go.Proofs.Ytpoghhcpoimepaa.B Go.RowKit Go.Proofs.YtpoghhcpoimepaaW.PrintWords Go.Proofs.YtpoghhcpoimepaaW.PrintLast Go.Proofs.YtpoghhcpoimepaaW.PrintMore
set_option linter.unusedVariables false
set_option linter.unusedSimpArgs false
theorem alive05 : Ev (fun k => tallymanlaw05_alive.f k) true := by
  refine Ev.of tallymanlaw05_alive.mono (k := 30) ?_
  have h1 : walk_Parse.f (⟨#[70, 50, 76, 70, 51]⟩ : ByteArray) = some ([⟨1, 2⟩, ⟨3, 1⟩, ⟨1, 3⟩], 0, 0) := by kernel_rfl
  have h2 : walk_Short.f 30 (([(⟨1, 2⟩ : S56), (⟨3, 4⟩ : S56), (⟨1, 3⟩ : S56)] : List (S56))) = some ([⟨1, 5⟩], 0) := by kernel_rfl
  have h3 : walk_End.f [⟨1, 2⟩, ⟨3, 1⟩, ⟨1, 3⟩] = some (1, 2, 3) := by kernel_rfl
  have h4 : walk_Text.f [⟨1, 5⟩] = some ⟨#[70, 53]⟩ := by kernel_rfl
  have h5 : (⟨#[70, 53]⟩ : ByteArray).toList = [70, 53] := toList_data _
  unfold tallymanlaw05_alive.f
  rw [h1, Option.bind_some, h2, Option.bind_some]
  simp only []
  rw [h3, h4]
  simp [h5]
set_option maxRecDepth 100000 in
theorem Tr41 : TR.Tr Try.prog 41 (Kd.slice 56 k56) (fun l => True) := by
  have h := TR.Tr_slice (P := Try.prog) Try.underlying41 (by kernel_rfl) (TR.Tr_iso (fun x : S56 => (x.f0, x.f1)) (fun p => ⟨p.1, p.2⟩) (fun _ => rfl) (TR.Tr_struct (s := 2) Try.underlying56 (by kernel_rfl) (TR.Fs_cons (s := 1) rfl (by kernel_rfl) (TR.Tr_int Try.underlying3) (TR.Fs_one (s := 1) rfl (by kernel_rfl) (TR.Tr_int Try.underlying3)))))
  intro H enc w n cs x hv
  obtain ⟨l, h1, h2⟩ := h _ _ _ _ _ _ hv
  exact ⟨l, h1, trivial⟩
theorem texts_j0 (l : List S56) (s : ByteArray) : Ev (fun k => tallymanlaw05_WalkTexts.j0 k l s true) true := by
  refine Ev.step (fun k => by rw [tallymanlaw05_WalkTexts.j0, if_pos rfl]) (Ev.bind alive05 (Ev.now _))
theorem texts05 (l : List S56) (s : ByteArray) : ∃ k, tallymanlaw05_WalkTexts.f k l s = some true := by
  refine Ev.rounds ?_
  unfold tallymanlaw05_WalkTexts.f
  by_cases hg : (l.length : Int) > 100
  · exact Ev.congr (fun k => if_pos hg) (texts_j0 l s)
  refine Ev.congr (fun k => if_neg hg) ?_
  by_cases hs : (s.size : Int) > 300
  · rw [decide_eq_true hs]; exact texts_j0 l s
  rw [decide_eq_false hs]
  refine Ev.step (fun k => by rw [tallymanlaw05_WalkTexts.j0, if_neg Bool.false_ne_true]) ?_
  have hp : walk_Parse.f s = some (prs s.data.toList 0 [] none) := if_pos (by omega)
  have ht : walk_Text.f l = some ⟨(textS l).toArray⟩ := if_pos (by omega)
  rw [hp, ht]
  refine Ev.congr (fun k => Option.bind_some _ _) (Ev.bind (parse_ref s (by omega)) (Ev.congr (fun k => Option.bind_some _ _) (Ev.bind (text_ref l (by omega)) ?_)))
  refine Ev.congr (fun k => if_pos rfl) (Ev.bind (same_ev _ ?_) ?_)
  · have := prs_len s.data.toList 0 [] none
    have h2 : s.data.toList.length = s.size := Array.length_toList
    have h3 : ([] : List S56).length = 0 := rfl
    omega
  · exact Ev.congr (fun k => if_pos rfl) (Ev.congr (fun k => if_pos rfl) (Ev.congr (fun k => if_pos rfl) (Ev.bind alive05 (Ev.now _))))
def tallymanlaw05_WalkTexts.Pure : Prop := True
theorem tallymanlaw05_WalkTexts.walk (P : tallymanlaw05_WalkTexts.Pure) (a0 : Option Addr) (len0 cap0 : Nat) (a1 : ByteArray) (w : World) {H : Type} {enc : TypeId × Value → H} {d : DataW H} {p : List MemPlace} (h0 : DataW.Trod enc Try.prog w 0 (fun _ => true) true 41 (.slice a0 len0 cap0) d p) (w1 : a1.size ≤ 140737488351232) :
    Calls Try.prog 7 #[.slice a0 len0 cap0, .string a1] w fun e w' => e = .returned (.bool true) ∧ Below w.heap.size w w' := by
  obtain ⟨fuel, hf⟩ := h0
  obtain ⟨l, ⟨A, c, e, hc, hC⟩, hw⟩ := Tr41 _ _ _ _ _ _ hf
  simp [Value.cells] at e
  obtain ⟨rfl, rfl, rfl⟩ := e
  obtain ⟨k, hk⟩ := texts05 l a1
  exact tallymanlaw05_WalkTexts.calls k _ _ l a1 true w hC hc hk
end Go.Proofs.Ytpoghhcpoimepaa.P
end
section
/- WalkTexts: nothing is left to show. -/
namespace Go.Proofs.Ytpoghhcpoimepaa.Pure
theorem WalkTexts : P.tallymanlaw05_WalkTexts.Pure := trivial
end Go.Proofs.Ytpoghhcpoimepaa.Pure
end
