/- Several texts of this proof in one: what the law's functions come to, and the lemmas (some as the kit's print.sh printed them, what is not used struck). -/
import Derived.Test.YtopblnecdabcgaaM7
import Derived.Test.YtopblnecdabcgaaM9
import Derived.Test.YtopblnecdabcgaaM2
import Derived.Deep.Slices
import Derived.ChangeArms
section
/- BoundTells: bounds are the document's. -/
namespace Go.Proofs.Ytopblnecdabcgaa.P
open Go.Proofs.Ytopblnecdabcgaa.B Go.RowKit Go.Proofs.YtopblnecdabcgaaW.PrintWords Go.Proofs.YtopblnecdabcgaaW.PrintLast Go.Proofs.YtopblnecdabcgaaW.PrintMore
set_option linter.unusedVariables false
set_option linter.unusedSimpArgs false
section
variable (t c u le tr ra st : Int) (l : List S110)
theorem grants_ref : Ev (fun k => tallymanref37_Grants.f k t c u le tr ra st l) (gV t c u le tr ra st l) := by
  have h1 := gV_in t c u le tr ra st l
  unfold tallymanref37_Grants.f
  refine Ev.bind (rules_ref t c u le tr ra st l) ?_
  unfold gV at h1 ⊢
  split
  · rename_i h
    rw [if_pos h] at h1
    rw [n64 (by omega) (by omega)]
    exact Ev.now _
  · exact Ev.now _
theorem leases_ref : Ev (fun k => tallymanref37_Leases.f k t c u le tr ra st l) (lV t c u le tr ra st l) := by
  have h1 := lV_in t c u le tr ra st l
  unfold tallymanref37_Leases.f
  refine Ev.bind (rules_ref t c u le tr ra st l) ?_
  unfold lV at h1 ⊢
  split
  · rename_i h
    rw [if_pos h] at h1
    rw [n64 (by omega) (by omega)]
    exact Ev.now _
  · exact Ev.now _
theorem quiet_ref : Ev (fun k => tallymanref37_Quiet.f k t c u le tr ra st l) (qV t c u le tr ra st l) := by
  have h1 := gV_in t c u le tr ra st l
  unfold tallymanref37_Quiet.f
  refine Ev.bind (rules_ref t c u le tr ra st l) ?_
  have hg := grants_ref t c u le tr ra st l
  unfold gV at h1 hg
  unfold qV
  split
  · rename_i h
    have := rules0 h
    rw [if_pos h] at h1 hg
    refine Ev.bind hg ?_
    rw [n64 (x := c * (l.length : Int) + le) (by omega) (by omega), n64 (by omega) (by omega)]
    exact Ev.now _
  · exact Ev.now _
theorem done_ref : Ev (fun k => tallymanref37_Done.f k t c u le tr ra st l) (dV t c u le tr ra st l) := by
  have h1 := qV_in t c u le tr ra st l
  have h2 := lV_in t c u le tr ra st l
  have h3 := dV_in t c u le tr ra st l
  unfold tallymanref37_Done.f
  refine Ev.bind (quiet_ref t c u le tr ra st l) (Ev.bind (leases_ref t c u le tr ra st l) ?_)
  rw [n64 (x := 2 * lV t c u le tr ra st l) (by omega) (by omega), n64 (x := 2 * lV t c u le tr ra st l + 1) (by omega) (by omega)]
  unfold dV at h3 ⊢
  rw [n64 (by omega) (by omega)]
  exact Ev.now _
theorem ripe_ref (p : Int) : Ev (fun k => tallymanref37_Ripe.f k t c u le tr ra st l p) (rV t c u le tr ra st l p) := by
  unfold tallymanref37_Ripe.f
  refine Ev.bind (rules_ref t c u le tr ra st l) ?_
  unfold rV
  split <;> exact Ev.now _
theorem tells37 (p : Int) : ∃ k, tallymanlaw37_BoundTells.f k t c u le tr ra st l p = some true := by
  refine Ev.rounds ?_
  unfold tallymanlaw37_BoundTells.f
  by_cases hg : (l.length : Int) > 40
  · refine Ev.congr (fun k => if_pos hg) ?_
    rw [alive37]; exact Ev.now _
  · refine Ev.congr (fun k => if_neg hg) ?_
    rw [grants_code, quiet_code, leases_code, done_code, ripe_code, alive37]
    refine Ev.congr (fun k => Option.bind_some _ _) (Ev.bind (grants_ref t c u le tr ra st l) (Ev.congr (fun k => if_pos rfl) ?_))
    refine Ev.congr (fun k => Option.bind_some _ _) (Ev.bind (quiet_ref t c u le tr ra st l) (Ev.congr (fun k => if_pos rfl) ?_))
    refine Ev.congr (fun k => Option.bind_some _ _) (Ev.bind (leases_ref t c u le tr ra st l) (Ev.congr (fun k => if_pos rfl) ?_))
    refine Ev.congr (fun k => Option.bind_some _ _) (Ev.bind (done_ref t c u le tr ra st l) (Ev.congr (fun k => if_pos rfl) ?_))
    refine Ev.congr (fun k => Option.bind_some _ _) (Ev.bind (ripe_ref t c u le tr ra st l p) (Ev.congr (fun k => if_pos rfl) ?_))
    exact Ev.now _
end
end Go.Proofs.Ytopblnecdabcgaa.P
end
section
/- What came in, of any type that is made of numbers, texts, slices and structs: its value, and how it reads. -/
namespace Go.Proofs.Ytopblnecdabcgaa.TR
open Go.RowKit Go.ChangeShapes Go.WideShapes Go.Deep Go.Proofs.YtopblnecdabcgaaW.PrintWords Go.Proofs.YtopblnecdabcgaaW.PrintLast Go.Proofs.YtopblnecdabcgaaW.PrintMore
set_option linter.unusedVariables false
set_option linter.unusedSimpArgs false
/-- What the cells of type t hold, where they are well formed, is of the kind d. -/
def Tr {α : Type} (P : Program) (t : TypeId) (d : Kd α) (Wf : α → Prop) : Prop :=
  ∀ (H : Type) (enc : TypeId × Value → H) (w : World) (n : Nat) (cs : List Value) (x : DataW H × List MemPlace), DataW.trod enc P w 0 (fun _ => true) true n t cs = some x → ∃ a, d.K w a cs ∧ Wf a
theorem Tr_int {P : Program} {t : TypeId} {k : IntKind} (ht : P.underlying t = some (.int k)) : Tr P t (Kd.int k) (fun z => (Lit.int k z).wf = true) := by
  intro H enc w n cs x h
  obtain ⟨z, rfl, _, hw⟩ := DataW.trod_int ht h
  exact ⟨z, rfl, hw⟩
theorem Tr_iso {α β : Type} {P : Program} {t : TypeId} {d : Kd α} {Wf : α → Prop} (f : β → α) (g : α → β) (hg : ∀ a, f (g a) = a) (h : Tr P t d Wf) : Tr P t (Kd.iso d f) (fun b => Wf (f b)) := by
  intro H enc w n cs x hx
  obtain ⟨a, hK, hW⟩ := h H enc w n cs x hx
  exact ⟨g a, by show d.K w (f (g a)) cs; rw [hg]; exact hK, by show Wf (f (g a)); rw [hg]; exact hW⟩
theorem build {α : Type} (p : Nat → α → Prop) : ∀ n, (∀ i, i < n → ∃ a, p i a) → ∃ l : List α, l.length = n ∧ ∀ j a, l[j]? = some a → p j a := by
  intro n
  induction n with
  | zero => intro _; exact ⟨[], rfl, fun j a h => by simp at h⟩
  | succ n ih =>
    intro h
    obtain ⟨l, hl, hp⟩ := ih (fun i hi => h i (by omega))
    obtain ⟨a, ha⟩ := h n (by omega)
    refine ⟨l ++ [a], by simp [hl], fun j b hb => ?_⟩
    by_cases hj : j < l.length
    · rw [List.getElem?_append_left hj] at hb
      exact hp j b hb
    · rw [List.getElem?_append_right (by omega)] at hb
      have : j - l.length = 0 := by
        have := (List.getElem?_eq_some_iff.1 hb).1
        simp at this
        omega
      rw [this] at hb
      simp only [List.getElem?_cons_zero, Option.some.injEq] at hb
      subst hb
      rw [show j = n by omega]
      exact ha
theorem Tr_slice {α : Type} {P : Program} {t e : TypeId} {d : Kd α} {Wf : α → Prop} (ht : P.underlying t = some (.slice e)) (hc : P.cellsOf e = d.sz) (h : Tr P e d Wf) : Tr P t (Kd.slice e d) (fun l => ∀ a ∈ l, Wf a) := by
  intro H enc w n cs x hx
  rcases open_slice ht hx with ⟨rfl, _⟩ | ⟨a, len, cap, m, n', D, Pl, rfl, _, hle, hm, hmm, _, hel⟩
  · exact ⟨[], ⟨none, 0, rfl, Nat.le_refl _, Kd.C_nil d w⟩, fun a ha => by simp at ha⟩
  · have hmc : m = cap := by simpa using hmm
    obtain ⟨l, hl, hp⟩ := build (fun i (b : α) => (∃ cs', cs'.length = d.sz ∧ d.K w b cs' ∧ ∀ j u, cs'[j]? = some u → w.cell? (a.add (i * d.sz + j)) = some u) ∧ Wf b) len (fun i hi => by
      obtain ⟨cs', h1, h2⟩ := hel i (by omega)
      obtain ⟨_, h3, h4⟩ := World.cells?_some h1
      obtain ⟨b, hK, hW⟩ := h H enc w n' cs' _ h2
      refine ⟨b, ⟨cs', by rw [h3, hc], hK, fun j u hu => ?_⟩, hW⟩
      have hj := (List.getElem?_eq_some_iff.1 hu).1
      rw [← hc, ← Go.Deep.add_add, h4 j (by omega), hu])
    refine ⟨l, ⟨some a, cap, by rw [hl], by omega, ⟨rfl, ?_, fun _ => ⟨a, rfl, fun j b hb => (hp j b hb).1⟩⟩⟩, fun b hb => ?_⟩
    · unfold maxLen at hm; omega
    · obtain ⟨j, hj⟩ := List.getElem?_of_mem hb
      exact (hp j b hj).2
/-- The fields from one on, one behind the other. -/
theorem seg (cs : List Value) (o a b : Nat) : (cs.drop o).take (a + b) = (cs.drop o).take a ++ (cs.drop (o + a)).take b := by
  rw [List.take_add, List.drop_drop]
theorem pair_K {α β : Type} {d : Kd α} {e : Kd β} {w : World} {cs : List Value} {o : Nat} {a : α} {b : β} {s r : Nat} (h1 : d.K w a ((cs.drop o).take s)) (h2 : e.K w b ((cs.drop (o + s)).take r)) : (Kd.pair d e).K w (a, b) ((cs.drop o).take (s + r)) :=
  ⟨_, _, seg cs o s r, h1, h2⟩
/-- A struct's fields from one offset on, of the kinds of a pair of pairs. -/
def Fs {α : Type} (P : Program) (fs : List Field) (o : Nat) (d : Kd α) (Wf : α → Prop) (sz : Nat) : Prop :=
  ∀ (H : Type) (enc : TypeId × Value → H) (w : World) (n : Nat) (cs : List Value), (∀ f ∈ fs, ∃ y, DataW.trod enc P w 0 (fun _ => true) true n f.type ((cs.drop f.offset).take (P.cellsOf f.type)) = some y) → ∃ a, d.K w a ((cs.drop o).take sz) ∧ Wf a
theorem Fs_one {α : Type} {P : Program} {f : Field} {d : Kd α} {Wf : α → Prop} {o s : Nat} (ho : f.offset = o) (hs : P.cellsOf f.type = s) (h : Tr P f.type d Wf) : Fs P [f] o d Wf s := by
  intro H enc w n cs hf
  obtain ⟨y, hy⟩ := hf f (by simp)
  rw [ho, hs] at hy
  exact h H enc w n _ y hy
theorem Fs_cons {α β : Type} {P : Program} {f : Field} {fs : List Field} {d : Kd α} {e : Kd β} {Wf : α → Prop} {Wg : β → Prop} {o s r : Nat} (ho : f.offset = o) (hs : P.cellsOf f.type = s) (h : Tr P f.type d Wf) (hr : Fs P fs (o + s) e Wg r) : Fs P (f :: fs) o (Kd.pair d e) (fun x => Wf x.1 ∧ Wg x.2) (s + r) := by
  intro H enc w n cs hf
  obtain ⟨y, hy⟩ := hf f (by simp)
  rw [ho, hs] at hy
  obtain ⟨a, ha, hwa⟩ := h H enc w n _ y hy
  obtain ⟨b, hb, hwb⟩ := hr H enc w n cs (fun g hg => hf g (by simp [hg]))
  exact ⟨(a, b), pair_K ha hb, hwa, hwb⟩
theorem Tr_struct {α : Type} {P : Program} {t : TypeId} {fs : List Field} {d : Kd α} {Wf : α → Prop} {s : Nat} (ht : P.underlying t = some (.struct fs.toArray)) (hs : P.cellsOf t = s) (h : Fs P fs 0 d Wf s) : Tr P t d Wf := by
  intro H enc w n cs x hx
  obtain ⟨xs, n', _, _, hl, hlen, hf⟩ := DataW.trod_struct ht hx
  obtain ⟨a, hK, hW⟩ := h H enc w n' cs (fun f hfm => by
    obtain ⟨i, hi⟩ := List.getElem?_of_mem hfm
    have h1 := hf i f (by simpa using hi)
    have hil : i < fs.length := (List.getElem?_eq_some_iff.1 hi).1
    have h2 : i < xs.length := by rw [hlen]; simpa using hil
    exact ⟨xs[i], by rw [h1]; exact List.getElem?_eq_getElem h2⟩)
  rw [List.drop_zero, List.take_of_length_le (by omega)] at hK
  exact ⟨a, hK, hW⟩
end Go.Proofs.Ytopblnecdabcgaa.TR
end
section
/- The law BoundTells, for any rules. -/
namespace Go.Proofs.Ytopblnecdabcgaa.P
open Go.RowKit Go.Proofs.YtopblnecdabcgaaW.PrintWords Go.Proofs.YtopblnecdabcgaaW.PrintLast Go.Proofs.YtopblnecdabcgaaW.PrintMore
set_option linter.unusedVariables false
set_option linter.unusedSimpArgs false
set_option maxRecDepth 100000 in
theorem Tr108 : ∃ Wf, TR.Tr Try.prog 108 k108 Wf := ⟨_, TR.Tr_iso (fun x : S108 => (x.f0, x.f1)) (fun p => ⟨p.1, p.2⟩) (fun _ => rfl) (TR.Tr_struct (s := 2) Try.underlying108 (by kernel_rfl) (TR.Fs_cons (s := 1) rfl (by kernel_rfl) (TR.Tr_int Try.underlying3) (TR.Fs_one (s := 1) rfl (by kernel_rfl) (TR.Tr_int Try.underlying3))))⟩
set_option maxRecDepth 100000 in
theorem Tr110 : ∃ Wf, TR.Tr Try.prog 110 k110 Wf := by
  obtain ⟨W1, h1⟩ := Tr108
  exact ⟨_, TR.Tr_iso (fun x : S110 => (x.f0, x.f1, x.f2)) (fun p => ⟨p.1, p.2.1, p.2.2⟩) (fun _ => rfl) (TR.Tr_struct (s := 5) Try.underlying110 (by kernel_rfl) (TR.Fs_cons (s := 1) rfl (by kernel_rfl) (TR.Tr_int Try.underlying3) (TR.Fs_cons (s := 2) rfl (by kernel_rfl) h1 (TR.Fs_one (s := 2) rfl (by kernel_rfl) h1))))⟩
set_option maxRecDepth 100000 in
theorem Tr61 : ∃ Wf, TR.Tr Try.prog 61 k61 Wf := by
  obtain ⟨W1, h1⟩ := Tr110
  exact ⟨_, TR.Tr_iso (fun x : S61 => (x.f0, x.f1, x.f2, x.f3, x.f4, x.f5, x.f6, x.f7)) (fun p => ⟨p.1, p.2.1, p.2.2.1, p.2.2.2.1, p.2.2.2.2.1, p.2.2.2.2.2.1, p.2.2.2.2.2.2.1, p.2.2.2.2.2.2.2⟩) (fun _ => rfl)
    (TR.Tr_struct (s := 8) Try.underlying61 (by kernel_rfl) (TR.Fs_cons (s := 1) rfl (by kernel_rfl) (TR.Tr_int Try.underlying3) (TR.Fs_cons (s := 1) rfl (by kernel_rfl) (TR.Tr_int Try.underlying3) (TR.Fs_cons (s := 1) rfl (by kernel_rfl) (TR.Tr_int Try.underlying3) (TR.Fs_cons (s := 1) rfl (by kernel_rfl) (TR.Tr_int Try.underlying3) (TR.Fs_cons (s := 1) rfl (by kernel_rfl) (TR.Tr_int Try.underlying3) (TR.Fs_cons (s := 1) rfl (by kernel_rfl) (TR.Tr_int Try.underlying3) (TR.Fs_cons (s := 1) rfl (by kernel_rfl) (TR.Tr_int Try.underlying3) (TR.Fs_one (s := 1) rfl (by kernel_rfl) (TR.Tr_slice Try.underlying59 (by kernel_rfl) h1))))))))))⟩
def tallymanlaw37_BoundTells.Pure : Prop := True
theorem tallymanlaw37_BoundTells.walk (P : tallymanlaw37_BoundTells.Pure) (cs : Array Value) (a1 : Int) (w : World) {H : Type} {enc : TypeId × Value → H} {d : DataW H} {p : List MemPlace} (h0 : DataW.Trod enc Try.prog w 0 (fun _ => true) true 61 (.agg cs) d p) (w1 : (Lit.int .i64 a1).wf = true) :
    Calls Try.prog 8 #[.agg cs, .int .i64 a1] w fun e w' => e = .returned (.bool true) ∧ Below w.heap.size w w' := by
  obtain ⟨fuel, hf⟩ := h0
  obtain ⟨Wf, hT⟩ := Tr61
  obtain ⟨x, hK, _⟩ := hT _ _ _ _ _ _ hf
  obtain ⟨A7, c7, e, hc, hC⟩ := k61_open hK
  simp [Value.cells] at e
  obtain ⟨k, hk⟩ := tells37 x.f0 x.f1 x.f2 x.f3 x.f4 x.f5 x.f6 x.f7 a1
  obtain ⟨cs⟩ := cs
  simp at e
  subst e
  exact tallymanlaw37_BoundTells.calls k _ _ _ _ _ _ _ A7 c7 x.f7 a1 true w hC hc hk
end Go.Proofs.Ytopblnecdabcgaa.P
end
section
namespace Go.Proofs.Ytopblnecdabcgaa.Pure
open Go.RowKit Go.Proofs.Ytopblnecdabcgaa.P Go.Proofs.YtopblnecdabcgaaW.PrintWords Go.Proofs.YtopblnecdabcgaaW.PrintLast
/-- The walk needs nothing else. -/
theorem BoundTells : tallymanlaw37_BoundTells.Pure := trivial
end Go.Proofs.Ytopblnecdabcgaa.Pure
end
