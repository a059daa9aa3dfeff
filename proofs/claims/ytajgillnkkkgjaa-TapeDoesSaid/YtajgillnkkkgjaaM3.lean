/- Several texts of this proof in one: what the law's functions come to, and the lemmas (some as the kit's print.sh printed them, what is not used struck). -/
import Derived.Test.YtajgillnkkkgjaaM2
import Derived.Deep.Slices
import Derived.ChangeArms
import Derived.Deep.RegionHeld3
section
/- What came in, of any type that is made of numbers, texts, slices and structs: its value, and how it reads. -/
namespace Go.Proofs.Ytajgillnkkkgjaa.TR
open Go.RowKit Go.ChangeShapes Go.WideShapes Go.Deep Go.Proofs.YtajgillnkkkgjaaW.PrintWords Go.Proofs.YtajgillnkkkgjaaW.PrintLast Go.Proofs.YtajgillnkkkgjaaW.PrintMore
set_option linter.unusedVariables false
set_option linter.unusedSimpArgs false
/-- What the cells of type t hold, where they are well formed, is of the kind d. -/
def Tr {α : Type} (P : Program) (t : TypeId) (d : Kd α) (Wf : α → Prop) : Prop :=
  ∀ (H : Type) (enc : TypeId × Value → H) (w : World) (n : Nat) (cs : List Value) (x : DataW H × List MemPlace), DataW.trod enc P w 0 (fun _ => true) true n t cs = some x → ∃ a, d.K w a cs ∧ Wf a
theorem Tr_int {P : Program} {t : TypeId} {k : IntKind} (ht : P.underlying t = some (.int k)) : Tr P t (Kd.int k) (fun z => (Lit.int k z).wf = true) := by
  intro H enc w n cs x h
  obtain ⟨z, rfl, _, hw⟩ := DataW.trod_int ht h
  exact ⟨z, rfl, hw⟩
theorem Tr_iso {α β : Type} {P : Program} {t : TypeId} {d : Kd α} {Wf : α → Prop} (f : β → α) (g : α → β) (hg : ∀ a, f (g a) = a) (h : Tr P t d Wf) : Tr P t (Kd.iso d f) (fun b => Wf (f b)) := by
  intro H enc w n cs x hx
  obtain ⟨a, hK, hW⟩ := h H enc w n cs x hx
  exact ⟨g a, by show d.K w (f (g a)) cs; rw [hg]; exact hK, by show Wf (f (g a)); rw [hg]; exact hW⟩
theorem build {α : Type} (p : Nat → α → Prop) : ∀ n, (∀ i, i < n → ∃ a, p i a) → ∃ l : List α, l.length = n ∧ ∀ j a, l[j]? = some a → p j a := by
  intro n
  induction n with
  | zero => intro _; exact ⟨[], rfl, fun j a h => by simp at h⟩
  | succ n ih =>
    intro h
    obtain ⟨l, hl, hp⟩ := ih (fun i hi => h i (by omega))
    obtain ⟨a, ha⟩ := h n (by omega)
    refine ⟨l ++ [a], by simp [hl], fun j b hb => ?_⟩
    by_cases hj : j < l.length
    · rw [List.getElem?_append_left hj] at hb
      exact hp j b hb
    · rw [List.getElem?_append_right (by omega)] at hb
      have : j - l.length = 0 := by
        have := (List.getElem?_eq_some_iff.1 hb).1
        simp at this
        omega
      rw [this] at hb
      simp only [List.getElem?_cons_zero, Option.some.injEq] at hb
      subst hb
      rw [show j = n by omega]
      exact ha
theorem Tr_slice {α : Type} {P : Program} {t e : TypeId} {d : Kd α} {Wf : α → Prop} (ht : P.underlying t = some (.slice e)) (hc : P.cellsOf e = d.sz) (h : Tr P e d Wf) : Tr P t (Kd.slice e d) (fun l => ∀ a ∈ l, Wf a) := by
  intro H enc w n cs x hx
  rcases open_slice ht hx with ⟨rfl, _⟩ | ⟨a, len, cap, m, n', D, Pl, rfl, _, hle, hm, hmm, _, hel⟩
  · exact ⟨[], ⟨none, 0, rfl, Nat.le_refl _, Kd.C_nil d w⟩, fun a ha => by simp at ha⟩
  · have hmc : m = cap := by simpa using hmm
    obtain ⟨l, hl, hp⟩ := build (fun i (b : α) => (∃ cs', cs'.length = d.sz ∧ d.K w b cs' ∧ ∀ j u, cs'[j]? = some u → w.cell? (a.add (i * d.sz + j)) = some u) ∧ Wf b) len (fun i hi => by
      obtain ⟨cs', h1, h2⟩ := hel i (by omega)
      obtain ⟨_, h3, h4⟩ := World.cells?_some h1
      obtain ⟨b, hK, hW⟩ := h H enc w n' cs' _ h2
      refine ⟨b, ⟨cs', by rw [h3, hc], hK, fun j u hu => ?_⟩, hW⟩
      have hj := (List.getElem?_eq_some_iff.1 hu).1
      rw [← hc, ← Go.Deep.add_add, h4 j (by omega), hu])
    refine ⟨l, ⟨some a, cap, by rw [hl], by omega, ⟨rfl, ?_, fun _ => ⟨a, rfl, fun j b hb => (hp j b hb).1⟩⟩⟩, fun b hb => ?_⟩
    · unfold maxLen at hm; omega
    · obtain ⟨j, hj⟩ := List.getElem?_of_mem hb
      exact (hp j b hj).2
/-- The fields from one on, one behind the other. -/
theorem seg (cs : List Value) (o a b : Nat) : (cs.drop o).take (a + b) = (cs.drop o).take a ++ (cs.drop (o + a)).take b := by
  rw [List.take_add, List.drop_drop]
theorem pair_K {α β : Type} {d : Kd α} {e : Kd β} {w : World} {cs : List Value} {o : Nat} {a : α} {b : β} {s r : Nat} (h1 : d.K w a ((cs.drop o).take s)) (h2 : e.K w b ((cs.drop (o + s)).take r)) : (Kd.pair d e).K w (a, b) ((cs.drop o).take (s + r)) :=
  ⟨_, _, seg cs o s r, h1, h2⟩
/-- A struct's fields from one offset on, of the kinds of a pair of pairs. -/
def Fs {α : Type} (P : Program) (fs : List Field) (o : Nat) (d : Kd α) (Wf : α → Prop) (sz : Nat) : Prop :=
  ∀ (H : Type) (enc : TypeId × Value → H) (w : World) (n : Nat) (cs : List Value), (∀ f ∈ fs, ∃ y, DataW.trod enc P w 0 (fun _ => true) true n f.type ((cs.drop f.offset).take (P.cellsOf f.type)) = some y) → ∃ a, d.K w a ((cs.drop o).take sz) ∧ Wf a
theorem Fs_one {α : Type} {P : Program} {f : Field} {d : Kd α} {Wf : α → Prop} {o s : Nat} (ho : f.offset = o) (hs : P.cellsOf f.type = s) (h : Tr P f.type d Wf) : Fs P [f] o d Wf s := by
  intro H enc w n cs hf
  obtain ⟨y, hy⟩ := hf f (by simp)
  rw [ho, hs] at hy
  exact h H enc w n _ y hy
theorem Fs_cons {α β : Type} {P : Program} {f : Field} {fs : List Field} {d : Kd α} {e : Kd β} {Wf : α → Prop} {Wg : β → Prop} {o s r : Nat} (ho : f.offset = o) (hs : P.cellsOf f.type = s) (h : Tr P f.type d Wf) (hr : Fs P fs (o + s) e Wg r) : Fs P (f :: fs) o (Kd.pair d e) (fun x => Wf x.1 ∧ Wg x.2) (s + r) := by
  intro H enc w n cs hf
  obtain ⟨y, hy⟩ := hf f (by simp)
  rw [ho, hs] at hy
  obtain ⟨a, ha, hwa⟩ := h H enc w n _ y hy
  obtain ⟨b, hb, hwb⟩ := hr H enc w n cs (fun g hg => hf g (by simp [hg]))
  exact ⟨(a, b), pair_K ha hb, hwa, hwb⟩
theorem Tr_struct {α : Type} {P : Program} {t : TypeId} {fs : List Field} {d : Kd α} {Wf : α → Prop} {s : Nat} (ht : P.underlying t = some (.struct fs.toArray)) (hs : P.cellsOf t = s) (h : Fs P fs 0 d Wf s) : Tr P t d Wf := by
  intro H enc w n cs x hx
  obtain ⟨xs, n', _, _, hl, hlen, hf⟩ := DataW.trod_struct ht hx
  obtain ⟨a, hK, hW⟩ := h H enc w n' cs (fun f hfm => by
    obtain ⟨i, hi⟩ := List.getElem?_of_mem hfm
    have h1 := hf i f (by simpa using hi)
    have hil : i < fs.length := (List.getElem?_eq_some_iff.1 hi).1
    have h2 : i < xs.length := by rw [hlen]; simpa using hil
    exact ⟨xs[i], by rw [h1]; exact List.getElem?_eq_getElem h2⟩)
  rw [List.drop_zero, List.take_of_length_le (by omega)] at hK
  exact ⟨a, hK, hW⟩
end Go.Proofs.Ytajgillnkkkgjaa.TR
end
section
/- The law TapeDoes, walked. -/
namespace Go.Proofs.Ytajgillnkkkgjaa.P
open Go.RowKit Go.Proofs.YtajgillnkkkgjaaW.PrintWords Go.Proofs.YtajgillnkkkgjaaW.PrintLast Go.Proofs.YtajgillnkkkgjaaW.PrintMore Go.Proofs.Ytajgillnkkkgjaa.H Go.Proofs.Ytajgillnkkkgjaa.Pure Go.Proofs.Ytajgillnkkkgjaa.B
set_option linter.unusedVariables false
set_option linter.unusedSimpArgs false
theorem alive11 (w : World) : Calls Try.prog 23 #[] w fun e w' => e = .returned (.bool true) ∧ Below w.heap.size w w' := tallymanlaw11_alive.calls true w rfl
/-- At a round's head: the tape at g, the document's at gu. -/
def D5 (w : World) (gu g i : Nat) (wr : World) : Prop :=
  ∃ v1 v2 s q A c, Tp w.heap.size g v1 v2 s q wr ∧ wr.heap[gu]? = some (.cells #[.slice A (s ++ q).length c, .int .i64 s.length] 53 (0, 0)) ∧ (s ++ q).length ≤ c ∧ Kd.F (Kd.int .u8) wr (fun k => offT g v1 v2 k ∧ k ≠ gu) A (s ++ q).length (s ++ q) ∧ s.length + q.length ≤ 60 * i ∧ Below w.heap.size w wr ∧ w.heap.size ≤ gu
abbrev S5 (w0 : World) (g : Nat) (v1 v2 : Value) (s q : List Int) (gu : Nat) (A : Option Addr) (L c m : Nat) (r : List Int) (w' : World) : Prop :=
  Aside0 (Tp w0.heap.size g v1 v2 s q w') ∧ Aside0 (Below w0.heap.size w0 w') ∧ Aside0 (Kd.F (Kd.int .u8) w' (fun k => offT g v1 v2 k ∧ k ≠ gu) A L r) ∧ Aside0 (w'.heap[gu]? = some (.cells #[.slice A L c, .int .i64 m] 53 (0, 0))) ∧ w'.cell? ⟨gu, 0, none⟩ = some (.slice A L c) ∧ w'.cell? ⟨gu, 1, none⟩ = some (.int .i64 m) ∧ (convert 51 9 (.slice A L c)).run Try.prog w' = Result.ok (Value.string (strOfNums r)) w'
theorem S5.mk {w0 : World} {g : Nat} {v1 v2 : Value} {s q : List Int} {gu : Nat} {A : Option Addr} {L c m : Nat} {r : List Int} {w' : World} (h0 : Tp w0.heap.size g v1 v2 s q w') (h1 : Below w0.heap.size w0 w') (h2 : Kd.F (Kd.int .u8) w' (fun k => offT g v1 v2 k ∧ k ≠ gu) A L r) (h3 : w'.heap[gu]? = some (.cells #[.slice A L c, .int .i64 m] 53 (0, 0))) : S5 w0 g v1 v2 s q gu A L c m r w' :=
  ⟨⟨h0⟩, ⟨h1⟩, ⟨h2⟩, ⟨h3⟩, blk_cell h3 0, blk_cell h3 1, Kd.C_string Try.underlying51 Try.underlying5 Try.underlying9 (Kd.F_now h2)⟩
theorem S5.keep {w0 : World} {g : Nat} {v1 v2 : Value} {s q : List Int} {gu : Nat} {A : Option Addr} {L c m : Nat} {r : List Int} {w1 w2 : World} (h : S5 w0 g v1 v2 s q gu A L c m r w1) (hb : Below w1.heap.size w1 w2) : S5 w0 g v1 v2 s q gu A L c m r w2 :=
  S5.mk (h.1.out.below hb) (below_step h.2.1.out hb) (Kd.F_below h.2.2.1.out hb) (blk_keep h.2.2.2.1.out hb)
theorem off_after {B g gu : Nat} {v1 v2 : Value} {s q : List Int} {w : World} (h : Tp B g v1 v2 s q w) (hg : gu < w.heap.size) (k : Nat) (hk : (offT g v1 v2 k ∧ k ≠ gu) ∨ w.heap.size ≤ k) : offT g v1 v2 k ∧ k ≠ gu := by
  rcases hk with hk | hk
  · exact hk
  · exact ⟨⟨by have := blk_lt h.1; omega, own_fresh h.2.2.1 k hk, own_fresh h.2.2.2 k hk⟩, by omega⟩
set_option maxHeartbeats 4000000 in
set_option maxRecDepth 100000 in
theorem does_path (kf : Nat) (A0 : Option Addr) (c0 : Nat) (l : List S55) (w : World) (h0 : Kd.C k55 w A0 l.length l) (hc0 : l.length ≤ c0) (h60 : l.length ≤ 60) (hf : ∀ x ∈ l, x.f2.length ≤ 60)
    (hfew : tallymanref11_Few.f kf l 60 = some true) :
    Calls Try.prog 5 #[.slice A0 l.length c0] w fun e w' => e = .returned (.bool true) ∧ Below w.heap.size w w' := by
  have H0 := Aside0.mk h0; clear h0
  have HF60 := Aside0.mk hf; clear hf
  have HFEW := Aside0.mk hfew; clear hfew
  go_enter Try.func5, Try.ntmps5
  go_wp2_with (first
    | (go_at_call 22; (with_reducible refine (tallymanref11_Few.calls kf A0 c0 l 60 true _ H0.out hc0 HFEW.out).mono ?_); rintro e w0 ⟨rfl, hd⟩; have HB0 := Aside0.mk hd.below; clear hd)
    | (go_at_call 24; (with_reducible refine (new_rd _).mono ?_); rintro e w1 ⟨g, rfl, hT, hb⟩; have HT := Aside0.mk (hT.lower HB0.out.size); have HB := Aside0.mk (below_step HB0.out hb); clear hT hb))
  have hD : D5 w w1.heap.size g 0 (w1.alloc (.cells #[.slice none 0 0, .int .i64 0] 53)) :=
    ⟨_, _, [], [], none, 0, HT.out.below (below_alloc (Below.refl _ _) _), blk_new _ _, Nat.le_refl _, Kd.F_nil _ _ _, by simp, below_alloc HB.out _, HB.out.size⟩
  have HD := Aside0.mk hD
  generalize w1.alloc (.cells #[.slice none 0 0, .int .i64 0] 53) = w2 at HD ⊢
  generalize w1.heap.size = gu at HD ⊢
  clear hD HT HB HB0
  go_loopw [17] (fun v17 wr => ∃ i : Nat, i ≤ l.length ∧ v17 = .int .i64 i ∧ Aside0 (D5 w gu g i wr)) (fun v17 _ => l.length - (intOf v17).toNat)
  case atStart => exact ⟨0, by omega, rfl, HD⟩
  case round =>
    obtain ⟨i, hi, rfl, HR⟩ := hrel
    obtain ⟨v1, v2, s, q, A, c, hT, hgu, hcc, hF, hsz, hB, hwg⟩ := HR.out
    clear HR
    by_cases hlt : i < l.length
    · obtain ⟨ad, A2, c2, rfl, x0, x1, x2, hc2, hC2⟩ := at_T55 H0.out (i : Int) (by omega) (by omega)
      rw [Int.toNat_natCast] at x0 x1 x2
      have hX := rdT55 l i hlt
      obtain ⟨⟨f0, f1, f2⟩, hXX⟩ : ∃ X, rd_T55 l (i : Int) = X := ⟨_, rfl⟩
      rw [hXX] at x0 x1 x2 hc2 hC2 hX
      simp only at x0 x1 x2 hc2 hC2
      have h60 : f2.length ≤ 60 := by have := HF60.out _ (List.getElem_mem hlt); rw [← hX] at this; exact this
      have x0 := pw_cell_below (hB.mono (Nat.le_refl _)) x0
      have x1 := pw_cell_below (hB.mono (Nat.le_refl _)) x1
      have x2 := pw_cell_below (hB.mono (Nat.le_refl _)) x2
      have hC2r := Kd.C_below hC2 hB
      have HC2W := Aside0.mk hC2
      obtain ⟨bx, hbx⟩ : ∃ bx : Obj, Obj.cells #[.int .i64 f0, .int .i64 f1, .slice A2 f2.length c2] 55 (0, 0) = bx := ⟨_, rfl⟩
      have hb1 : Below wr.heap.size wr (wr.alloc bx) := below_alloc (Below.refl _ _) _
      obtain ⟨s', q', y, hact⟩ : ∃ s' q' y, actS s q f0 f1 f2 = (s', q', y) := ⟨_, _, _, rfl⟩
      have hlen' := act_len s q f0 f1 f2
      have hDo := do_rd (hT.below hb1) f0 f1 A2 c2 f2 (Kd.C_below hC2r hb1) (by omega)
      obtain ⟨b, hsq⟩ : ∃ b, s ++ q = b := ⟨_, rfl⟩
      obtain ⟨r, hsr⟩ : ∃ r, s' ++ q' = r := ⟨_, rfl⟩
      rw [hsq] at hgu hcc hF
      rw [hact] at hDo hlen'
      simp only at hDo hlen'
      have HDO := Aside0.mk hDo
      have hRef := fun (P : Nat → Prop) (W : World) (h1 : Kd.F (Kd.int .u8) W P A b.length b) (h2 : Kd.C (Kd.int .u8) W A2 f2.length f2) => refdo_rd P A c s q b hsq f0 f1 A2 c2 f2 W h1 hcc h2 (by omega)
      rw [hact] at hRef
      simp only [hsr] at hRef
      have HREF := Aside0.mk hRef
      have HT := Aside0.mk (hT.below hb1); have HGU := Aside0.mk (blk_keep hgu hb1); have HF := Aside0.mk (Kd.F_below hF hb1); have HB := Aside0.mk (below_step hB hb1); have HC2 := Aside0.mk (Kd.C_below hC2r hb1)
      have HBX := Aside0.mk (blk_new wr bx)
      have HOB := Aside0.mk (hT.new)
      have HLT := Aside0.mk (lt_blk hgu)
      have HSR := Aside0.mk hsr
      have hLr : s'.length + q'.length = r.length := by rw [← hsr, List.length_append]
      obtain ⟨L, hL⟩ : ∃ L, r.length = L := ⟨_, rfl⟩
      rw [hL] at hLr
      have HLR := Aside0.mk hLr; have HL := Aside0.mk hL
      have HLEN : Aside0 (s'.length + q'.length ≤ 60 * (i + 1)) := ⟨by omega⟩
      have HL1 : Aside0 (s'.length + q'.length ≤ 1000000) := ⟨by omega⟩
      have t1 : (y != y) = false := by simp
      have t2 : ((strOfNums r).toList != (strOfNums r).toList) = false := by simp
      subst hbx
      clear hT hgu hcc hF hsz hB hC2 hC2r hb1 hDo hRef hact hlen' hX hXX h60 hsq hsr hLr hL hc2
      go_wp2_with (first
        | (go_at_call 25; (with_reducible refine HDO.out.mono ?_); rintro e w3 ⟨rfl, hP⟩; obtain ⟨u1, u2, hT3, hB3, hs3, hblk, hFF⟩ := hP.F; have HT3 := Aside0.mk hT3; have hgu3 := (hblk gu (HT.out.off HGU.out (by decide) (by decide)) (lt_blk HGU.out)).1.trans HGU.out; have hbx3 := (hblk wr.heap.size ⟨HOB.out.1, HOB.out.2.1, HOB.out.2.2⟩ (lt_blk HBX.out)).1.trans HBX.out; have z0 : w3.cell? ⟨gu, 0, none⟩ = some _ := blk_cell hgu3 0; have z1 : w3.cell? ⟨gu, 1, none⟩ = some _ := blk_cell hgu3 1; have z2 : w3.cell? ⟨wr.heap.size, 0, none⟩ = some _ := blk_cell hbx3 0; have z3 : w3.cell? ⟨wr.heap.size, 1, none⟩ = some _ := blk_cell hbx3 1; have z4 : w3.cell? ⟨wr.heap.size, 2, none⟩ = some _ := blk_cell hbx3 2; have HGU3 := Aside0.mk hgu3; have HF3 := Aside0.mk (hFF (fun k => k ≠ gu) A _ _ HF.out); have HB3 := Aside0.mk (HB.out.trans hB3); have HC3 := Aside0.mk (Kd.C_below HC2W.out (HB.out.trans hB3)); clear hP hT3 hB3 hs3 hblk hFF hgu3 hbx3)
        | (go_at_call 26; (with_reducible refine (HREF.out _ _ HF3.out HC3.out).mono ?_); rintro e w4 ⟨A', c', rfl, hc', hF', hB4⟩; have hgu4 := blk_keep HGU3.out hB4; have y0 : w4.cell? ⟨gu, 0, none⟩ = some _ := blk_cell hgu4 0; have y1 : w4.cell? ⟨gu, 1, none⟩ = some _ := blk_cell hgu4 1; have y2 := blk_frozen hgu4 0; have y3 := blk_frozen hgu4 1; have HT4 := Aside0.mk (HT3.out.below hB4); have HB4 := Aside0.mk (below_step HB3.out hB4); have HF4 := Aside0.mk (Kd.F_mono hF' (off_after HT3.out (lt_blk HGU3.out))); have HGU4 := Aside0.mk hgu4; have HC4 := Aside0.mk hc'; rw [HL.out]; rw [HL.out] at HC4 HF4; clear hc' hF' hB4 hgu4))
      have hS : S5 w g u1 u2 s' q' gu A' L c' s'.length r _ := S5.mk ((HT4.out.store HGU4.out (by decide) (by decide) 0 (.slice A' L c')).store (blk_set HGU4.out 0 (.slice A' L c')) (by decide) (by decide) 1 (.int .i64 s'.length)) ((HB4.out.setCell hwg _).setCell hwg _) (Kd.F_far (Kd.F_far HF4.out (fun k hk => hk.2) _) (fun k hk => hk.2) _) (blk_set (blk_set HGU4.out 0 (.slice A' L c')) 1 (.int .i64 s'.length))
      refine start_ (n := 27) (S := S5 w g u1 u2 s' q' gu A' L c' s'.length r) (ds := []) #[false, false, false, false, false, false, false, false, false, false, false, false, false, false, false, false, false, false, false, false, false, false, false, false, false, false, false] (by kernel_rfl) rfl rfl (S5.keep hS (below_dN _ 1)) (fun hHeld => ?_)
      clear hS
      refine pure_ (i := 0) (N := some 30) (v := ?_) (a' := ?_) #[true, false, false, false, false, false, false, false, false, false, false, false, false, false, false, false, false, false, false, false, false, false, false, false, false, false, false] rfl rfl (by kernel_rfl) (fun _ _ _ h => h) (Or.inl ⟨by rfl, ?_⟩) ?_ ?_
      rotate_left
      · intro w'
        go_simp
        with_reducible rfl
      rotate_left
      · simp only [Act.put, List.setIfInBounds_toArray, List.set_cons_zero, List.set_cons_succ]
        rfl
      refine pure_ (i := 1) (N := some 31) (v := ?_) (a' := ?_) #[true, true, false, false, false, false, false, false, false, false, false, false, false, false, false, false, false, false, false, false, false, false, false, false, false, false, false] rfl rfl (by kernel_rfl) (fun _ _ _ h => h) (Or.inl ⟨by rfl, ?_⟩) ?_ ?_
      rotate_left
      · intro w'
        go_simp
        with_reducible rfl
      rotate_left
      · simp only [Act.put, List.setIfInBounds_toArray, List.set_cons_zero, List.set_cons_succ]
        rfl
      refine pure_ (i := 2) (N := some 32) (v := ?_) (a' := ?_) #[true, true, true, false, false, false, false, false, false, false, false, false, false, false, false, false, false, false, false, false, false, false, false, false, false, false, false] rfl rfl (by kernel_rfl) (fun _ _ _ h => h) (Or.inl ⟨by rfl, ?_⟩) ?_ ?_
      rotate_left
      · intro w'
        go_simp
        with_reducible rfl
      rotate_left
      · simp only [Act.put, List.setIfInBounds_toArray, List.set_cons_zero, List.set_cons_succ]
        rfl
      refine pure_ (i := 3) (N := some 33) (v := ?_) (a' := ?_) #[true, true, true, true, false, false, false, false, false, false, false, false, false, false, false, false, false, false, false, false, false, false, false, false, false, false, false] rfl rfl (by kernel_rfl) (fun _ _ _ h => h) (Or.inl ⟨by rfl, ?_⟩) ?_ ?_
      rotate_left
      · intro w'
        go_simp
        with_reducible rfl
      rotate_left
      · simp only [Act.put, List.setIfInBounds_toArray, List.set_cons_zero, List.set_cons_succ]
        rfl
      refine pure_ (i := 4) (N := some 34) (v := ?_) (a' := ?_) #[true, true, true, true, true, false, false, false, false, false, false, false, false, false, false, false, false, false, false, false, false, false, false, false, false, false, false] rfl rfl (by kernel_rfl) (fun _ _ _ h => h) (Or.inl ⟨by rfl, ?_⟩) ?_ ?_
      rotate_left
      · intro w'
        go_simp
        with_reducible rfl
      rotate_left
      · simp only [Act.put, List.setIfInBounds_toArray, List.set_cons_zero, List.set_cons_succ]
        rfl
      refine pure_ (i := 7) (N := some 37) (v := ?_) (a' := ?_) #[true, true, true, true, true, false, false, true, false, false, false, false, false, false, false, false, false, false, false, false, false, false, false, false, false, false, false] rfl rfl (by kernel_rfl) (fun _ _ _ h => h) (Or.inl ⟨by rfl, ?_⟩) ?_ ?_
      rotate_left
      · intro w'
        go_simp
        with_reducible rfl
      rotate_left
      · simp only [Act.put, List.setIfInBounds_toArray, List.set_cons_zero, List.set_cons_succ]
        rfl
      refine take_ (i := 8) (N := some 38) (v := ?_) (a' := ?_) #[true, true, true, true, true, false, false, true, true, false, false, false, false, false, false, false, false, false, false, false, false, false, false, false, false, false, false] rfl rfl (by kernel_rfl) (fun _ _ _ h => h) (Or.inl ⟨by rfl, ?_⟩) hHeld ?_ ?_
      rotate_left
      · rintro w' ⟨_, _, _, _, k0, k1, k2⟩
        go_simp
        with_reducible rfl
      rotate_left
      · simp only [Act.put, List.setIfInBounds_toArray, List.set_cons_zero, List.set_cons_succ]
        rfl
      refine take_ (i := 9) (N := some 39) (v := ?_) (a' := ?_) #[true, true, true, true, true, false, false, true, true, true, false, false, false, false, false, false, false, false, false, false, false, false, false, false, false, false, false] rfl rfl (by kernel_rfl) (fun _ _ _ h => h) (Or.inl ⟨by rfl, ?_⟩) hHeld ?_ ?_
      rotate_left
      · rintro w' ⟨_, _, _, _, k0, k1, k2⟩
        go_simp
        with_reducible rfl
      rotate_left
      · simp only [Act.put, List.setIfInBounds_toArray, List.set_cons_zero, List.set_cons_succ]
        rfl
      refine one_ (i := 5) (N := some 35) #[true, true, true, true, true, true, false, true, true, true, false, false, false, false, false, false, false, false, false, false, false, false, false, false, false, false, false] rfl rfl (by kernel_rfl) (by decide) (fun K_ hK => ?_)
      refine goes_ Try.func27 (by kernel_rfl) rfl #[.pointer (some ⟨g, 0, none⟩)] (by rfl) rfl rfl (by (try simp only [List.map_toArray, List.map_cons, List.map_nil]); first | done | rfl) ?_
      with_reducible refine (bytes_r hHeld.1.out HSR.out HL1.out).mono ?_
      rintro e w6 ⟨Az, cz, rfl, hcz, hC, hb⟩
      refine ⟨_, rfl, ?_⟩
      have hcv := Kd.C_string (P := Try.prog) (c := cz) Try.underlying51 Try.underlying5 Try.underlying9 hC
      refine hK.out _ _ (S5.keep hHeld hb) (fun hHeld => ?_)
      clear hK hb
      refine norm_ (a' := ?_) ?_ ?_
      rotate_left
      · show Act.put _ (some 35) _ = _
        simp only [Act.put, List.setIfInBounds_toArray, List.set_cons_zero, List.set_cons_succ]
        rfl
      refine one_ (i := 6) (N := some 36) #[true, true, true, true, true, true, true, true, true, true, false, false, false, false, false, false, false, false, false, false, false, false, false, false, false, false, false] rfl rfl (by kernel_rfl) (by decide) (fun K_ hK => ?_)
      go_simp
      refine hK.out _ _ hHeld (fun hHeld => ?_)
      clear hK hcv hC hcz
      refine pure_ (i := 10) (N := some 40) (v := ?_) (a' := ?_) #[true, true, true, true, true, true, true, true, true, true, true, false, false, false, false, false, false, false, false, false, false, false, false, false, false, false, false] rfl rfl (by kernel_rfl) (fun _ _ _ h => h) (Or.inl ⟨by rfl, ?_⟩) ?_ ?_
      rotate_left
      · intro w'
        go_simp
        with_reducible rfl
      rotate_left
      · simp only [Act.put, List.setIfInBounds_toArray, List.set_cons_zero, List.set_cons_succ]
        rfl
      refine pure_ (i := 11) (N := some 41) (v := ?_) (a' := ?_) #[true, true, true, true, true, true, true, true, true, true, true, true, false, false, false, false, false, false, false, false, false, false, false, false, false, false, false] rfl rfl (by kernel_rfl) (fun _ _ _ h => h) (Or.inl ⟨by rfl, ?_⟩) ?_ ?_
      rotate_left
      · intro w'
        go_simp
        with_reducible rfl
      rotate_left
      · simp only [Act.put, List.setIfInBounds_toArray, List.set_cons_zero, List.set_cons_succ]
        rfl
      refine pure_ (i := 12) (N := some 42) (v := ?_) (a' := ?_) #[true, true, true, true, true, true, true, true, true, true, true, true, true, false, false, false, false, false, false, false, false, false, false, false, false, false, false] rfl rfl (by kernel_rfl) (fun _ _ _ h => h) (Or.inl ⟨by rfl, ?_⟩) ?_ ?_
      rotate_left
      · intro w'
        go_simp
        with_reducible rfl
      rotate_left
      · simp only [Act.put, List.setIfInBounds_toArray, List.set_cons_zero, List.set_cons_succ]
        rfl
      refine pure_ (i := 13) (N := some 43) (v := ?_) (a' := ?_) #[true, true, true, true, true, true, true, true, true, true, true, true, true, true, false, false, false, false, false, false, false, false, false, false, false, false, false] rfl rfl (by kernel_rfl) (fun _ _ _ h => h) (Or.inl ⟨by rfl, ?_⟩) ?_ ?_
      rotate_left
      · intro w'
        go_simp
        with_reducible rfl
      rotate_left
      · simp only [Act.put, List.setIfInBounds_toArray, List.set_cons_zero, List.set_cons_succ]
        rfl
      refine pure_ (i := 15) (N := some 45) (v := ?_) (a' := ?_) #[true, true, true, true, true, true, true, true, true, true, true, true, true, true, false, true, false, false, false, false, false, false, false, false, false, false, false] rfl rfl (by kernel_rfl) (fun _ _ _ h => h) (Or.inl ⟨by rfl, ?_⟩) ?_ ?_
      rotate_left
      · intro w'
        go_simp
        with_reducible rfl
      rotate_left
      · simp only [Act.put, List.setIfInBounds_toArray, List.set_cons_zero, List.set_cons_succ]
        rfl
      refine take_ (i := 16) (N := some 46) (v := ?_) (a' := ?_) #[true, true, true, true, true, true, true, true, true, true, true, true, true, true, false, true, true, false, false, false, false, false, false, false, false, false, false] rfl rfl (by kernel_rfl) (fun _ _ _ h => h) (Or.inl ⟨by rfl, ?_⟩) hHeld ?_ ?_
      rotate_left
      · rintro w' ⟨_, _, _, _, k0, k1, k2⟩
        go_simp
        with_reducible rfl
      rotate_left
      · simp only [Act.put, List.setIfInBounds_toArray, List.set_cons_zero, List.set_cons_succ]
        rfl
      refine pure_ (i := 17) (N := some 47) (v := ?_) (a' := ?_) #[true, true, true, true, true, true, true, true, true, true, true, true, true, true, false, true, true, true, false, false, false, false, false, false, false, false, false] rfl rfl (by kernel_rfl) (fun _ _ _ h => h) (Or.inl ⟨by rfl, ?_⟩) ?_ ?_
      rotate_left
      · intro w'
        go_simp
        with_reducible rfl
      rotate_left
      · simp only [Act.put, List.setIfInBounds_toArray, List.set_cons_zero, List.set_cons_succ]
        rfl
      refine one_ (i := 14) (N := some 44) #[true, true, true, true, true, true, true, true, true, true, true, true, true, true, true, true, true, true, false, false, false, false, false, false, false, false, false] rfl rfl (by kernel_rfl) (by decide) (fun K_ hK => ?_)
      refine goes_ Try.func28 (by kernel_rfl) rfl #[.pointer (some ⟨g, 0, none⟩)] (by rfl) rfl rfl (by (try simp only [List.map_toArray, List.map_cons, List.map_nil]); first | done | rfl) ?_
      with_reducible refine (len_r hHeld.1.out HLR.out HL1.out).mono ?_
      rintro e w6 ⟨rfl, hb⟩
      refine ⟨_, rfl, ?_⟩
      refine hK.out _ _ (S5.keep hHeld hb) (fun hHeld => ?_)
      clear hK hb
      refine norm_ (a' := ?_) ?_ ?_
      rotate_left
      · show Act.put _ (some 44) _ = _
        simp only [Act.put, List.setIfInBounds_toArray, List.set_cons_zero, List.set_cons_succ]
        rfl
      refine pure_ (i := 18) (N := some 48) (v := ?_) (a' := ?_) #[true, true, true, true, true, true, true, true, true, true, true, true, true, true, true, true, true, true, true, false, false, false, false, false, false, false, false] rfl rfl (by kernel_rfl) (fun _ _ _ h => h) (Or.inl ⟨by rfl, ?_⟩) ?_ ?_
      rotate_left
      · intro w'
        go_simp
        with_reducible rfl
      rotate_left
      · simp only [Act.put, List.setIfInBounds_toArray, List.set_cons_zero, List.set_cons_succ]
        rfl
      refine pure_ (i := 19) (N := some 49) (v := ?_) (a' := ?_) #[true, true, true, true, true, true, true, true, true, true, true, true, true, true, true, true, true, true, true, true, false, false, false, false, false, false, false] rfl rfl (by kernel_rfl) (fun _ _ _ h => h) (Or.inl ⟨by rfl, ?_⟩) ?_ ?_
      rotate_left
      · intro w'
        go_simp
        with_reducible rfl
      rotate_left
      · simp only [Act.put, List.setIfInBounds_toArray, List.set_cons_zero, List.set_cons_succ]
        rfl
      refine pure_ (i := 20) (N := some 50) (v := ?_) (a' := ?_) #[true, true, true, true, true, true, true, true, true, true, true, true, true, true, true, true, true, true, true, true, true, false, false, false, false, false, false] rfl rfl (by kernel_rfl) (fun _ _ _ h => h) (Or.inl ⟨by rfl, ?_⟩) ?_ ?_
      rotate_left
      · intro w'
        go_simp
        with_reducible rfl
      rotate_left
      · simp only [Act.put, List.setIfInBounds_toArray, List.set_cons_zero, List.set_cons_succ]
        rfl
      refine pure_ (i := 21) (N := some 51) (v := ?_) (a' := ?_) #[true, true, true, true, true, true, true, true, true, true, true, true, true, true, true, true, true, true, true, true, true, true, false, false, false, false, false] rfl rfl (by kernel_rfl) (fun _ _ _ h => h) (Or.inl ⟨by rfl, ?_⟩) ?_ ?_
      rotate_left
      · intro w'
        go_simp
        with_reducible rfl
      rotate_left
      · simp only [Act.put, List.setIfInBounds_toArray, List.set_cons_zero, List.set_cons_succ]
        rfl
      refine pure_ (i := 23) (N := some 53) (v := ?_) (a' := ?_) #[true, true, true, true, true, true, true, true, true, true, true, true, true, true, true, true, true, true, true, true, true, true, false, true, false, false, false] rfl rfl (by kernel_rfl) (fun _ _ _ h => h) (Or.inl ⟨by rfl, ?_⟩) ?_ ?_
      rotate_left
      · intro w'
        go_simp
        with_reducible rfl
      rotate_left
      · simp only [Act.put, List.setIfInBounds_toArray, List.set_cons_zero, List.set_cons_succ]
        rfl
      refine take_ (i := 24) (N := some 54) (v := ?_) (a' := ?_) #[true, true, true, true, true, true, true, true, true, true, true, true, true, true, true, true, true, true, true, true, true, true, false, true, true, false, false] rfl rfl (by kernel_rfl) (fun _ _ _ h => h) (Or.inl ⟨by rfl, ?_⟩) hHeld ?_ ?_
      rotate_left
      · rintro w' ⟨_, _, _, _, k0, k1, k2⟩
        go_simp
        with_reducible rfl
      rotate_left
      · simp only [Act.put, List.setIfInBounds_toArray, List.set_cons_zero, List.set_cons_succ]
        rfl
      refine one_ (i := 22) (N := some 52) #[true, true, true, true, true, true, true, true, true, true, true, true, true, true, true, true, true, true, true, true, true, true, true, true, true, false, false] rfl rfl (by kernel_rfl) (by decide) (fun K_ hK => ?_)
      refine goes_ Try.func29 (by kernel_rfl) rfl #[.pointer (some ⟨g, 0, none⟩)] (by rfl) rfl rfl (by (try simp only [List.map_toArray, List.map_cons, List.map_nil]); first | done | rfl) ?_
      with_reducible refine (sure_r hHeld.1.out rfl).mono ?_
      rintro e w6 ⟨rfl, hb⟩
      refine ⟨_, rfl, ?_⟩
      refine hK.out _ _ (S5.keep hHeld hb) (fun hHeld => ?_)
      clear hK hb
      refine norm_ (a' := ?_) ?_ ?_
      rotate_left
      · show Act.put _ (some 52) _ = _
        simp only [Act.put, List.setIfInBounds_toArray, List.set_cons_zero, List.set_cons_succ]
        rfl
      refine pure_ (i := 25) (N := some 55) (v := ?_) (a' := ?_) #[true, true, true, true, true, true, true, true, true, true, true, true, true, true, true, true, true, true, true, true, true, true, true, true, true, true, false] rfl rfl (by kernel_rfl) (fun _ _ _ h => h) (Or.inl ⟨by rfl, ?_⟩) ?_ ?_
      rotate_left
      · intro w'
        go_simp
        with_reducible rfl
      rotate_left
      · simp only [Act.put, List.setIfInBounds_toArray, List.set_cons_zero, List.set_cons_succ]
        rfl
      refine pure_ (i := 26) (N := some 56) (v := ?_) (a' := ?_) #[true, true, true, true, true, true, true, true, true, true, true, true, true, true, true, true, true, true, true, true, true, true, true, true, true, true, true] rfl rfl (by kernel_rfl) (fun _ _ _ h => h) (Or.inl ⟨by rfl, ?_⟩) ?_ ?_
      rotate_left
      · intro w'
        go_simp
        with_reducible rfl
      rotate_left
      · simp only [Act.put, List.setIfInBounds_toArray, List.set_cons_zero, List.set_cons_succ]
        rfl
      refine done_ (by kernel_rfl) ?_
      go_wp2_with fail
      go_roundw
      case rel => exact ⟨i + 1, by omega, by go_num, ⟨⟨u1, u2, s', q', A', c', hHeld.1.out, by rw [HSR.out, HL.out]; exact hHeld.2.2.2.1.out, by rw [HSR.out, HL.out]; exact HC4.out, by rw [HSR.out, HL.out]; exact hHeld.2.2.1.out, HLEN.out, hHeld.2.1.out, hwg⟩⟩⟩
      case measure => simp [intOf]; omega
    · obtain rfl : i = l.length := by omega
      have HB := Aside0.mk hB
      clear hT hgu hF hB
      go_wp2_with (go_at_call 23; (with_reducible refine (alive11 _).mono ?_); rintro e w6 ⟨rfl, hb⟩; have HB6 := Aside0.mk (below_step HB.out hb); clear hb)
      go_ret
      exact ⟨rfl, HB6.out⟩
set_option maxHeartbeats 1000000 in
set_option maxRecDepth 100000 in
theorem does_none (kf : Nat) (A0 : Option Addr) (c0 : Nat) (l : List S55) (w : World) (h0 : Kd.C k55 w A0 l.length l) (hc0 : l.length ≤ c0) (hfew : tallymanref11_Few.f kf l 60 = some false) :
    Calls Try.prog 5 #[.slice A0 l.length c0] w fun e w' => e = .returned (.bool true) ∧ Below w.heap.size w w' := by
  have H0 := Aside0.mk h0; clear h0
  have HFEW := Aside0.mk hfew; clear hfew
  go_enter Try.func5, Try.ntmps5
  go_wp2_with (first
    | (go_at_call 22; (with_reducible refine (tallymanref11_Few.calls kf A0 c0 l 60 false _ H0.out hc0 HFEW.out).mono ?_); rintro e w0 ⟨rfl, hd⟩; have HB0 := Aside0.mk hd.below; clear hd)
    | (go_at_call 23; (with_reducible refine (alive11 _).mono ?_); rintro e w6 ⟨rfl, hb⟩; have HB6 := Aside0.mk (below_step HB0.out hb); clear hb))
  go_ret
  exact ⟨rfl, HB6.out⟩
set_option maxRecDepth 100000 in
theorem Tr55 : ∃ Wf, TR.Tr Try.prog 47 (Kd.slice 55 k55) Wf := ⟨_, TR.Tr_slice Try.underlying47 (by kernel_rfl) (TR.Tr_iso (fun x : S55 => (x.f0, x.f1, x.f2)) (fun p => ⟨p.1, p.2.1, p.2.2⟩) (fun _ => rfl) (TR.Tr_struct (s := 3) Try.underlying55 (by kernel_rfl) (TR.Fs_cons (s := 1) rfl (by kernel_rfl) (TR.Tr_int Try.underlying3) (TR.Fs_cons (s := 1) rfl (by kernel_rfl) (TR.Tr_int Try.underlying3) (TR.Fs_one (s := 1) rfl (by kernel_rfl) (TR.Tr_slice Try.underlying51 (by kernel_rfl) (TR.Tr_int Try.underlying5)))))))⟩
def tallymanlaw11_TapeDoes.Pure : Prop := True
theorem tallymanlaw11_TapeDoes.walk (P : tallymanlaw11_TapeDoes.Pure) (a0 : Option Addr) (len0 cap0 : Nat) (w : World) {H : Type} {enc : TypeId × Value → H} {d : DataW H} {p : List MemPlace} (h0 : DataW.Trod enc Try.prog w 0 (fun _ => true) true 47 (.slice a0 len0 cap0) d p) :
    Calls Try.prog 5 #[.slice a0 len0 cap0] w fun e w' => e = .returned (.bool true) ∧ Below w.heap.size w w' := by
  obtain ⟨fuel, hf⟩ := h0
  obtain ⟨Wf, hT⟩ := Tr55
  obtain ⟨l, ⟨A, c, e, hc, hC⟩, hw⟩ := hT _ _ _ _ _ _ hf
  simp [Value.cells] at e
  obtain ⟨rfl, rfl, rfl⟩ := e
  obtain ⟨k, hk⟩ := few11 l
  by_cases h8 : l.length ≤ 60
  · by_cases h60 : ∀ x ∈ l, x.f2.length ≤ 60
    · rw [decide_eq_true h8, show (l.all fun x => decide (x.f2.length ≤ 60)) = true by simpa using h60] at hk
      exact does_path k _ _ l w hC hc h8 h60 hk
    · rw [show (l.all fun x => decide (x.f2.length ≤ 60)) = false by rw [← Bool.not_eq_true]; simpa using h60, Bool.and_false] at hk
      exact does_none k _ _ l w hC hc hk
  · rw [decide_eq_false h8, Bool.false_and] at hk
    exact does_none k _ _ l w hC hc hk
end Go.Proofs.Ytajgillnkkkgjaa.P
end
section
namespace Go.Proofs.Ytajgillnkkkgjaa.Pure
open Go.RowKit Go.Proofs.Ytajgillnkkkgjaa.P Go.Proofs.YtajgillnkkkgjaaW.PrintWords Go.Proofs.YtajgillnkkkgjaaW.PrintLast
/-- The walk needs nothing else. -/
theorem TapeDoes : tallymanlaw11_TapeDoes.Pure := trivial
end Go.Proofs.Ytajgillnkkkgjaa.Pure
end
