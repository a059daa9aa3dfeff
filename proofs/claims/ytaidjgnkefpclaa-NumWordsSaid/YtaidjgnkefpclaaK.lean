import Derived.Test.YtaidjgnkefpclaaP0
import Derived.Deep.Upon
namespace Go.Proofs.Ytaidjgnkefpclaa.P
open Go.RowKit Go.Proofs.YtaidjgnkefpclaaW.PrintWords Go.Proofs.YtaidjgnkefpclaaW.PrintLast Go.Proofs.YtaidjgnkefpclaaW.PrintMore
set_option linter.unusedVariables false
set_option linter.unusedSimpArgs false
theorem add0 (A : Option Addr) : A.map (fun x => x.add 0) = A := by cases A <;> simp [Addr.add]
-- cells of a row of numbers
theorem C_cells {k : IntKind} {w : World} {ad : Addr} {l : List Int} (h : Kd.C (Kd.int k) w (some ad) l.length l) : ∀ j u, (l.map (Value.int k))[j]? = some u → w.cell? (ad.add j) = some u := by
  intro j u hu
  rw [List.getElem?_map] at hu
  obtain ⟨x, hx, rfl⟩ := Option.map_eq_some_iff.1 hu
  have hj : j < l.length := (List.getElem?_eq_some_iff.1 hx).1
  obtain ⟨ad', he, hc⟩ := Kd.at_int h j (by omega) (by omega)
  injection he with he
  subst he
  simp only [Int.toNat_natCast] at hc
  rw [hc, rd, List.getD_eq_getElem?_getD, Int.toNat_natCast, hx]
  rfl
theorem add_plain' (g i j : Nat) : (⟨g, i, none⟩ : Addr).add j = ⟨g, i + j, none⟩ := by unfold Addr.add; split <;> simp_all
theorem C_none {k : IntKind} {w : World} {n : Nat} {l : List Int} (h : Kd.C (Kd.int k) w none n l) : l = [] := by
  obtain ⟨h1, _, h3⟩ := h
  rcases Nat.eq_zero_or_pos n with h0 | h0
  · exact List.eq_nil_of_length_eq_zero (h1.trans h0)
  · obtain ⟨ad, e, _⟩ := h3 h0
    cases e
theorem C_of_cells {k : IntKind} {w : World} {ad : Addr} {l : List Int} (hl : l.length ≤ 9223372036854775807) (h : ∀ j u, (l.map (Value.int k))[j]? = some u → w.cell? (ad.add j) = some u) : Kd.C (Kd.int k) w (some ad) l.length l := by
  refine ⟨rfl, hl, fun _ => ⟨ad, rfl, fun j p hp => ⟨[.int k p], rfl, rfl, fun i u hu => ?_⟩⟩⟩
  cases i with
  | zero =>
    simp only [List.getElem?_cons_zero, Option.some.injEq] at hu
    subst hu
    simp only [Nat.add_zero, show (Kd.int k).sz = 1 from rfl, Nat.mul_one]
    exact h j _ (by rw [List.getElem?_map, hp]; rfl)
  | succ i => simp at hu
theorem wpList_append_nothing {P : Program} (w : World) {ops : Array Oper} {rest : List Oper} {o : Oper} {a : Act} {Q : Exit → Act → World → Prop} (hgd : o.guard = none) (s x : Operand) (t : TypeId)
    (ho : o.op = .call { callee := .builtin .append, args := #[s, x], argTypes := #[t, t] }) (e : TypeId) (i : TypeInfo) (ht : P.underlying t = some (.slice e)) (hi : P.info? e = some i)
    (base : Option Addr) (n cap : Nat) (hle : n ≤ cap) (hs : a.eval s = .slice base n cap) (v : Value) (hx : a.eval x = v) (hsrc : Src P i.size t v 0 [] w)
    (h : wpList P ops Q rest (a.put o.dst (.slice base n cap)) w) : wpList P ops Q (o :: rest) a w := by
  refine wpList_plain hgd fun K hK => ?_
  have hr := run_append_nothing w t t o.type e i ht hi base n cap hle v hsrc
  unfold Oper.wp execOp
  simp only [ho, resolve, invoke, builtin, Sem.run_bind, Sem.run_pure, Result.andThen_ok, List.map_toArray, List.map_cons, List.map_nil, hs, hx, hr]
  exact hK _ _ h
theorem grown_below {w w' : World} (h : w.grownBy w' none) : Below w.heap.size w w' := ⟨h.os, h.tape, h.output, h.size, fun k hk => h.block k hk (by simp)⟩
theorem reps_eq {α : Type} {enc : α → Value} {xs : List α} {cs : List Value} (h : Reps (fun (x : α) (cs : List Value) => cs = [enc x]) 1 xs cs) : cs = xs.map enc := by
  obtain ⟨hl, hp⟩ := h
  rw [Nat.mul_one] at hl
  apply List.ext_getElem (by simp [hl])
  intro j h1 h2
  have hj : j < xs.length := by omega
  have := hp j xs[j] (List.getElem?_eq_getElem hj)
  rw [Nat.mul_one, List.drop_eq_getElem_cons h1, List.take_succ_cons, List.take_zero] at this
  rw [List.getElem_map]
  injection this
theorem grown_below0 {w0 wr w' : World} {row : Option Nat} (hB : Below w0.heap.size w0 wr) (hg : wr.grownBy w' row) (hr : ∀ k, row = some k → w0.heap.size ≤ k) : Below w0.heap.size w0 w' :=
  ⟨hg.os.trans hB.os, hg.tape.trans hB.tape, hg.output.trans hB.output, Nat.le_trans hB.size hg.size, fun k hk => (hg.block k (Nat.lt_of_lt_of_le hk hB.size) (fun e => by have := hr k e.symm; omega)).trans (hB.block k hk)⟩
theorem C_lit {k : IntKind} (w : World) (l : List Int) (hl : l.length ≤ 9223372036854775807) (e : Nat) {cs : Array Value} (hcs : cs = (l.map (Value.int k)).toArray) : Kd.C (Kd.int k) (w.alloc (.cells cs e)) (some ⟨w.heap.size, 0, none⟩) l.length l := by
  subst hcs
  refine C_of_cells hl ?_
  intro j u hu
  have hj : j < (l.map (Value.int k)).length := (List.getElem?_eq_some_iff.1 hu).1
  rw [add_plain', Nat.zero_add]
  rw [blk_cell (blk_new w (.cells _ e)), List.getElem?_toArray]
  exact hu
end Go.Proofs.Ytaidjgnkefpclaa.P
