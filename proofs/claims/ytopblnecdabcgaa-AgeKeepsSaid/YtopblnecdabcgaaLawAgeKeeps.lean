-- PRINTED by the session's row.py: the row of the law tallymanlaw14_AgeKeeps out of its walk. Not trusted: Lean checks it.
import Derived.Test.YtopblnecdabcgaaRows
import Derived.Test.YtopblnecdabcgaaL5
import Derived.Test.YtopblnecdabcgaaPureAgeKeeps
import Derived.WalkKit
import Derived.ProofKit
import Derived.OpenShut
import Derived.ShutString
import Derived.ChangeOld
import Derived.Below
import Derived.SizedLaws
import Derived.SliceStrings
import Derived.Lib.SmallJoins
import Derived.ChangeArms
import Derived.Test.YtopblnecdabcgaaWSized
namespace Go.Proofs.Ytopblnecdabcgaa.ageKeeps
open Go.ChangeShapes Go.WideShapes Go.ChangeAt Go.RowKit
open Go.ChangeMaps (open_string shut_string)
set_option linter.unusedVariables false
theorem own : ownKnob Try.prog.godebug = none := by kernel_rfl
theorem laidOut : laidOutB Try.prog = true := by kernel_rfl
def IsRow (k : IntKind) (w : World) (a : Option Addr) (len cap : Nat) (zs : List Int) : Prop :=
  (a = none ∧ len = 0 ∧ cap = 0 ∧ zs = []) ∨
  ∃ x, a = some x ∧ len ≤ cap ∧ cap ≤ maxLen ∧ zs.length = cap ∧ (∀ i, i < zs.length → w.cell? (x.add i) = some (.int k (zs.getD i 0))) ∧ ∀ n ∈ zs, (Lit.int k n).wf = true
def IsStrs (w : World) (a : Option Addr) (len cap : Nat) (zs : List ByteArray) : Prop :=
  (a = none ∧ len = 0 ∧ cap = 0 ∧ zs = []) ∨
  ∃ x, a = some x ∧ len ≤ cap ∧ cap ≤ maxLen ∧ zs.length = cap ∧ ∀ i, i < zs.length → w.cell? (x.add i) = some (.string (zs.getD i ByteArray.empty))
theorem arr4 {cs : Array Value} (h : cs.size = 4) : ∃ c0 c1 c2 c3, cs = #[c0, c1, c2, c3] := by
  obtain ⟨l⟩ := cs
  match l, h with
  | [c0, c1, c2, c3], _ => exact ⟨c0, c1, c2, c3, rfl⟩
theorem trs4 {H : Type} {enc : TypeId × Value → H} {P : Program} {w : World} {base : Nat} {spare : Nat → Bool} {held : Bool} {t : TypeId} {f0 f1 f2 f3 : Field} {fuel : Nat} {cs : List Value} {x : DataW H × List MemPlace} (ht : P.underlying t = some (.struct #[f0, f1, f2, f3])) (h : DataW.trod enc P w base spare held fuel t cs = some x) :
    ∃ y0 y1 y2 y3 n, x.1 = .agg [y0.1, y1.1, y2.1, y3.1] ∧ cs.length = P.cellsOf t ∧ DataW.trod enc P w base spare held n f0.type ((cs.drop f0.offset).take (P.cellsOf f0.type)) = some y0 ∧ DataW.trod enc P w base spare held n f1.type ((cs.drop f1.offset).take (P.cellsOf f1.type)) = some y1 ∧ DataW.trod enc P w base spare held n f2.type ((cs.drop f2.offset).take (P.cellsOf f2.type)) = some y2 ∧ DataW.trod enc P w base spare held n f3.type ((cs.drop f3.offset).take (P.cellsOf f3.type)) = some y3 := by
  obtain ⟨xs, n, _, rfl, hl, hlen, hf⟩ := DataW.trod_struct ht h
  match xs, hlen with
  | [y0, y1, y2, y3], _ => exact ⟨y0, y1, y2, y3, n, by simp, hl, by simpa using hf 0 f0 rfl, by simpa using hf 1 f1 rfl, by simpa using hf 2 f2 rfl, by simpa using hf 3 f3 rfl⟩
set_option maxRecDepth 100000 in
theorem lifted (os : Os) (started : os.Started) (H : Type) (enc : TypeId × Value → H) :
    ReturnsInHanded {} Try.checked os 5 .any (Rows.ageKeepsSpec.pre6 enc Try.prog Try.f5 Rows.ageKeepsRow.domain false) (Rows.ageKeepsSpec.post enc Try.prog Try.f5 false true false false) := by
  refine returnsInHanded_of_change_sized (C := Try.checked) own started (by kernel_rfl) Try.func5
    (ChangeSpec.witness6 (enc := enc) (C := Try.checked) false ⟨#[], #[.agg #[.int .i64 0, .int .i64 0, .int .i64 0, .int .i64 0], .agg #[.int .i64 0, .int .i64 0, .int .i64 0, .int .i64 0], .int .u32 0, .int .u32 0, .int .i64 0], []⟩ 8 (by kernel_rfl) (by kernel_rfl) (by kernel_rfl) (by kernel_rfl)) ?_
  intro W base args ds gs before hval0 hW hcnd hsz0 _
  have hsz : (DataW.weightsEach Try.prog (Try.f5.params.toList ++ Rows.ageKeepsSpec.plain.varTypes Try.prog) (ds ++ gs)).all (· ≤ reachBytes) = true := hsz0
  have hval : ∀ (j : Nat) t v, Try.f5.params[j]? = some t → args[j]? = some v → Value.okWide Try.prog W .any base t v := hval0
  have hW' := hW
  obtain ⟨p, q, hA0, hV, rfl, hfz, hnd⟩ := hW
  have hA : DataW.TrodAll enc Try.prog W 0 (fun _ => true) true Try.f5.params.toList args.toList ds p := hA0
  rw [Try.params5] at hA hval hsz
  obtain ⟨v0, vs0, d0, ds0, p0, q0, hargs, rfl, rfl, h0, r0⟩ := trodAll_cons hA
  obtain ⟨v1, vs1, d1, ds1, p1, q1, rfl, rfl, rfl, h1, r1⟩ := trodAll_cons r0
  obtain ⟨v2, vs2, d2, ds2, p2, q2, rfl, rfl, rfl, h2, r2⟩ := trodAll_cons r1
  obtain ⟨v3, vs3, d3, ds3, p3, q3, rfl, rfl, rfl, h3, r3⟩ := trodAll_cons r2
  obtain ⟨v4, vs4, d4, ds4, p4, q4, rfl, rfl, rfl, h4, r4⟩ := trodAll_cons r3
  obtain ⟨rfl, rfl, rfl⟩ := trodAll_nil r4
  obtain rfl : args = #[v0, v1, v2, v3, v4] := by cases args; simp_all
  obtain ⟨rfl, rfl⟩ := trodVars_none hV
  have k0 := h0
  have lt0 : ∀ x ∈ p0, x.block < W.heap.size := by obtain ⟨m, hm⟩ := k0; exact DataW.trod_lt m _ _ _ hm
  obtain ⟨cs0, rfl, z0⟩ := okWide_struct Try.underlying23 (hval 0 23 v0 rfl rfl)
  obtain ⟨v0_0, v0_1, v0_2, v0_3, rfl⟩ := arr4 (z0.trans (show Try.prog.cellsOf 23 = 4 by kernel_rfl))
  obtain ⟨fu0, hf0⟩ := h0
  have kc23_0 : Try.prog.cellsOf 23 = 4 := by kernel_rfl
  have kc3_0 : Try.prog.cellsOf 3 = 1 := by kernel_rfl
  obtain ⟨y0_0, y0_1, y0_2, y0_3, n0, hx0, _, t0_0, t0_1, t0_2, t0_3⟩ := trs4 Try.underlying23 hf0
  replace t0_0 : DataW.trod enc Try.prog W 0 (fun _ => true) true n0 3 [v0_0] = some y0_0 := by simpa [Value.cells, kc23_0, kc3_0] using t0_0
  obtain ⟨a0_0, e_, _, w0_0⟩ := DataW.trod_int Try.underlying3 t0_0
  obtain rfl := List.singleton_inj.1 e_
  replace t0_1 : DataW.trod enc Try.prog W 0 (fun _ => true) true n0 3 [v0_1] = some y0_1 := by simpa [Value.cells, kc23_0, kc3_0] using t0_1
  obtain ⟨a0_1, e_, _, w0_1⟩ := DataW.trod_int Try.underlying3 t0_1
  obtain rfl := List.singleton_inj.1 e_
  replace t0_2 : DataW.trod enc Try.prog W 0 (fun _ => true) true n0 3 [v0_2] = some y0_2 := by simpa [Value.cells, kc23_0, kc3_0] using t0_2
  obtain ⟨a0_2, e_, _, w0_2⟩ := DataW.trod_int Try.underlying3 t0_2
  obtain rfl := List.singleton_inj.1 e_
  replace t0_3 : DataW.trod enc Try.prog W 0 (fun _ => true) true n0 3 [v0_3] = some y0_3 := by simpa [Value.cells, kc23_0, kc3_0] using t0_3
  obtain ⟨a0_3, e_, _, w0_3⟩ := DataW.trod_int Try.underlying3 t0_3
  obtain rfl := List.singleton_inj.1 e_
  have k1 := h1
  have lt1 : ∀ x ∈ p1, x.block < W.heap.size := by obtain ⟨m, hm⟩ := k1; exact DataW.trod_lt m _ _ _ hm
  obtain ⟨cs1, rfl, z1⟩ := okWide_struct Try.underlying23 (hval 1 23 v1 rfl rfl)
  obtain ⟨v1_0, v1_1, v1_2, v1_3, rfl⟩ := arr4 (z1.trans (show Try.prog.cellsOf 23 = 4 by kernel_rfl))
  obtain ⟨fu1, hf1⟩ := h1
  have kc23_1 : Try.prog.cellsOf 23 = 4 := by kernel_rfl
  have kc3_1 : Try.prog.cellsOf 3 = 1 := by kernel_rfl
  obtain ⟨y1_0, y1_1, y1_2, y1_3, n1, hx1, _, t1_0, t1_1, t1_2, t1_3⟩ := trs4 Try.underlying23 hf1
  replace t1_0 : DataW.trod enc Try.prog W 0 (fun _ => true) true n1 3 [v1_0] = some y1_0 := by simpa [Value.cells, kc23_1, kc3_1] using t1_0
  obtain ⟨a1_0, e_, _, w1_0⟩ := DataW.trod_int Try.underlying3 t1_0
  obtain rfl := List.singleton_inj.1 e_
  replace t1_1 : DataW.trod enc Try.prog W 0 (fun _ => true) true n1 3 [v1_1] = some y1_1 := by simpa [Value.cells, kc23_1, kc3_1] using t1_1
  obtain ⟨a1_1, e_, _, w1_1⟩ := DataW.trod_int Try.underlying3 t1_1
  obtain rfl := List.singleton_inj.1 e_
  replace t1_2 : DataW.trod enc Try.prog W 0 (fun _ => true) true n1 3 [v1_2] = some y1_2 := by simpa [Value.cells, kc23_1, kc3_1] using t1_2
  obtain ⟨a1_2, e_, _, w1_2⟩ := DataW.trod_int Try.underlying3 t1_2
  obtain rfl := List.singleton_inj.1 e_
  replace t1_3 : DataW.trod enc Try.prog W 0 (fun _ => true) true n1 3 [v1_3] = some y1_3 := by simpa [Value.cells, kc23_1, kc3_1] using t1_3
  obtain ⟨a1_3, e_, _, w1_3⟩ := DataW.trod_int Try.underlying3 t1_3
  obtain rfl := List.singleton_inj.1 e_
  obtain ⟨a2, rfl, rfl, rfl, w2⟩ := open_int Try.underlying29 (hval 2 29 v2 rfl rfl) h2
  obtain ⟨a3, rfl, rfl, rfl, w3⟩ := open_int Try.underlying29 (hval 3 29 v3 rfl rfl) h3
  obtain ⟨a4, rfl, rfl, rfl, w4⟩ := open_int Try.underlying3 (hval 4 3 v4 rfl rfl) h4
  clear hA0 hval0 hsz0 hsz
  refine (P.tallymanlaw14_AgeKeeps.walk Pure.AgeKeeps a0_0 a0_1 a0_2 a0_3 a1_0 a1_1 a1_2 a1_3 a2 a3 a4 W w0_0 w0_1 w0_2 w0_3 w1_0 w1_1 w1_2 w1_3 w2 w3 w4).mono fun e W' ⟨he, bel⟩ => ?_
  subst he
  exact ⟨_, rfl, _, _, _, [], _, [], hW', trodAll_mk1 (shut_bool Try.underlying4 _), (trodAll_cons_mk (Below.trod laidOut (by kernel_rfl) (of_decide_eq_true (by kernel_rfl)) k0 bel lt0) (trodAll_cons_mk (Below.trod laidOut (by kernel_rfl) (of_decide_eq_true (by kernel_rfl)) k1 bel lt1) (trodAll_cons_mk (shut_int Try.underlying29 w2) (trodAll_cons_mk (shut_int Try.underlying29 w3) (trodAll_cons_mk (shut_int Try.underlying3 w4) trodAll_mk0))))), rfl, bel.frame _, fun h => by cases h⟩
theorem over : Rows.ageKeepsRow.holds Try.pinned (OpenSpec.ofChange Rows.ageKeepsSpec) :=
  OpenClaim.holds_of_wide 5 Try.f5 rfl rfl rfl rfl rfl rfl rfl ⟨rfl, rfl, rfl, rfl, rfl⟩ rfl rfl rfl rfl rfl (by kernel_rfl) Try.func5 (by kernel_rfl)
    (of_decide_eq_true (by kernel_rfl)) (by unfold Func.isWrapper; first | (rw [if_pos (by decide +kernel)]; kernel_rfl) | (rw [if_neg (by decide +kernel)]; exact ⟨rfl, rfl⟩))
    (fun os started H enc _ => lifted os started H enc)
theorem proved : Rows.AgeKeepsSaid := over
#print axioms proved
end Go.Proofs.Ytopblnecdabcgaa.ageKeeps
namespace Go.Proofs.Ytopblnecdabcgaa
/-- The row, under a short name, for the claim. -/
theorem ageKeeps_holds : Rows.AgeKeepsSaid := ageKeeps.proved
end Go.Proofs.Ytopblnecdabcgaa
