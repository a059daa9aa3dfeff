-- PRINTED by the session's row.py: the row of the law tallymanlaw06_FenceTells out of its walk. Not trusted: Lean checks it.
import Derived.Test.YtpoghhcpoimepaaRows
import Derived.Test.YtpoghhcpoimepaaM11
import Derived.WalkKit
import Derived.ProofKit
import Derived.OpenShut
import Derived.ShutString
import Derived.ChangeOld
import Derived.Below
import Derived.SizedLaws
import Derived.SliceStrings
import Derived.Lib.SmallJoins
import Derived.ChangeArms
import Derived.Test.YtpoghhcpoimepaaM1
namespace Go.Proofs.Ytpoghhcpoimepaa.fenceTells
open Go.ChangeShapes Go.WideShapes Go.ChangeAt Go.RowKit
open Go.ChangeMaps (open_string shut_string)
set_option linter.unusedVariables false
theorem own : ownKnob Try.prog.godebug = none := by kernel_rfl
theorem laidOut : laidOutB Try.prog = true := by kernel_rfl
def IsRow (k : IntKind) (w : World) (a : Option Addr) (len cap : Nat) (zs : List Int) : Prop :=
  (a = none ∧ len = 0 ∧ cap = 0 ∧ zs = []) ∨
  ∃ x, a = some x ∧ len ≤ cap ∧ cap ≤ maxLen ∧ zs.length = cap ∧ (∀ i, i < zs.length → w.cell? (x.add i) = some (.int k (zs.getD i 0))) ∧ ∀ n ∈ zs, (Lit.int k n).wf = true
def IsStrs (w : World) (a : Option Addr) (len cap : Nat) (zs : List ByteArray) : Prop :=
  (a = none ∧ len = 0 ∧ cap = 0 ∧ zs = []) ∨
  ∃ x, a = some x ∧ len ≤ cap ∧ cap ≤ maxLen ∧ zs.length = cap ∧ ∀ i, i < zs.length → w.cell? (x.add i) = some (.string (zs.getD i ByteArray.empty))
theorem arr3 {cs : Array Value} (h : cs.size = 3) : ∃ c0 c1 c2, cs = #[c0, c1, c2] := by
  obtain ⟨l⟩ := cs
  match l, h with
  | [c0, c1, c2], _ => exact ⟨c0, c1, c2, rfl⟩
theorem trs2 {H : Type} {enc : TypeId × Value → H} {P : Program} {w : World} {base : Nat} {spare : Nat → Bool} {held : Bool} {t : TypeId} {f0 f1 : Field} {fuel : Nat} {cs : List Value} {x : DataW H × List MemPlace} (ht : P.underlying t = some (.struct #[f0, f1])) (h : DataW.trod enc P w base spare held fuel t cs = some x) :
    ∃ y0 y1 n, x.1 = .agg [y0.1, y1.1] ∧ cs.length = P.cellsOf t ∧ DataW.trod enc P w base spare held n f0.type ((cs.drop f0.offset).take (P.cellsOf f0.type)) = some y0 ∧ DataW.trod enc P w base spare held n f1.type ((cs.drop f1.offset).take (P.cellsOf f1.type)) = some y1 := by
  obtain ⟨xs, n, _, rfl, hl, hlen, hf⟩ := DataW.trod_struct ht h
  match xs, hlen with
  | [y0, y1], _ => exact ⟨y0, y1, n, by simp, hl, by simpa using hf 0 f0 rfl, by simpa using hf 1 f1 rfl⟩
set_option maxRecDepth 100000 in
theorem lifted (os : Os) (started : os.Started) (H : Type) (enc : TypeId × Value → H) :
    ReturnsInHanded {} Try.checked os 6 .any (Rows.fenceTellsSpec.pre6 enc Try.prog Try.f6 Rows.fenceTellsRow.domain false) (Rows.fenceTellsSpec.post enc Try.prog Try.f6 false true false false) := by
  refine returnsInHanded_of_change_sized (C := Try.checked) own started (by kernel_rfl) Try.func6
    (ChangeSpec.witness6 (enc := enc) (C := Try.checked) false ⟨#[], #[.agg #[.int .i64 0, .int .i64 0, .int .i64 0], .slice none 0 0, .agg #[.int .i64 0, .int .i64 0], .agg #[.int .i64 0, .int .i64 0]], []⟩ 8 (by kernel_rfl) (by kernel_rfl) (by kernel_rfl) (by kernel_rfl)) ?_
  intro W base args ds gs before hval0 hW hcnd hsz0 _
  have hsz : (DataW.weightsEach Try.prog (Try.f6.params.toList ++ Rows.fenceTellsSpec.plain.varTypes Try.prog) (ds ++ gs)).all (· ≤ reachBytes) = true := hsz0
  have hval : ∀ (j : Nat) t v, Try.f6.params[j]? = some t → args[j]? = some v → Value.okWide Try.prog W .any base t v := hval0
  have hW' := hW
  obtain ⟨p, q, hA0, hV, rfl, hfz, hnd⟩ := hW
  have hA : DataW.TrodAll enc Try.prog W 0 (fun _ => true) true Try.f6.params.toList args.toList ds p := hA0
  rw [Try.params6] at hA hval hsz
  obtain ⟨v0, vs0, d0, ds0, p0, q0, hargs, rfl, rfl, h0, r0⟩ := trodAll_cons hA
  obtain ⟨v1, vs1, d1, ds1, p1, q1, rfl, rfl, rfl, h1, r1⟩ := trodAll_cons r0
  obtain ⟨v2, vs2, d2, ds2, p2, q2, rfl, rfl, rfl, h2, r2⟩ := trodAll_cons r1
  obtain ⟨v3, vs3, d3, ds3, p3, q3, rfl, rfl, rfl, h3, r3⟩ := trodAll_cons r2
  obtain ⟨rfl, rfl, rfl⟩ := trodAll_nil r3
  obtain rfl : args = #[v0, v1, v2, v3] := by cases args; simp_all
  obtain ⟨rfl, rfl⟩ := trodVars_none hV
  have k0 := h0
  have lt0 : ∀ x ∈ p0, x.block < W.heap.size := by obtain ⟨m, hm⟩ := k0; exact DataW.trod_lt m _ _ _ hm
  obtain ⟨cs0, rfl, z0⟩ := okWide_struct Try.underlying34 (hval 0 34 v0 rfl rfl)
  obtain ⟨v0_0, v0_1, v0_2, rfl⟩ := arr3 (z0.trans (show Try.prog.cellsOf 34 = 3 by kernel_rfl))
  obtain ⟨fu0, hf0⟩ := h0
  have kc24_0 : Try.prog.cellsOf 24 = 2 := by kernel_rfl
  have kc3_0 : Try.prog.cellsOf 3 = 1 := by kernel_rfl
  have kc34_0 : Try.prog.cellsOf 34 = 3 := by kernel_rfl
  obtain ⟨y0_0, y0_1, n0, hx0, _, t0_0, t0_1⟩ := trs2 Try.underlying34 hf0
  replace t0_0 : DataW.trod enc Try.prog W 0 (fun _ => true) true n0 3 [v0_0] = some y0_0 := by simpa [Value.cells, kc24_0, kc3_0, kc34_0] using t0_0
  obtain ⟨a0_0, e_, _, w0_0⟩ := DataW.trod_int Try.underlying3 t0_0
  obtain rfl := List.singleton_inj.1 e_
  replace t0_1 : DataW.trod enc Try.prog W 0 (fun _ => true) true n0 24 [v0_1, v0_2] = some y0_1 := by simpa [Value.cells, kc24_0, kc3_0, kc34_0] using t0_1
  obtain ⟨y0_1_0, y0_1_1, n0_1, hx0_1, _, t0_1_0, t0_1_1⟩ := trs2 Try.underlying24 t0_1
  replace t0_1_0 : DataW.trod enc Try.prog W 0 (fun _ => true) true n0_1 3 [v0_1] = some y0_1_0 := by simpa [Value.cells, kc24_0, kc3_0, kc34_0] using t0_1_0
  obtain ⟨a0_1, e_, _, w0_1⟩ := DataW.trod_int Try.underlying3 t0_1_0
  obtain rfl := List.singleton_inj.1 e_
  replace t0_1_1 : DataW.trod enc Try.prog W 0 (fun _ => true) true n0_1 3 [v0_2] = some y0_1_1 := by simpa [Value.cells, kc24_0, kc3_0, kc34_0] using t0_1_1
  obtain ⟨a0_2, e_, _, w0_2⟩ := DataW.trod_int Try.underlying3 t0_1_1
  obtain rfl := List.singleton_inj.1 e_
  obtain ⟨a1, len1, cap1, rfl⟩ := okWide_slice Try.underlying22 (hval 1 22 v1 rfl rfl)
  have k1 := h1
  have lt1 : ∀ x ∈ p1, x.block < W.heap.size := by obtain ⟨m, hm⟩ := k1; exact DataW.trod_lt m _ _ _ hm
  have k2 := h2
  have lt2 : ∀ x ∈ p2, x.block < W.heap.size := by obtain ⟨m, hm⟩ := k2; exact DataW.trod_lt m _ _ _ hm
  obtain ⟨v2_0, v2_1, y2_0, y2_1, n2, rfl, _, _, t2_0, t2_1⟩ := Go.Joins.open_agg2 Try.underlying24 (by kernel_rfl) (by kernel_rfl) (hval 2 24 v2 rfl rfl) h2
  obtain ⟨a2_0, e_, _, w2_0⟩ := DataW.trod_int Try.underlying3 t2_0
  obtain rfl := List.singleton_inj.1 e_
  obtain ⟨a2_1, e_, _, w2_1⟩ := DataW.trod_int Try.underlying3 t2_1
  obtain rfl := List.singleton_inj.1 e_
  have k3 := h3
  have lt3 : ∀ x ∈ p3, x.block < W.heap.size := by obtain ⟨m, hm⟩ := k3; exact DataW.trod_lt m _ _ _ hm
  obtain ⟨v3_0, v3_1, y3_0, y3_1, n3, rfl, _, _, t3_0, t3_1⟩ := Go.Joins.open_agg2 Try.underlying24 (by kernel_rfl) (by kernel_rfl) (hval 3 24 v3 rfl rfl) h3
  obtain ⟨a3_0, e_, _, w3_0⟩ := DataW.trod_int Try.underlying3 t3_0
  obtain rfl := List.singleton_inj.1 e_
  obtain ⟨a3_1, e_, _, w3_1⟩ := DataW.trod_int Try.underlying3 t3_1
  obtain rfl := List.singleton_inj.1 e_
  clear hA0 hval0 hsz0 hsz
  refine (P.tallymanlaw06_FenceTells.walk Pure.FenceTells a0_0 a0_1 a0_2 a1 len1 cap1 a2_0 a2_1 a3_0 a3_1 W w0_0 w0_1 w0_2 h1 w2_0 w2_1 w3_0 w3_1).mono fun e W' ⟨he, bel⟩ => ?_
  subst he
  exact ⟨_, rfl, _, _, _, [], _, [], hW', trodAll_mk1 (shut_bool Try.underlying4 _), (trodAll_cons_mk (Below.trod laidOut (by kernel_rfl) (of_decide_eq_true (by kernel_rfl)) k0 bel lt0) (trodAll_cons_mk (Below.trod laidOut (by kernel_rfl) (of_decide_eq_true (by kernel_rfl)) k1 bel lt1) (trodAll_cons_mk (Below.trod laidOut (by kernel_rfl) (of_decide_eq_true (by kernel_rfl)) k2 bel lt2) (trodAll_cons_mk (Below.trod laidOut (by kernel_rfl) (of_decide_eq_true (by kernel_rfl)) k3 bel lt3) trodAll_mk0)))), rfl, bel.frame _, fun h => by cases h⟩
theorem over : Rows.fenceTellsRow.holds Try.pinned (OpenSpec.ofChange Rows.fenceTellsSpec) :=
  OpenClaim.holds_of_wide 6 Try.f6 rfl rfl rfl rfl rfl rfl rfl ⟨rfl, rfl, rfl, rfl, rfl⟩ rfl rfl rfl rfl rfl (by kernel_rfl) Try.func6 (by kernel_rfl)
    (of_decide_eq_true (by kernel_rfl)) (by unfold Func.isWrapper; first | (rw [if_pos (by decide +kernel)]; kernel_rfl) | (rw [if_neg (by decide +kernel)]; exact ⟨rfl, rfl⟩))
    (fun os started H enc _ => lifted os started H enc)
theorem proved : Rows.FenceTellsSaid := over
#print axioms proved
end Go.Proofs.Ytpoghhcpoimepaa.fenceTells
namespace Go.Proofs.Ytpoghhcpoimepaa
/-- The row, under a short name, for the claim. -/
theorem fenceTells_holds : Rows.FenceTellsSaid := fenceTells.proved
end Go.Proofs.Ytpoghhcpoimepaa
