/- Several texts of this proof in one: what the law's functions come to, and the lemmas (some as the kit's print.sh printed them, what is not used struck). -/
import Derived.Test.YtpoghhcpoimepaaProg
import Derived.Below
import Derived.Deep.Draws
import Derived.Deep.AppendLies
import Derived.Maps.AppendAt
import Derived.OwnWalk
import Derived.Laws.BytesArg
import Derived.Laws.MakeOwn
import Derived.Laws.OwnMore
import Derived.Deep.OwnRows
import Derived.Tactics
import Derived.Lib.ConvBytes
import Derived.Laws.Slices
import Derived.WalkKit
import Derived.KernelRfl
import Derived.RowKit3
import Derived.Deep.LoopGhost
import Derived.Deep.QuietTactic
import Derived.BigQuiet
import Derived.WideLaws
import Derived.Deep.DeepCutAuto
import Derived.Deep.CutBlock
import Derived.Deep.RegionHeld3
import Derived.Laws.Rows
import Derived.Lib.AppendStr
import Derived.ArgAppend
import Derived.Laws.IdiomCopy
import Derived.OrdersHeld
import Derived.Laws.BitsLemmas
import Derived.RowKit
import Derived.Test.YtpoghhcpoimepaaM1
import Derived.ScopeJumps
import Derived.RegionTactic
import Derived.Laws.ComplexArith
import Derived.Shelf.Abstract
section
-- printed by the session's own call of print.py. Not trusted: Lean checks it.
namespace Go.Proofs.Ytpoghhcpoimepaa.P
open Go.RowKit Go.Proofs.YtpoghhcpoimepaaW.PrintWords Go.Proofs.YtpoghhcpoimepaaW.PrintLast Go.Proofs.YtpoghhcpoimepaaW.PrintMore
attribute [local go_sem] max2_int min2_int max_two min_two max_three min_three max_four min_four
set_option linter.unusedVariables false
set_option linter.unusedSimpArgs false
def errW : Option Int → Value
  | none => .nilIface
  | some c => .iface 0 (.int .i64 c)
theorem errW_none : errW none = .nilIface := rfl
theorem errW_some (c : Int) : errW (some c) = .iface 0 (.int .i64 c) := rfl
theorem info24 : (Try.prog.info? 24).map (fun i => (i.zero, i.size, i.bytes)) = some (some (.agg #[(.int .i64 0), (.int .i64 0)]), 2, 16) := by kernel_rfl
theorem info56 : (Try.prog.info? 56).map (fun i => (i.zero, i.size, i.bytes)) = some (some (.agg #[(.int .i64 0), (.int .i64 0)]), 2, 16) := by kernel_rfl
theorem info87 : (Try.prog.info? 87).map (fun i => (i.zero, i.size, i.bytes)) = some (some (.agg #[(.bool false), (.int .i64 0)]), 2, 16) := by kernel_rfl
-- the values' own types
/-! #### struct type 24 -/
structure S24 where
  f0 : Int
  f1 : Int
def z24 : S24 := ⟨(0 : Int), (0 : Int)⟩
def k24 : Kd S24 := Kd.iso (Kd.pair (Kd.int .i64) (Kd.int .i64)) (fun x : S24 => (x.f0, x.f1))
theorem k24_open {w : World} {x : S24} {cs : List Value} (h : k24.K w x cs) : cs = [.int .i64 x.f0, .int .i64 x.f1] := by
  obtain ⟨_, _, rfl, rfl, rfl⟩ := h
  exact rfl
theorem k24_mkM (w : World) (base : Nat) (ok : Nat → Prop) (x : S24)  : k24.M w base ok x [.int .i64 x.f0, .int .i64 x.f1] := ⟨[.int .i64 x.f0], [.int .i64 x.f1], rfl, rfl, rfl⟩
def rd_T24 (xs : List S24) (i : Int) : S24 := xs.getD i.toNat z24
theorem at_T24 {w : World} {A : Option Addr} {n : Nat} {xs : List S24} (h : Kd.C k24 w A n xs) (i : Int) (h0 : 0 ≤ i) (h1 : i < n) : ∃ ad , A = some ad ∧ w.cell? (ad.add (i.toNat * 2)) = some (.int .i64 (rd_T24 xs i).f0) ∧ w.cell? ⟨(ad.add (i.toNat * 2)).block, (ad.add (i.toNat * 2)).off + 1, none⟩ = some (.int .i64 (rd_T24 xs i).f1) := by
  obtain ⟨ad, c, e, _, hK, hc0⟩ := Kd.C_get h z24 i h0 h1
  have hc : ∀ j u, c[j]? = some u → w.cell? (ad.add (i.toNat * 2 + j)) = some u := hc0
  obtain rfl := k24_open hK
  exact ⟨ad, e, hc 0 _ rfl, by rw [← add_field _ _ 1 (by omega)]; exact hc 1 _ rfl⟩
/-! #### struct type 34 -/
structure S34 where
  f0 : Int
  f1 : S24
/-! #### struct type 56 -/
structure S56 where
  f0 : Int
  f1 : Int
def z56 : S56 := ⟨(0 : Int), (0 : Int)⟩
def k56 : Kd S56 := Kd.iso (Kd.pair (Kd.int .i64) (Kd.int .i64)) (fun x : S56 => (x.f0, x.f1))
theorem k56_open {w : World} {x : S56} {cs : List Value} (h : k56.K w x cs) : cs = [.int .i64 x.f0, .int .i64 x.f1] := by
  obtain ⟨_, _, rfl, rfl, rfl⟩ := h
  exact rfl
theorem k56_mkM (w : World) (base : Nat) (ok : Nat → Prop) (x : S56)  : k56.M w base ok x [.int .i64 x.f0, .int .i64 x.f1] := ⟨[.int .i64 x.f0], [.int .i64 x.f1], rfl, rfl, rfl⟩
def rd_T56 (xs : List S56) (i : Int) : S56 := xs.getD i.toNat z56
theorem at_T56 {w : World} {A : Option Addr} {n : Nat} {xs : List S56} (h : Kd.C k56 w A n xs) (i : Int) (h0 : 0 ≤ i) (h1 : i < n) : ∃ ad , A = some ad ∧ w.cell? (ad.add (i.toNat * 2)) = some (.int .i64 (rd_T56 xs i).f0) ∧ w.cell? ⟨(ad.add (i.toNat * 2)).block, (ad.add (i.toNat * 2)).off + 1, none⟩ = some (.int .i64 (rd_T56 xs i).f1) := by
  obtain ⟨ad, c, e, _, hK, hc0⟩ := Kd.C_get h z56 i h0 h1
  have hc : ∀ j u, c[j]? = some u → w.cell? (ad.add (i.toNat * 2 + j)) = some u := hc0
  obtain rfl := k56_open hK
  exact ⟨ad, e, hc 0 _ rfl, by rw [← add_field _ _ 1 (by omega)]; exact hc 1 _ rfl⟩
/-! #### struct type 87 -/
structure S87 where
  f0 : Bool
  f1 : Int
def z87 : S87 := ⟨false, (0 : Int)⟩
def k87 : Kd S87 := Kd.iso (Kd.pair Kd.bool (Kd.int .i64)) (fun x : S87 => (x.f0, x.f1))
theorem k87_open {w : World} {x : S87} {cs : List Value} (h : k87.K w x cs) : cs = [.bool x.f0, .int .i64 x.f1] := by
  obtain ⟨_, _, rfl, rfl, rfl⟩ := h
  exact rfl
theorem k87_mkM (w : World) (base : Nat) (ok : Nat → Prop) (x : S87)  : k87.M w base ok x [.bool x.f0, .int .i64 x.f1] := ⟨[.bool x.f0], [.int .i64 x.f1], rfl, rfl, rfl⟩
def rd_T87 (xs : List S87) (i : Int) : S87 := xs.getD i.toNat z87
theorem at_T87 {w : World} {A : Option Addr} {n : Nat} {xs : List S87} (h : Kd.C k87 w A n xs) (i : Int) (h0 : 0 ≤ i) (h1 : i < n) : ∃ ad , A = some ad ∧ w.cell? (ad.add (i.toNat * 2)) = some (.bool (rd_T87 xs i).f0) ∧ w.cell? ⟨(ad.add (i.toNat * 2)).block, (ad.add (i.toNat * 2)).off + 1, none⟩ = some (.int .i64 (rd_T87 xs i).f1) := by
  obtain ⟨ad, c, e, _, hK, hc0⟩ := Kd.C_get h z87 i h0 h1
  have hc : ∀ j u, c[j]? = some u → w.cell? (ad.add (i.toNat * 2 + j)) = some u := hc0
  obtain rfl := k87_open hK
  exact ⟨ad, e, hc 0 _ rfl, by rw [← add_field _ _ 1 (by omega)]; exact hc 1 _ rfl⟩
/-! #### struct type 95 -/
structure S95 where
  f0 : Int
  f1 : Int
def z95 : S95 := ⟨(0 : Int), (0 : Int)⟩
def rd_T95 (xs : List S95) (i : Int) : S95 := xs.getD i.toNat z95
end Go.Proofs.Ytpoghhcpoimepaa.P
end
section
-- printed by the session's own call of print.py. Not trusted: Lean checks it.
namespace Go.Proofs.Ytpoghhcpoimepaa.P
open Go.RowKit Go.Proofs.YtpoghhcpoimepaaW.PrintWords Go.Proofs.YtpoghhcpoimepaaW.PrintLast Go.Proofs.YtpoghhcpoimepaaW.PrintMore
attribute [local go_sem] max2_int min2_int max_two min_two max_three min_three max_four min_four
set_option linter.unusedVariables false
set_option linter.unusedSimpArgs false
/-! ### num_put: function 99 -/
def num_put.f (a0 : Int) (a1 : ByteArray) : Option (ByteArray) := (some (([a0] : List Int) : List Int)).bind fun y101 => (if (strOfNums y101).size + a1.size ≤ 9223372036854775807 then (some ((strOfNums y101) ++ a1)) else (none))
set_option maxHeartbeats 8000000 in
set_option maxRecDepth 100000 in
theorem num_put.calls (a0 : Int) (a1 : ByteArray) (r : ByteArray) (w : World) (h : num_put.f a0 a1 = some r) :
    Calls Try.prog 99 #[.int .u8 a0, .string a1] w fun e w' => e = .returned (.string r) ∧ Below w.heap.size w w' := by
  have HB := Aside0.mk (Below.refl w.heap.size w)
  have H : ((some (([a0] : List Int) : List Int)).bind fun y101 => (if (strOfNums y101).size + a1.size ≤ 9223372036854775807 then (some ((strOfNums y101) ++ a1)) else (none))) = some r := h
  clear h
  obtain ⟨y101, hy101⟩ : ∃ y_ : List Int, y_ = (([a0] : List Int)) := ⟨_, rfl⟩
  replace H : (if (strOfNums y101).size + a1.size ≤ 9223372036854775807 then (some ((strOfNums y101) ++ a1)) else (none)) = some r := by first | (rw [hy101]; with_reducible exact H) | (have H2_ := (Option.bind_some _ _).symm.trans H; rw [hy101]; with_reducible exact H2_) | (have H2_ := (Option.bind_some _ _).symm.trans H; with_reducible exact H2_) | with_reducible exact H | (rw [hy101]; exact H) | exact H
  have Ny101 := Aside0.mk hy101
  clear hy101
  by_cases c3 : (strOfNums y101).size + a1.size ≤ 9223372036854775807
  · rw [if_pos c3] at H
    have c3b0 := eq_true c3
    have c3b1 : decide ((strOfNums y101).size + a1.size ≤ 9223372036854775807) = true := decide_eq_true c3
    try have c3b2 : (9223372036854775807 < (strOfNums y101).size + a1.size) = False := eq_false (Nat.not_lt.2 c3)
    obtain rfl := Option.some.inj H
    go_enter Try.func99, Try.ntmps99
    go_wp2_with (first | ((with_reducible refine gate_dst (N := 6) rfl ?_); refine Kd.R_lit (Kd.int .u8) _ 5 ?hg (N := 6) ?hd (xs := ([a0] : List Int)) (inner := [.int .u8 a0]) (ok := fun _ => True) (okp := fun _ => True) ?hr ?hp (fun _ hk => hk) trivial (Below.refl _ _) (Nat.le_refl _) (by simp) ?_; (case hd => rfl); (case hg => rfl); (case hr => first | (go_simp; done) | (go_simp; rfl)); (case hp => exact (Reps.one (show Kd.M (Kd.int .u8) _ _ _ a0 [.int .u8 a0] from rfl) (Reps.none _ _))); intro v102 w4 ho5 hb hg_ hnew_; clear hg_ hnew_; (first | rw [← Ny101.out] at ho5 | (simp only [Int.reduceToNat] at ho5; rw [← Ny101.out] at ho5)); have n0_ := Aside0.mk (Kd.R_lower ho5 (below_size (by repeat (first | (with_reducible first | exact HB.out | apply below_alloc | apply pw_below_drewN | apply below_drew1) | exact HB.out)))); have n1_ := Aside0.mk (below_step (by repeat (first | (with_reducible first | exact HB.out | apply below_alloc | apply pw_below_drewN | apply below_drew1) | exact HB.out)) hb); clear HB; have HO103 := n0_; have HB := n1_; clear n0_ n1_; clear hb ho5; have hcv6 := own_string (P := Try.prog) Try.underlying74 Try.underlying5 Try.underlying9 (Kd.own_of_R HO103.out)))
    go_ret
    exact ⟨by first | rfl | ((repeat first | rw [Int.tdiv_eq_ediv_of_nonneg (by omega)] | rw [Int.tmod_eq_emod_of_nonneg (by omega)]); rfl) | (simp [errW_none, errW_some] <;> rfl) | (simp [*, errW_none, errW_some] <;> rfl), by repeat (first | (with_reducible first | exact HB.out | apply below_alloc | apply pw_below_drewN | apply below_drew1) | exact HB.out)⟩
  · rw [if_neg c3] at H
    exact absurd H (by simp)
end Go.Proofs.Ytpoghhcpoimepaa.P
end
section
namespace Go.Proofs.Ytpoghhcpoimepaa.H
/-- The code behind label l, run inside its scope, comes to Q. -/
def ScopeGo (P : Program) (c rest : Code) (Q : Exit → Act → World → Prop) (a : Act) (w : World) : Prop :=
  ∀ b k cs, ∃ e a' w', Q e a' w' ∧ Arrives P (lone (b.at a (.code rest :: .inScope c :: k)) cs w) b k cs e a' w'
section
variable {P : Program} {a : Act} {w : World} {Q : Exit → Act → World → Prop}
theorem wp_scope_enter {c rest : Code} (l : Nat) (hf : findLabel c l = some rest) (h : c.wp P (Exit.jump l (ScopeGo P c rest Q) Q) a w) : (Code.scope c).wp P Q a w := by
  intro b k cs
  have hg : gotoIn l (.inScope c :: k) = some (.code rest :: .inScope c :: k) := by simp [gotoIn, hf]
  obtain ⟨e, a₁, w₁, hq, harr⟩ := h b (.inScope c :: k) cs
  cases e with
  | normal => exact ⟨.normal, a₁, w₁, hq, .head step_scope (Steps.trans harr (.one step_inScope))⟩
  | exit id => exact ⟨.exit id, a₁, w₁, hq, fun k' hk => .head step_scope (harr k' (by simp [exitTo, hk]))⟩
  | goto l' =>
    obtain ⟨rfl, hJ'⟩ := hq
    obtain ⟨e₂, a₂, w₂, hq₂, harr₂⟩ := hJ' b k cs
    exact ⟨e₂, a₂, w₂, hq₂, .of_steps (.head step_scope (harr _ hg)) harr₂⟩
  | ret => exact ⟨_, a₁, w₁, hq, .of_steps (.one step_scope) harr⟩
  | panic ch => exact ⟨_, a₁, w₁, hq, .of_steps (.one step_scope) harr⟩
  | outgrown => exact ⟨_, a₁, w₁, hq, .of_steps (.one step_scope) harr⟩
theorem scopeGo_of {c rest : Code} (l : Nat) (I : Nat → Act → World → Prop) (hf : findLabel c l = some rest)
    (pass : ∀ n a w, I n a w → rest.wp P (Exit.jump l (fun a' w' => ∃ n', n' < n ∧ I n' a' w') Q) a w) : ∀ n a w, I n a w → ScopeGo P c rest Q a w := by
  intro n
  induction n using Nat.strongRecOn with
  | _ n ih =>
    intro a w hI b k cs
    have hg : gotoIn l (.inScope c :: k) = some (.code rest :: .inScope c :: k) := by simp [gotoIn, hf]
    obtain ⟨e, a₁, w₁, hq, harr⟩ := pass n a w hI b (.inScope c :: k) cs
    cases e with
    | normal => exact ⟨.normal, a₁, w₁, hq, Steps.trans harr (.one step_inScope)⟩
    | exit id => exact ⟨.exit id, a₁, w₁, hq, fun k' hk => harr k' (by simp [exitTo, hk])⟩
    | goto l' =>
      obtain ⟨rfl, n', hlt, hJ'⟩ := hq
      obtain ⟨e₂, a₂, w₂, hq₂, harr₂⟩ := ih n' hlt a₁ w₁ hJ' b k cs
      exact ⟨e₂, a₂, w₂, hq₂, .of_steps (harr _ hg) harr₂⟩
    | ret => exact ⟨_, a₁, w₁, hq, harr⟩
    | panic ch => exact ⟨_, a₁, w₁, hq, harr⟩
    | outgrown => exact ⟨_, a₁, w₁, hq, harr⟩
def putS (a : Act) : List Tmp → List Value → Act
  | d :: ds, u :: us => putS (a.put (some d) u) ds us
  | _, _ => a
theorem put_self (a : Act) (d : Tmp) : a.put (some d) (a.tmps.getD d undef) = a := by
  cases a with
  | mk tmps defers =>
    simp only [Act.put, Act.mk.injEq, and_true]
    apply Array.ext (by simp)
    intro i h1 h2
    rw [Array.getElem_setIfInBounds]
    split
    · rename_i e; subst e; simp [h2]
    · rfl
theorem putS_self (a : Act) (ds : List Tmp) : putS a ds (ds.map fun d => a.tmps.getD d undef) = a := by
  induction ds with
  | nil => rfl
  | cons d ds ih => rw [List.map_cons, putS, put_self]; exact ih
theorem wp_skip_seq {X : Code} (h : X.wp P Q a w) : (Code.seq .skip X).wp P Q a w := wp_seq (wp_skip h)
/-- At the label: ds: the slots that the code behind it writes. -/
theorem wp_label_slots {c X : Code} (l : Nat) (hf : findLabel c l = some (.seq .skip X)) (ds : List Tmp) (R : Nat → List Value → World → Prop) (n₀ : Nat) (h₀ : R n₀ (ds.map fun d => a.tmps.getD d undef) w)
    (round : ∀ n us w, us.length = ds.length → R n us w → ∀ (J : Nat → Act → World → Prop) (K : Act → World → Prop), (∀ k us' a' w', us'.length = ds.length → putS a ds us' = a' → R k us' w' → J k a' w') → (∀ a' w', Handed J n a' w' → K a' w') →
      X.wp P (Exit.jump l K Q) (putS a ds us) w) : X.wp P (Exit.jump l (ScopeGo P c (.seq .skip X) Q) Q) a w := by
  have hp : ∀ n a' w', (∃ us, us.length = ds.length ∧ a' = putS a ds us ∧ R n us w') → X.wp P (Exit.jump l (fun a'' w'' => ∃ n', n' < n ∧ (∃ us, us.length = ds.length ∧ a'' = putS a ds us ∧ R n' us w'')) Q) a' w' := by
    rintro n _ w ⟨us, hl, rfl, hR⟩
    exact round n us w hl hR _ _ (fun k us' a' w' hl' ha hR' => ⟨us', hl', ha.symm, hR'⟩) (fun _ _ h => h)
  refine wp_mono (hp n₀ a w ⟨_, by simp, (putS_self a ds).symm, h₀⟩) ?_
  intro e a' w' hq
  cases e with
  | goto l' =>
    obtain ⟨rfl, n', _, hI⟩ := hq
    exact ⟨rfl, scopeGo_of l' _ hf (fun n a w h => wp_skip_seq (hp n a w h)) n' a' w' hI⟩
  | normal => exact hq
  | exit id => exact hq
  | ret => exact hq
  | panic ch => exact hq
  | outgrown => exact hq
end
end Go.Proofs.Ytpoghhcpoimepaa.H
end
section
namespace Go.Proofs.Ytpoghhcpoimepaa.B
open Go.RowKit
theorem wrap_u64 (n : Int) : IntKind.u64.wrap n = n % 18446744073709551616 := by simp [IntKind.wrap, IntKind.bits, IntKind.signed]
theorem wrap_i64 (n : Int) : IntKind.i64.wrap n = wrap64 n := by
  simp only [IntKind.wrap, IntKind.bits, IntKind.signed, wrap64, Bool.true_and, ge_iff_le, decide_eq_true_eq]
  by_cases h : (2 : Int) ^ (64 - 1) ≤ n % 2 ^ 64
  · rw [if_pos h]; omega
  · rw [if_neg h]; omega
/-- Exclusive or with nought, and with all ones. -/
theorem xor_zero (k : IntKind) (x : Int) (hx : k.wrap x = x) : bits .xor k x 0 = x := by
  have h1 : BitVec.ofInt k.bits 0 = 0#k.bits := by rfl
  simp only [bits, h1, BitVec.xor_zero]
  rw [BitVec.toNat_ofInt]
  have hw : ∀ n : Int, k.wrap n = k.wrap (n % 2 ^ k.bits) := fun n => by simp only [IntKind.wrap, Int.emod_emod]
  rw [show ((x % ((2 ^ k.bits : Nat) : Int)).toNat : Int) = x % 2 ^ k.bits from by
    rw [Int.toNat_of_nonneg (Int.emod_nonneg _ (by exact_mod_cast (Nat.pos_iff_ne_zero.1 (Nat.two_pow_pos _))))]; norm_cast]
  rw [← hw, hx]
end Go.Proofs.Ytpoghhcpoimepaa.B
end
section
/- num.digits. -/
namespace Go.Proofs.Ytpoghhcpoimepaa.P
open Go.Proofs.Ytpoghhcpoimepaa.B Go.RowKit Go.Proofs.YtpoghhcpoimepaaW.PrintWords Go.Proofs.YtpoghhcpoimepaaW.PrintLast Go.Proofs.YtpoghhcpoimepaaW.PrintMore Go.Proofs.Ytpoghhcpoimepaa.H
set_option linter.unusedVariables false
set_option linter.unusedSimpArgs false
/-- A digit's byte. -/
def digB (d : Nat) : UInt8 := if d < 10 then UInt8.ofNat (48 + d) else UInt8.ofNat (87 + d)
def digL (b : Nat) : Nat → Nat → List UInt8 → List UInt8
  | 0, _, acc => acc
  | k + 1, w, acc => if w / b = 0 then digB (w % b) :: acc else digL b k (w / b) (digB (w % b) :: acc)
def num_digits.f (a0 : Int) (a1 : Int) : Option (ByteArray) := if 0 ≤ a0 ∧ a0 ≤ 18446744073709551615 ∧ 2 ≤ a1 ∧ a1 ≤ 16 then some ⟨(digL a1.toNat 64 a0.toNat []).toArray⟩ else none
theorem put_is (d : Nat) (hd : d < 16) (acc : List UInt8) (hl : acc.length ≤ 64) : num_put.f ((digB d).toNat : Int) ⟨acc.toArray⟩ = some ⟨(digB d :: acc).toArray⟩ := by
  unfold num_put.f
  have e : strOfNums [((digB d).toNat : Int)] ++ ⟨acc.toArray⟩ = (⟨(digB d :: acc).toArray⟩ : ByteArray) := by
    apply ByteArray.ext
    simp [strOfNums]
  have hs : (strOfNums [((digB d).toNat : Int)]).size + (⟨acc.toArray⟩ : ByteArray).size ≤ 9223372036854775807 := by
    have : (strOfNums [((digB d).toNat : Int)]).size = 1 := by simp [strOfNums, ByteArray.size]
    rw [this]; simp [ByteArray.size]; omega
  simp only [Option.bind_some]
  rw [if_pos hs, e]
theorem two_pow_half {k v b : Nat} (hb : 2 ≤ b) (h : v < 2 ^ (k + 1)) : v / b < 2 ^ k := by
  have h1 : v / b ≤ v / 2 := Nat.div_le_div_left hb (by decide)
  rw [Nat.pow_succ] at h
  omega
def DigPost (w : World) (r : ByteArray) (e : Ending) (w' : World) : Prop := e = .returned (.string r) ∧ Below w.heap.size w w'
theorem all_at : ∀ (d : Nat) (hd : d < 16) (h : d < (⟨#[48, 49, 50, 51, 52, 53, 54, 55, 56, 57, 97, 98, 99, 100, 101, 102]⟩ : ByteArray).size), (⟨#[48, 49, 50, 51, 52, 53, 54, 55, 56, 57, 97, 98, 99, 100, 101, 102]⟩ : ByteArray)[d]'h = digB d := by
  intro d hd
  have : ∀ d : Fin 16, ∀ h : d.1 < (⟨#[48, 49, 50, 51, 52, 53, 54, 55, 56, 57, 97, 98, 99, 100, 101, 102]⟩ : ByteArray).size, (⟨#[48, 49, 50, 51, 52, 53, 54, 55, 56, 57, 97, 98, 99, 100, 101, 102]⟩ : ByteArray)[d.1]'h = digB d.1 := by decide
  exact this ⟨d, hd⟩
theorem put_at (d : Nat) (hd : d < 16) (h : d < (⟨#[48, 49, 50, 51, 52, 53, 54, 55, 56, 57, 97, 98, 99, 100, 101, 102]⟩ : ByteArray).size) (acc : List UInt8) (hl : acc.length ≤ 64) (w : World) :
    Calls Try.prog 99 #[.int .u8 (((⟨#[48, 49, 50, 51, 52, 53, 54, 55, 56, 57, 97, 98, 99, 100, 101, 102]⟩ : ByteArray)[d]'h).toNat : Int), .string ⟨acc.toArray⟩] w (DigPost w ⟨(digB d :: acc).toArray⟩) := by
  rw [all_at d hd h]
  exact num_put.calls _ _ _ w (put_is d hd acc hl)
set_option maxHeartbeats 4000000 in
set_option maxRecDepth 100000 in
theorem digits_calls (a b : Nat) (w : World) (ha : a < 2 ^ 64) (hb2 : 2 ≤ b) (hb16 : b ≤ 16) :
    Calls Try.prog 91 #[.int .u64 (a : Int), .int .u64 (b : Int)] w (DigPost w ⟨(digL b 64 a []).toArray⟩) := by
  obtain ⟨D, hD⟩ : ∃ D, digL b 64 a [] = D := ⟨_, rfl⟩
  rw [hD]
  have HD := Aside0.mk hD; clear hD
  have HA := Aside0.mk ha; clear ha
  have hb0 : ((b : Int) == 0) = false := beq_eq_false_iff_ne.mpr (by omega)
  go_enter Try.func91, Try.ntmps91
  go_wp2
  refine wp_scope_enter 0 rfl ?_
  go_wp2
  go_step3
  simp only [Exit.then]
  rename_i hk
  refine hk _ _ ?_
  clear hk
  refine wp_label_slots 0 (by rfl) (List.range' 0 18) (fun n us wr => ∃ (k v : Nat) (acc : List UInt8), n = k + 1 ∧ acc.length + (k + 1) = 64 ∧ Aside0 (v < 2 ^ (k + 1)) ∧ us.getD 0 undef = .int .u64 v ∧ us.getD 1 undef = .int .u64 b ∧ us.getD 5 undef = .string ⟨acc.toArray⟩ ∧ Aside0 (digL b (k + 1) v acc = D) ∧ Aside0 (Below w.heap.size w wr)) 64 ?_ ?_
  · exact ⟨63, a, [], rfl, rfl, HA, rfl, rfl, rfl, HD, ⟨Below.refl _ _⟩⟩
  · rintro n us wr hl ⟨k, v, acc, rfl, hacc, HV, h0, h1, h5, HL, HB⟩ J K hJ hK
    clear HA HD
    simp only [List.length_range'] at hl
    match us, hl with
    | u0 :: u1 :: u2 :: u3 :: u4 :: u5 :: u6 :: u7 :: u8 :: u9 :: u10 :: u11 :: u12 :: u13 :: u14 :: u15 :: u16 :: u17 :: [], _ =>
    simp only [List.getD_cons_succ, List.getD_cons_zero] at h0 h1 h5
    subst h0 h1 h5
    simp only [List.range', putS, Act.put, List.setIfInBounds_toArray, List.set_cons_zero, List.set_cons_succ]
    rename_i hx
    clear hx
    have hJ2 := fun (k : Nat) (v0 v1 v2 v3 v4 v5 v6 v7 v8 v9 v10 v11 v12 v13 v14 v15 v16 v17 : Value) (w' : World) => hJ k (v0 :: v1 :: v2 :: v3 :: v4 :: v5 :: v6 :: v7 :: v8 :: v9 :: v10 :: v11 :: v12 :: v13 :: v14 :: v15 :: v16 :: v17 :: []) _ w' rfl rfl
    clear hJ
    simp only [List.range', putS, Act.put, List.setIfInBounds_toArray, List.set_cons_zero, List.set_cons_succ] at hJ2
    have HJ := Aside0.mk hJ2; clear hJ2
    have HK := Aside0.mk hK; clear hK
    obtain ⟨d, Hd⟩ : ∃ d, Aside0 (v % b = d) := ⟨_, ⟨rfl⟩⟩
    obtain ⟨q, Hq⟩ : ∃ q, Aside0 (v / b = q) := ⟨_, ⟨rfl⟩⟩
    have hd : d < 16 := by have := Nat.mod_lt v (show b > 0 by omega); have := Hd.out; omega
    have hm : (v : Int) % (b : Int) = (d : Int) := by rw [← Hd.out]; omega
    have hq : (v : Int) / (b : Int) = (q : Int) := by rw [← Hq.out]; omega
    have hd0 : 0 ≤ (d : Int) ∧ (d : Int) < 16 := by omega
    have hacc1 : acc.length ≤ 64 := by omega
    have hL := HL.out
    rw [digL, Hd.out, Hq.out] at hL
    have hqk : q < 2 ^ k := by rw [← Hq.out]; exact two_pow_half hb2 HV.out
    have hv64 : v < 2 ^ 64 := Nat.lt_of_lt_of_le HV.out (Nat.pow_le_pow_right (by decide) (by omega))
    have hwr : IntKind.u64.wrap (q : Int) = (q : Int) := by
      have : q ≤ v := by rw [← Hq.out]; exact Nat.div_le_self _ _
      rw [wrap_u64]; omega
    clear HL HV Hd Hq hv64
    by_cases hz : q = 0
    · rw [if_pos hz] at hL
      subst hz
      have HL := Aside0.mk hL; clear hL
      go_wp2_with (go_at_call 99; refine (put_at d hd _ acc hacc1 _).mono ?_; rintro e w' ⟨rfl, hb⟩; have HB2 := Aside0.mk (below_step HB.out hb); clear hb HB)
      simp only [Exit.jump]
      go_ret
      rw [HL.out]
      exact ⟨rfl, HB2.out⟩
    · rw [if_neg hz] at hL
      have HL := Aside0.mk hL; clear hL
      have hq0 : (0 < q) = True := by simp; omega
      obtain ⟨k, rfl⟩ : ∃ k', k = k' + 1 := by
        cases k with
        | zero => exact absurd hqk (by omega)
        | succ k => exact ⟨k, rfl⟩
      have HQ := Aside0.mk hqk; clear hqk
      go_wp2_with (go_at_call 99; refine (put_at d hd _ acc hacc1 _).mono ?_; rintro e w' ⟨rfl, hb⟩; have HB2 := Aside0.mk (below_step HB.out hb); clear hb HB)
      go_step3
      exact ⟨rfl, HK.out _ _ (Handed.intro (k + 1) (by omega) (HJ.out _ _ _ _ _ _ _ _ _ _ _ _ _ _ _ _ _ _ _ _ ⟨k, q, digB d :: acc, rfl, by simp; omega, HQ, rfl, rfl, rfl, HL, HB2⟩))⟩
theorem num_digits.calls (a0 : Int) (a1 : Int) (r : ByteArray) (w : World) (h : num_digits.f a0 a1 = some r) :
    Calls Try.prog 91 #[.int .u64 a0, .int .u64 a1] w fun e w' => e = .returned (.string r) ∧ Below w.heap.size w w' := by
  unfold num_digits.f at h
  split at h
  · rename_i hc
    obtain ⟨h0, h1, h2, h3⟩ := hc
    obtain ⟨a, rfl⟩ := Int.eq_ofNat_of_zero_le h0
    obtain ⟨b, rfl⟩ := Int.eq_ofNat_of_zero_le (show 0 ≤ a1 by omega)
    obtain rfl := Option.some.inj h
    exact digits_calls a b w (by omega) (by omega) (by omega)
  · cases h
end Go.Proofs.Ytpoghhcpoimepaa.P
end
section
-- printed by the session's own call of print.py. Not trusted: Lean checks it.
namespace Go.Proofs.Ytpoghhcpoimepaa.P
open Go.RowKit Go.Proofs.YtpoghhcpoimepaaW.PrintWords Go.Proofs.YtpoghhcpoimepaaW.PrintLast Go.Proofs.YtpoghhcpoimepaaW.PrintMore
attribute [local go_sem] max2_int min2_int max_two min_two max_three min_three max_four min_four
set_option linter.unusedVariables false
set_option linter.unusedSimpArgs false
/-! ### num_Print: function 63 -/
def num_Print.f (a0 : Int) : Option (ByteArray) := if a0 < 0 then ((num_digits.f (IntKind.u64.wrap (-(IntKind.u64.wrap (a0)))) 10).bind fun t101 => (if 1 + t101.size ≤ 9223372036854775807 then (some ((⟨#[45]⟩ : ByteArray) ++ t101)) else (none))) else ((num_digits.f (IntKind.u64.wrap (a0)) 10).bind fun t102 => (some t102))
set_option maxHeartbeats 8000000 in
set_option maxRecDepth 100000 in
theorem num_Print.calls (a0 : Int) (r : ByteArray) (w : World) (h : num_Print.f a0 = some r) :
    Calls Try.prog 63 #[.int .i64 a0] w fun e w' => e = .returned (.string r) ∧ Below w.heap.size w w' := by
  have HB := Aside0.mk (Below.refl w.heap.size w)
  have H : (if a0 < 0 then ((num_digits.f (IntKind.u64.wrap (-(IntKind.u64.wrap (a0)))) 10).bind fun t101 => (if 1 + t101.size ≤ 9223372036854775807 then (some ((⟨#[45]⟩ : ByteArray) ++ t101)) else (none))) else ((num_digits.f (IntKind.u64.wrap (a0)) 10).bind fun t102 => (some t102))) = some r := h
  clear h
  by_cases c2 : a0 < 0
  · rw [if_pos c2] at H
    have c2b0 : decide (a0 < 0) = true := decide_eq_true c2
    clear c2
    replace H := Option.bind_eq_some_iff.mp H
    obtain ⟨t101, A30, H⟩ := H
    replace H : (if 1 + t101.size ≤ 9223372036854775807 then (some ((⟨#[45]⟩ : ByteArray) ++ t101)) else (none)) = some r := H
    have A3 := Aside0.mk A30
    clear A30
    by_cases c4 : 1 + t101.size ≤ 9223372036854775807
    · rw [if_pos c4] at H
      have c4b0 := eq_true c4
      have c4b1 : decide (1 + t101.size ≤ 9223372036854775807) = true := decide_eq_true c4
      try have c4b2 : (9223372036854775807 < 1 + t101.size) = False := eq_false (Nat.not_lt.2 c4)
      obtain rfl := Option.some.inj H
      go_enter Try.func63, Try.ntmps63
      go_wp2_with (first | ((with_reducible refine gate_callee (f := 91) rfl ?_); refine goesL_ (some 8) rfl rfl Try.func91 (by kernel_rfl) rfl #[.int .u64 (IntKind.u64.wrap (-(IntKind.u64.wrap (a0)))), .int .u64 10] rfl (by (try simp only [List.map_toArray, List.map_cons, List.map_nil]); first | done | rfl | (simp only [List.length_drop, List.length_take]; rfl)) ?_; (with_reducible refine (num_digits.calls (IntKind.u64.wrap (-(IntKind.u64.wrap (a0)))) 10 t101 _ A3.out).mono ?_); rintro e w5 ⟨rfl, hb⟩; refine ⟨_, rfl, ?_⟩; have n0_ := Aside0.mk (below_step (by repeat (first | (with_reducible first | exact HB.out | apply below_alloc | apply pw_below_drewN | apply below_drew1) | exact HB.out)) hb); clear HB; have HB := n0_; clear n0_; (try clear hb); (try clear hb2); (try clear hk); (try clear hi)))
      go_ret
      exact ⟨by first | rfl | ((repeat first | rw [Int.tdiv_eq_ediv_of_nonneg (by omega)] | rw [Int.tmod_eq_emod_of_nonneg (by omega)]); rfl) | (simp [errW_none, errW_some] <;> rfl) | (simp [*, errW_none, errW_some] <;> rfl), by repeat (first | (with_reducible first | exact HB.out | apply below_alloc | apply pw_below_drewN | apply below_drew1) | exact HB.out)⟩
    · rw [if_neg c4] at H
      exact absurd H (by simp)
  · rw [if_neg c2] at H
    have c2b0 : decide (a0 < 0) = false := decide_eq_false c2
    clear c2
    replace H := Option.bind_eq_some_iff.mp H
    obtain ⟨t102, A60, H⟩ := H
    replace H : (some t102) = some r := H
    have A6 := Aside0.mk A60
    clear A60
    obtain rfl := Option.some.inj H
    go_enter Try.func63, Try.ntmps63
    go_wp2_with (first | ((with_reducible refine gate_callee (f := 91) rfl ?_); refine goesL_ (some 12) rfl rfl Try.func91 (by kernel_rfl) rfl #[.int .u64 (IntKind.u64.wrap (a0)), .int .u64 10] rfl (by (try simp only [List.map_toArray, List.map_cons, List.map_nil]); first | done | rfl | (simp only [List.length_drop, List.length_take]; rfl)) ?_; (with_reducible refine (num_digits.calls (IntKind.u64.wrap (a0)) 10 t102 _ A6.out).mono ?_); rintro e w7 ⟨rfl, hb⟩; refine ⟨_, rfl, ?_⟩; have n0_ := Aside0.mk (below_step (by repeat (first | (with_reducible first | exact HB.out | apply below_alloc | apply pw_below_drewN | apply below_drew1) | exact HB.out)) hb); clear HB; have HB := n0_; clear n0_; (try clear hb); (try clear hb2); (try clear hk); (try clear hi)))
    go_ret
    exact ⟨by first | rfl | ((repeat first | rw [Int.tdiv_eq_ediv_of_nonneg (by omega)] | rw [Int.tmod_eq_emod_of_nonneg (by omega)]); rfl) | (simp [errW_none, errW_some] <;> rfl) | (simp [*, errW_none, errW_some] <;> rfl), by repeat (first | (with_reducible first | exact HB.out | apply below_alloc | apply pw_below_drewN | apply below_drew1) | exact HB.out)⟩
end Go.Proofs.Ytpoghhcpoimepaa.P
end
section
-- printed by the session's own call of print.py. Not trusted: Lean checks it.
namespace Go.Proofs.Ytpoghhcpoimepaa.P
open Go.RowKit Go.Proofs.YtpoghhcpoimepaaW.PrintWords Go.Proofs.YtpoghhcpoimepaaW.PrintLast Go.Proofs.YtpoghhcpoimepaaW.PrintMore
attribute [local go_sem] max2_int min2_int max_two min_two max_three min_three max_four min_four
set_option linter.unusedVariables false
set_option linter.unusedSimpArgs false
/-! ### tallymanref01_Print: function 66 -/
mutual
def tallymanref01_Print.j0 : Nat → Int → Bool → Option (ByteArray)
  | 0, _, _ => none
  | k + 1, x0, x8 => if x8 = true then (if 0 ≤ x0 then (if x0 ≤ (wrap64 (x0 + 1)) then (if (wrap64 (x0 + 1)) ≤ 10 then (some ((⟨#[48, 49, 50, 51, 52, 53, 54, 55, 56, 57]⟩ : ByteArray).extract (x0 : Int).toNat ((wrap64 (x0 + 1)) : Int).toNat)) else (none)) else (none)) else (none)) else (if x0 ≥ 0 then ((tallymanref01_Print.f k (wrap64 (Int.tdiv x0 10))).bind fun t101 => ((tallymanref01_Print.f k (Int.tmod x0 10)).bind fun t102 => (if t101.size + t102.size ≤ 9223372036854775807 then (some (t101 ++ t102)) else (none)))) else (if x0 > (-10) then ((tallymanref01_Print.f k (wrap64 (-x0))).bind fun t103 => (if 1 + t103.size ≤ 9223372036854775807 then (some ((⟨#[45]⟩ : ByteArray) ++ t103)) else (none))) else ((tallymanref01_Print.f k (wrap64 (Int.tdiv x0 10))).bind fun t104 => ((tallymanref01_Print.f k (wrap64 (-(Int.tmod x0 10)))).bind fun t105 => (if t104.size + t105.size ≤ 9223372036854775807 then (some (t104 ++ t105)) else (none))))))
def tallymanref01_Print.f : Nat → Int → Option (ByteArray)
  | 0, _ => none
  | k + 1, a0 => if a0 ≥ 0 then (tallymanref01_Print.j0 k a0 (decide (a0 ≤ 9))) else (tallymanref01_Print.j0 k a0 false)
end
theorem tallymanref01_Print.mono_l : ∀ k, (∀ y0, LeO (tallymanref01_Print.f k y0) (tallymanref01_Print.f (k + 1) y0)) ∧ (∀ y0 y1, LeO (tallymanref01_Print.j0 k y0 y1) (tallymanref01_Print.j0 (k + 1) y0 y1))
  | 0 => ⟨fun _ r h => by simp [tallymanref01_Print.f] at h, fun _ _ r h => by simp [tallymanref01_Print.j0] at h⟩
  | k + 1 => by
    obtain ⟨ih0, ih1⟩ := tallymanref01_Print.mono_l k
    refine ⟨?_, ?_⟩
    · intro y0
      unfold tallymanref01_Print.f
      repeat' first
      | (with_reducible exact ih0 _)
      | (with_reducible exact ih1 _ _)
      | (with_reducible exact LeO.refl _)
      | (with_reducible exact LeO.none _)
      | (with_reducible refine LeO.ite ?_ ?_)
      | (with_reducible refine LeO.bind ?_ (fun _ => ?_))
      | exact ih0 _
      | exact ih1 _ _
      | exact LeO.none _
      | refine LeO.ite ?_ ?_
      | refine LeO.bind ?_ (fun _ => ?_)
    · intro y0 y1
      unfold tallymanref01_Print.j0
      repeat' first
      | (with_reducible exact ih0 _)
      | (with_reducible exact ih1 _ _)
      | (with_reducible exact LeO.refl _)
      | (with_reducible exact LeO.none _)
      | (with_reducible refine LeO.ite ?_ ?_)
      | (with_reducible refine LeO.bind ?_ (fun _ => ?_))
      | exact ih0 _
      | exact ih1 _ _
      | exact LeO.none _
      | refine LeO.ite ?_ ?_
      | refine LeO.bind ?_ (fun _ => ?_)
theorem tallymanref01_Print.mono : ∀ a0 k, LeO (tallymanref01_Print.f k a0) (tallymanref01_Print.f (k + 1) a0) := by
  intro a0 k
  obtain ⟨ih0, ih1⟩ := tallymanref01_Print.mono_l k
  exact ih0 a0
end Go.Proofs.Ytpoghhcpoimepaa.P
end
section
/- Plain lemmas: what Print comes to, the code's and the document's. -/
namespace Go.Proofs.Ytpoghhcpoimepaa.P
open Go.Proofs.Ytpoghhcpoimepaa.B Go.RowKit Go.Proofs.YtpoghhcpoimepaaW.PrintWords Go.Proofs.YtpoghhcpoimepaaW.PrintLast Go.Proofs.YtpoghhcpoimepaaW.PrintMore
set_option linter.unusedVariables false
set_option linter.unusedSimpArgs false
theorem size_l (l : List UInt8) : (⟨l.toArray⟩ : ByteArray).size = l.length := by simp [ByteArray.size]
theorem append_l (l m : List UInt8) : (⟨l.toArray⟩ : ByteArray) ++ ⟨m.toArray⟩ = ⟨(l ++ m).toArray⟩ := by
  apply ByteArray.ext; simp
/-- The digits of a number. -/
def toD (b : Nat) : Nat → Nat → List UInt8
  | 0, _ => []
  | k + 1, w => if w / b = 0 then [digB (w % b)] else toD b k (w / b) ++ [digB (w % b)]
theorem digL_toD (b : Nat) : ∀ (k w : Nat) (acc : List UInt8), digL b k w acc = toD b k w ++ acc := by
  intro k
  induction k with
  | zero => intro w acc; rfl
  | succ k ih =>
    intro w acc
    rw [digL, toD]
    split
    · rfl
    · rw [ih, List.append_assoc]; rfl
theorem toD_len (b : Nat) : ∀ (k w : Nat), (toD b k w).length ≤ k := by
  intro k
  induction k with
  | zero => intro w; simp [toD]
  | succ k ih =>
    intro w
    rw [toD]
    split
    · simp
    · have := ih (w / b); simp; omega
theorem digits_f (b w : Nat) (hb : 2 ≤ b) (hb16 : b ≤ 16) (hw : w < 2 ^ 64) : num_digits.f (w : Int) (b : Int) = some ⟨(toD b 64 w).toArray⟩ := by
  unfold num_digits.f
  rw [if_pos ⟨by omega, by omega, by omega, by omega⟩, Int.toNat_natCast, Int.toNat_natCast, digL_toD, List.append_nil]
def printS (n : Int) : List UInt8 := if n < 0 then 45 :: toD 10 64 n.natAbs else toD 10 64 n.natAbs
theorem print_code (n : Int) (h0 : -9223372036854775808 ≤ n) (h1 : n ≤ 9223372036854775807) : num_Print.f n = some ⟨(printS n).toArray⟩ := by
  unfold num_Print.f printS
  by_cases h : n < 0
  · rw [if_pos h, if_pos h, show IntKind.u64.wrap (-(IntKind.u64.wrap n)) = ((n.natAbs : Nat) : Int) from by rw [wrap_u64, wrap_u64]; omega]
    rw [show (num_digits.f (n.natAbs : Int) 10) = _ from digits_f 10 n.natAbs (by decide) (by decide) (by omega), Option.bind_some, size_l]
    have := toD_len 10 64 n.natAbs
    rw [if_pos (by omega)]
    exact congrArg some (append_l [45] _)
  · rw [if_neg h, if_neg h, show IntKind.u64.wrap n = ((n.natAbs : Nat) : Int) from by rw [wrap_u64]; omega]
    rw [show (num_digits.f (n.natAbs : Int) 10) = _ from digits_f 10 n.natAbs (by decide) (by decide) (by omega), Option.bind_some]
theorem w64_id {x : Int} (h0 : -9223372036854775808 ≤ x) (h1 : x ≤ 9223372036854775807) : wrap64 x = x := by unfold wrap64; omega
end Go.Proofs.Ytpoghhcpoimepaa.P
end
section
-- printed by the session's own call of print.py. Not trusted: Lean checks it.
namespace Go.Proofs.Ytpoghhcpoimepaa.P
open Go.RowKit Go.Proofs.YtpoghhcpoimepaaW.PrintWords Go.Proofs.YtpoghhcpoimepaaW.PrintLast Go.Proofs.YtpoghhcpoimepaaW.PrintMore
attribute [local go_sem] max2_int min2_int max_two min_two max_three min_three max_four min_four
set_option linter.unusedVariables false
set_option linter.unusedSimpArgs false
/-! ### walk_often: function 60 -/
def walk_often.f (a0_0 : Int) (a0_1 : Int) : Option (Int) := if a0_0 < 1 then (some 0) else (if a0_0 > 4 then (some 0) else (some (mx (mn a0_1 1048576) 0)))
set_option maxHeartbeats 8000000 in
set_option maxRecDepth 100000 in
theorem walk_often.calls (a0_0 : Int) (a0_1 : Int) (r : Int) (w : World) (h : walk_often.f a0_0 a0_1 = some r) :
    Calls Try.prog 60 #[.agg #[.int .i64 a0_0, .int .i64 a0_1]] w fun e w' => e = .returned (.int .i64 r) ∧ Below w.heap.size w w' := by
  have hu56 := Try.underlying56
  have HB := Aside0.mk (Below.refl w.heap.size w)
  have H : (if a0_0 < 1 then (some 0) else (if a0_0 > 4 then (some 0) else (some (mx (mn a0_1 1048576) 0)))) = some r := h
  clear h
  by_cases c2 : a0_0 < 1
  · rw [if_pos c2] at H
    have c2b0 : decide (a0_0 < 1) = true := decide_eq_true c2
    clear c2
    obtain rfl := Option.some.inj H
    go_enter Try.func60, Try.ntmps60
    go_wp2_with (first | ((with_reducible refine gate_dst (N := 1) rfl ?_); refine box_event ?hg (N := 1) ?hd (cs := #[.int .i64 a0_0, .int .i64 a0_1]) (t := 56) ?hr ?_; (case hd => rfl); (case hg => rfl); (case hr => first | (go_simp; done) | (go_simp; rfl)); intro gb101 hg w3 hbox hb; have n0_ := Aside0.mk (below_step (by repeat (first | (with_reducible first | exact HB.out | apply below_alloc | apply pw_below_drewN | apply below_drew1) | exact HB.out)) hb); have n1_ := Aside0.mk (hbox); have n2_ := Aside0.mk ((by rw [hg]; exact (below_size (by repeat (first | (with_reducible first | exact HB.out | apply below_alloc | apply pw_below_drewN | apply below_drew1) | exact HB.out))) : w.heap.size ≤ gb101)); have n3_ := Aside0.mk ((by rw [hg]; exact (below_size (by repeat (first | (with_reducible first | exact HB.out | apply below_alloc | apply pw_below_drewN | apply below_drew1) | exact HB.out))) : w.heap.size ≤ gb101)); clear HB; have HB := n0_; have BK101 := n1_; have GW101 := n2_; have GE101 := n3_; clear n0_ n1_ n2_ n3_; clear hb hbox hg; have hcz4_0 : w3.cell? ⟨gb101, 0, none⟩ = some (.int .i64 a0_0) := (blk_cell BK101.out 0).trans rfl; have hcz4_1 : w3.cell? ⟨gb101, 1, none⟩ = some (.int .i64 a0_1) := (blk_cell BK101.out 1).trans rfl; have hfz4_0 := blk_frozen BK101.out 0; have hfz4_1 := blk_frozen BK101.out 1))
    go_ret
    exact ⟨by first | rfl | ((repeat first | rw [Int.tdiv_eq_ediv_of_nonneg (by omega)] | rw [Int.tmod_eq_emod_of_nonneg (by omega)]); rfl) | (simp [errW_none, errW_some] <;> rfl) | (simp [*, errW_none, errW_some] <;> rfl), by repeat (first | (with_reducible first | exact HB.out | apply below_alloc | apply pw_below_drewN | apply below_drew1 | refine below_set ?_ GE101.out) | exact HB.out)⟩
  · rw [if_neg c2] at H
    have c2b0 : decide (a0_0 < 1) = false := decide_eq_false c2
    clear c2
    by_cases c5 : a0_0 > 4
    · rw [if_pos c5] at H
      have c5b0 : decide (4 < a0_0) = true := decide_eq_true c5
      clear c5
      obtain rfl := Option.some.inj H
      go_enter Try.func60, Try.ntmps60
      go_wp2_with (first | ((with_reducible refine gate_dst (N := 1) rfl ?_); refine box_event ?hg (N := 1) ?hd (cs := #[.int .i64 a0_0, .int .i64 a0_1]) (t := 56) ?hr ?_; (case hd => rfl); (case hg => rfl); (case hr => first | (go_simp; done) | (go_simp; rfl)); intro gb101 hg w6 hbox hb; have n0_ := Aside0.mk (below_step (by repeat (first | (with_reducible first | exact HB.out | apply below_alloc | apply pw_below_drewN | apply below_drew1) | exact HB.out)) hb); have n1_ := Aside0.mk (hbox); have n2_ := Aside0.mk ((by rw [hg]; exact (below_size (by repeat (first | (with_reducible first | exact HB.out | apply below_alloc | apply pw_below_drewN | apply below_drew1) | exact HB.out))) : w.heap.size ≤ gb101)); have n3_ := Aside0.mk ((by rw [hg]; exact (below_size (by repeat (first | (with_reducible first | exact HB.out | apply below_alloc | apply pw_below_drewN | apply below_drew1) | exact HB.out))) : w.heap.size ≤ gb101)); clear HB; have HB := n0_; have BK101 := n1_; have GW101 := n2_; have GE101 := n3_; clear n0_ n1_ n2_ n3_; clear hb hbox hg; have hcz7_0 : w6.cell? ⟨gb101, 0, none⟩ = some (.int .i64 a0_0) := (blk_cell BK101.out 0).trans rfl; have hcz7_1 : w6.cell? ⟨gb101, 1, none⟩ = some (.int .i64 a0_1) := (blk_cell BK101.out 1).trans rfl; have hfz7_0 := blk_frozen BK101.out 0; have hfz7_1 := blk_frozen BK101.out 1))
      go_ret
      exact ⟨by first | rfl | ((repeat first | rw [Int.tdiv_eq_ediv_of_nonneg (by omega)] | rw [Int.tmod_eq_emod_of_nonneg (by omega)]); rfl) | (simp [errW_none, errW_some] <;> rfl) | (simp [*, errW_none, errW_some] <;> rfl), by repeat (first | (with_reducible first | exact HB.out | apply below_alloc | apply pw_below_drewN | apply below_drew1 | refine below_set ?_ GE101.out) | exact HB.out)⟩
    · rw [if_neg c5] at H
      have c5b0 : decide (4 < a0_0) = false := decide_eq_false c5
      clear c5
      obtain ⟨ji8, hji8⟩ : ∃ j_ : Int, (mn a0_1 1048576) = j_ := ⟨_, rfl⟩
      replace H : (some (mx (ji8) 0)) = some r := by first | (rw [hji8] at H; exact H) | (simp only [hji8] at H ⊢; exact H)
      (try (have hji8h : ji8 ≤ 1048576 := by (rw [← hji8]; unfold mn; (repeat' split) <;> omega)))
      (try (have hji8g : ji8 ≤ 64 := by omega))
      have hji8_ : (if 1048576 < a0_1 then 1048576 else a0_1) = ji8 := hji8
      obtain ⟨ji9, hji9⟩ : ∃ j_ : Int, (mx (ji8) 0) = j_ := ⟨_, rfl⟩
      replace H : (some ji9) = some r := by first | (rw [hji9] at H; exact H) | (simp only [hji9] at H ⊢; exact H)
      have hji9_ : (if (ji8) < 0 then 0 else (ji8)) = ji9 := hji9
      obtain rfl := Option.some.inj H
      go_enter Try.func60, Try.ntmps60
      go_wp2_with (first | ((with_reducible refine gate_dst (N := 1) rfl ?_); refine box_event ?hg (N := 1) ?hd (cs := #[.int .i64 a0_0, .int .i64 a0_1]) (t := 56) ?hr ?_; (case hd => rfl); (case hg => rfl); (case hr => first | (go_simp; done) | (go_simp; rfl)); intro gb101 hg w10 hbox hb; have n0_ := Aside0.mk (below_step (by repeat (first | (with_reducible first | exact HB.out | apply below_alloc | apply pw_below_drewN | apply below_drew1) | exact HB.out)) hb); have n1_ := Aside0.mk (hbox); have n2_ := Aside0.mk ((by rw [hg]; exact (below_size (by repeat (first | (with_reducible first | exact HB.out | apply below_alloc | apply pw_below_drewN | apply below_drew1) | exact HB.out))) : w.heap.size ≤ gb101)); have n3_ := Aside0.mk ((by rw [hg]; exact (below_size (by repeat (first | (with_reducible first | exact HB.out | apply below_alloc | apply pw_below_drewN | apply below_drew1) | exact HB.out))) : w.heap.size ≤ gb101)); clear HB; have HB := n0_; have BK101 := n1_; have GW101 := n2_; have GE101 := n3_; clear n0_ n1_ n2_ n3_; clear hb hbox hg; have hcz11_0 : w10.cell? ⟨gb101, 0, none⟩ = some (.int .i64 a0_0) := (blk_cell BK101.out 0).trans rfl; have hcz11_1 : w10.cell? ⟨gb101, 1, none⟩ = some (.int .i64 a0_1) := (blk_cell BK101.out 1).trans rfl; have hfz11_0 := blk_frozen BK101.out 0; have hfz11_1 := blk_frozen BK101.out 1))
      go_ret
      exact ⟨by first | rfl | ((repeat first | rw [Int.tdiv_eq_ediv_of_nonneg (by omega)] | rw [Int.tmod_eq_emod_of_nonneg (by omega)]); rfl) | (simp [errW_none, errW_some] <;> rfl) | (simp only [← hji8, ← hji9]; first | rfl | (simp [errW_none, errW_some] <;> rfl)) | (simp [*, errW_none, errW_some] <;> rfl), by repeat (first | (with_reducible first | exact HB.out | apply below_alloc | apply pw_below_drewN | apply below_drew1 | refine below_set ?_ GE101.out) | exact HB.out)⟩
end Go.Proofs.Ytpoghhcpoimepaa.P
end
section
/- Walks: plain words. -/
namespace Go.Proofs.Ytpoghhcpoimepaa.P
open Go.Proofs.Ytpoghhcpoimepaa.B Go.RowKit Go.Proofs.YtpoghhcpoimepaaW.PrintWords Go.Proofs.YtpoghhcpoimepaaW.PrintLast Go.Proofs.YtpoghhcpoimepaaW.PrintMore
set_option linter.unusedVariables false
set_option linter.unusedSimpArgs false
/-- How often a move is done. -/
def ofV (k n : Int) : Nat := if k < 1 then 0 else if k > 4 then 0 else (if n < 0 then 0 else if n > 1048576 then 1048576 else n.toNat)
theorem often_v (k n : Int) : walk_often.f k n = some (ofV k n : Int) := by
  unfold walk_often.f ofV
  split
  · rfl
  · split
    · rfl
    · congr 1
      unfold mn mx
      (repeat' split) <;> omega
theorem ofV_le (k n : Int) : ofV k n ≤ 1048576 := by unfold ofV; (repeat' split) <;> omega
theorem ofV_kind {k n : Int} (h : ofV k n ≠ 0) : 1 ≤ k ∧ k ≤ 4 := by
  unfold ofV at h
  split at h
  · exact absurd rfl h
  · split at h
    · exact absurd rfl h
    · omega
def ltr (k : Int) : UInt8 := if k = 1 then 70 else if k = 2 then 66 else if k = 3 then 76 else 82
def mvS (k n : Int) : List UInt8 := if ofV k n = 0 then [] else ltr k :: (if ofV k n = 1 then [] else printS (ofV k n))
def textS : List S56 → List UInt8
  | [] => []
  | m :: l => mvS m.f0 m.f1 ++ textS l
theorem textS_snoc (m : S56) : ∀ l : List S56, textS (l ++ [m]) = textS l ++ mvS m.f0 m.f1
  | [] => by simp [textS]
  | x :: l => by simp only [List.cons_append, textS, textS_snoc m l, List.append_assoc]
theorem rd56 (l : List S56) (i : Nat) (h : i < l.length) : rd_T56 l (i : Int) = l[i] := by
  rw [rd_T56, List.getD_eq_getElem?_getD, Int.toNat_natCast, List.getElem?_eq_getElem h]; rfl
theorem take_more {α : Type} (l : List α) (i : Nat) (h : i < l.length) : l.take (i + 1) = l.take i ++ [l[i]] := by
  rw [List.take_succ_eq_append_getElem h]
theorem printS_len (n : Int) : (printS n).length ≤ 65 := by
  unfold printS
  have := toD_len 10 64 n.natAbs
  split <;> simp <;> omega
theorem mvS_len (k n : Int) : (mvS k n).length ≤ 66 := by
  unfold mvS
  have := printS_len (ofV k n)
  split
  · simp
  · split <;> simp; omega
theorem textS_len : ∀ l : List S56, (textS l).length ≤ 66 * l.length
  | [] => by simp [textS]
  | m :: l => by
    have h1 := textS_len l
    have h2 := mvS_len m.f0 m.f1
    simp only [textS, List.length_append, List.length_cons]; omega
theorem ltr_at (d : Nat) (h0 : 1 ≤ d) (h4 : d ≤ 4) (h : d < (⟨#[32, 70, 66, 76, 82]⟩ : ByteArray).size) : (⟨#[32, 70, 66, 76, 82]⟩ : ByteArray)[d]'h = ltr d := by
  have : ∀ d : Fin 5, 1 ≤ d.1 → ∀ h : d.1 < (⟨#[32, 70, 66, 76, 82]⟩ : ByteArray).size, (⟨#[32, 70, 66, 76, 82]⟩ : ByteArray)[d.1]'h = ltr (d.1 : Int) := by decide
  exact this ⟨d, by omega⟩ h0 h
end Go.Proofs.Ytpoghhcpoimepaa.P
end
section
/- Whole numbers as floats: sums, differences and products of small ones are exact. -/
namespace Go.Proofs.Ytpoghhcpoimepaa.FX
open Go
set_option linter.unusedVariables false
set_option linter.unusedSimpArgs false
/-- A datum that is the whole number n. -/
def Val (d : Ieee.Datum) (n : Int) : Prop := ∃ s m p, d = .number s m p ∧ m * 2 ^ p.toNat = n.natAbs * 2 ^ (-p).toNat ∧ (n ≠ 0 → s = decide (n < 0))
/-- Bits that are the whole number n. -/
def IsF (b : Nat) (n : Int) : Prop := Val (Ieee.double.read b) n
theorem pow_cancel {a b k : Nat} (h : a * 2 ^ k = b * 2 ^ k) : a = b := Nat.eq_of_mul_eq_mul_right (Nat.two_pow_pos k) h
theorem log2_mul (a k : Nat) (ha : a ≠ 0) : (a * 2 ^ k).log2 = a.log2 + k := by
  have h1 := Nat.log2_self_le ha
  have h2 := Nat.lt_log2_self (n := a)
  have hne : a * 2 ^ k ≠ 0 := Nat.mul_ne_zero ha (Nat.ne_of_gt (Nat.two_pow_pos k))
  rw [Nat.log2_eq_iff hne]
  constructor
  · rw [Nat.pow_add]; exact Nat.mul_le_mul_right _ h1
  · rw [show a.log2 + k + 1 = (a.log2 + 1) + k from by omega, Nat.pow_add]; exact Nat.mul_lt_mul_of_pos_right h2 (Nat.two_pow_pos k)
theorem log2_lt53 (a : Nat) (ha : a ≠ 0) (h : a < 2 ^ 53) : a.log2 < 53 := (Nat.log2_lt ha).2 h
/-- The kept digits of a whole number. -/
def sig (a : Nat) : Nat := a * 2 ^ (52 - a.log2)
theorem sig_range (a : Nat) (ha : a ≠ 0) (h : a < 2 ^ 53) : 4503599627370496 ≤ sig a ∧ sig a < 9007199254740992 := by
  have hl := log2_lt53 a ha h
  have h1 := Nat.log2_self_le ha
  have h2 := Nat.lt_log2_self (n := a)
  unfold sig
  constructor
  · have : 2 ^ a.log2 * 2 ^ (52 - a.log2) ≤ a * 2 ^ (52 - a.log2) := Nat.mul_le_mul_right _ h1
    rw [← Nat.pow_add, show a.log2 + (52 - a.log2) = 52 from by omega] at this
    exact this
  · have : a * 2 ^ (52 - a.log2) < 2 ^ (a.log2 + 1) * 2 ^ (52 - a.log2) := Nat.mul_lt_mul_of_pos_right h2 (Nat.two_pow_pos _)
    rw [← Nat.pow_add, show a.log2 + 1 + (52 - a.log2) = 53 from by omega] at this
    exact this
theorem cut_none (way : Ieee.Toward) (s : Bool) (n : Nat) (hw : way = .even ∨ way = .zero) : way.cut s n 0 = n := by
  unfold Ieee.Toward.cut
  rcases hw with rfl | rfl <;> simp [Nat.mod_one]
theorem cut_exact (way : Ieee.Toward) (s : Bool) (K drop : Nat) (hK : K ≠ 0) (hw : way = .even ∨ way = .zero) : way.cut s (K * 2 ^ drop) drop = K := by
  have hl : drop ≤ (K * 2 ^ drop).log2 + 2 := by rw [log2_mul K drop hK]; omega
  unfold Ieee.Toward.cut
  have hg : (1 <<< min drop ((K * 2 ^ drop).log2 + 2)) = 2 ^ drop := by rw [Nat.min_eq_left hl, Nat.one_shiftLeft]
  have hp := Nat.two_pow_pos drop
  have hr : K * 2 ^ drop % 2 ^ drop = 0 := Nat.mul_mod_left _ _
  simp only [hg, hr, Nat.mul_div_cancel _ hp]
  rcases hw with rfl | rfl
  · have : ¬ (2 ^ drop = 0) := by omega
    simp [this]
  · simp
theorem nearest_int (s : Bool) (m : Nat) (p : Int) (a : Nat) (ha : a ≠ 0) (h53 : a < 2 ^ 53) (hv : m * 2 ^ p.toNat = a * 2 ^ (-p).toNat) :
    Ieee.double.nearest s m p = Ieee.double.word s ((a.log2 + 1022) * 4503599627370496 + sig a) := by
  have hl := log2_lt53 a ha h53
  have hm : m ≠ 0 := by
    rintro rfl
    rw [Nat.zero_mul] at hv
    exact Nat.mul_ne_zero ha (Nat.ne_of_gt (Nat.two_pow_pos _)) hv.symm
  have hlog : p + m.log2 = a.log2 := by
    have := congrArg Nat.log2 hv
    rw [log2_mul m _ hm, log2_mul a _ ha] at this
    omega
  have hS := sig_range a ha h53
  unfold Ieee.Format.nearest
  rw [if_neg hm]
  have hL : Ieee.double.leastPlace = -1074 := by decide
  have hF : Ieee.double.fractionBits = 52 := rfl
  have hB : Ieee.double.binade = 4503599627370496 := by decide
  have hI : Ieee.double.infRung = 9218868437227405312 := by decide
  have hlast : max (p + (m.log2 : Int) - (Ieee.double.fractionBits : Int)) (-1074) = (a.log2 : Int) - 52 := by rw [hF, hlog]; omega
  simp only [hL, hB, hI]
  simp only [hlast]
  have hk : Ieee.Toward.even.cut s (m <<< (p - ((a.log2 : Int) - 52)).toNat) ((a.log2 : Int) - 52 - p).toNat = sig a := by
    rw [Nat.shiftLeft_eq]
    by_cases hp : (a.log2 : Int) - 52 ≤ p
    · rw [show ((a.log2 : Int) - 52 - p).toNat = 0 from by omega, cut_none _ _ _ (.inl rfl)]
      unfold sig
      apply pow_cancel (k := (-p).toNat)
      calc m * 2 ^ (p - ((a.log2 : Int) - 52)).toNat * 2 ^ (-p).toNat = m * 2 ^ p.toNat * 2 ^ (52 - a.log2) := by
            rw [Nat.mul_assoc, ← Nat.pow_add, Nat.mul_assoc, ← Nat.pow_add]; congr 2; omega
        _ = a * 2 ^ (52 - a.log2) * 2 ^ (-p).toNat := by rw [hv, Nat.mul_assoc, Nat.mul_comm (2 ^ (-p).toNat), ← Nat.mul_assoc]
    · rw [show (p - ((a.log2 : Int) - 52)).toNat = 0 from by omega, Nat.pow_zero, Nat.mul_one]
      have hmk : m = sig a * 2 ^ ((a.log2 : Int) - 52 - p).toNat := by
        rw [show p.toNat = 0 from by omega, Nat.pow_zero, Nat.mul_one] at hv
        rw [hv]; unfold sig
        rw [Nat.mul_assoc, ← Nat.pow_add]; congr 2; omega
      rw [hmk, cut_exact _ _ _ _ (by omega) (.inl rfl)]
  rw [hk, show ((a.log2 : Int) - 52 - -1074).toNat = a.log2 + 1022 from by omega, Nat.min_eq_left (by omega)]
theorem read_word (s : Bool) (a : Nat) (ha : a ≠ 0) (h53 : a < 2 ^ 53) : Ieee.double.read (Ieee.double.word s ((a.log2 + 1022) * 4503599627370496 + sig a)) = .number s (sig a) ((a.log2 : Int) - 52) := by
  have hl := log2_lt53 a ha h53
  have hS := sig_range a ha h53
  have hL : Ieee.double.leastPlace = -1074 := by decide
  have hB : Ieee.double.binade = 4503599627370496 := by decide
  have hI : Ieee.double.infRung = 9218868437227405312 := by decide
  have hW : Ieee.double.signWeight = 9223372036854775808 := by decide
  obtain ⟨R, hR⟩ : ∃ R, (a.log2 + 1022) * 4503599627370496 + sig a = R := ⟨_, rfl⟩
  have hw1 : Ieee.double.word s R % 9223372036854775808 = R := by
    unfold Ieee.Format.word; rw [hW]; split <;> omega
  have hw2 : (Ieee.double.word s R / 9223372036854775808 % 2 == 1) = s := by
    unfold Ieee.Format.word; rw [hW]
    cases s with
    | true => simp; omega
    | false => simp; omega
  rw [hR]
  unfold Ieee.Format.read
  simp only [hW, hB, hI, hL, hw1, hw2]
  have h1 : ¬ R < 4503599627370496 := by omega
  have h2 : R < 9218868437227405312 := by omega
  obtain ⟨u, hu⟩ : ∃ u, sig a = 4503599627370496 + u := ⟨sig a - 4503599627370496, by omega⟩
  have hu2 : u < 4503599627370496 := by omega
  have e : R = 4503599627370496 * (a.log2 + 1023) + u := by rw [← hR, hu]; omega
  have h3 : 4503599627370496 + R % 4503599627370496 = sig a := by rw [e, Nat.mul_add_mod, Nat.mod_eq_of_lt hu2, hu]
  have h5 : R / 4503599627370496 = a.log2 + 1023 := by rw [e, Nat.mul_add_div (by decide), Nat.div_eq_of_lt hu2, Nat.add_zero]
  have h4 : (-1074 : Int) + ((R / 4503599627370496 - 1 : Nat) : Int) = (a.log2 : Int) - 52 := by rw [h5]; omega
  rw [if_neg h1, if_pos h2, h3, h4]
theorem write_isF {d : Ieee.Datum} {n : Int} (h : Val d n) (h53 : n.natAbs < 2 ^ 53) : IsF (Ieee.double.write d) n := by
  obtain ⟨s, m, p, rfl, hv, hs⟩ := h
  unfold IsF Ieee.Format.write
  by_cases hn : n = 0
  · subst hn
    have hm : m = 0 := by
      rw [Int.natAbs_zero, Nat.zero_mul] at hv
      rcases Nat.mul_eq_zero.1 hv with h | h
      · exact h
      · exact absurd h (Nat.ne_of_gt (Nat.two_pow_pos _))
    subst hm
    have : Ieee.double.nearest s 0 p = Ieee.double.word s 0 := by unfold Ieee.Format.nearest; rw [if_pos rfl]
    simp only [this]
    cases s
    · exact ⟨false, 0, -1074, by decide, by rw [Int.natAbs_zero, Nat.zero_mul, Nat.zero_mul], fun h => absurd rfl h⟩
    · exact ⟨true, 0, -1074, by decide, by rw [Int.natAbs_zero, Nat.zero_mul, Nat.zero_mul], fun h => absurd rfl h⟩
  · have ha : n.natAbs ≠ 0 := by omega
    have hl := log2_lt53 _ ha h53
    simp only [nearest_int s m p n.natAbs ha h53 hv, read_word s n.natAbs ha h53]
    refine ⟨s, _, _, rfl, ?_, hs⟩
    unfold sig
    rw [show ((n.natAbs.log2 : Int) - 52).toNat = 0 from by omega, Nat.pow_zero, Nat.mul_one]
    congr 2; omega
theorem signed_eq (s : Bool) (m k : Nat) : Ieee.signed s m k = (if s then -1 else 1) * ((m * 2 ^ k : Nat) : Int) := by
  unfold Ieee.signed
  rw [Nat.shiftLeft_eq]
  cases s <;> simp
theorem sgn_abs (n : Int) (s : Bool) (hs : n ≠ 0 → s = decide (n < 0)) : (if s then -1 else 1) * ((n.natAbs : Nat) : Int) = n := by
  by_cases hn : n = 0
  · subst hn; simp
  · rw [hs hn]
    by_cases h : n < 0
    · simp [h]; omega
    · simp [h]; omega
theorem scaled {n : Int} {s : Bool} {m : Nat} {i base : Int} (hv : m * 2 ^ i.toNat = n.natAbs * 2 ^ (-i).toNat) (hs : n ≠ 0 → s = decide (n < 0)) (hb : base ≤ i) :
    Ieee.signed s m (i - base).toNat * ((2 ^ base.toNat : Nat) : Int) = n * ((2 ^ (-base).toNat : Nat) : Int) := by
  rw [signed_eq]
  have h : m * 2 ^ (i - base).toNat * 2 ^ base.toNat = n.natAbs * 2 ^ (-base).toNat := by
    apply pow_cancel (k := (-i).toNat)
    calc m * 2 ^ (i - base).toNat * 2 ^ base.toNat * 2 ^ (-i).toNat = m * 2 ^ i.toNat * 2 ^ (-base).toNat := by
          rw [Nat.mul_assoc, ← Nat.pow_add, Nat.mul_assoc, ← Nat.pow_add, Nat.mul_assoc, ← Nat.pow_add]; congr 2; omega
      _ = n.natAbs * 2 ^ (-base).toNat * 2 ^ (-i).toNat := by rw [hv, Nat.mul_assoc, Nat.mul_comm (2 ^ (-i).toNat), ← Nat.mul_assoc]
  have h2 := congrArg (fun (x : Nat) => (x : Int)) h
  simp only [Int.natCast_mul] at h2 ⊢
  rw [Int.mul_assoc, h2, ← Int.mul_assoc, sgn_abs n s hs]
theorem sum_val {x y : Ieee.Datum} {n k : Int} (hx : Val x n) (hy : Val y k) : ∃ d, x.sum y = some d ∧ Val d (n + k) := by
  obtain ⟨s, m, i, rfl, hv, hs⟩ := hx
  obtain ⟨t, m', j, rfl, hv', hs'⟩ := hy
  refine ⟨_, rfl, _, _, _, rfl, ?_, ?_⟩
  · have e1 := scaled (base := min i j) hv hs (by omega)
    have e2 := scaled (base := min i j) hv' hs' (by omega)
    have e : (Ieee.signed s m (i - min i j).toNat + Ieee.signed t m' (j - min i j).toNat) * ((2 ^ (min i j).toNat : Nat) : Int) = (n + k) * ((2 ^ (-(min i j)).toNat : Nat) : Int) := by rw [Int.add_mul, Int.add_mul, e1, e2]
    have := congrArg Int.natAbs e
    rw [Int.natAbs_mul, Int.natAbs_mul, Int.natAbs_natCast, Int.natAbs_natCast] at this
    exact this
  · intro hn
    have e1 := scaled (base := min i j) hv hs (by omega)
    have e2 := scaled (base := min i j) hv' hs' (by omega)
    have e : (Ieee.signed s m (i - min i j).toNat + Ieee.signed t m' (j - min i j).toNat) * ((2 ^ (min i j).toNat : Nat) : Int) = (n + k) * ((2 ^ (-(min i j)).toNat : Nat) : Int) := by rw [Int.add_mul, Int.add_mul, e1, e2]
    generalize Ieee.signed s m (i - min i j).toNat + Ieee.signed t m' (j - min i j).toNat = T at e ⊢
    have p1 : (0 : Int) < ((2 ^ (min i j).toNat : Nat) : Int) := by have := Nat.two_pow_pos (min i j).toNat; omega
    have p2 : (0 : Int) < ((2 ^ (-(min i j)).toNat : Nat) : Int) := by have := Nat.two_pow_pos (-(min i j)).toNat; omega
    have hT : T ≠ 0 := by
      rintro rfl
      rw [Int.zero_mul] at e
      rcases Int.mul_eq_zero.1 e.symm with h | h
      · exact hn h
      · omega
    rw [if_neg hT]
    have : T < 0 ↔ n + k < 0 := by
      constructor
      · intro h
        have h1 := Int.mul_neg_of_neg_of_pos h p1
        rw [e] at h1
        exact Decidable.byContradiction fun h2 => by have := Int.mul_nonneg (show 0 ≤ n + k by omega) (Int.le_of_lt p2); omega
      · intro h
        have h1 := Int.mul_neg_of_neg_of_pos h p2
        rw [← e] at h1
        exact Decidable.byContradiction fun h2 => by have := Int.mul_nonneg (show 0 ≤ T by omega) (Int.le_of_lt p1); omega
    simp [this]
theorem product_val {x y : Ieee.Datum} {n k : Int} (hx : Val x n) (hy : Val y k) : ∃ d, x.product y = some d ∧ Val d (n * k) := by
  obtain ⟨s, m, i, rfl, hv, hs⟩ := hx
  obtain ⟨t, m', j, rfl, hv', hs'⟩ := hy
  refine ⟨_, rfl, _, _, _, rfl, ?_, ?_⟩
  · rw [Int.natAbs_mul]
    apply pow_cancel (k := (-i).toNat + (-j).toNat)
    calc m * m' * 2 ^ (i + j).toNat * 2 ^ ((-i).toNat + (-j).toNat) = (m * 2 ^ i.toNat) * (m' * 2 ^ j.toNat) * 2 ^ (-(i + j)).toNat := by
          rw [Nat.mul_assoc (m * m'), ← Nat.pow_add, show m * 2 ^ i.toNat * (m' * 2 ^ j.toNat) * 2 ^ (-(i + j)).toNat = m * m' * (2 ^ i.toNat * 2 ^ j.toNat * 2 ^ (-(i + j)).toNat) from by simp only [Nat.mul_assoc, Nat.mul_left_comm, Nat.mul_comm], ← Nat.pow_add, ← Nat.pow_add]
          congr 2; omega
      _ = n.natAbs * k.natAbs * 2 ^ (-(i + j)).toNat * 2 ^ ((-i).toNat + (-j).toNat) := by
          rw [hv, hv', Nat.pow_add]; simp only [Nat.mul_assoc, Nat.mul_left_comm, Nat.mul_comm]
  · intro hn
    have h1 : n ≠ 0 := by rintro rfl; simp at hn
    have h2 : k ≠ 0 := by rintro rfl; simp at hn
    rw [hs h1, hs' h2]
    have hn' : 0 < n ∨ n < 0 := by omega
    have hk' : 0 < k ∨ k < 0 := by omega
    have sg : ∀ x : Int, 0 < x → decide (x < 0) = false := fun x h => decide_eq_false (by omega)
    have sl : ∀ x : Int, x < 0 → decide (x < 0) = true := fun x h => decide_eq_true h
    rcases hn' with a | a <;> rcases hk' with b | b
    · rw [sg _ a, sg _ b, sg _ (Int.mul_pos a b)]; rfl
    · rw [sg _ a, sl _ b, sl _ (Int.mul_neg_of_pos_of_neg a b)]; rfl
    · rw [sl _ a, sg _ b, sl _ (Int.mul_neg_of_neg_of_pos a b)]; rfl
    · rw [sl _ a, sl _ b, sg _ (Int.mul_pos_of_neg_of_neg a b)]; rfl
theorem opp_val {x : Ieee.Datum} {n : Int} (hx : Val x n) : Val x.opposite (-n) := by
  obtain ⟨s, m, i, rfl, hv, hs⟩ := hx
  refine ⟨!s, m, i, rfl, by rw [Int.natAbs_neg]; exact hv, fun h => ?_⟩
  have hn : n ≠ 0 := by omega
  rw [hs hn]
  by_cases h : n < 0
  · simp [h]; omega
  · simp [h]; omega
theorem isF_add {a b : Nat} {n k : Int} (hx : IsF a n) (hy : IsF b k) (h : (n + k).natAbs < 2 ^ 53) : ∃ c, floatBits .add .f64 a b = some c ∧ IsF c (n + k) := by
  obtain ⟨d, hd, hv⟩ := sum_val hx hy
  exact ⟨_, by show Option.map Ieee.double.write ((Ieee.double.read a).sum (Ieee.double.read b)) = _; rw [hd]; rfl, write_isF hv h⟩
theorem isF_sub {a b : Nat} {n k : Int} (hx : IsF a n) (hy : IsF b k) (h : (n - k).natAbs < 2 ^ 53) : ∃ c, floatBits .sub .f64 a b = some c ∧ IsF c (n - k) := by
  obtain ⟨d, hd, hv⟩ := sum_val hx (opp_val hy)
  rw [← Int.sub_eq_add_neg] at hv
  exact ⟨_, by show Option.map Ieee.double.write ((Ieee.double.read a).sum (Ieee.double.read b).opposite) = _; rw [hd]; rfl, write_isF hv h⟩
theorem isF_mul {a b : Nat} {n k : Int} (hx : IsF a n) (hy : IsF b k) (h : (n * k).natAbs < 2 ^ 53) : ∃ c, floatBits .mul .f64 a b = some c ∧ IsF c (n * k) := by
  obtain ⟨d, hd, hv⟩ := product_val hx hy
  exact ⟨_, by show Option.map Ieee.double.write ((Ieee.double.read a).product (Ieee.double.read b)) = _; rw [hd]; rfl, write_isF hv h⟩
theorem isF_of (n : Int) (h : n.natAbs < 2 ^ 53) : IsF (floatOfInt .f64 n) n := by
  refine write_isF (d := .number (n < 0) n.natAbs 0) ⟨_, _, _, rfl, by simp, fun _ => rfl⟩ h
theorem isF_int {b : Nat} {n : Int} (h : IsF b n) (h0 : -9223372036854775808 ≤ n) (h1 : n ≤ 9223372036854775807) : floatToIntVal .f64 b .i64 = some n := by
  obtain ⟨s, m, p, hd, hv, hs⟩ := h
  have hz : (FloatKind.f64.decode b).toInt .zero = some n := by
    show (Ieee.double.read b).toInt .zero = some n
    rw [hd]
    unfold Ieee.Datum.toInt Ieee.Datum.integral
    simp only []
    rw [Nat.shiftLeft_eq, hv]
    have hc : Ieee.Toward.zero.cut s (n.natAbs * 2 ^ (-p).toNat) (-p).toNat = n.natAbs := by
      by_cases hn : n.natAbs = 0
      · rw [hn, Nat.zero_mul]; unfold Ieee.Toward.cut; simp
      · exact cut_exact _ _ _ _ hn (.inr rfl)
    rw [hc, signed_eq, Nat.pow_zero, Nat.mul_one, sgn_abs n s hs]
  unfold floatToIntVal
  rw [hz]
  simp only []
  rw [if_pos ⟨by show (-9223372036854775808 : Int) ≤ n; exact h0, by show n ≤ (9223372036854775807 : Int); exact h1⟩]
end Go.Proofs.Ytpoghhcpoimepaa.FX
end
section
/- Small facts of blocks and of worlds that lie below one another. -/
namespace Go.Proofs.Ytpoghhcpoimepaa.P
open Go.RowKit Go.Proofs.YtpoghhcpoimepaaW.PrintWords Go.Proofs.YtpoghhcpoimepaaW.PrintLast Go.Proofs.YtpoghhcpoimepaaW.PrintMore
set_option linter.unusedVariables false
set_option linter.unusedSimpArgs false
theorem blk_keep {w w' : World} {g : Nat} {o : Obj} (h : w.heap[g]? = some o) (hb : Below w.heap.size w w') : w'.heap[g]? = some o := (hb.block g (Array.getElem?_eq_some_iff.1 h).1).trans h
theorem alloc_size (w : World) (o : Obj) : (w.alloc o).heap.size = w.heap.size + 1 := by simp
theorem far1 {W : World} {a b : Nat} {o : Obj} (h : W.heap[b]? = some o) (hne : b ≠ a) (i : Nat) (v : Value) : (W.setCell ⟨a, i, none⟩ v).heap[b]? = some o := by
  rw [Below.heap_setCell _ _ _ b hne]; exact h
theorem lt_blk {W : World} {g : Nat} {o : Obj} (h : W.heap[g]? = some o) : g < W.heap.size := (Array.getElem?_eq_some_iff.1 h).1
end Go.Proofs.Ytpoghhcpoimepaa.P
end
section
/- Several texts in one. -/
namespace Go.Proofs.Ytpoghhcpoimepaa.P
open Go.RowKit Go.Proofs.YtpoghhcpoimepaaW.PrintWords Go.Proofs.YtpoghhcpoimepaaW.PrintLast Go.Proofs.YtpoghhcpoimepaaW.PrintMore Go.Proofs.Ytpoghhcpoimepaa.FX
attribute [local go_sem] max2_int min2_int max_two min_two max_three min_three max_four min_four
set_option linter.unusedVariables false
set_option linter.unusedSimpArgs false
/-- A part that counts. -/
def fx (n : Int) : Int := if (if 1048576 < n then 1048576 else n) < -1048576 then -1048576 else (if 1048576 < n then 1048576 else n)
theorem fx_le (n : Int) : -1048576 ≤ fx n ∧ fx n ≤ 1048576 := by unfold fx; split <;> split <;> omega
set_option maxRecDepth 100000 in
theorem plane_calls (x y : Int) (w : World) : Calls Try.prog 84 #[.agg #[.int .i64 x, .int .i64 y]] w fun e w' => e = .returned (.complex .f64 (floatOfInt .f64 (fx x)) (floatOfInt .f64 (fx y))) ∧ Below w.heap.size w w' := by
  obtain ⟨fX, hX⟩ : ∃ f, fx x = f := ⟨_, rfl⟩
  obtain ⟨fY, hY⟩ : ∃ f, fx y = f := ⟨_, rfl⟩
  rw [hX, hY]
  unfold fx at hX hY
  obtain ⟨mX, h1⟩ : ∃ m, (if 1048576 < x then 1048576 else x) = m := ⟨_, rfl⟩
  obtain ⟨mY, h2⟩ : ∃ m, (if 1048576 < y then 1048576 else y) = m := ⟨_, rfl⟩
  rw [h1] at hX
  rw [h2] at hY
  go_enter Try.func84, Try.ntmps84
  go_wp2
  go_ret
  exact ⟨rfl, below_alloc (Below.refl _ _) _⟩
set_option maxRecDepth 100000 in
theorem point_calls (a b : Nat) (x y : Int) (w : World) (ha : floatToIntVal .f64 a .i64 = some x) (hb : floatToIntVal .f64 b .i64 = some y) : Calls Try.prog 83 #[.complex .f64 a b] w fun e w' => e = .returned (.agg #[.int .i64 x, .int .i64 y]) ∧ Below w.heap.size w w' := by
  have e1 : ∀ W : World, (convert 63 3 (.float .f64 a)).run Try.prog W = .ok (.int .i64 x) W := fun W => run_convert_float_int W 63 3 .f64 .i64 a x (by rw [Try.underlying63]; rfl) Try.underlying3 ha
  have e2 : ∀ W : World, (convert 63 3 (.float .f64 b)).run Try.prog W = .ok (.int .i64 y) W := fun W => run_convert_float_int W 63 3 .f64 .i64 b y (by rw [Try.underlying63]; rfl) Try.underlying3 hb
  go_enter Try.func83, Try.ntmps83
  go_wp2
  refine bodyPost_ret (results_cell_row rfl _ _ w.heap.size 24 #[.int .i64 x, .int .i64 y] (0, 0) _ rfl (blk_new w _) Try.underlying24 rfl (by kernel_rfl)) rfl ?_
  exact ⟨rfl, below_alloc (Below.refl _ _) _⟩
theorem point_at {a b : Nat} {x y : Int} (w : World) (ha : IsF a x) (hb : IsF b y) (hx : x.natAbs < 2 ^ 53) (hy : y.natAbs < 2 ^ 53) : Calls Try.prog 83 #[.complex .f64 a b] w fun e w' => e = .returned (.agg #[.int .i64 x, .int .i64 y]) ∧ Below w.heap.size w w' :=
  point_calls a b x y w (isF_int ha (by omega) (by omega)) (isF_int hb (by omega) (by omega))
theorem fx_isF (n : Int) : IsF (floatOfInt .f64 (fx n)) (fx n) := isF_of _ (by have := fx_le n; omega)
def AggPost (x y : Int) (w : World) (e : Ending) (w' : World) : Prop := e = .returned (.agg #[.int .i64 x, .int .i64 y]) ∧ Below w.heap.size w w'
set_option maxRecDepth 100000 in
theorem fix_calls (x y : Int) (w : World) : Calls Try.prog 53 #[.agg #[.int .i64 x, .int .i64 y]] w (AggPost (fx x) (fx y) w) := by
  have hx := fx_le x
  have hy := fx_le y
  have HP := fun W => Aside0.mk (point_at (a := floatOfInt .f64 (fx x)) (b := floatOfInt .f64 (fx y)) W (fx_isF x) (fx_isF y) (by omega) (by omega))
  clear hx hy
  go_enter Try.func53, Try.ntmps53
  go_wp2_with (first | (go_at_call 84; (with_reducible refine (plane_calls x y _).mono ?_); rintro e w1 ⟨rfl, hb1⟩; have HB1 := Aside0.mk hb1; clear hb1) | (go_at_call 83; (with_reducible refine ((HP _).out).mono ?_); rintro e w2 ⟨rfl, hb2⟩; have hbk := blk_keep (blk_keep (blk_new (w.alloc (.cells #[.int .i64 x, .int .i64 y] 24)) (.cells #[.int .i64 0, .int .i64 0] 24)) HB1.out) hb2; rw [alloc_size] at hbk; have HBK := Aside0.mk hbk; have hc0 := blk_cell hbk 0; have hc1 := blk_cell hbk 1; have hf0 := blk_frozen hbk 0; have hf1 := blk_frozen hbk 1; have HB2 := Aside0.mk (below_step (below_step (below_alloc (below_alloc (Below.refl w.heap.size w) _) _) HB1.out) hb2); clear hb2 hbk HB1))
  refine bodyPost_ret (results_cell_row rfl _ _ (w.heap.size + 1) 24 #[.int .i64 (fx x), .int .i64 (fx y)] (0, 0) _ rfl (blk_put (cs := #[.int .i64 (fx x), .int .i64 0]) (blk_put (cs := #[.int .i64 0, .int .i64 0]) HBK.out 0 _ rfl) 1 _ rfl) Try.underlying24 rfl (by kernel_rfl)) rfl ?_
  exact ⟨rfl, below_set (below_set HB2.out (by simp)) (by simp)⟩
end Go.Proofs.Ytpoghhcpoimepaa.P
end
section
/- Floats that are no infinity: sums, differences and products of bounded ones are bounded. -/
namespace Go.Proofs.Ytpoghhcpoimepaa.FX
open Go
set_option linter.unusedVariables false
set_option exponentiation.threshold 2000
set_option linter.unusedSimpArgs false
/-- A number below 2 ^ e. -/
def Bdd (d : Ieee.Datum) (e : Nat) : Prop := ∃ s m p, d = .number s m p ∧ m * 2 ^ p.toNat < 2 ^ e * 2 ^ (-p).toNat
def Bd (b e : Nat) : Prop := Bdd (Ieee.double.read b) e
theorem Bdd.mono {d : Ieee.Datum} {e f : Nat} (h : Bdd d e) (hf : e ≤ f) : Bdd d f := by
  obtain ⟨s, m, p, rfl, hv⟩ := h
  exact ⟨s, m, p, rfl, Nat.lt_of_lt_of_le hv (Nat.mul_le_mul_right _ (Nat.pow_le_pow_right (by decide) hf))⟩
theorem Bd.mono {b e f : Nat} (h : Bd b e) (hf : e ≤ f) : Bd b f := Bdd.mono h hf
end Go.Proofs.Ytpoghhcpoimepaa.FX
end
section
-- printed by the session's own call of print.py. Not trusted: Lean checks it.
namespace Go.Proofs.Ytpoghhcpoimepaa.P
open Go.RowKit Go.Proofs.YtpoghhcpoimepaaW.PrintWords Go.Proofs.YtpoghhcpoimepaaW.PrintLast Go.Proofs.YtpoghhcpoimepaaW.PrintMore
attribute [local go_sem] max2_int min2_int max_two min_two max_three min_three max_four min_four
set_option linter.unusedVariables false
set_option linter.unusedSimpArgs false
theorem eqA24 (d : Nat) (w : World) (x0 y0 : Int) (x1 y1 : Int) :
    (Op.equalIn (d + 2) 24 (.agg #[.int .i64 x0, .int .i64 x1]) (.agg #[.int .i64 y0, .int .i64 y1])).run Try.prog w = .ok (x0 == y0 && (x1 == y1)) w := by
  refine eqA_of Try.underlying24 (by kernel_rfl) ?_
  refine eqf_cons (by rfl) (by go_simp; rfl) (by go_simp; rfl) (by go_simp) ?_
  exact eqf_last (by rfl) (by go_simp; rfl) (by go_simp; rfl) (by go_simp)
theorem eqA34 (d : Nat) (w : World) (x0 y0 : Int) (x1 y1 : Int) (x2 y2 : Int) :
    (Op.equalIn (d + 3) 34 (.agg #[.int .i64 x0, .int .i64 x1, .int .i64 x2]) (.agg #[.int .i64 y0, .int .i64 y1, .int .i64 y2])).run Try.prog w = .ok (x0 == y0 && ((x1 == y1 && (x2 == y2)))) w := by
  refine eqA_of Try.underlying34 (by kernel_rfl) ?_
  refine eqf_cons (by rfl) (by go_simp; rfl) (by go_simp; rfl) (by go_simp) ?_
  exact eqf_last (by rfl) (by go_simp) (by go_simp) (eqA24 (d + 0) w _ _ _ _)
theorem eqA56 (d : Nat) (w : World) (x0 y0 : Int) (x1 y1 : Int) :
    (Op.equalIn (d + 2) 56 (.agg #[.int .i64 x0, .int .i64 x1]) (.agg #[.int .i64 y0, .int .i64 y1])).run Try.prog w = .ok (x0 == y0 && (x1 == y1)) w := by
  refine eqA_of Try.underlying56 (by kernel_rfl) ?_
  refine eqf_cons (by rfl) (by go_simp; rfl) (by go_simp; rfl) (by go_simp) ?_
  exact eqf_last (by rfl) (by go_simp; rfl) (by go_simp; rfl) (by go_simp)
theorem eqA95 (d : Nat) (w : World) (x0 y0 : Int) (x1 y1 : Int) :
    (Op.equalIn (d + 2) 95 (.agg #[.int .i64 x0, .int .i64 x1]) (.agg #[.int .i64 y0, .int .i64 y1])).run Try.prog w = .ok (x0 == y0 && (x1 == y1)) w := by
  refine eqA_of Try.underlying95 (by kernel_rfl) ?_
  refine eqf_cons (by rfl) (by go_simp; rfl) (by go_simp; rfl) (by go_simp) ?_
  exact eqf_last (by rfl) (by go_simp; rfl) (by go_simp; rfl) (by go_simp)
end Go.Proofs.Ytpoghhcpoimepaa.P
end
section
/- Operations of a drawn region that are not wanted (their guard is false), taken all at once. -/
namespace Go.Proofs.Ytpoghhcpoimepaa.P
open Go.RowKit Go.Proofs.YtpoghhcpoimepaaW.PrintWords Go.Proofs.YtpoghhcpoimepaaW.PrintLast Go.Proofs.YtpoghhcpoimepaaW.PrintMore
set_option linter.unusedVariables false
set_option linter.unusedSimpArgs false
/-- What has come up, out of a number's bits. -/
def btB (n m : Nat) : Array Bool := ((List.range n).map fun i => m.testBit i).toArray
end Go.Proofs.Ytpoghhcpoimepaa.P
end
section
/- fence.Right$1: two edges, side by side, of a ring. -/
namespace Go.Proofs.Ytpoghhcpoimepaa.P
open Go.Proofs.Ytpoghhcpoimepaa.B Go.RowKit Go.Proofs.YtpoghhcpoimepaaW.PrintWords Go.Proofs.YtpoghhcpoimepaaW.PrintLast Go.Proofs.YtpoghhcpoimepaaW.PrintMore Go.Proofs.Ytpoghhcpoimepaa.FX Go.Proofs.Ytpoghhcpoimepaa.H
set_option linter.unusedVariables false
set_option linter.unusedSimpArgs false
attribute [local go_sem high] eqA24
abbrev RtS (w0 : World) (g : Nat) (lx ly ax ay bx by' : Int) (w' : World) : Prop :=
  Aside0 (w'.heap[g]? = some (.cells #[.int .i64 lx, .int .i64 ly] 24 (0, 0))) ∧ Aside0 (w'.heap[w0.heap.size]? = some (.cells #[.int .i64 ax, .int .i64 ay] 24 (0, 0))) ∧ Aside0 (w'.heap[w0.heap.size + 1]? = some (.cells #[.int .i64 bx, .int .i64 by'] 24 (0, 0))) ∧ Aside0 (Below g w0 w') ∧ w'.cell? ⟨g, 0, none⟩ = some (.int .i64 lx) ∧ w'.cell? ⟨g, 1, none⟩ = some (.int .i64 ly) ∧ w'.cell? ⟨w0.heap.size, 0, none⟩ = some (.int .i64 ax) ∧ w'.cell? ⟨w0.heap.size, 1, none⟩ = some (.int .i64 ay) ∧ w'.cell? ⟨w0.heap.size + 1, 0, none⟩ = some (.int .i64 bx) ∧ w'.cell? ⟨w0.heap.size + 1, 1, none⟩ = some (.int .i64 by') ∧ w'.frozen? ⟨g, 0, none⟩ = false ∧ w'.frozen? ⟨g, 1, none⟩ = false
theorem RtS.mk {w0 : World} {g : Nat} {lx ly ax ay bx by' : Int} {w' : World} (h0 : w'.heap[g]? = some (.cells #[.int .i64 lx, .int .i64 ly] 24 (0, 0))) (h1 : w'.heap[w0.heap.size]? = some (.cells #[.int .i64 ax, .int .i64 ay] 24 (0, 0))) (h2 : w'.heap[w0.heap.size + 1]? = some (.cells #[.int .i64 bx, .int .i64 by'] 24 (0, 0))) (hB : Below g w0 w') : RtS w0 g lx ly ax ay bx by' w' :=
  ⟨⟨h0⟩, ⟨h1⟩, ⟨h2⟩, ⟨hB⟩, blk_cell h0 0, blk_cell h0 1, blk_cell h1 0, blk_cell h1 1, blk_cell h2 0, blk_cell h2 1, blk_frozen h0 0, blk_frozen h0 1⟩
theorem RtS.keep {w0 : World} {g : Nat} {lx ly ax ay bx by' : Int} {w1 w2 : World} (h : RtS w0 g lx ly ax ay bx by' w1) (hb : Below w1.heap.size w1 w2) : RtS w0 g lx ly ax ay bx by' w2 :=
  RtS.mk (blk_keep h.1.out hb) (blk_keep h.2.1.out hb) (blk_keep h.2.2.1.out hb) (h.2.2.2.1.out.trans (hb.mono (Nat.le_of_lt (lt_blk h.1.out))))
theorem RtS.drew {w0 : World} {g : Nat} {lx ly ax ay bx by' : Int} {w1 : World} (h : RtS w0 g lx ly ax ay bx by' w1) : RtS w0 g lx ly ax ay bx by' w1.drew :=
  RtS.mk h.1.out h.2.1.out h.2.2.1.out h.2.2.2.1.out.drew
end Go.Proofs.Ytpoghhcpoimepaa.P
end
section
/- fence.edges: through a ring's edges. -/
namespace Go.Proofs.Ytpoghhcpoimepaa.P
open Go.Proofs.Ytpoghhcpoimepaa.B Go.RowKit Go.Proofs.YtpoghhcpoimepaaW.PrintWords Go.Proofs.YtpoghhcpoimepaaW.PrintLast Go.Proofs.YtpoghhcpoimepaaW.PrintMore Go.Proofs.Ytpoghhcpoimepaa.FX Go.Proofs.Ytpoghhcpoimepaa.H
set_option linter.unusedVariables false
set_option linter.unusedSimpArgs false
theorem rd_T24_get (l : List S24) (i : Nat) (h : i < l.length) : rd_T24 l (i : Int) = l[i] := by
  rw [rd_T24, List.getD_eq_getElem?_getD, Int.toNat_natCast, List.getElem?_eq_getElem h]; rfl
end Go.Proofs.Ytpoghhcpoimepaa.P
end
section
/- Floats: the other sign; comparisons; complex sums and products of whole numbers. -/
namespace Go.Proofs.Ytpoghhcpoimepaa.FX
open Go
set_option linter.unusedVariables false
set_option linter.unusedSimpArgs false
theorem xor_mod2 (a b : Nat) : (a ^^^ b) % 2 = (a + b) % 2 := by
  have h := Nat.xor_mod_two_pow (a := a) (b := b) (n := 1)
  simp only [Nat.pow_one] at h
  rw [h]
  rcases Nat.mod_two_eq_zero_or_one a with ha | ha <;> rcases Nat.mod_two_eq_zero_or_one b with hb | hb <;> rw [ha, hb] <;> simp <;> omega
theorem negF_read (b : Nat) : Ieee.double.read (Op.negFloat .f64 b) = match Ieee.double.read b with | .number s m p => .number (!s) m p | .infinity s => .infinity (!s) | .nan s f => .nan (!s) f := by
  have hW : Ieee.double.signWeight = 2 ^ 63 := by decide
  have e1 : Op.negFloat .f64 b % 2 ^ 63 = b % 2 ^ 63 := by
    show (b ^^^ 2 ^ 63) % 2 ^ 63 = _
    rw [Nat.xor_mod_two_pow, Nat.mod_self, Nat.xor_zero]
  have e2 : (Op.negFloat .f64 b / 2 ^ 63 % 2 == 1) = !(b / 2 ^ 63 % 2 == 1) := by
    show ((b ^^^ 2 ^ 63) / 2 ^ 63 % 2 == 1) = _
    rw [Nat.xor_div_two_pow, Nat.div_self (by decide)]
    have : (b / 2 ^ 63 ^^^ 1) % 2 = (b / 2 ^ 63 + 1) % 2 := xor_mod2 _ _
    rw [this]
    rcases Nat.mod_two_eq_zero_or_one (b / 2 ^ 63) with h | h
    · rw [h, Nat.add_mod, h]; rfl
    · rw [h, Nat.add_mod, h]; rfl
  unfold Ieee.Format.read
  simp only [hW, e1, e2]
  split
  · rfl
  · split
    · rfl
    · split <;> rfl
theorem negF_isF {b : Nat} {n : Int} (h : IsF b n) : IsF (Op.negFloat .f64 b) (-n) := by
  obtain ⟨s, m, p, hd, hv, hs⟩ := h
  unfold IsF
  rw [negF_read, hd]
  exact opp_val ⟨s, m, p, rfl, hv, hs⟩
theorem isF_zero : IsF 0 0 := by
  exact ⟨false, 0, -1074, by decide, by rw [Int.natAbs_zero, Nat.zero_mul, Nat.zero_mul], fun h => absurd rfl h⟩
end Go.Proofs.Ytpoghhcpoimepaa.FX
end
section
/- The closures of fence.Area and fence.Cell. -/
namespace Go.Proofs.Ytpoghhcpoimepaa.P
open Go.Proofs.Ytpoghhcpoimepaa.B Go.RowKit Go.Proofs.YtpoghhcpoimepaaW.PrintWords Go.Proofs.YtpoghhcpoimepaaW.PrintLast Go.Proofs.YtpoghhcpoimepaaW.PrintMore Go.Proofs.Ytpoghhcpoimepaa.FX Go.Proofs.Ytpoghhcpoimepaa.H
set_option linter.unusedVariables false
set_option linter.unusedSimpArgs false
theorem run_store_complex {P : Program} {w : World} {ad : Addr} {m : Mode} (k : FloatKind) (a b : Nat) : (store ad (.complex k a b) m).run P w = stored P w ad (.complex k a b) m := run_store P w ad _ m rfl
attribute [local go_sem] max2_int min2_int max_two min_two run_store_complex
abbrev ArS (w0 : World) (g sr si : Nat) (ax ay bx by' : Int) (w' : World) : Prop :=
  Aside0 (w'.heap[g]? = some (.cells #[.complex .f64 sr si] 61 (0, 0))) ∧ Aside0 (w'.heap[w0.heap.size]? = some (.cells #[.int .i64 ax, .int .i64 ay] 24 (0, 0))) ∧ Aside0 (w'.heap[w0.heap.size + 1]? = some (.cells #[.int .i64 bx, .int .i64 by'] 24 (0, 0))) ∧ Aside0 (Below g w0 w') ∧ w'.cell? ⟨g, 0, none⟩ = some (.complex .f64 sr si) ∧ w'.cell? ⟨w0.heap.size, 0, none⟩ = some (.int .i64 ax) ∧ w'.cell? ⟨w0.heap.size, 1, none⟩ = some (.int .i64 ay) ∧ w'.cell? ⟨w0.heap.size + 1, 0, none⟩ = some (.int .i64 bx) ∧ w'.cell? ⟨w0.heap.size + 1, 1, none⟩ = some (.int .i64 by') ∧ w'.frozen? ⟨g, 0, none⟩ = false
theorem ArS.mk {w0 : World} {g sr si : Nat} {ax ay bx by' : Int} {w' : World} (h0 : w'.heap[g]? = some (.cells #[.complex .f64 sr si] 61 (0, 0))) (h1 : w'.heap[w0.heap.size]? = some (.cells #[.int .i64 ax, .int .i64 ay] 24 (0, 0))) (h2 : w'.heap[w0.heap.size + 1]? = some (.cells #[.int .i64 bx, .int .i64 by'] 24 (0, 0))) (hB : Below g w0 w') : ArS w0 g sr si ax ay bx by' w' :=
  ⟨⟨h0⟩, ⟨h1⟩, ⟨h2⟩, ⟨hB⟩, blk_cell h0 0, blk_cell h1 0, blk_cell h1 1, blk_cell h2 0, blk_cell h2 1, blk_frozen h0 0⟩
theorem ArS.keep {w0 : World} {g sr si : Nat} {ax ay bx by' : Int} {w1 w2 : World} (h : ArS w0 g sr si ax ay bx by' w1) (hb : Below w1.heap.size w1 w2) : ArS w0 g sr si ax ay bx by' w2 :=
  ArS.mk (blk_keep h.1.out hb) (blk_keep h.2.1.out hb) (blk_keep h.2.2.1.out hb) (h.2.2.2.1.out.trans (hb.mono (Nat.le_of_lt (lt_blk h.1.out))))
theorem ArS.drew {w0 : World} {g sr si : Nat} {ax ay bx by' : Int} {w1 : World} (h : ArS w0 g sr si ax ay bx by' w1) : ArS w0 g sr si ax ay bx by' w1.drew :=
  ArS.mk h.1.out h.2.1.out h.2.2.1.out h.2.2.2.1.out.drew
end Go.Proofs.Ytpoghhcpoimepaa.P
end
section
/- gauss.Turn. -/
namespace Go.Proofs.Ytpoghhcpoimepaa.P
open Go.Proofs.Ytpoghhcpoimepaa.B Go.RowKit Go.Proofs.YtpoghhcpoimepaaW.PrintWords Go.Proofs.YtpoghhcpoimepaaW.PrintLast Go.Proofs.YtpoghhcpoimepaaW.PrintMore Go.Proofs.Ytpoghhcpoimepaa.FX Go.Proofs.Ytpoghhcpoimepaa.H
set_option linter.unusedVariables false
set_option linter.unusedSimpArgs false
theorem and_three (n : Int) : bits .and .i64 n 3 = n % 4 := by
  show IntKind.i64.wrap (((BitVec.ofInt 64 n &&& BitVec.ofInt 64 3).toNat : Nat) : Int) = _
  rw [BitVec.toNat_and, BitVec.toNat_ofInt, BitVec.toNat_ofInt, show ((3 : Int) % ((2 ^ 64 : Nat) : Int)).toNat = 2 ^ 2 - 1 from by decide, Nat.and_two_pow_sub_one_eq_mod, wrap_i64]
  unfold wrap64
  omega
def rot : Nat → Int → Int → Int × Int
  | 0, x, y => (x, y)
  | m + 1, x, y => rot m (-y) x
theorem isF_one : IsF 4607182418800017408 1 := ⟨false, 2 ^ 52, -52, by decide, by decide, fun _ => rfl⟩
/-- A quarter. -/
theorem quarter {a b : Nat} {x y : Int} (ha : IsF a x) (hb : IsF b y) (hx : x.natAbs ≤ 1048576) (hy : y.natAbs ≤ 1048576) : ∃ re im, IsF re (-y) ∧ IsF im x ∧ ∀ (P : Program) (t : TypeId) (W : World), (binOp .mul t (.complex .f64 a b) (.complex .f64 0 4607182418800017408)).run P W = .ok (.complex .f64 re im) W := by
  obtain ⟨p1, f1, h1⟩ := isF_mul ha isF_zero (by omega)
  obtain ⟨p2, f2, h2⟩ := isF_mul hb isF_one (by omega)
  obtain ⟨re, f3, hre⟩ := isF_sub h1 h2 (by omega)
  obtain ⟨p3, f4, h3⟩ := isF_mul ha isF_one (by omega)
  obtain ⟨p4, f5, h4⟩ := isF_mul hb isF_zero (by omega)
  obtain ⟨im, f6, him⟩ := isF_add h3 h4 (by omega)
  refine ⟨re, im, ?_, ?_, fun P t W => run_complex_mul W t _ _ _ _ re im (by unfold cMulBits; rw [f1, Option.bind_some, f2, Option.bind_some, f3, Option.bind_some, f4, Option.bind_some, f5, Option.bind_some, f6, Option.bind_some])⟩
  · rw [show x * 0 - y * 1 = -y from by omega] at hre; exact hre
  · rw [show x * 1 + y * 0 = x from by omega] at him; exact him
set_option maxHeartbeats 2000000 in
set_option maxRecDepth 100000 in
theorem turn_calls (x y n : Int) (w : World) : Calls Try.prog 93 #[.agg #[.int .i64 x, .int .i64 y], .int .i64 n] w (AggPost (rot (n % 4).toNat (fx x) (fx y)).1 (rot (n % 4).toNat (fx x) (fx y)).2 w) := by
  obtain ⟨m0, hm0⟩ : ∃ m : Nat, n % 4 = m := ⟨(n % 4).toNat, by omega⟩
  have hm4 : m0 < 4 := by omega
  have hand := and_three n
  rw [hm0] at hand
  rw [hm0, Int.toNat_natCast]
  obtain ⟨X, Y, hR⟩ : ∃ X Y, rot m0 (fx x) (fx y) = (X, Y) := ⟨_, _, rfl⟩
  rw [hR]
  have hx := fx_le x
  have hy := fx_le y
  have HR := Aside0.mk hR; clear hR hm0
  have HX := Aside0.mk (show (fx x).natAbs ≤ 1048576 by omega)
  have HY := Aside0.mk (show (fx y).natAbs ≤ 1048576 by omega)
  have HFX := Aside0.mk (fx_isF x)
  have HFY := Aside0.mk (fx_isF y)
  clear hx hy
  obtain ⟨pa, hpa⟩ : ∃ pa, floatOfInt .f64 (fx x) = pa := ⟨_, rfl⟩
  obtain ⟨pb, hpb⟩ : ∃ pb, floatOfInt .f64 (fx y) = pb := ⟨_, rfl⟩
  have HPL := fun W => Aside0.mk (plane_calls x y W)
  rw [hpa] at HFX HPL
  rw [hpb] at HFY HPL
  obtain ⟨FX0, hFX0⟩ : ∃ f, fx x = f := ⟨_, rfl⟩
  obtain ⟨FY0, hFY0⟩ : ∃ f, fx y = f := ⟨_, rfl⟩
  rw [hFX0] at HFX HX HR
  rw [hFY0] at HFY HY HR
  clear hpa hpb hFX0 hFY0
  go_enter Try.func93, Try.ntmps93
  go_wp2
  refine wp_scope_enter 0 rfl ?_
  go_wp2_with (go_at_call 84; (with_reducible refine ((HPL _).out).mono ?_); rintro e w1 ⟨rfl, hb1⟩; have HB1 := Aside0.mk hb1; have hbk := blk_keep (blk_new (w.alloc (.cells #[.int .i64 x, .int .i64 y] 24)) (.cells #[.int .i64 0, .int .i64 0] 24)) hb1; rw [alloc_size] at hbk; have HBK := Aside0.mk hbk; clear hb1 hbk)
  go_step3
  simp only [Exit.then]
  rename_i hk
  refine hk _ _ ?_
  clear hk
  refine wp_label_slots 0 (by rfl) (List.range' 0 18) (fun k us wr => ∃ (m a b : Nat) (x' y' : Int), k = m ∧ m < 4 ∧ us.getD 1 undef = .int .i64 m ∧ us.getD 4 undef = .pointer (some ⟨w.heap.size + 1, 0, none⟩) ∧ us.getD 5 undef = .complex .f64 a b ∧ Aside0 (IsF a x') ∧ Aside0 (IsF b y') ∧ Aside0 (x'.natAbs ≤ 1048576) ∧ Aside0 (y'.natAbs ≤ 1048576) ∧ Aside0 (rot m x' y' = (X, Y)) ∧ Aside0 (wr.heap[w.heap.size + 1]? = some (.cells #[.int .i64 0, .int .i64 0] 24 (0, 0))) ∧ Aside0 (Below w.heap.size w wr)) m0 ?_ ?_
  · exact ⟨m0, pa, pb, FX0, FY0, rfl, hm4, rfl, rfl, rfl, HFX, HFY, HX, HY, HR, HBK, ⟨below_step (below_alloc (below_alloc (Below.refl w.heap.size w) _) _) HB1.out⟩⟩
  · rintro k us wr hl ⟨m, a, b, x', y', rfl, hm, h1, h4, h5, HA, HB, HX', HY', HR', HBK', HBE⟩ J K hJ hK
    clear HFX HFY HX HY HR HBK HB1 HPL hand
    simp only [List.length_range'] at hl
    match us, hl with
    | u0 :: u1 :: u2 :: u3 :: u4 :: u5 :: u6 :: u7 :: u8 :: u9 :: u10 :: u11 :: u12 :: u13 :: u14 :: u15 :: u16 :: u17 :: [], _ =>
    simp only [List.getD_cons_succ, List.getD_cons_zero] at h1 h4 h5
    subst h1 h4 h5
    simp only [List.range', putS, Act.put, List.setIfInBounds_toArray, List.set_cons_zero, List.set_cons_succ]
    rename_i hx
    clear hx
    have hJ2 := fun (k : Nat) (v0 v1 v2 v3 v4 v5 v6 v7 v8 v9 v10 v11 v12 v13 v14 v15 v16 v17 : Value) (w' : World) => hJ k (v0 :: v1 :: v2 :: v3 :: v4 :: v5 :: v6 :: v7 :: v8 :: v9 :: v10 :: v11 :: v12 :: v13 :: v14 :: v15 :: v16 :: v17 :: []) _ w' rfl rfl
    clear hJ
    simp only [List.range', putS, Act.put, List.setIfInBounds_toArray, List.set_cons_zero, List.set_cons_succ] at hJ2
    have HJ := Aside0.mk hJ2; clear hJ2
    have HK := Aside0.mk hK; clear hK
    cases k with
    | zero =>
      have hr := HR'.out
      rw [rot] at hr
      obtain ⟨rfl, rfl⟩ := Prod.mk.inj hr
      have HP := fun W => Aside0.mk (point_at W HA.out HB.out (by have := HX'.out; omega) (by have := HY'.out; omega))
      clear hr HR' HA HB HX' HY'
      go_wp2_with (go_at_call 83; (with_reducible refine ((HP _).out).mono ?_); rintro e w2 ⟨rfl, hb2⟩; have hbk := blk_keep HBK'.out hb2; have HBK := Aside0.mk hbk; have hc0 := blk_cell hbk 0; have hc1 := blk_cell hbk 1; have hf0 := blk_frozen hbk 0; have hf1 := blk_frozen hbk 1; have HB2 := Aside0.mk (below_step HBE.out hb2); clear hb2 hbk)
      simp only [Exit.jump]
      refine bodyPost_ret (results_cell_row rfl _ _ (w.heap.size + 1) 24 #[.int .i64 x', .int .i64 y'] (0, 0) _ rfl (blk_put (cs := #[.int .i64 x', .int .i64 0]) (blk_put (cs := #[.int .i64 0, .int .i64 0]) HBK.out 0 _ rfl) 1 _ rfl) Try.underlying24 rfl (by kernel_rfl)) rfl ?_
      exact ⟨rfl, below_set (below_set HB2.out (by simp)) (by simp)⟩
    | succ m =>
      obtain ⟨re, im, hre, him, hrun⟩ := quarter HA.out HB.out HX'.out HY'.out
      have hrun2 : ∀ W : World, (binOp .mul 61 (.complex .f64 a b) (.complex .f64 0 4607182418800017408)).run Try.prog W = .ok (.complex .f64 re im) W := fun W => hrun Try.prog 61 W
      have HRE := Aside0.mk hre
      have HIM := Aside0.mk him
      clear hrun hre him
      have g0 : (((m + 1 : Nat) : Int) == 0) = false := by simp; omega
      go_wp2
      go_step3
      exact ⟨rfl, HK.out _ _ (Handed.intro m (by omega) (HJ.out _ _ _ _ _ _ _ _ _ _ _ _ _ _ _ _ _ _ _ _ ⟨m, re, im, -y', x', rfl, by omega, by go_num, rfl, rfl, HRE, HIM, ⟨by have := HY'.out; omega⟩, HX', ⟨by have := HR'.out; rw [rot] at this; exact this⟩, HBK', HBE⟩))⟩
end Go.Proofs.Ytpoghhcpoimepaa.P
end
section
/- Several texts in one. -/
section
/- Motions: numbers of the plane. -/
namespace Go.Proofs.Ytpoghhcpoimepaa.P
open Go.Proofs.Ytpoghhcpoimepaa.B Go.RowKit Go.Proofs.YtpoghhcpoimepaaW.PrintWords Go.Proofs.YtpoghhcpoimepaaW.PrintLast Go.Proofs.YtpoghhcpoimepaaW.PrintMore Go.Proofs.Ytpoghhcpoimepaa.FX Go.Proofs.Ytpoghhcpoimepaa.H
set_option linter.unusedVariables false
set_option linter.unusedSimpArgs false
set_option maxRecDepth 100000 in
theorem mplane_calls (x y : Int) (w : World) : Calls Try.prog 86 #[.agg #[.int .i64 x, .int .i64 y]] w fun e w' => e = .returned (.complex .f64 (floatOfInt .f64 x) (floatOfInt .f64 y)) ∧ Below w.heap.size w w' := by
  go_enter Try.func86, Try.ntmps86
  go_wp2
  go_ret
  exact ⟨rfl, below_alloc (Below.refl _ _) _⟩
set_option maxRecDepth 100000 in
theorem mpoint_calls (a b : Nat) (x y : Int) (w : World) (ha : floatToIntVal .f64 a .i64 = some x) (hb : floatToIntVal .f64 b .i64 = some y) : Calls Try.prog 85 #[.complex .f64 a b] w (AggPost x y w) := by
  have e1 : ∀ W : World, (convert 63 3 (.float .f64 a)).run Try.prog W = .ok (.int .i64 x) W := fun W => run_convert_float_int W 63 3 .f64 .i64 a x (by rw [Try.underlying63]; rfl) Try.underlying3 ha
  have e2 : ∀ W : World, (convert 63 3 (.float .f64 b)).run Try.prog W = .ok (.int .i64 y) W := fun W => run_convert_float_int W 63 3 .f64 .i64 b y (by rw [Try.underlying63]; rfl) Try.underlying3 hb
  go_enter Try.func85, Try.ntmps85
  go_wp2
  refine bodyPost_ret (results_cell_row rfl _ _ w.heap.size 24 #[.int .i64 x, .int .i64 y] (0, 0) _ rfl (blk_new w _) Try.underlying24 rfl (by kernel_rfl)) rfl ?_
  exact ⟨rfl, below_alloc (Below.refl _ _) _⟩
theorem mpoint_at {a b : Nat} {x y : Int} (w : World) (ha : IsF a x) (hb : IsF b y) (hx : x.natAbs < 2 ^ 53) (hy : y.natAbs < 2 ^ 53) : Calls Try.prog 85 #[.complex .f64 a b] w (AggPost x y w) :=
  mpoint_calls a b x y w (isF_int ha (by omega) (by omega)) (isF_int hb (by omega) (by omega))
/-- A product of numbers of the plane. -/
theorem cmul_run {a b c d : Nat} {x y u v : Int} (ha : IsF a x) (hb : IsF b y) (hc : IsF c u) (hd : IsF d v) (h1 : (x * u).natAbs < 2 ^ 51) (h2 : (y * v).natAbs < 2 ^ 51) (h3 : (x * v).natAbs < 2 ^ 51) (h4 : (y * u).natAbs < 2 ^ 51) :
    ∃ re im, IsF re (x * u - y * v) ∧ IsF im (x * v + y * u) ∧ ∀ (P : Program) (t : TypeId) (W : World), (binOp .mul t (.complex .f64 a b) (.complex .f64 c d)).run P W = .ok (.complex .f64 re im) W := by
  obtain ⟨p1, f1, g1⟩ := isF_mul ha hc (by omega)
  obtain ⟨p2, f2, g2⟩ := isF_mul hb hd (by omega)
  obtain ⟨re, f3, hre⟩ := isF_sub g1 g2 (by omega)
  obtain ⟨p3, f4, g3⟩ := isF_mul ha hd (by omega)
  obtain ⟨p4, f5, g4⟩ := isF_mul hb hc (by omega)
  obtain ⟨im, f6, him⟩ := isF_add g3 g4 (by omega)
  exact ⟨re, im, hre, him, fun P t W => run_complex_mul W t _ _ _ _ re im (by unfold cMulBits; rw [f1, Option.bind_some, f2, Option.bind_some, f3, Option.bind_some, f4, Option.bind_some, f5, Option.bind_some, f6, Option.bind_some])⟩
theorem cadd_run {a b c d : Nat} {x y u v : Int} (ha : IsF a x) (hb : IsF b y) (hc : IsF c u) (hd : IsF d v) (h1 : (x + u).natAbs < 2 ^ 53) (h2 : (y + v).natAbs < 2 ^ 53) :
    ∃ re im, IsF re (x + u) ∧ IsF im (y + v) ∧ ∀ (P : Program) (t : TypeId) (W : World), (binOp .add t (.complex .f64 a b) (.complex .f64 c d)).run P W = .ok (.complex .f64 re im) W := by
  obtain ⟨re, f1, hre⟩ := isF_add ha hc h1
  obtain ⟨im, f2, him⟩ := isF_add hb hd h2
  exact ⟨re, im, hre, him, fun P t W => run_complex_sum W .add (.inl rfl) t .f64 _ _ _ _ re im (by unfold cSumBits; rw [f1, Option.bind_some, f2, Option.bind_some])⟩
theorem order_is {a b : Nat} {n k : Int} (ha : IsF a n) (hb : IsF b k) : Ieee.double.order a b = some (compare n k) := by
  obtain ⟨s, m, i, hd, hv, hs⟩ := ha
  obtain ⟨t, m', j, hd', hv', hs'⟩ := hb
  unfold Ieee.Format.order
  rw [hd, hd']
  show some (compare (Ieee.signed s m (i - min i j).toNat) (Ieee.signed t m' (j - min i j).toNat)) = _
  have e1 := scaled (base := min i j) hv hs (by omega)
  have e2 := scaled (base := min i j) hv' hs' (by omega)
  have p1 : (0 : Int) < ((2 ^ (min i j).toNat : Nat) : Int) := by have := Nat.two_pow_pos (min i j).toNat; omega
  have p2 : (0 : Int) < ((2 ^ (-(min i j)).toNat : Nat) : Int) := by have := Nat.two_pow_pos (-(min i j)).toNat; omega
  generalize Ieee.signed s m (i - min i j).toNat = X at *
  generalize Ieee.signed t m' (j - min i j).toNat = Y at *
  congr 1
  have lt : X < Y ↔ n < k := by
    constructor
    · intro h
      have := Int.mul_lt_mul_of_pos_right h p1
      rw [e1, e2] at this
      exact Int.lt_of_mul_lt_mul_right this (Int.le_of_lt p2)
    · intro h
      have := Int.mul_lt_mul_of_pos_right h p2
      rw [← e1, ← e2] at this
      exact Int.lt_of_mul_lt_mul_right this (Int.le_of_lt p1)
  have gt : Y < X ↔ k < n := by
    constructor
    · intro h
      have := Int.mul_lt_mul_of_pos_right h p1
      rw [e1, e2] at this
      exact Int.lt_of_mul_lt_mul_right this (Int.le_of_lt p2)
    · intro h
      have := Int.mul_lt_mul_of_pos_right h p2
      rw [← e1, ← e2] at this
      exact Int.lt_of_mul_lt_mul_right this (Int.le_of_lt p1)
  show compareOfLessAndEq X Y = compareOfLessAndEq n k
  unfold compareOfLessAndEq
  by_cases h1 : X < Y
  · rw [if_pos h1, if_pos (lt.1 h1)]
  · rw [if_neg h1, if_neg (fun h => h1 (lt.2 h))]
    by_cases h2 : Y < X
    · rw [if_neg (by omega), if_neg (by have := gt.1 h2; omega)]
    · have h3 : X = Y := by omega
      have h4 : ¬ k < n := fun h => h2 (gt.2 h)
      have h5 : ¬ n < k := fun h => h1 (lt.2 h)
      rw [if_pos h3, if_pos (by omega)]
end Go.Proofs.Ytpoghhcpoimepaa.P
end
section
/- Motions: quarters, and moves one behind the other. -/
namespace Go.Proofs.Ytpoghhcpoimepaa.P
open Go.Proofs.Ytpoghhcpoimepaa.B Go.RowKit Go.Proofs.YtpoghhcpoimepaaW.PrintWords Go.Proofs.YtpoghhcpoimepaaW.PrintLast Go.Proofs.YtpoghhcpoimepaaW.PrintMore Go.Proofs.Ytpoghhcpoimepaa.FX Go.Proofs.Ytpoghhcpoimepaa.H
set_option linter.unusedVariables false
set_option linter.unusedSimpArgs false
theorem floatEq_is {a b : Nat} {n k : Int} (ha : IsF a n) (hb : IsF b k) : Op.floatEq .f64 a b = (n == k) := by
  show (Ieee.double.order a b == some .eq) = _
  rw [order_is ha hb]
  show (some (compareOfLessAndEq n k) == some .eq) = _
  unfold compareOfLessAndEq
  by_cases h1 : n < k
  · rw [if_pos h1, show (n == k) = false from by simp; omega]; rfl
  · rw [if_neg h1]
    by_cases h2 : n = k
    · rw [if_pos h2, h2]; simp
    · rw [if_neg h2, show (n == k) = false from by simp; omega]; rfl
/-- A quarter's number. -/
def ip : Nat → Int × Int
  | 0 => (1, 0)
  | m + 1 => (-(ip m).2, (ip m).1)
theorem isF_neg1 : IsF 13830554455654793216 (-1) := ⟨true, 2 ^ 52, -52, by decide, by decide, fun _ => rfl⟩
theorem ip_small (m : Nat) : ((ip m).1.natAbs ≤ 1 ∧ (ip m).2.natAbs ≤ 1) ∧ (m < 4 → ((ip m).1 = 1 ∧ (ip m).2 = 0 ↔ m = 0)) := by
  constructor
  · induction m with
    | zero => decide
    | succ m ih => rw [ip]; simp only []; omega
  · intro h
    match m, h with
    | 0, _ => decide
    | 1, _ => decide
    | 2, _ => decide
    | 3, _ => decide
theorem ip_back {a b : Nat} {m : Nat} (ha : IsF a (ip (m + 1)).1) (hb : IsF b (ip (m + 1)).2) : ∃ re im, IsF re (ip m).1 ∧ IsF im (ip m).2 ∧ ∀ (P : Program) (t : TypeId) (W : World), (binOp .mul t (.complex .f64 a b) (.complex .f64 0 13830554455654793216)).run P W = .ok (.complex .f64 re im) W := by
  have hs := (ip_small m).1
  rw [ip] at ha hb
  simp only [] at ha hb
  obtain ⟨re, im, h1, h2, h3⟩ := cmul_run ha hb isF_zero isF_neg1 (by omega) (by omega) (by omega) (by omega)
  refine ⟨re, im, ?_, ?_, h3⟩
  · rw [show -(ip m).2 * 0 - (ip m).1 * -1 = (ip m).1 from by omega] at h1; exact h1
  · rw [show -(ip m).2 * -1 + (ip m).1 * 0 = (ip m).2 from by omega] at h2; exact h2
set_option maxHeartbeats 2000000 in
set_option maxRecDepth 100000 in
theorem quarters_calls (a b m0 : Nat) (w : World) (hm0 : m0 < 4) (ha : IsF a (ip m0).1) (hb : IsF b (ip m0).2) : Calls Try.prog 94 #[.complex .f64 a b] w fun e w' => e = .returned (.int .i64 m0) ∧ Below w.heap.size w w' := by
  have HA0 := Aside0.mk ha; clear ha
  have HB0 := Aside0.mk hb; clear hb
  go_enter Try.func94, Try.ntmps94
  go_wp2
  refine wp_scope_enter 0 rfl ?_
  go_wp2
  go_step3
  simp only [Exit.then]
  rename_i hk
  refine hk _ _ ?_
  clear hk
  refine wp_label_slots 0 (by rfl) (List.range' 0 11) (fun k us wr => ∃ (a b : Nat), k < 4 ∧ k ≤ m0 ∧ us.getD 0 undef = .complex .f64 a b ∧ us.getD 3 undef = .int .i64 ((m0 - k : Nat) : Int) ∧ Aside0 (IsF a (ip k).1) ∧ Aside0 (IsF b (ip k).2) ∧ wr = w) m0 ?_ ?_
  · exact ⟨a, b, hm0, Nat.le_refl _, rfl, by rw [Nat.sub_self]; rfl, HA0, HB0, rfl⟩
  · rintro k us wr hl ⟨a, b, hk4, hkm, h0, h3, HA, HB, rfl⟩ J K hJ hK
    clear HA0 HB0
    simp only [List.length_range'] at hl
    match us, hl with
    | u0 :: u1 :: u2 :: u3 :: u4 :: u5 :: u6 :: u7 :: u8 :: u9 :: u10 :: [], _ =>
    simp only [List.getD_cons_succ, List.getD_cons_zero] at h0 h3
    subst h0 h3
    simp only [List.range', putS, Act.put, List.setIfInBounds_toArray, List.set_cons_zero, List.set_cons_succ]
    rename_i hx
    clear hx
    have hJ2 := fun (k : Nat) (v0 v1 v2 v3 v4 v5 v6 v7 v8 v9 v10 : Value) (w' : World) => hJ k (v0 :: v1 :: v2 :: v3 :: v4 :: v5 :: v6 :: v7 :: v8 :: v9 :: v10 :: []) _ w' rfl rfl
    clear hJ
    simp only [List.range', putS, Act.put, List.setIfInBounds_toArray, List.set_cons_zero, List.set_cons_succ] at hJ2
    have HJ := Aside0.mk hJ2; clear hJ2
    have HK := Aside0.mk hK; clear hK
    have q1 : (FloatKind.f64.format.order a 4607182418800017408 == some Ordering.eq) = ((ip k).1 == 1) := floatEq_is HA.out isF_one
    have q2 : (FloatKind.f64.format.order b 0 == some Ordering.eq) = ((ip k).2 == 0) := floatEq_is HB.out isF_zero
    have hz := (ip_small k).2 hk4
    cases k with
    | zero =>
      rw [show ((ip 0).1 == 1) = true from by decide] at q1
      rw [show ((ip 0).2 == 0) = true from by decide] at q2
      clear hz
      go_wp2
      simp only [Exit.jump]
      go_ret
      exact ⟨by simp, Below.refl _ _⟩
    | succ k =>
      have hne : ((ip (k + 1)).1 == 1) = false := by
        match k, hk4 with
        | 0, _ => decide
        | 1, _ => decide
        | 2, _ => decide
      rw [hne] at q1
      clear q2
      obtain ⟨re, im, hre, him, hrun⟩ := ip_back HA.out HB.out
      have hrun2 : ∀ W : World, (binOp .mul 61 (.complex .f64 a b) (.complex .f64 0 13830554455654793216)).run Try.prog W = .ok (.complex .f64 re im) W := fun W => hrun Try.prog 61 W
      have HRE := Aside0.mk hre
      have HIM := Aside0.mk him
      clear hrun hre him hz hne
      go_wp2
      go_step3
      exact ⟨rfl, HK.out _ _ (Handed.intro k (by omega) (HJ.out _ _ _ _ _ _ _ _ _ _ _ _ _ ⟨re, im, by omega, by omega, rfl, by simp; omega, HRE, HIM, rfl⟩))⟩
end Go.Proofs.Ytpoghhcpoimepaa.P
end
section
/- Motions: moves one behind the other, and what undoes one. -/
namespace Go.Proofs.Ytpoghhcpoimepaa.P
open Go.Proofs.Ytpoghhcpoimepaa.B Go.RowKit Go.Proofs.YtpoghhcpoimepaaW.PrintWords Go.Proofs.YtpoghhcpoimepaaW.PrintLast Go.Proofs.YtpoghhcpoimepaaW.PrintMore Go.Proofs.Ytpoghhcpoimepaa.FX Go.Proofs.Ytpoghhcpoimepaa.H
set_option linter.unusedVariables false
set_option linter.unusedSimpArgs false
attribute [local go_sem] run_store_complex
/-- Bits that are a move: what it turns by, and what it adds. -/
def MV (a b c d : Nat) (t p : Int × Int) : Prop := IsF a t.1 ∧ IsF b t.2 ∧ IsF c p.1 ∧ IsF d p.2
abbrev mv (a b c d : Nat) : Value := .agg #[.complex .f64 a b, .complex .f64 c d]
def MovePost (t p : Int × Int) (w : World) (e : Ending) (w' : World) : Prop := ∃ a b c d, e = .returned (mv a b c d) ∧ MV a b c d t p ∧ Below w.heap.size w w'
def cm (x y : Int × Int) : Int × Int := (x.1 * y.1 - x.2 * y.2, x.1 * y.2 + x.2 * y.1)
def near (n : Nat) (x : Int × Int) : Prop := x.1.natAbs ≤ n ∧ x.2.natAbs ≤ n
theorem near_mul {n : Nat} {x y : Int} (h1 : x.natAbs ≤ n) (h2 : y.natAbs ≤ 1) : (x * y).natAbs ≤ n := by
  rw [Int.natAbs_mul]
  exact Nat.le_trans (Nat.mul_le_mul h1 h2) (by omega)
theorem move_new3 (w : World) (o1 o2 o3 : Obj) : (((w.alloc o1).alloc o2).alloc o3).heap[w.heap.size + 1 + 1]? = some o3 := by
  have h := blk_new ((w.alloc o1).alloc o2) o3
  rw [alloc_size, alloc_size] at h
  exact h
theorem move_new2 (w : World) (o1 o2 : Obj) : ((w.alloc o1).alloc o2).heap[w.heap.size + 1]? = some o2 := by
  have h := blk_new (w.alloc o1) o2
  rw [alloc_size] at h
  exact h
set_option maxHeartbeats 1000000 in
set_option maxRecDepth 100000 in
theorem mthen_calls (a b c d a' b' c' d' : Nat) (t p u q : Int × Int) (w : World) (h1 : MV a b c d t p) (h2 : MV a' b' c' d' u q) (ht : near 1 t) (hu : near 1 u) (hp : near 1000000000 p) (hq : near 1000000000 q) :
    Calls Try.prog 80 #[mv a b c d, mv a' b' c' d'] w (MovePost (cm t u) ((cm p u).1 + q.1, (cm p u).2 + q.2) w) := by
  obtain ⟨ha, hb, hc, hd⟩ := h1
  obtain ⟨ha', hb', hc', hd'⟩ := h2
  have n1 := near_mul ht.1 hu.1; have n2 := near_mul ht.2 hu.2; have n3 := near_mul ht.1 hu.2; have n4 := near_mul ht.2 hu.1
  have n5 := near_mul hp.1 hu.1; have n6 := near_mul hp.2 hu.2; have n7 := near_mul hp.1 hu.2; have n8 := near_mul hp.2 hu.1
  have q1 := hq.1; have q2 := hq.2
  obtain ⟨r1, i1, hr1, hi1, k1⟩ := cmul_run ha hb ha' hb' (by omega) (by omega) (by omega) (by omega)
  obtain ⟨r2, i2, hr2, hi2, k2⟩ := cmul_run hc hd ha' hb' (by omega) (by omega) (by omega) (by omega)
  obtain ⟨r3, i3, hr3, hi3, k3⟩ := cadd_run hr2 hi2 hc' hd' (by omega) (by omega)
  have e1 : ∀ W : World, (binOp .mul 61 (.complex .f64 a b) (.complex .f64 a' b')).run Try.prog W = .ok (.complex .f64 r1 i1) W := fun W => k1 Try.prog 61 W
  have e2 : ∀ W : World, (binOp .mul 61 (.complex .f64 c d) (.complex .f64 a' b')).run Try.prog W = .ok (.complex .f64 r2 i2) W := fun W => k2 Try.prog 61 W
  have e3 : ∀ W : World, (binOp .add 61 (.complex .f64 r2 i2) (.complex .f64 c' d')).run Try.prog W = .ok (.complex .f64 r3 i3) W := fun W => k3 Try.prog 61 W
  have HR := Aside0.mk (show MV r1 i1 r3 i3 (cm t u) ((cm p u).1 + q.1, (cm p u).2 + q.2) from ⟨hr1, hi1, hr3, hi3⟩)
  clear ha hb hc hd ha' hb' hc' hd' ht hu hp hq n1 n2 n3 n4 n5 n6 n7 n8 q1 q2 hr1 hi1 hr2 hi2 hr3 hi3 k1 k2 k3
  go_enter Try.func80, Try.ntmps80
  go_wp2
  refine bodyPost_ret (results_cell_row rfl _ _ (w.heap.size + 1 + 1) 109 #[.complex .f64 r1 i1, .complex .f64 r3 i3] (0, 0) _ rfl (move_new3 w _ _ _) Try.underlying109 rfl (by kernel_rfl)) rfl ?_
  exact ⟨r1, i1, r3, i3, rfl, HR.out, below_alloc (below_alloc (below_alloc (Below.refl _ _) _) _) _⟩
set_option maxHeartbeats 1000000 in
set_option maxRecDepth 100000 in
theorem mback_calls (a b c d : Nat) (t p : Int × Int) (w : World) (h1 : MV a b c d t p) (ht : near 1 t) (hp : near 1000000000 p) :
    Calls Try.prog 82 #[mv a b c d] w (MovePost (t.1, -t.2) (cm (-p.1, -p.2) (t.1, -t.2)) w) := by
  obtain ⟨ha, hb, hc, hd⟩ := h1
  have hb' := negF_isF hb
  have hc' := negF_isF hc
  have hd' := negF_isF hd
  have m1 : (-t.2).natAbs ≤ 1 := by have := ht.2; omega
  have m2 : (-p.1).natAbs ≤ 1000000000 := by have := hp.1; omega
  have m3 : (-p.2).natAbs ≤ 1000000000 := by have := hp.2; omega
  have n1 := near_mul m2 ht.1; have n2 := near_mul m3 m1; have n3 := near_mul m2 m1; have n4 := near_mul m3 ht.1
  obtain ⟨r2, i2, hr2, hi2, k2⟩ := cmul_run hc' hd' ha hb' (by omega) (by omega) (by omega) (by omega)
  have e0 : ∀ W : World, (Op.unary .neg (.float .f64 b)).run Try.prog W = .ok (.float .f64 (Op.negFloat .f64 b)) W := fun W => rfl
  have e1 : ∀ W : World, (Op.unary .neg (.complex .f64 c d)).run Try.prog W = .ok (.complex .f64 (Op.negFloat .f64 c) (Op.negFloat .f64 d)) W := fun W => rfl
  have e2 : ∀ W : World, (binOp .mul 61 (.complex .f64 (Op.negFloat .f64 c) (Op.negFloat .f64 d)) (.complex .f64 a (Op.negFloat .f64 b))).run Try.prog W = .ok (.complex .f64 r2 i2) W := fun W => k2 Try.prog 61 W
  have HR := Aside0.mk (show MV a (Op.negFloat .f64 b) r2 i2 (t.1, -t.2) (cm (-p.1, -p.2) (t.1, -t.2)) from ⟨ha, hb', hr2, hi2⟩)
  clear ha hb hc hd hb' hc' hd' ht hp n1 n2 n3 n4 m1 m2 m3 hr2 hi2 k2
  generalize Op.negFloat .f64 b = nb at *
  generalize Op.negFloat .f64 c = nc at *
  generalize Op.negFloat .f64 d = nd at *
  go_enter Try.func82, Try.ntmps82
  go_wp2
  refine bodyPost_ret (results_cell_row rfl _ _ (w.heap.size + 1) 109 #[.complex .f64 a nb, .complex .f64 r2 i2] (0, 0) _ rfl (move_new2 w _ _) Try.underlying109 rfl (by kernel_rfl)) rfl ?_
  exact ⟨a, nb, r2, i2, rfl, HR.out, below_alloc (below_alloc (Below.refl _ _) _) _⟩
end Go.Proofs.Ytpoghhcpoimepaa.P
end
section
/- Motions: a move as a motion. -/
namespace Go.Proofs.Ytpoghhcpoimepaa.P
open Go.Proofs.Ytpoghhcpoimepaa.B Go.RowKit Go.Proofs.YtpoghhcpoimepaaW.PrintWords Go.Proofs.YtpoghhcpoimepaaW.PrintLast Go.Proofs.YtpoghhcpoimepaaW.PrintMore Go.Proofs.Ytpoghhcpoimepaa.FX Go.Proofs.Ytpoghhcpoimepaa.H
set_option linter.unusedVariables false
set_option linter.unusedSimpArgs false
attribute [local go_sem] run_store_complex
abbrev MoS (w0 : World) (a b c d : Nat) (w' : World) : Prop :=
  Aside0 (w'.heap[w0.heap.size]? = some (.cells #[.complex .f64 a b, .complex .f64 c d] 109 (0, 0))) ∧ Aside0 (w'.heap[w0.heap.size + 1]? = some (.cells #[.int .i64 0, .int .i64 0, .int .i64 0] 34 (0, 0))) ∧ Aside0 (Below w0.heap.size w0 w') ∧
  w'.cell? ⟨w0.heap.size, 0, none⟩ = some (.complex .f64 a b) ∧ w'.cell? ⟨w0.heap.size, 1, none⟩ = some (.complex .f64 c d) ∧ w'.cell? ⟨w0.heap.size + 1, 0, none⟩ = some (.int .i64 0) ∧ w'.cell? ⟨w0.heap.size + 1, 1, none⟩ = some (.int .i64 0) ∧ w'.cell? ⟨w0.heap.size + 1, 2, none⟩ = some (.int .i64 0) ∧
  w'.frozen? ⟨w0.heap.size + 1, 0, none⟩ = false ∧ w'.frozen? ⟨w0.heap.size + 1, 1, none⟩ = false ∧ w'.frozen? ⟨w0.heap.size + 1, 2, none⟩ = false
theorem MoS.mk {w0 : World} {a b c d : Nat} {w' : World} (h1 : w'.heap[w0.heap.size]? = some (.cells #[.complex .f64 a b, .complex .f64 c d] 109 (0, 0))) (h2 : w'.heap[w0.heap.size + 1]? = some (.cells #[.int .i64 0, .int .i64 0, .int .i64 0] 34 (0, 0))) (h3 : Below w0.heap.size w0 w') : MoS w0 a b c d w' :=
  ⟨⟨h1⟩, ⟨h2⟩, ⟨h3⟩, blk_cell h1 0, blk_cell h1 1, blk_cell h2 0, blk_cell h2 1, blk_cell h2 2, blk_frozen h2 0, blk_frozen h2 1, blk_frozen h2 2⟩
theorem MoS.keep {w0 : World} {a b c d : Nat} {w1 w2 : World} (h : MoS w0 a b c d w1) (hb : Below w1.heap.size w1 w2) : MoS w0 a b c d w2 := MoS.mk (blk_keep h.1.out hb) (blk_keep h.2.1.out hb) (below_step h.2.2.1.out hb)
theorem MoS.drew {w0 : World} {a b c d : Nat} {w1 : World} (h : MoS w0 a b c d w1) : MoS w0 a b c d w1.drew := MoS.mk h.1.out h.2.1.out (below_drew h.2.2.1.out)
def MotPost (m : Int) (x y : Int) (w : World) (e : Ending) (w' : World) : Prop := e = .returned (.agg #[.int .i64 m, .int .i64 x, .int .i64 y]) ∧ Below w.heap.size w w'
set_option maxHeartbeats 1000000 in
set_option maxRecDepth 100000 in
theorem motion_calls (a b c d m : Nat) (p : Int × Int) (w : World) (hm : m < 4) (h1 : MV a b c d (ip m) p) (hp : near 4000000000 p) :
    Calls Try.prog 81 #[mv a b c d] w (MotPost m p.1 p.2 w) := by
  obtain ⟨ha, hb, hc, hd⟩ := h1
  have q1 := hp.1
  have q2 := hp.2
  have HQ := fun W => Aside0.mk (quarters_calls a b m W hm ha hb)
  have HP := fun W => Aside0.mk (mpoint_at W hc hd (by omega) (by omega))
  have HS : MoS w a b c d ((w.alloc (.cells #[.complex .f64 a b, .complex .f64 c d] 109)).alloc (.cells #[.int .i64 0, .int .i64 0, .int .i64 0] 34)) := MoS.mk (blk_keep (blk_new w _) (below_alloc (Below.refl _ _) _)) (move_new2 w _ _) (below_alloc (below_alloc (Below.refl _ _) _) _)
  clear ha hb hc hd q1 q2 hp
  obtain ⟨X, Y⟩ := p
  simp only [] at HP ⊢
  go_enter Try.func81, Try.ntmps81
  go_wp2
  refine start_ (n := 8) (S := MoS w a b c d) (ds := [7]) #[false, false, false, false, false, false, false, false] (by kernel_rfl) rfl rfl (MoS.drew HS) (fun hHeld => ?_)
  clear HS
  refine pure_ (i := 0) (N := some 3) (v := ?_) (a' := ?_) #[true, false, false, false, false, false, false, false] rfl rfl (by kernel_rfl) (fun _ _ _ h => h) (Or.inl ⟨by rfl, ?_⟩) ?_ ?_
  rotate_left
  · intro w'
    go_simp
    with_reducible rfl
  rotate_left
  · simp only [Act.put, List.setIfInBounds_toArray, List.set_cons_zero, List.set_cons_succ]
    rfl
  refine take_ (i := 1) (N := some 4) (v := ?_) (a' := ?_) #[true, true, false, false, false, false, false, false] rfl rfl (by kernel_rfl) (fun _ _ _ h => h) (Or.inl ⟨by rfl, ?_⟩) hHeld ?_ ?_
  rotate_left
  · rintro w' ⟨_, _, _, k1, k2, k3, k4, k5, k6, k7, k8⟩
    go_simp
    with_reducible rfl
  rotate_left
  · simp only [Act.put, List.setIfInBounds_toArray, List.set_cons_zero, List.set_cons_succ]
    rfl
  refine pure_ (i := 3) (N := some 6) (v := ?_) (a' := ?_) #[true, true, false, true, false, false, false, false] rfl rfl (by kernel_rfl) (fun _ _ _ h => h) (Or.inl ⟨by rfl, ?_⟩) ?_ ?_
  rotate_left
  · intro w'
    go_simp
    with_reducible rfl
  rotate_left
  · simp only [Act.put, List.setIfInBounds_toArray, List.set_cons_zero, List.set_cons_succ]
    rfl
  refine take_ (i := 4) (N := some 7) (v := ?_) (a' := ?_) #[true, true, false, true, true, false, false, false] rfl rfl (by kernel_rfl) (fun _ _ _ h => h) (Or.inl ⟨by rfl, ?_⟩) hHeld ?_ ?_
  rotate_left
  · rintro w' ⟨_, _, _, k1, k2, k3, k4, k5, k6, k7, k8⟩
    go_simp
    with_reducible rfl
  rotate_left
  · simp only [Act.put, List.setIfInBounds_toArray, List.set_cons_zero, List.set_cons_succ]
    rfl
  refine one_ (i := 2) (N := some 5) #[true, true, true, true, true, false, false, false] rfl rfl (by kernel_rfl) (by decide) (fun K hK => ?_)
  refine goes_ Try.func94 (by kernel_rfl) rfl #[.complex .f64 a b] (by rfl) rfl rfl (by (try simp only [List.map_toArray, List.map_cons, List.map_nil]); first | done | rfl) ?_
  with_reducible refine ((HQ _).out).mono ?_
  rintro e w2 ⟨rfl, hb⟩
  refine ⟨_, rfl, ?_⟩
  have hHeld2 := MoS.keep hHeld hb
  clear hHeld hb
  refine hK.out _ _ hHeld2 (fun hHeld => ?_)
  clear hK hHeld2
  refine norm_ (a' := ?_) ?_ ?_
  rotate_left
  · show Act.put _ (some 5) _ = _
    simp only [Act.put, List.setIfInBounds_toArray, List.set_cons_zero, List.set_cons_succ]
    rfl
  refine one_ (i := 5) (N := some 8) #[true, true, true, true, true, true, false, false] rfl rfl (by kernel_rfl) (by decide) (fun K hK => ?_)
  refine goes_ Try.func85 (by kernel_rfl) rfl #[.complex .f64 c d] (by rfl) rfl rfl (by (try simp only [List.map_toArray, List.map_cons, List.map_nil]); first | done | rfl) ?_
  with_reducible refine ((HP _).out).mono ?_
  rintro e w2 ⟨rfl, hb⟩
  refine ⟨_, rfl, ?_⟩
  have hHeld2 := MoS.keep hHeld hb
  clear hHeld hb
  refine hK.out _ _ hHeld2 (fun hHeld => ?_)
  clear hK hHeld2
  refine norm_ (a' := ?_) ?_ ?_
  rotate_left
  · show Act.put _ (some 8) _ = _
    simp only [Act.put, List.setIfInBounds_toArray, List.set_cons_zero, List.set_cons_succ]
    rfl
  refine pure_ (i := 6) (N := some 9) (v := ?_) (a' := ?_) #[true, true, true, true, true, true, true, false] rfl rfl (by kernel_rfl) (fun _ _ _ h => h) (Or.inl ⟨by rfl, ?_⟩) ?_ ?_
  rotate_left
  · intro w'
    go_simp
    with_reducible rfl
  rotate_left
  · simp only [Act.put, List.setIfInBounds_toArray, List.set_cons_zero, List.set_cons_succ]
    rfl
  refine last_ (i := 7) (N := none) #[true, true, true, true, true, true, true, true] rfl rfl (by kernel_rfl) (by decide) (fun K hK => ?_)
  obtain ⟨_, HR, HB, k1, k2, k3, k4, k5, k6, k7, k8⟩ := hHeld
  rw [if_pos (by rfl)]
  go_wp2
  refine hK.out _ _ ?_
  refine done_ (by kernel_rfl) ?_
  go_wp2
  refine bodyPost_ret (results_cell_row rfl _ _ (w.heap.size + 1) 34 #[.int .i64 m, .int .i64 X, .int .i64 Y] (0, 0) _ rfl (blk_put (cs := #[.int .i64 m, .int .i64 X, .int .i64 0]) (blk_put (cs := #[.int .i64 m, .int .i64 0, .int .i64 0]) (blk_put (cs := #[.int .i64 0, .int .i64 0, .int .i64 0]) HR.out 0 _ rfl) 1 _ rfl) 2 _ rfl) Try.underlying34 rfl (by kernel_rfl)) rfl ?_
  exact ⟨rfl, below_set (below_set (below_set HB.out (by omega)) (by omega)) (by omega)⟩
end Go.Proofs.Ytpoghhcpoimepaa.P
end
end
section
/- Walks: where they end (plain), and walk.quarter. -/
namespace Go.Proofs.Ytpoghhcpoimepaa.P
open Go.Proofs.Ytpoghhcpoimepaa.B Go.RowKit Go.Proofs.YtpoghhcpoimepaaW.PrintWords Go.Proofs.YtpoghhcpoimepaaW.PrintLast Go.Proofs.YtpoghhcpoimepaaW.PrintMore Go.Proofs.Ytpoghhcpoimepaa.FX Go.Proofs.Ytpoghhcpoimepaa.H
set_option linter.unusedVariables false
set_option linter.unusedSimpArgs false
def qre (q : Nat) : Nat := if q = 0 then 4607182418800017408 else if q = 2 then 13830554455654793216 else 0
def qim (q : Nat) : Nat := if q = 1 then 4607182418800017408 else if q = 3 then 13830554455654793216 else 0
theorem q_is (q : Nat) (h : q < 4) : IsF (qre q) (ip q).1 ∧ IsF (qim q) (ip q).2 := by
  match q, h with
  | 0, _ => exact ⟨isF_one, isF_zero⟩
  | 1, _ => exact ⟨isF_zero, isF_one⟩
  | 2, _ => exact ⟨isF_neg1, isF_zero⟩
  | 3, _ => exact ⟨isF_zero, isF_neg1⟩
set_option maxHeartbeats 1000000 in
set_option maxRecDepth 100000 in
theorem quarter_calls (n : Int) (w : World) : Calls Try.prog 74 #[.int .i64 n] w fun e w' => e = .returned (.complex .f64 (qre (n % 4).toNat) (qim (n % 4).toNat)) ∧ Below w.heap.size w w' := by
  have hand := and_three n
  have hq : n % 4 = 0 ∨ n % 4 = 1 ∨ n % 4 = 2 ∨ n % 4 = 3 := by omega
  rcases hq with h | h | h | h <;> rw [h] at hand ⊢ <;> clear h
  · have e1 : ∀ W : World, (Instr.index 120 (.agg #[.complex .f64 4607182418800017408 0, .complex .f64 0 4607182418800017408, .complex .f64 13830554455654793216 0, .complex .f64 0 13830554455654793216]) (.int .i64 0)).run Try.prog W = .ok (.complex .f64 4607182418800017408 0) W := fun W => by kernel_rfl
    go_enter Try.func74, Try.ntmps74
    go_wp2
    go_ret
    exact ⟨rfl, Below.refl _ _⟩
  · have e1 : ∀ W : World, (Instr.index 120 (.agg #[.complex .f64 4607182418800017408 0, .complex .f64 0 4607182418800017408, .complex .f64 13830554455654793216 0, .complex .f64 0 13830554455654793216]) (.int .i64 1)).run Try.prog W = .ok (.complex .f64 0 4607182418800017408) W := fun W => by kernel_rfl
    go_enter Try.func74, Try.ntmps74
    go_wp2
    go_ret
    exact ⟨rfl, Below.refl _ _⟩
  · have e1 : ∀ W : World, (Instr.index 120 (.agg #[.complex .f64 4607182418800017408 0, .complex .f64 0 4607182418800017408, .complex .f64 13830554455654793216 0, .complex .f64 0 13830554455654793216]) (.int .i64 2)).run Try.prog W = .ok (.complex .f64 13830554455654793216 0) W := fun W => by kernel_rfl
    go_enter Try.func74, Try.ntmps74
    go_wp2
    go_ret
    exact ⟨rfl, Below.refl _ _⟩
  · have e1 : ∀ W : World, (Instr.index 120 (.agg #[.complex .f64 4607182418800017408 0, .complex .f64 0 4607182418800017408, .complex .f64 13830554455654793216 0, .complex .f64 0 13830554455654793216]) (.int .i64 3)).run Try.prog W = .ok (.complex .f64 0 13830554455654793216) W := fun W => by kernel_rfl
    go_enter Try.func74, Try.ntmps74
    go_wp2
    go_ret
    exact ⟨rfl, Below.refl _ _⟩
/-- A move: the quarter that one looks to, and where one stands. -/
def stepW (s : Nat × Int × Int) (k n : Int) : Nat × Int × Int :=
  if k = 3 then ((s.1 + ofV k n) % 4, s.2) else if k = 4 then ((s.1 + 3 * ofV k n) % 4, s.2) else if k = 2 then (s.1, s.2.1 - ofV k n * (ip s.1).1, s.2.2 - ofV k n * (ip s.1).2) else (s.1, s.2.1 + ofV k n * (ip s.1).1, s.2.2 + ofV k n * (ip s.1).2)
def foldW (l : List S56) : Nat × Int × Int := l.foldl (fun s m => stepW s m.f0 m.f1) (0, 0, 0)
theorem foldW_snoc (l : List S56) (m : S56) : foldW (l ++ [m]) = stepW (foldW l) m.f0 m.f1 := by unfold foldW; rw [List.foldl_append]; rfl
theorem ipmul (q : Nat) (m : Nat) (hm : m ≤ 1048576) : ((m * (ip q).1 : Int).natAbs ≤ 1048576) ∧ ((m * (ip q).2 : Int).natAbs ≤ 1048576) := by
  have h := (ip_small q).1
  constructor
  · rw [Int.natAbs_mul]; exact Nat.le_trans (Nat.mul_le_mul_left _ h.1) (by omega)
  · rw [Int.natAbs_mul]; exact Nat.le_trans (Nat.mul_le_mul_left _ h.2) (by omega)
theorem stepW_near (s : Nat × Int × Int) (k n : Int) (B : Nat) (h : near B s.2) : near (B + 1048576) (stepW s k n).2 := by
  obtain ⟨q, x, y⟩ := s
  have h3 := ipmul q (ofV k n) (ofV_le k n)
  obtain ⟨h1, h2⟩ := h
  unfold stepW near
  simp only [] at h1 h2 ⊢
  generalize (ofV k n : Int) * (ip q).1 = A at *
  generalize (ofV k n : Int) * (ip q).2 = C at *
  by_cases c3 : k = 3
  · rw [if_pos c3]; simp only []; omega
  · by_cases c4 : k = 4
    · rw [if_neg c3, if_pos c4]; simp only []; omega
    · by_cases c2 : k = 2
      · rw [if_neg c3, if_neg c4, if_pos c2]; simp only []; omega
      · rw [if_neg c3, if_neg c4, if_neg c2]; simp only []; omega
theorem stepW_lt (s : Nat × Int × Int) (k n : Int) (h : s.1 < 4) : (stepW s k n).1 < 4 := by
  unfold stepW
  split
  · exact Nat.mod_lt _ (by omega)
  · split
    · exact Nat.mod_lt _ (by omega)
    · split <;> exact h
theorem fold_ok : ∀ (l : List S56) (s : Nat × Int × Int) (B : Nat), s.1 < 4 → near B s.2 → (l.foldl (fun s m => stepW s m.f0 m.f1) s).1 < 4 ∧ near (B + l.length * 1048576) (l.foldl (fun s m => stepW s m.f0 m.f1) s).2 := by
  intro l
  induction l with
  | nil => intro s B h1 h2; exact ⟨h1, by rw [List.length_nil, Nat.zero_mul, Nat.add_zero]; exact h2⟩
  | cons m l ih =>
    intro s B h1 h2
    have := ih (stepW s m.f0 m.f1) (B + 1048576) (stepW_lt _ _ _ h1) (stepW_near _ _ _ _ h2)
    rw [List.foldl_cons, List.length_cons, show B + (l.length + 1) * 1048576 = B + 1048576 + l.length * 1048576 by omega]
    exact this
theorem foldW_ok (l : List S56) : (foldW l).1 < 4 ∧ near (l.length * 1048576) (foldW l).2 := by
  have := fold_ok l (0, 0, 0) 0 (by decide) ⟨by decide, by decide⟩
  rwa [Nat.zero_add] at this
end Go.Proofs.Ytpoghhcpoimepaa.P
end
