/- Several texts of this proof in one: what the law's functions come to, and the lemmas (some as the kit's print.sh printed them, what is not used struck). -/
import Derived.Test.YtajgillnkkkgjaaProg
import Derived.Below
import Derived.Deep.Draws
import Derived.Deep.AppendLies
import Derived.Maps.AppendAt
import Derived.OwnWalk
import Derived.Laws.BytesArg
import Derived.Laws.MakeOwn
import Derived.Laws.OwnMore
import Derived.Deep.OwnRows
import Derived.Tactics
import Derived.Lib.ConvBytes
import Derived.Laws.Slices
import Derived.WalkKit
import Derived.KernelRfl
import Derived.RowKit3
import Derived.Deep.LoopGhost
import Derived.Deep.QuietTactic
import Derived.BigQuiet
import Derived.WideLaws
import Derived.Deep.DeepCutAuto
import Derived.Deep.CutBlock
import Derived.Deep.RegionHeld3
import Derived.Laws.Rows
import Derived.Lib.AppendStr
import Derived.ArgAppend
import Derived.Laws.IdiomCopy
import Derived.OrdersHeld
import Derived.Laws.BitsLemmas
import Derived.RowKit
import Derived.Test.YtajgillnkkkgjaaM1
import Derived.Deep.Upon
import Derived.ScopeJumps
import Derived.Scope
import Derived.Laws.Tables
import Derived.Laws.CopyOwn
section
-- printed by the session's own call of print.py. Not trusted: Lean checks it.
namespace Go.Proofs.Ytajgillnkkkgjaa.P
open Go.RowKit Go.Proofs.YtajgillnkkkgjaaW.PrintWords Go.Proofs.YtajgillnkkkgjaaW.PrintLast Go.Proofs.YtajgillnkkkgjaaW.PrintMore
attribute [local go_sem] max2_int min2_int max_two min_two max_three min_three max_four min_four
set_option linter.unusedVariables false
set_option linter.unusedSimpArgs false
def errW : Option Int → Value
  | none => .nilIface
  | some c => .iface 0 (.int .i64 c)
theorem errW_none : errW none = .nilIface := rfl
theorem errW_some (c : Int) : errW (some c) = .iface 0 (.int .i64 c) := rfl
theorem info3 : (Try.prog.info? 3).map (fun i => (i.zero, i.size, i.bytes)) = some (some (.int .i64 0), 1, 8) := by kernel_rfl
theorem info5 : (Try.prog.info? 5).map (fun i => (i.zero, i.size, i.bytes)) = some (some (.int .u8 0), 1, 1) := by kernel_rfl
theorem info51 : (Try.prog.info? 51).map (fun i => (i.zero, i.size, i.bytes)) = some (some (.slice none 0 0), 1, 24) := by kernel_rfl
-- the values' own types
/-! #### struct type 29 -/
structure S29 where
  f0 : Int
  f1 : Int
/-! #### struct type 32 -/
structure S32 where
  f0 : Int
  f1 : Int
  f2 : Int
  f3 : Int
  f4 : S29
  f5 : S29
  f6 : (List Int)
/-! #### struct type 34 -/
structure S34 where
  f0 : S32
  f1 : Int
  f2 : Int
  f3 : Int
  f4 : Int
  f5 : (List Int)
/-! #### struct type 37 -/
structure S37 where
  f0 : Int
  f1 : Int
  f2 : Bool
def rd_L9 (xs : List (List Int)) (i : Int) : (List Int) := xs.getD i.toNat ([] : List Int)
theorem at_L9 {w : World} {A : Option Addr} {n : Nat} {xs : List (List Int)} (h : Kd.C (Kd.slice 5 (Kd.int .u8)) w A n xs) (i : Int) (h0 : 0 ≤ i) (h1 : i < n) : ∃ ad A0 c0, A = some ad ∧ w.cell? (ad.add i.toNat) = some (.slice A0 (rd_L9 xs i).length c0) ∧ (rd_L9 xs i).length ≤ c0 ∧ (Kd.int .u8).C w A0 (rd_L9 xs i).length (rd_L9 xs i) := by
  obtain ⟨ad, c, e, _, hK, hc0⟩ := Kd.C_get h ([] : List Int) i h0 h1
  have hc : ∀ j u, c[j]? = some u → w.cell? (ad.add (i.toNat * 1 + j)) = some u := hc0
  obtain ⟨A0, c0, rfl, l0, g0⟩ := hK
  exact ⟨ad, A0, c0, e, by have hq := hc 0 _ rfl; rwa [Nat.mul_one, Nat.add_zero] at hq, l0, g0⟩
/-! #### struct type 55 -/
structure S55 where
  f0 : Int
  f1 : Int
  f2 : (List Int)
/-! #### struct type 84 -/
structure S84 where
  f0 : Int
  f1 : Int
  f2 : Int
  f3 : Int
  f4 : Int
  f5 : Int
  f6 : (List Int)
/-! #### struct type 106 -/
structure S106 where
  f0 : Int
  f1 : Int
  f2 : Int
  f3 : Int
  f4 : Int
  f5 : Int
  f6 : (List Int)
end Go.Proofs.Ytajgillnkkkgjaa.P
end
section
namespace Go.Proofs.Ytajgillnkkkgjaa.P
open Go.RowKit Go.Proofs.YtajgillnkkkgjaaW.PrintWords Go.Proofs.YtajgillnkkkgjaaW.PrintLast Go.Proofs.YtajgillnkkkgjaaW.PrintMore
set_option linter.unusedVariables false
set_option linter.unusedSimpArgs false
theorem add0 (A : Option Addr) : A.map (fun x => x.add 0) = A := by cases A <;> simp [Addr.add]
theorem slice_full (A0 : Option Addr) (n c0 : Nat) (w : World) (hc : n ≤ c0) : (Instr.slice 51 (.slice A0 n c0) none (some (.int .i64 n)) (some (.int .i64 n))).run Try.prog w = .ok (.slice A0 n n) w := by
  obtain ⟨i, hi, _⟩ := info_parts info5
  simp [Instr.slice, Instr.sliceBounds, Instr.sliceBound, run_underlying Try.underlying51, asIntOf, hc, sizeOf, typeInfo, hi, add0]
theorem clip_calls (A0 : Option Addr) (n c0 : Nat) (w : World) (hc : n ≤ c0) :
    Calls Try.prog 117 #[.slice A0 n c0] w fun e w' => e = .returned (.slice A0 n n) ∧ w = w' := by
  have hsl := slice_full A0 n c0 w hc
  go_enter Try.func117, Try.ntmps117
  go_wp2
  go_ret
  exact ⟨rfl, rfl⟩
-- cells of a row of numbers
theorem C_cells {k : IntKind} {w : World} {ad : Addr} {l : List Int} (h : Kd.C (Kd.int k) w (some ad) l.length l) : ∀ j u, (l.map (Value.int k))[j]? = some u → w.cell? (ad.add j) = some u := by
  intro j u hu
  rw [List.getElem?_map] at hu
  obtain ⟨x, hx, rfl⟩ := Option.map_eq_some_iff.1 hu
  have hj : j < l.length := (List.getElem?_eq_some_iff.1 hx).1
  obtain ⟨ad', he, hc⟩ := Kd.at_int h j (by omega) (by omega)
  injection he with he
  subst he
  simp only [Int.toNat_natCast] at hc
  rw [hc, rd, List.getD_eq_getElem?_getD, Int.toNat_natCast, hx]
  rfl
theorem add_plain' (g i j : Nat) : (⟨g, i, none⟩ : Addr).add j = ⟨g, i + j, none⟩ := by unfold Addr.add; split <;> simp_all
theorem C_none {k : IntKind} {w : World} {n : Nat} {l : List Int} (h : Kd.C (Kd.int k) w none n l) : l = [] := by
  obtain ⟨h1, _, h3⟩ := h
  rcases Nat.eq_zero_or_pos n with h0 | h0
  · exact List.eq_nil_of_length_eq_zero (h1.trans h0)
  · obtain ⟨ad, e, _⟩ := h3 h0
    cases e
theorem C_of_cells {k : IntKind} {w : World} {ad : Addr} {l : List Int} (hl : l.length ≤ 9223372036854775807) (h : ∀ j u, (l.map (Value.int k))[j]? = some u → w.cell? (ad.add j) = some u) : Kd.C (Kd.int k) w (some ad) l.length l := by
  refine ⟨rfl, hl, fun _ => ⟨ad, rfl, fun j p hp => ⟨[.int k p], rfl, rfl, fun i u hu => ?_⟩⟩⟩
  cases i with
  | zero =>
    simp only [List.getElem?_cons_zero, Option.some.injEq] at hu
    subst hu
    simp only [Nat.add_zero, show (Kd.int k).sz = 1 from rfl, Nat.mul_one]
    exact h j _ (by rw [List.getElem?_map, hp]; rfl)
  | succ i => simp at hu
theorem wpList_append_nothing {P : Program} (w : World) {ops : Array Oper} {rest : List Oper} {o : Oper} {a : Act} {Q : Exit → Act → World → Prop} (hgd : o.guard = none) (s x : Operand) (t : TypeId)
    (ho : o.op = .call { callee := .builtin .append, args := #[s, x], argTypes := #[t, t] }) (e : TypeId) (i : TypeInfo) (ht : P.underlying t = some (.slice e)) (hi : P.info? e = some i)
    (base : Option Addr) (n cap : Nat) (hle : n ≤ cap) (hs : a.eval s = .slice base n cap) (v : Value) (hx : a.eval x = v) (hsrc : Src P i.size t v 0 [] w)
    (h : wpList P ops Q rest (a.put o.dst (.slice base n cap)) w) : wpList P ops Q (o :: rest) a w := by
  refine wpList_plain hgd fun K hK => ?_
  have hr := run_append_nothing w t t o.type e i ht hi base n cap hle v hsrc
  unfold Oper.wp execOp
  simp only [ho, resolve, invoke, builtin, Sem.run_bind, Sem.run_pure, Result.andThen_ok, List.map_toArray, List.map_cons, List.map_nil, hs, hx, hr]
  exact hK _ _ h
def BehindPost (l0 l1 : List Int) (A0 : Option Addr) (w : World) (e : Ending) (w' : World) : Prop :=
  ∃ v, e = .returned v ∧ ((l1 = [] ∧ v = .slice A0 l0.length l0.length ∧ w = w') ∨ (l1 ≠ [] ∧ Kd.R (Kd.int .u8) 5 w' w.heap.size (fun _ => True) v (l0 ++ l1) ∧ Below w.heap.size w w'))
theorem grown_below {w w' : World} (h : w.grownBy w' none) : Below w.heap.size w w' := ⟨h.os, h.tape, h.output, h.size, fun k hk => h.block k hk (by simp)⟩
set_option maxHeartbeats 800000 in
theorem behind_calls (A0 : Option Addr) (c0 : Nat) (l0 : List Int) (A1 : Option Addr) (c1 : Nat) (l1 : List Int) (w : World) (hr0 : Kd.C (Kd.int .u8) w A0 l0.length l0) (hc0 : l0.length ≤ c0) (hr1 : Kd.C (Kd.int .u8) w A1 l1.length l1)
    (hb : l0.length + l1.length ≤ 140737488355328) :
    Calls Try.prog 108 #[.slice A0 l0.length c0, .slice A1 l1.length c1] w (BehindPost l0 l1 A0 w) := by
  obtain ⟨i, hi, hz, hs, hby⟩ := info_parts info5
  have Hz := Aside0.mk hz; clear hz
  have Hs := Aside0.mk hs; clear hs
  have Hby := Aside0.mk hby; clear hby
  have Hi := Aside0.mk hi; clear hi
  by_cases h1 : l1 = []
  · subst h1
    go_enter Try.func108, Try.ntmps108
    go_wp2_with (first | (go_at_call 117; refine (clip_calls A0 l0.length c0 _ hc0).mono ?_; rintro e w' ⟨rfl, rfl⟩) | (at_builtin; refine wpList_append_nothing _ rfl _ _ 51 rfl 5 i Try.underlying51 Hi.out A0 l0.length l0.length (Nat.le_refl _) rfl (.slice A1 0 c1) rfl ?g1 ?_; rotate_left))
    case g1 =>
      cases A1 with
      | none => exact Src.ofNil (w := w) Try.underlying51 c1
      | some a => exact Src.ofSlice (w := w) Try.underlying51 a 0 c1 [] (by simp) (by simp) (by simp)
    go_ret
    exact ⟨_, rfl, .inl ⟨rfl, rfl, rfl⟩⟩
  · cases A1 with
    | none => exact absurd (C_none hr1) h1
    | some a1 =>
      have Hb := Aside0.mk hb; clear hb
      have H0 := Aside0.mk hr0; clear hr0
      have H1 := Aside0.mk hr1; clear hr1
      have N1 := Aside0.mk h1; clear h1
      go_enter Try.func108, Try.ntmps108
      go_wp2_with (first | (go_at_call 117; refine (clip_calls A0 l0.length c0 _ hc0).mono ?_; rintro e w' ⟨rfl, rfl⟩) | (at_builtin; refine wpList_append_grows _ rfl _ _ 51 rfl 5 i (.int .u8 0) 1 1 Try.underlying51 Hi.out Hz.out Hs.out Hby.out rfl (by decide) A0 l0.length l0.length (l0.map (Value.int .u8)) rfl ?g1 ?g2 ?g3 a1 l1.length c1 (l1.map (Value.int .u8)) rfl ?g4 ?g5 ?g6 ?g7 ?g8 ?g9 ?_; rotate_left 9; intro v' w' ho hg; have Ho := Aside0.mk ho; clear ho; have Hg := Aside0.mk hg; clear hg))
      case g1 => rintro rfl; have := C_none H0.out; subst this; exact ⟨rfl, rfl⟩
      case g2 => simp
      case g3 => rintro b rfl; exact C_cells H0.out
      case g4 => simp
      case g5 => exact C_cells H1.out
      case g6 => intro u hu; obtain ⟨x, _, rfl⟩ := List.mem_map.1 hu; rfl
      case g7 => have := List.length_pos_iff.2 N1.out; omega
      case g8 => have := Hb.out; unfold maxLen; omega
      case g9 => have := Hb.out; omega
      go_ret
      refine ⟨_, rfl, .inr ⟨N1.out, ?_, grown_below Hg.out⟩⟩
      refine Kd.R_of_own (enc := Value.int .u8) (h1 := fun _ => rfl) ?_ (fun _ _ => trivial)
      have := Ho.out
      rw [← List.map_append] at this
      rw [List.length_append]
      exact this
theorem behind_calls' (A0 : Option Addr) (c0 : Nat) (l0 : List Int) (A1 : Option Addr) (n1 c1 : Nat) (l1 : List Int) (w : World) (hn : l1.length = n1) (hr0 : Kd.C (Kd.int .u8) w A0 l0.length l0) (hc0 : l0.length ≤ c0) (hr1 : Kd.C (Kd.int .u8) w A1 l1.length l1)
    (hb : l0.length + l1.length ≤ 140737488355328) :
    Calls Try.prog 108 #[.slice A0 l0.length c0, .slice A1 n1 c1] w (BehindPost l0 l1 A0 w) := by
  subst hn
  exact behind_calls A0 c0 l0 A1 c1 l1 w hr0 hc0 hr1 hb
/-- The bytes of a number's lower k bytes, the greatest first. -/
def byteAt (x : Int) (i : Nat) : Int := x / 2 ^ (8 * i) % 256
def putList (x : Int) (k : Nat) : List Int := (List.range k).reverse.map (byteAt x)
def kOf (a : Int) : Nat := (min (max a 0) 8).toNat
def pack_Put.f (l0 : List Int) (a1 : Int) (a2 : Int) : Option (List Int) := if l0.length ≤ 140737488355320 ∧ 0 ≤ a1 ∧ a1 < 18446744073709551616 then some (l0 ++ putList a1 (kOf a2)) else none
/-- The array behind i rounds. -/
def arrAt (x : Int) (i : Nat) : List Value := (List.range 8).map fun j => Value.int .u8 (if 8 - i ≤ j then byteAt x (7 - j) else 0)
theorem arr_len (x : Int) (i : Nat) : (arrAt x i).length = 8 := by simp [arrAt]
theorem arr_zero (x : Int) : arrAt x 0 = [Value.int IntKind.u8 0, Value.int IntKind.u8 0, Value.int IntKind.u8 0, Value.int IntKind.u8 0, Value.int IntKind.u8 0, Value.int IntKind.u8 0, Value.int IntKind.u8 0, Value.int IntKind.u8 0] := by
  simp [arrAt, List.range, List.range.loop]
theorem arr_set (x : Int) (i : Nat) (hi : i < 8) : (arrAt x i).set (7 - i) (Value.int .u8 (byteAt x i)) = arrAt x (i + 1) := by
  apply List.ext_getElem (by simp [arr_len])
  intro j h1 h2
  simp only [arr_len] at h1 h2
  rw [List.getElem_set]
  simp only [arrAt, List.getElem_map, List.getElem_range]
  by_cases e : 7 - i = j
  · rw [if_pos e, if_pos (by omega), show 7 - j = i from by omega]
  · rw [if_neg e]
    by_cases h3 : 8 - i ≤ j
    · rw [if_pos h3, if_pos (by omega)]
    · rw [if_neg h3, if_neg (by omega)]
theorem shr_byte (x : Int) (i : Nat) : x / 2 ^ (8 * i) / 256 = x / 2 ^ (8 * (i + 1)) := by
  rw [Int.ediv_ediv_of_nonneg (by exact Int.pow_nonneg (by decide)), show (8 * (i + 1)) = 8 * i + 8 from by omega, Int.pow_add]
  rfl
theorem put_cells {w : World} {g : Nat} {x : Int} (h : w.heap[g]? = some (.cells (arrAt x 8).toArray 163 (0, 0))) {K : Nat} (hK : K ≤ 8) : Kd.C (Kd.int .u8) w (some ⟨g, 8 - K, none⟩) (putList x K).length (putList x K) := by
  have hl : (putList x K).length = K := by simp [putList]
  refine C_of_cells (by omega) fun j u hu => ?_
  rw [add_plain', blk_cell h]
  rw [List.getElem?_map] at hu
  obtain ⟨y, hy, rfl⟩ := Option.map_eq_some_iff.1 hu
  have hj : j < K := by have := (List.getElem?_eq_some_iff.1 hy).1; omega
  obtain ⟨h1, rfl⟩ := List.getElem?_eq_some_iff.1 hy
  simp [putList, arrAt, show 8 - K + j < 8 from by omega, show 7 - (8 - K + j) = K - 1 - j from by omega]
def PutPost (P0_ : Nat → Prop) (w : World) (r : List Int) (e : Ending) (w' : World) : Prop := ∃ v0_ : Value, e = .returned (v0_) ∧ Kd.V (Kd.int .u8) 5 w' w.heap.size (fun k_ => (P0_ k_ ∨ w.heap.size ≤ k_)) v0_ r ∧ Below w.heap.size w w'
theorem put_post {P0_ : Nat → Prop} {A0 : Option Addr} {c0 K : Nat} {l0 : List Int} {a1 : Int} {w wr w' : World} {v : Value} (hs : Kd.V (Kd.int .u8) 5 w w.heap.size (fun k_ => P0_ k_) (.slice A0 l0.length c0) l0) (hB : Below w.heap.size w wr)
    (hv : (putList a1 K = [] ∧ v = .slice A0 l0.length l0.length ∧ wr = w') ∨ (putList a1 K ≠ [] ∧ Kd.R (Kd.int .u8) 5 w' wr.heap.size (fun _ => True) v (l0 ++ putList a1 K) ∧ Below wr.heap.size wr w')) : PutPost P0_ w (l0 ++ putList a1 K) (.returned v) w' := by
  rcases hv with ⟨he, rfl, rfl⟩ | ⟨_, hR, hb⟩
  · rw [he, List.append_nil]
    refine ⟨_, rfl, ⟨A0, _, rfl, Nat.le_refl _, Kd.V_F (Kd.V_mono (Kd.V_below hs hB) (fun _ h => .inl h))⟩, hB⟩
  · refine ⟨_, rfl, Kd.R_V (Kd.R_mono (Kd.R_bound hR) (fun k hk => .inr ?_)), below_step hB hb⟩
    exact Nat.le_trans hB.size hk.2.1
set_option maxHeartbeats 1000000 in
theorem pack_Put.calls (P0_ : Nat → Prop) (A0 : Option Addr) (c0 : Nat) (l0 : List Int) (a1 : Int) (a2 : Int) (r : List Int) (w : World) (hs0 : Kd.V (Kd.int .u8) 5 w w.heap.size (fun k_ => P0_ k_) (.slice A0 l0.length c0) l0) (h : pack_Put.f l0 a1 a2 = some r) :
    Calls Try.prog 77 #[.slice A0 l0.length c0, .int .u64 a1, .int .i64 a2] w (PutPost P0_ w r) := by
  have hc0 := (Kd.V_at hs0).2.1
  have HS := Aside0.mk hs0; clear hs0
  have H := Aside0.mk h; clear h
  go_enter Try.func77, Try.ntmps77
  go_wp2
  go_loopw [1, 9] (fun v1 v9 wr => ∃ i : Nat, i ≤ 8 ∧ v9 = .int .i64 i ∧ v1 = .int .u64 (a1 / 2 ^ (8 * i)) ∧ Aside0 (wr.heap[w.heap.size]? = some (.cells (arrAt a1 i).toArray 163 (0, 0))) ∧ Aside0 (Below w.heap.size w wr)) (fun _ v9 _ => 8 - (intOf v9).toNat)
  case atStart =>
    refine ⟨0, by omega, rfl, by simp, ⟨?_⟩, ⟨below_alloc (Below.refl _ _) _⟩⟩
    rw [arr_zero]; exact blk_new _ _
  case round =>
    obtain ⟨i, hi, rfl, rfl, HC, HB⟩ := hrel
    by_cases hlt : i < 8
    · have hcell : wr.cell? ⟨w.heap.size, 7 - i, none⟩ = some ((arrAt a1 i).getD (7 - i) undef) := by
        rw [blk_cell HC.out]
        have : (7 - i) < (arrAt a1 i).length := by rw [arr_len]; omega
        simp [this]
      have hfr := blk_frozen HC.out (7 - i)
      go_wp2
      go_roundw
      case rel =>
        refine ⟨i + 1, by omega, by go_num, ?_, ⟨?_⟩, ⟨below_set HB.out (Nat.le_refl _)⟩⟩
        · rw [← shr_byte]
        · refine blk_put HC.out _ _ ?_
          rw [List.setIfInBounds_toArray, ← arr_set _ _ hlt]
          congr 2
      case measure => simp [intOf]; omega
    · obtain rfl : i = 8 := by omega
      have hK : a2 < 0 ∨ a2 = 0 ∨ a2 = 1 ∨ a2 = 2 ∨ a2 = 3 ∨ a2 = 4 ∨ a2 = 5 ∨ a2 = 6 ∨ a2 = 7 ∨ a2 = 8 ∨ 8 < a2 := by omega
      have hV := Kd.V_reads' HS.out
      have fin : ∀ K o, K ≤ 8 → K = kOf a2 → o = (if K = 0 then 0 else 8 - K) → Calls Try.prog 108 #[.slice A0 l0.length c0, .slice (some ⟨w.heap.size, o, none⟩) K K] wr (fun e w' => PutPost P0_ w r e w' ∧ ∃ v, e = .returned v) := by
        rintro K o hk hK rfl
        have h := H.out
        unfold pack_Put.f at h
        split at h
        · rename_i hl
          rw [← hK] at h
          obtain rfl := Option.some.inj h
          refine (behind_calls' A0 c0 l0 _ K K (putList a1 K) wr (by simp [putList]) (Kd.C_below hV.2.2 HB.out) hc0 ?_ ?_).mono ?_
          · by_cases h0 : K = 0
            · subst h0
              exact ⟨rfl, by simp [putList], fun h => by simp [putList] at h⟩
            · rw [if_neg h0]
              exact put_cells HC.out hk
          · simp [putList]; omega
          · rintro e w' ⟨v, rfl, hv⟩
            exact ⟨put_post HS.out HB.out hv, _, rfl⟩
        · cases h
      have FIN := Aside0.mk fin; clear fin hV
      rcases hK with hK | hK | hK | hK | hK | hK | hK | hK | hK | hK | hK
      all_goals
        try subst hK
        go_wp2_with fail
        refine (FIN.out _ _ (by omega) (by first | rfl | (unfold kOf; omega)) (by rfl)).mono ?_
        rintro e w' ⟨hp, v, rfl⟩
        have HP := Aside0.mk hp; clear hp
        go_wp2
        go_ret
        exact HP.out
end Go.Proofs.Ytajgillnkkkgjaa.P
end
section
namespace Go.Proofs.Ytajgillnkkkgjaa.H
/-- The code behind label l, run inside its scope, comes to Q. -/
def ScopeGo (P : Program) (c rest : Code) (Q : Exit → Act → World → Prop) (a : Act) (w : World) : Prop :=
  ∀ b k cs, ∃ e a' w', Q e a' w' ∧ Arrives P (lone (b.at a (.code rest :: .inScope c :: k)) cs w) b k cs e a' w'
section
variable {P : Program} {a : Act} {w : World} {Q : Exit → Act → World → Prop}
theorem wp_scope_enter {c rest : Code} (l : Nat) (hf : findLabel c l = some rest) (h : c.wp P (Exit.jump l (ScopeGo P c rest Q) Q) a w) : (Code.scope c).wp P Q a w := by
  intro b k cs
  have hg : gotoIn l (.inScope c :: k) = some (.code rest :: .inScope c :: k) := by simp [gotoIn, hf]
  obtain ⟨e, a₁, w₁, hq, harr⟩ := h b (.inScope c :: k) cs
  cases e with
  | normal => exact ⟨.normal, a₁, w₁, hq, .head step_scope (Steps.trans harr (.one step_inScope))⟩
  | exit id => exact ⟨.exit id, a₁, w₁, hq, fun k' hk => .head step_scope (harr k' (by simp [exitTo, hk]))⟩
  | goto l' =>
    obtain ⟨rfl, hJ'⟩ := hq
    obtain ⟨e₂, a₂, w₂, hq₂, harr₂⟩ := hJ' b k cs
    exact ⟨e₂, a₂, w₂, hq₂, .of_steps (.head step_scope (harr _ hg)) harr₂⟩
  | ret => exact ⟨_, a₁, w₁, hq, .of_steps (.one step_scope) harr⟩
  | panic ch => exact ⟨_, a₁, w₁, hq, .of_steps (.one step_scope) harr⟩
  | outgrown => exact ⟨_, a₁, w₁, hq, .of_steps (.one step_scope) harr⟩
theorem scopeGo_of {c rest : Code} (l : Nat) (I : Nat → Act → World → Prop) (hf : findLabel c l = some rest)
    (pass : ∀ n a w, I n a w → rest.wp P (Exit.jump l (fun a' w' => ∃ n', n' < n ∧ I n' a' w') Q) a w) : ∀ n a w, I n a w → ScopeGo P c rest Q a w := by
  intro n
  induction n using Nat.strongRecOn with
  | _ n ih =>
    intro a w hI b k cs
    have hg : gotoIn l (.inScope c :: k) = some (.code rest :: .inScope c :: k) := by simp [gotoIn, hf]
    obtain ⟨e, a₁, w₁, hq, harr⟩ := pass n a w hI b (.inScope c :: k) cs
    cases e with
    | normal => exact ⟨.normal, a₁, w₁, hq, Steps.trans harr (.one step_inScope)⟩
    | exit id => exact ⟨.exit id, a₁, w₁, hq, fun k' hk => harr k' (by simp [exitTo, hk])⟩
    | goto l' =>
      obtain ⟨rfl, n', hlt, hJ'⟩ := hq
      obtain ⟨e₂, a₂, w₂, hq₂, harr₂⟩ := ih n' hlt a₁ w₁ hJ' b k cs
      exact ⟨e₂, a₂, w₂, hq₂, .of_steps (harr _ hg) harr₂⟩
    | ret => exact ⟨_, a₁, w₁, hq, harr⟩
    | panic ch => exact ⟨_, a₁, w₁, hq, harr⟩
    | outgrown => exact ⟨_, a₁, w₁, hq, harr⟩
def putS (a : Act) : List Tmp → List Value → Act
  | d :: ds, u :: us => putS (a.put (some d) u) ds us
  | _, _ => a
theorem put_self (a : Act) (d : Tmp) : a.put (some d) (a.tmps.getD d undef) = a := by
  cases a with
  | mk tmps defers =>
    simp only [Act.put, Act.mk.injEq, and_true]
    apply Array.ext (by simp)
    intro i h1 h2
    rw [Array.getElem_setIfInBounds]
    split
    · rename_i e; subst e; simp [h2]
    · rfl
theorem putS_self (a : Act) (ds : List Tmp) : putS a ds (ds.map fun d => a.tmps.getD d undef) = a := by
  induction ds with
  | nil => rfl
  | cons d ds ih => rw [List.map_cons, putS, put_self]; exact ih
theorem wp_skip_seq {X : Code} (h : X.wp P Q a w) : (Code.seq .skip X).wp P Q a w := wp_seq (wp_skip h)
/-- At the label: ds: the slots that the code behind it writes. -/
theorem wp_label_slots {c X : Code} (l : Nat) (hf : findLabel c l = some (.seq .skip X)) (ds : List Tmp) (R : Nat → List Value → World → Prop) (n₀ : Nat) (h₀ : R n₀ (ds.map fun d => a.tmps.getD d undef) w)
    (round : ∀ n us w, us.length = ds.length → R n us w → ∀ (J : Nat → Act → World → Prop) (K : Act → World → Prop), (∀ k us' a' w', us'.length = ds.length → putS a ds us' = a' → R k us' w' → J k a' w') → (∀ a' w', Handed J n a' w' → K a' w') →
      X.wp P (Exit.jump l K Q) (putS a ds us) w) : X.wp P (Exit.jump l (ScopeGo P c (.seq .skip X) Q) Q) a w := by
  have hp : ∀ n a' w', (∃ us, us.length = ds.length ∧ a' = putS a ds us ∧ R n us w') → X.wp P (Exit.jump l (fun a'' w'' => ∃ n', n' < n ∧ (∃ us, us.length = ds.length ∧ a'' = putS a ds us ∧ R n' us w'')) Q) a' w' := by
    rintro n _ w ⟨us, hl, rfl, hR⟩
    exact round n us w hl hR _ _ (fun k us' a' w' hl' ha hR' => ⟨us', hl', ha.symm, hR'⟩) (fun _ _ h => h)
  refine wp_mono (hp n₀ a w ⟨_, by simp, (putS_self a ds).symm, h₀⟩) ?_
  intro e a' w' hq
  cases e with
  | goto l' =>
    obtain ⟨rfl, n', _, hI⟩ := hq
    exact ⟨rfl, scopeGo_of l' _ hf (fun n a w h => wp_skip_seq (hp n a w h)) n' a' w' hI⟩
  | normal => exact hq
  | exit id => exact hq
  | ret => exact hq
  | panic ch => exact hq
  | outgrown => exact hq
end
end Go.Proofs.Ytajgillnkkkgjaa.H
end
section
namespace Go.Proofs.Ytajgillnkkkgjaa.P
open Go.RowKit Go.Proofs.YtajgillnkkkgjaaW.PrintWords Go.Proofs.YtajgillnkkkgjaaW.PrintLast Go.Proofs.YtajgillnkkkgjaaW.PrintMore Go.Proofs.Ytajgillnkkkgjaa.H
set_option linter.unusedVariables false
set_option linter.unusedSimpArgs false
def zArr : Array Value := Array.replicate 256 (.int .u32 0)
theorem info173 : (Try.prog.info? 173).map (fun i => (i.zero, i.size, i.bytes)) = some (some (.agg zArr), 256, 1024) := by kernel_rfl
theorem zero173 (w : World) : (zeroValue 173).run Try.prog w = .ok (.agg zArr) w := by
  obtain ⟨i, hi, hz, hs, hb⟩ := info_parts info173
  simp [zeroValue, typeInfo, hi, hz]
theorem cells173 : (Value.agg zArr).cells = zArr := rfl
/-- One turn of the register. -/
def crcStep (x : Int) : Int := bits .xor .u32 (x / 2) (bits .and .u32 3988292384 ((-(bits .and .u32 x 1)) % 4294967296))
def crcSteps : Nat → Int → Int
  | 0, x => x
  | n + 1, x => crcSteps n (crcStep x)
def tabL (j : Nat) : List Value := (List.range 256).map fun i => Value.int .u32 (if i < j then crcSteps 8 i else 0)
theorem tabL_len (j : Nat) : (tabL j).length = 256 := by simp [tabL]
theorem tabL_zero : (tabL 0).toArray = zArr := by
  unfold tabL zArr
  apply Array.ext (by simp)
  intro i h1 h2
  simp
theorem tabL_set (j : Nat) (h : j < 256) : (tabL j).set j (Value.int .u32 (crcSteps 8 j)) = tabL (j + 1) := by
  apply List.ext_getElem (by simp [tabL_len])
  intro i h1 h2
  simp only [tabL_len] at h2
  rw [List.getElem_set]
  simp only [tabL, List.getElem_map, List.getElem_range]
  by_cases e : j = i
  · subst e; rw [if_pos rfl, if_pos (by omega)]
  · rw [if_neg e]
    by_cases h3 : i < j
    · rw [if_pos h3, if_pos (by omega)]
    · rw [if_neg h3, if_neg (by omega)]
set_option maxHeartbeats 1000000 in
set_option maxRecDepth 100000 in
theorem table_calls (w : World) : Calls Try.prog 118 #[] w fun e w' => e = .returned (.agg (tabL 256).toArray) ∧ Below w.heap.size w w' := by
  have hz := zero173
  have hc := cells173
  go_enter Try.func118, Try.ntmps118
  go_wp2
  go_loopw [5] (fun v5 wr => ∃ j : Nat, j ≤ 256 ∧ v5 = .int .i64 j ∧ Aside0 (wr.heap[w.heap.size + 1]? = some (.cells (tabL j).toArray 173 (0, 0))) ∧ Aside0 (wr.heap[w.heap.size]? = some (.cells zArr 173 (0, 0))) ∧ Aside0 (Below w.heap.size w wr)) (fun v5 _ => 256 - (intOf v5).toNat)
  case atStart =>
    refine ⟨0, by omega, rfl, ⟨?_⟩, ⟨?_⟩, ⟨below_alloc (below_alloc (Below.refl _ _) _) _⟩⟩
    · rw [tabL_zero]
      have := blk_new (w.alloc (.cells zArr 173)) (.cells zArr 173)
      simpa using this
    · exact blk_alloc (blk_new _ _) _
  case round =>
    obtain ⟨j, hj, rfl, HC, HZ, HB⟩ := hrel
    by_cases hlt : j < 256
    · have hcell : wr.cell? ⟨w.heap.size + 1, j, none⟩ = some ((tabL j).getD j undef) := by
        rw [blk_cell HC.out]
        have : j < (tabL j).length := by rw [tabL_len]; omega
        simp [this]
      have hfr := blk_frozen HC.out j
      go_wp2
      refine wp_scope_enter 0 rfl ?_
      go_wp2
      go_step3
      simp only [Exit.then]
      rename_i hk
      refine hk _ _ ?_
      clear hk
      refine wp_label_slots 0 (by rfl) ([3, 4, 10, 11, 12, 13, 14, 15, 16, 17, 18, 19, 20, 21, 22, 23] : List Nat) (fun n us wx => ∃ (m : Nat) (x : Int), 1 ≤ m ∧ m ≤ 8 ∧ Aside0 (n = m) ∧ us.getD 0 undef = .int .u32 x ∧ us.getD 1 undef = .int .i64 m ∧ Aside0 (crcSteps m x = crcSteps 8 j) ∧ wr = wx) 8 ?_ ?_
      · exact ⟨8, j, by omega, by omega, ⟨rfl⟩, rfl, rfl, ⟨rfl⟩, rfl⟩
      · rintro n us wx hl ⟨m, x, hm1, hm8, HN, h5, h6, HU, rfl⟩ J K hJ hK
        simp only [List.length_cons, List.length_nil] at hl
        match us, hl with
        | u3 :: u4 :: u10 :: u11 :: u12 :: u13 :: u14 :: u15 :: u16 :: u17 :: u18 :: u19 :: u20 :: u21 :: u22 :: u23 :: [], _ =>
        rename_i hx; clear hx
        simp only [List.getD_cons_succ, List.getD_cons_zero] at h5 h6
        subst h5 h6
        simp only [putS, Act.put, List.setIfInBounds_toArray, List.set_cons_zero, List.set_cons_succ]
        have hJ2 := fun (k : Nat) (v3 v4 v10 v11 v12 v13 v14 v15 v16 v17 v18 v19 v20 v21 v22 v23 : Value) (w' : World) => hJ k (v3 :: v4 :: v10 :: v11 :: v12 :: v13 :: v14 :: v15 :: v16 :: v17 :: v18 :: v19 :: v20 :: v21 :: v22 :: v23 :: []) _ w' rfl rfl
        clear hJ
        simp only [putS, Act.put, List.setIfInBounds_toArray, List.set_cons_zero, List.set_cons_succ] at hJ2
        have HJ := Aside0.mk hJ2; clear hJ2
        have HK := Aside0.mk hK; clear hK
        by_cases h1 : m = 1
        · subst h1
          go_wp2
          simp only [Exit.jump]
          go_wp2
          go_roundw
          case rel =>
            refine ⟨j + 1, by omega, by go_num, ⟨?_⟩, ⟨?_⟩, ⟨below_set HB.out (by omega)⟩⟩
            · refine blk_put HC.out _ _ ?_
              rw [List.setIfInBounds_toArray, ← tabL_set j hlt, ← HU.out]
              rfl
            · exact blk_far HZ.out (by simp) _
          case measure => simp [intOf]; omega
        · have h2 : 2 ≤ m := by omega
          clear h1
          obtain ⟨m', hm'⟩ : ∃ m', m = m' + 1 := ⟨m - 1, by omega⟩
          subst hm'
          have e1 : (((m' + 1 : Nat) : Int) - 1) = (m' : Int) := by omega
          go_wp2
          go_step3
          refine ⟨rfl, HK.out _ _ (Handed.intro m' ?_ (HJ.out _ _ _ _ _ _ _ _ _ _ _ _ _ _ _ _ _ _ ⟨m', crcStep x, by omega, by omega, ⟨rfl⟩, rfl, by rw [← e1]; rfl, ⟨HU.out⟩, rfl⟩))⟩
          have := HN.out; omega
    · obtain rfl : j = 256 := by omega
      have hu : (Try.prog.underlying 173) = some (.array 256 133) := by kernel_rfl
      have hsz : (Try.prog.info? 173).map (·.size) = some 256 := by kernel_rfl
      have hlen : (tabL 256).toArray.size = 256 := by simp [tabL_len]
      have Hu := Aside0.mk hu; clear hu
      have Hsz := Aside0.mk hsz; clear hsz
      have Hl := Aside0.mk hlen; clear hlen
      go_wp2_with (first | (refine wpList_store_row rfl 173 (.tmp 0) (.tmp 25) rfl w.heap.size (tabL 256).toArray rfl rfl 173 zArr HZ.out (by rw [Hl.out]; exact Hsz.out) (by rw [Hl.out]; simp [zArr]) (by simp [tabL, Array.all_eq_true]; intros; rfl) ?_) | (refine wpList_load_row rfl 173 (.tmp 1) rfl (w.heap.size + 1) rfl 173 (tabL 256).toArray (0, 0) _ HC.out Hu.out rfl (by rw [Hl.out]; exact Hsz.out) ?_))
      have hg := setRow_heap wr w.heap.size zArr (tabL 256).toArray 173 (0, 0) HZ.out
      (try simp only [Act.put, List.setIfInBounds_toArray, List.set_cons_zero, List.set_cons_succ])
      refine bodyPost_ret (v := .agg (tabL 256).toArray) ?hr rfl ⟨rfl, below_setRow HB.out (Nat.le_refl _) _⟩
      exact results_cell_row (P := Try.prog) rfl _ _ w.heap.size 173 (tabL 256).toArray (0, 0) _ rfl hg Hu.out rfl (by rw [Hl.out]; exact Hsz.out)
end Go.Proofs.Ytajgillnkkkgjaa.P
end
section
namespace Go.Proofs.Ytajgillnkkkgjaa.P
open Go.RowKit Go.Proofs.YtajgillnkkkgjaaW.PrintWords Go.Proofs.YtajgillnkkkgjaaW.PrintLast Go.Proofs.YtajgillnkkkgjaaW.PrintMore Go.Proofs.Ytajgillnkkkgjaa.H
set_option linter.unusedVariables false
set_option linter.unusedSimpArgs false
def crcByte (w x : Int) : Int := bits .xor .u32 (crcSteps 8 (bits .xor .u8 (w % 256) x)) (w / 256)
def crcInv (x : Int) : Int := bits .xor .u32 IntKind.u32.max x
def crc_More.f (a0 : Int) (l1 : List Int) : Option (Int) := if 0 ≤ a0 ∧ a0 ≤ 4294967295 then some (crcInv (l1.foldl crcByte (crcInv a0))) else none
theorem byte_range (w x : Int) : 0 ≤ bits .xor .u8 (w % 256) x ∧ bits .xor .u8 (w % 256) x < 256 := by
  simp only [bits, IntKind.wrap, IntKind.signed, Bool.false_and, Bool.false_eq_true, if_false, IntKind.bits]
  omega
theorem fold_snoc (l : List Int) (i : Nat) (h : i < l.length) (a : Int) : (l.take (i + 1)).foldl crcByte a = crcByte ((l.take i).foldl crcByte a) (rd l i) := by
  rw [List.take_succ_eq_append_getElem h, List.foldl_append]
  have : rd l (i : Int) = l[i] := by rw [rd, List.getD_eq_getElem?_getD, Int.toNat_natCast, List.getElem?_eq_getElem h]; rfl
  rw [this]; rfl
set_option maxHeartbeats 1000000 in
set_option maxRecDepth 100000 in
theorem crc_More.calls (a0 : Int) (A1 : Option Addr) (c1 : Nat) (l1 : List Int) (r : Int) (w : World) (hr1 : Kd.C (Kd.int .u8) w A1 l1.length l1) (hc1 : l1.length ≤ c1) (h : crc_More.f a0 l1 = some r) :
    Calls Try.prog 109 #[.int .u32 a0, .slice A1 l1.length c1] w fun e w' => e = .returned (.int .u32 r) ∧ Below w.heap.size w w' := by
  unfold crc_More.f at h
  split at h
  case isFalse => cases h
  rename_i hb
  obtain ⟨hb0, hb1⟩ := hb
  have hr := Option.some.inj h
  have HF := Aside0.mk hr; clear h hr
  have HR := Aside0.mk hr1; clear hr1
  have hlen := HR.out.2.1
  have hz := zero173
  have hc := cells173
  have hsz : (Try.prog.info? 173).map (·.size) = some 256 := by kernel_rfl
  have hl : (tabL 256).toArray.size = 256 := by simp [tabL_len]
  have Hsz := Aside0.mk hsz; clear hsz
  have Hl := Aside0.mk hl; clear hl
  have hsg : IntKind.u32.signed = false := rfl
  go_enter Try.func109, Try.ntmps109
  go_wp2_with (first | (go_at_call 118; refine (table_calls _).mono ?_; rintro e w1 ⟨rfl, hB1⟩; have HB1 := Aside0.mk hB1; clear hB1) | (refine wpList_store_row rfl 173 (.tmp 5) (.tmp 9) rfl w1.heap.size (tabL 256).toArray rfl rfl 173 zArr (blk_new _ _) (by rw [Hl.out]; exact Hsz.out) (by rw [Hl.out]; simp [zArr]) (by simp [tabL, Array.all_eq_true]; intros; rfl) ?_))
  have HT0 := setRow_heap (w1.alloc (.cells zArr 173)) w1.heap.size zArr (tabL 256).toArray 173 (0, 0) (blk_new _ _)
  have HB0 := below_setRow (below_alloc HB1.out (.cells zArr 173)) HB1.out.size (tabL 256).toArray
  generalize hW : (w1.alloc (.cells zArr 173)).setRow w1.heap.size (tabL 256).toArray = W2 at HT0 HB0 ⊢
  clear hW
  have HT := Aside0.mk HT0; clear HT0
  have HB := Aside0.mk HB0; clear HB0 HB1
  have HR2 := Aside0.mk (Kd.C_below HR.out HB.out)
  go_loop [6, 14] (fun v6 v14 => ∃ i : Nat, i ≤ l1.length ∧ v14 = .int .i64 i ∧ v6 = .int .u32 ((l1.take i).foldl crcByte (crcInv a0))) (fun _ v14 => l1.length - (intOf v14).toNat)
  case atStart => exact ⟨0, by omega, rfl, rfl⟩
  case round =>
    obtain ⟨i, hi, rfl, rfl⟩ := hrel
    by_cases hlt : i < l1.length
    · obtain ⟨ad, hA, hcell⟩ := Kd.at_int HR2.out i (by omega) (by omega)
      subst hA
      rw [Int.toNat_natCast] at hcell
      obtain ⟨x, hx⟩ : ∃ x, x = rd l1 i := ⟨_, rfl⟩
      have hsn := fold_snoc l1 i hlt (crcInv a0)
      rw [← hx] at hcell hsn
      have HX := Aside0.mk hx; clear hx
      have HS := Aside0.mk hsn; clear hsn
      obtain ⟨v, hv⟩ : ∃ v, v = (l1.take i).foldl crcByte (crcInv a0) := ⟨_, rfl⟩
      rw [← hv] at HS ⊢
      have HV := Aside0.mk hv; clear hv
      obtain ⟨hr0, hr1⟩ := byte_range v x
      obtain ⟨q, hq⟩ : ∃ q : Nat, bits .xor .u8 (v % 256) x = (q : Int) := ⟨_, (Int.toNat_of_nonneg hr0).symm⟩
      have hq256 : q < 256 := by omega
      have hcell2 : W2.cell? ⟨w1.heap.size, q, none⟩ = some (.int .u32 (crcSteps 8 q)) := by
        rw [blk_cell HT.out]
        simp [tabL, hq256]
      clear hr0 hr1
      go_wp2
      go_round
      case rel => exact ⟨i + 1, by omega, by go_num, by rw [HS.out, crcByte, hq]⟩
      case measure => simp [intOf]; omega
    · obtain rfl : i = l1.length := by omega
      go_wp2
      go_ret
      refine ⟨?_, HB.out⟩
      rw [← HF.out]
      simp [crcInv]
end Go.Proofs.Ytajgillnkkkgjaa.P
end
section
-- printed by the session's own call of print.py. Not trusted: Lean checks it.
namespace Go.Proofs.Ytajgillnkkkgjaa.P
open Go.RowKit Go.Proofs.YtajgillnkkkgjaaW.PrintWords Go.Proofs.YtajgillnkkkgjaaW.PrintLast Go.Proofs.YtajgillnkkkgjaaW.PrintMore
attribute [local go_sem] max2_int min2_int max_two min_two max_three min_three max_four min_four
set_option linter.unusedVariables false
set_option linter.unusedSimpArgs false
/-! ### crc_Sum: function 110 -/
def crc_Sum.f (l0 : List Int) : Option (Int) := (crc_More.f 0 l0).bind fun t101 => (some t101)
set_option maxHeartbeats 8000000 in
set_option maxRecDepth 100000 in
theorem crc_Sum.calls (A0 : Option Addr) (c0 : Nat) (l0 : List Int) (r : Int) (w : World) (hr0 : Kd.C (Kd.int .u8) w A0 l0.length l0) (hc0 : l0.length ≤ c0) (h : crc_Sum.f l0 = some r) :
    Calls Try.prog 110 #[.slice A0 l0.length c0] w fun e w' => e = .returned (.int .u32 r) ∧ Below w.heap.size w w' := by
  have HR0 := Aside0.mk hr0
  have HC0 := Aside0.mk hc0
  clear hr0 hc0
  have HB := Aside0.mk (Below.refl w.heap.size w)
  have H : ((crc_More.f 0 l0).bind fun t101 => (some t101)) = some r := h
  clear h
  replace H := Option.bind_eq_some_iff.mp H
  obtain ⟨t101, A20, H⟩ := H
  replace H : (some t101) = some r := H
  have A2 := Aside0.mk A20
  clear A20
  obtain rfl := Option.some.inj H
  go_enter Try.func110, Try.ntmps110
  go_wp2_with (first | ((with_reducible refine gate_callee (f := 109) rfl ?_); refine goesL_ (some 4) rfl rfl Try.func109 (by kernel_rfl) rfl #[.int .u32 0, .slice A0 l0.length c0] rfl (by (try simp only [List.map_toArray, List.map_cons, List.map_nil]); first | done | rfl | (simp only [List.length_drop, List.length_take]; rfl)) ?_; (with_reducible refine (crc_More.calls 0 _ _ l0 t101 _ ?side1 ?side2 A2.out).mono ?_); (case side1 => repeat (first | exact HR0.out | (with_reducible refine Kd.C_alloc ?_ _) | (with_reducible refine Kd.C_drewN ?_ _) | (with_reducible refine Kd.C_drew ?_))); (case side2 => exact HC0.out); rintro e w3 ⟨rfl, hb⟩; refine ⟨_, rfl, ?_⟩; have n0_ := Aside0.mk (below_step (by repeat (first | (with_reducible first | exact HB.out | apply below_alloc | apply pw_below_drewN | apply below_drew1) | exact HB.out)) hb); clear HB; have HB := n0_; clear n0_; (try clear hb); (try clear hb2); (try clear hk); (try clear hi)))
  go_ret
  exact ⟨by first | rfl | ((repeat first | rw [Int.tdiv_eq_ediv_of_nonneg (by omega)] | rw [Int.tmod_eq_emod_of_nonneg (by omega)]); rfl) | (simp [errW_none, errW_some] <;> rfl) | (simp [*, errW_none, errW_some] <;> rfl), by repeat (first | (with_reducible first | exact HB.out | apply below_alloc | apply pw_below_drewN | apply below_drew1) | exact HB.out)⟩
end Go.Proofs.Ytajgillnkkkgjaa.P
end
section
-- printed by the session's own call of print.py. Not trusted: Lean checks it.
namespace Go.Proofs.Ytajgillnkkkgjaa.P
open Go.RowKit Go.Proofs.YtajgillnkkkgjaaW.PrintWords Go.Proofs.YtajgillnkkkgjaaW.PrintLast Go.Proofs.YtajgillnkkkgjaaW.PrintMore
attribute [local go_sem] max2_int min2_int max_two min_two max_three min_three max_four min_four
set_option linter.unusedVariables false
set_option linter.unusedSimpArgs false
/-! ### frame_sum: function 78 -/
def frame_sum.f (l0 : List Int) (l1 : List Int) : Option (Int) := (crc_Sum.f l0).bind fun t101 => ((crc_More.f t101 l1).bind fun t102 => (some (IntKind.u64.wrap (t102))))
set_option maxHeartbeats 8000000 in
set_option maxRecDepth 100000 in
theorem frame_sum.calls (A0 : Option Addr) (c0 : Nat) (l0 : List Int) (A1 : Option Addr) (c1 : Nat) (l1 : List Int) (r : Int) (w : World) (hr0 : Kd.C (Kd.int .u8) w A0 l0.length l0) (hc0 : l0.length ≤ c0) (hr1 : Kd.C (Kd.int .u8) w A1 l1.length l1) (hc1 : l1.length ≤ c1) (h : frame_sum.f l0 l1 = some r) :
    Calls Try.prog 78 #[.slice A0 l0.length c0, .slice A1 l1.length c1] w fun e w' => e = .returned (.int .u64 r) ∧ Below w.heap.size w w' := by
  have HR0 := Aside0.mk hr0
  have HC0 := Aside0.mk hc0
  clear hr0 hc0
  have HR1 := Aside0.mk hr1
  have HC1 := Aside0.mk hc1
  clear hr1 hc1
  have HB := Aside0.mk (Below.refl w.heap.size w)
  have H : ((crc_Sum.f l0).bind fun t101 => ((crc_More.f t101 l1).bind fun t102 => (some (IntKind.u64.wrap (t102))))) = some r := h
  clear h
  replace H := Option.bind_eq_some_iff.mp H
  obtain ⟨t101, A30, H⟩ := H
  replace H : ((crc_More.f t101 l1).bind fun t102 => (some (IntKind.u64.wrap (t102)))) = some r := H
  have A3 := Aside0.mk A30
  clear A30
  replace H := Option.bind_eq_some_iff.mp H
  obtain ⟨t102, A40, H⟩ := H
  replace H : (some (IntKind.u64.wrap (t102))) = some r := H
  have A4 := Aside0.mk A40
  clear A40
  obtain rfl := Option.some.inj H
  go_enter Try.func78, Try.ntmps78
  go_wp2_with (first | ((with_reducible refine gate_callee (f := 110) rfl ?_); refine goesL_ (some 6) rfl rfl Try.func110 (by kernel_rfl) rfl #[.slice A0 l0.length c0] rfl (by (try simp only [List.map_toArray, List.map_cons, List.map_nil]); first | done | rfl | (simp only [List.length_drop, List.length_take]; rfl)) ?_; (with_reducible refine (crc_Sum.calls _ _ l0 t101 _ ?side1 ?side2 A3.out).mono ?_); (case side1 => repeat (first | exact HR0.out | (with_reducible refine Kd.C_alloc ?_ _) | (with_reducible refine Kd.C_drewN ?_ _) | (with_reducible refine Kd.C_drew ?_))); (case side2 => exact HC0.out); rintro e w5 ⟨rfl, hb⟩; refine ⟨_, rfl, ?_⟩; have n0_ := Aside0.mk (below_step (by repeat (first | (with_reducible first | exact HB.out | apply below_alloc | apply pw_below_drewN | apply below_drew1) | exact HB.out)) hb); clear HB; have HB := n0_; clear n0_; (try clear hb); (try clear hb2); (try clear hk); (try clear hi)) | ((with_reducible refine gate_callee (f := 109) rfl ?_); refine goesL_ (some 8) rfl rfl Try.func109 (by kernel_rfl) rfl #[.int .u32 t101, .slice A1 l1.length c1] rfl (by (try simp only [List.map_toArray, List.map_cons, List.map_nil]); first | done | rfl | (simp only [List.length_drop, List.length_take]; rfl)) ?_; (with_reducible refine (crc_More.calls t101 _ _ l1 t102 _ ?side1 ?side2 A4.out).mono ?_); (case side1 => repeat (first | exact (Kd.C_below HR1.out HB.out) | (with_reducible refine Kd.C_alloc ?_ _) | (with_reducible refine Kd.C_drewN ?_ _) | (with_reducible refine Kd.C_drew ?_))); (case side2 => exact HC1.out); rintro e w6 ⟨rfl, hb⟩; refine ⟨_, rfl, ?_⟩; have n0_ := Aside0.mk (below_step (by repeat (first | (with_reducible first | exact HB.out | apply below_alloc | apply pw_below_drewN | apply below_drew1) | exact HB.out)) hb); clear HB; have HB := n0_; clear n0_; (try clear hb); (try clear hb2); (try clear hk); (try clear hi)))
  go_ret
  exact ⟨by first | rfl | ((repeat first | rw [Int.tdiv_eq_ediv_of_nonneg (by omega)] | rw [Int.tmod_eq_emod_of_nonneg (by omega)]); rfl) | (simp [errW_none, errW_some] <;> rfl) | (simp [*, errW_none, errW_some] <;> rfl), by repeat (first | (with_reducible first | exact HB.out | apply below_alloc | apply pw_below_drewN | apply below_drew1) | exact HB.out)⟩
end Go.Proofs.Ytajgillnkkkgjaa.P
end
section
-- printed by the session's own call of print.py. Not trusted: Lean checks it.
namespace Go.Proofs.Ytajgillnkkkgjaa.P
open Go.RowKit Go.Proofs.YtajgillnkkkgjaaW.PrintWords Go.Proofs.YtajgillnkkkgjaaW.PrintLast Go.Proofs.YtajgillnkkkgjaaW.PrintMore
attribute [local go_sem] max2_int min2_int max_two min_two max_three min_three max_four min_four
set_option linter.unusedVariables false
set_option linter.unusedSimpArgs false
/-! ### pack_Take: function 81 -/
mutual
def pack_Take.j0 : Nat → List Int → Int → Bool → Option (Int × List Int × Int)
  | 0, _, _, _ => none
  | k + 1, x0, x1, x10 => if x10 = true then (some (0, ([] : List Int), 1)) else (if (x0.length : Int) < x1 then (some (0, ([] : List Int), 4)) else (if 0 ≤ x1 then (if x1 ≤ (x0.length : Int) then ((some (x0.take (x1 : Int).toNat : List Int)).bind fun y101 => (pack_Take.l0 k x0 x1 0 y101 (y101.length : Int) 0)) else (none)) else (none)))
def pack_Take.l0 : Nat → List Int → Int → Int → List Int → Int → Int → Option (Int × List Int × Int)
  | 0, _, _, _, _, _, _ => none
  | k + 1, x0, x1, x7, x24, x25, x26 => if x26 < x25 then (if 0 ≤ x26 then (if x26 < (x24.length : Int) then (pack_Take.l0 k x0 x1 (Go.bits .or .u64 (IntKind.u64.wrap (x7 * 256)) (IntKind.u64.wrap (rd x24 x26))) x24 x25 (wrap64 (x26 + 1))) else (none)) else (none)) else (if 0 ≤ x1 then (if x1 ≤ (x0.length : Int) then (some (x7, (x0.drop (x1 : Int).toNat), 0)) else (none)) else (none))
end
def pack_Take.f (k : Nat) (l0 : List Int) (a1 : Int) : Option (Int × List Int × Int) := if a1 < 0 then (pack_Take.j0 k l0 a1 true) else (pack_Take.j0 k l0 a1 (decide (a1 > 8)))
theorem pack_Take.mono_l : ∀ k, (∀ y0 y1 y2, LeO (pack_Take.j0 k y0 y1 y2) (pack_Take.j0 (k + 1) y0 y1 y2)) ∧ (∀ y0 y1 y2 y3 y4 y5, LeO (pack_Take.l0 k y0 y1 y2 y3 y4 y5) (pack_Take.l0 (k + 1) y0 y1 y2 y3 y4 y5))
  | 0 => ⟨fun _ _ _ r h => by simp [pack_Take.j0] at h, fun _ _ _ _ _ _ r h => by simp [pack_Take.l0] at h⟩
  | k + 1 => by
    obtain ⟨ih0, ih1⟩ := pack_Take.mono_l k
    refine ⟨?_, ?_⟩
    · intro y0 y1 y2
      unfold pack_Take.j0
      repeat' first
      | (with_reducible exact ih0 _ _ _)
      | (with_reducible exact ih1 _ _ _ _ _ _)
      | (with_reducible exact LeO.refl _)
      | (with_reducible exact LeO.none _)
      | (with_reducible refine LeO.ite ?_ ?_)
      | (with_reducible refine LeO.bind ?_ (fun _ => ?_))
      | exact ih0 _ _ _
      | exact ih1 _ _ _ _ _ _
      | exact LeO.none _
      | refine LeO.ite ?_ ?_
      | refine LeO.bind ?_ (fun _ => ?_)
    · intro y0 y1 y2 y3 y4 y5
      unfold pack_Take.l0
      repeat' first
      | (with_reducible exact ih0 _ _ _)
      | (with_reducible exact ih1 _ _ _ _ _ _)
      | (with_reducible exact LeO.refl _)
      | (with_reducible exact LeO.none _)
      | (with_reducible refine LeO.ite ?_ ?_)
      | (with_reducible refine LeO.bind ?_ (fun _ => ?_))
      | exact ih0 _ _ _
      | exact ih1 _ _ _ _ _ _
      | exact LeO.none _
      | refine LeO.ite ?_ ?_
      | refine LeO.bind ?_ (fun _ => ?_)
theorem pack_Take.mono : ∀ a0 a1 k, LeO (pack_Take.f k a0 a1) (pack_Take.f (k + 1) a0 a1) := by
  intro a0 a1 k
  obtain ⟨ih0, ih1⟩ := pack_Take.mono_l k
  unfold pack_Take.f
  repeat' first
      | (with_reducible exact ih0 _ _ _)
      | (with_reducible exact ih1 _ _ _ _ _ _)
      | (with_reducible exact LeO.refl _)
      | (with_reducible exact LeO.none _)
      | (with_reducible refine LeO.ite ?_ ?_)
      | (with_reducible refine LeO.bind ?_ (fun _ => ?_))
      | exact ih0 _ _ _
      | exact ih1 _ _ _ _ _ _
      | exact LeO.none _
      | refine LeO.ite ?_ ?_
      | refine LeO.bind ?_ (fun _ => ?_)
set_option maxHeartbeats 8000000 in
set_option maxRecDepth 100000 in
theorem pack_Take.calls (k : Nat) (P0_ : Nat → Prop) (A0 : Option Addr) (c0 : Nat) (l0 : List Int) (a1 : Int) (r1 : Int) (r2 : List Int) (r3 : Int) (w : World) (hs0 : Kd.V (Kd.int .u8) 5 w w.heap.size (fun k_ => P0_ k_) (.slice A0 l0.length c0) l0) (h : pack_Take.f k l0 a1 = some (r1, r2, r3)) :
    Calls Try.prog 81 #[.slice A0 l0.length c0, .int .i64 a1] w fun e w' => ∃ v1_ : Value, e = .returned (.tuple #[.int .u64 r1, v1_, .int .i64 r3]) ∧ Kd.V (Kd.int .u8) 5 w' w.heap.size (fun k_ => (P0_ k_ ∨ w.heap.size ≤ k_)) v1_ r2 ∧ Below w.heap.size w w' := by
  have HO0 := Aside0.mk (show Kd.V (Kd.int .u8) 5 w w.heap.size (fun k_ => (P0_ k_ ∨ w.heap.size ≤ k_)) (.slice A0 l0.length c0) l0 from Kd.V_mono hs0 (fun k_ hk => .inl hk))
  have HB := Aside0.mk (Below.refl w.heap.size w)
  have H : (if a1 < 0 then (pack_Take.j0 k l0 a1 true) else (pack_Take.j0 k l0 a1 (decide (a1 > 8)))) = some (r1, r2, r3) := h
  clear h
  have HC3 := Aside0.mk H
  clear H
  go_enter Try.func81, Try.ntmps81
  go_upto_region 1 with (fail)
  repeat (go_quiet (fail); go_upto_region 1 with (fail))
  go_cut [10] (fun v10 wc => ∃ (kq : Nat) (x10_2 : Bool), v10 = .bool x10_2 ∧ Aside0 (pack_Take.j0 kq l0 a1 x10_2 = some (r1, r2, r3)) ∧ Aside0 (kq ≤ k) ∧ Aside0 (Kd.V (Kd.int .u8) 5 wc w.heap.size (fun k_ => (P0_ k_ ∨ w.heap.size ≤ k_)) (.slice A0 l0.length c0) l0) ∧ Aside0 (Below w.heap.size w wc))
  case first =>
    have H := HC3.out
    clear HC3
    by_cases c4 : a1 < 0
    · rw [if_pos c4] at H
      have c4b0 : decide (a1 < 0) = true := decide_eq_true c4
      clear c4
      (first | rw [c4b0] | (simp only [i64_w, i32_w]; rw [c4b0]) | skip)
      have H' := Aside0.mk H
      clear H
      go_wp2
      repeat (go_quiet (fail); try go_wp2)
      go_meet
      case rel => exact ⟨_, (true), (by first | rfl | (simp; done) | (simp [*]; done)), H', ⟨by first | omega | exact Nat.le_refl _⟩, ⟨by (with_reducible repeat (first | apply Kd.V_alloc | apply Kd.V_drewN | apply Kd.V_drew)); exact HO0.out⟩, ⟨by repeat (first | (with_reducible first | exact HB.out | apply below_alloc | apply pw_below_drewN | apply below_drew1) | exact HB.out)⟩⟩
    · rw [if_neg c4] at H
      have c4b0 : decide (a1 < 0) = false := decide_eq_false c4
      clear c4
      (first | rw [c4b0] | (simp only [i64_w, i32_w]; rw [c4b0]) | skip)
      have H' := Aside0.mk H
      clear H
      go_wp2
      repeat (go_quiet (fail); try go_wp2)
      go_meet
      case rel => exact ⟨_, (decide (a1 > 8)), (by first | rfl | (simp; done) | (simp [*]; done)), H', ⟨by first | omega | exact Nat.le_refl _⟩, ⟨by (with_reducible repeat (first | apply Kd.V_alloc | apply Kd.V_drewN | apply Kd.V_drew)); exact HO0.out⟩, ⟨by repeat (first | (with_reducible first | exact HB.out | apply below_alloc | apply pw_below_drewN | apply below_drew1) | exact HB.out)⟩⟩
  case rest =>
    clear HC3
    try clear p2
    try clear c4
    try clear c4b0
    obtain ⟨kq, x10_2, rfl, HA, HJ2, HO_0, HB⟩ := hcut
    cases kq with
    | zero => exact absurd HA.out (by simp [pack_Take.j0])
    | succ kj2 =>
      have H := HA.out
      clear HA
      simp only [pack_Take.j0] at H
      by_cases c5 : x10_2 = true
      · subst c5
        have H1 : (some (0, ([] : List Int), 1)) = some (r1, r2, r3) := by rw [if_pos rfl] at H; exact H
        clear H
        have H := H1
        clear H1
        simp only [Option.some.injEq, Prod.mk.injEq] at H
        obtain ⟨rfl, rfl, rfl⟩ := H
        go_wp2
        repeat (go_quiet (fail); try go_wp2)
        go_ret3
        exact ⟨_, by first | rfl | (simp [errW_none, errW_some] <;> rfl) | (simp [*, errW_none, errW_some] <;> rfl), Kd.V_nil _ _ _ _ _, by repeat (first | (with_reducible first | exact HB.out | apply below_alloc | apply pw_below_drewN | apply below_drew1) | exact HB.out)⟩
      · replace c5 := Bool.eq_false_iff.mpr c5
        subst c5
        have H1 : (if (l0.length : Int) < a1 then (some (0, ([] : List Int), 4)) else (if 0 ≤ a1 then (if a1 ≤ (l0.length : Int) then ((some (l0.take (a1 : Int).toNat : List Int)).bind fun y101 => (pack_Take.l0 kj2 l0 a1 0 y101 (y101.length : Int) 0)) else (none)) else (none))) = some (r1, r2, r3) := by rw [if_neg (show ¬ (false = true) by decide)] at H; exact H
        clear H
        have H := H1
        clear H1
        by_cases c6 : (l0.length : Int) < a1
        · rw [if_pos c6] at H
          have c6b0 : decide ((l0.length : Int) < a1) = true := decide_eq_true c6
          clear c6
          simp only [Option.some.injEq, Prod.mk.injEq] at H
          obtain ⟨rfl, rfl, rfl⟩ := H
          go_wp2
          repeat (go_quiet (fail); try go_wp2)
          go_ret3
          exact ⟨_, by first | rfl | (simp [errW_none, errW_some] <;> rfl) | (simp [*, errW_none, errW_some] <;> rfl), Kd.V_nil _ _ _ _ _, by repeat (first | (with_reducible first | exact HB.out | apply below_alloc | apply pw_below_drewN | apply below_drew1) | exact HB.out)⟩
        · rw [if_neg c6] at H
          have c6b0 : decide ((l0.length : Int) < a1) = false := decide_eq_false c6
          clear c6
          by_cases c7 : 0 ≤ a1
          · rw [if_pos c7] at H
            have c7b0 := eq_true c7
            have c7b1 : decide (0 ≤ a1) = true := decide_eq_true c7
            clear c7
            by_cases c8 : a1 ≤ (l0.length : Int)
            · rw [if_pos c8] at H
              have c8b0 := eq_true c8
              have c8b1 : decide (a1 ≤ (l0.length : Int)) = true := decide_eq_true c8
              clear c8
              obtain ⟨y101, hy101⟩ : ∃ y_ : List Int, y_ = (l0.take (a1 : Int).toNat) := ⟨_, rfl⟩
              replace H : (pack_Take.l0 kj2 l0 a1 0 y101 (y101.length : Int) 0) = some (r1, r2, r3) := by first | (rw [hy101]; with_reducible exact H) | (have H2_ := (Option.bind_some _ _).symm.trans H; rw [hy101]; with_reducible exact H2_) | (have H2_ := (Option.bind_some _ _).symm.trans H; with_reducible exact H2_) | with_reducible exact H | (rw [hy101]; exact H) | exact H
              have Ny101 := Aside0.mk hy101
              clear hy101
              have H' := Aside0.mk H
              clear H
              have q9 : (a1 : Int) ≤ ((l0.length : Int) : Int) := of_decide_eq_true (by first | (with_reducible assumption) | assumption)
              obtain ⟨i09, hi09, _, hsz9, _⟩ := info_parts info5
              have hroom9 : l0.length ≤ c0 := (Kd.V_reads' HO_0.out).2.1
              have hC9 : Kd.F (Kd.int .u8) _ _ A0 l0.length l0 := (Kd.V_at (base := w.heap.size) HO_0.out).2.2
              have hcut9 := cut_to (P := Try.prog) 51 5 .i64 Try.underlying51 hi09 A0 l0.length c0 a1 (of_decide_eq_true (by first | (with_reducible assumption) | assumption)) q9 hroom9
              have hr9 := Kd.F_take (m := (a1 : Int).toNat) hC9 (by omega)
              have hy9 : y101.length = (a1 : Int).toNat := (by rw [Ny101.out, List.length_take]; omega)
              rw [← Ny101.out] at hr9
              rw [← hy9] at hcut9
              have HO105 := Aside0.mk (show Kd.V (Kd.int .u8) 5 _ w.heap.size _ (.slice A0 y101.length c0) y101 from Kd.V_mk (by omega) hr9)
              have HC105 := Aside0.mk (show y101.length ≤ c0 from by omega)
              clear hr9 hC9 hroom9 hi09 hsz9
              have KY9 := Aside0.mk hy9
              clear hy9
              replace q9 := eq_true q9
              go_wp2
              repeat (go_quiet (fail); try go_wp2)
              go_loopg [7, 26] kj2 (fun kq v7 v26 w' => ∃ (x7_2 : Int) (x26_2 : Int), v7 = .int .u64 x7_2 ∧ v26 = .int .i64 x26_2 ∧ Aside0 (pack_Take.l0 kq l0 a1 x7_2 y101 (y101.length : Int) x26_2 = some (r1, r2, r3)) ∧ Aside0 (kq ≤ kj2) ∧ Aside0 (Kd.V (Kd.int .u8) 5 w' w.heap.size (fun k_ => (P0_ k_ ∨ w.heap.size ≤ k_)) (.slice A0 l0.length c0) l0) ∧ Aside0 (Kd.V (Kd.int .u8) 5 w' w.heap.size (fun k_ => (P0_ k_ ∨ w.heap.size ≤ k_)) (.slice A0 y101.length c0) y101) ∧ Aside0 (Below w.heap.size w w'))
              case atStart => exact ⟨(0), (0), (by first | rfl | (simp; done) | (simp [*]; done)), (by first | rfl | (simp; done) | (simp [*]; done)), H', ⟨Nat.le_refl _⟩, ⟨by (with_reducible repeat (first | apply Kd.V_alloc | apply Kd.V_drewN | apply Kd.V_drew)); exact HO_0.out⟩, ⟨by (with_reducible repeat (first | apply Kd.V_alloc | apply Kd.V_drewN | apply Kd.V_drew)); exact HO105.out⟩, ⟨by repeat (first | (with_reducible first | exact HB.out | apply below_alloc | apply pw_below_drewN | apply below_drew1) | exact HB.out)⟩⟩
              case round =>
                clear H'
                try clear p2
                try clear c4
                try clear c4b0
                try clear c5
                try clear c6
                try clear c6b0
                try clear c7
                try clear c7b0
                try clear c7b1
                try clear c8
                try clear c8b0
                try clear c8b1
                try clear q9
                try clear p2
                try clear q9
                obtain ⟨x7_2, x26_2, rfl, rfl, HA, HK2, HO_0, HO_24, HB⟩ := hrel
                cases gk with
                | zero => exact absurd HA.out (by simp [pack_Take.l0])
                | succ k2 =>
                  have H := HA.out
                  clear HA
                  simp only [pack_Take.l0] at H
                  by_cases c10 : x26_2 < (y101.length : Int)
                  · rw [if_pos c10] at H
                    have c10b0 : decide (x26_2 < (y101.length : Int)) = true := decide_eq_true c10
                    clear c10
                    by_cases c11 : 0 ≤ x26_2
                    · rw [if_pos c11] at H
                      have c11b0 : decide (0 ≤ x26_2) = true := decide_eq_true c11
                      clear c11
                      by_cases c12 : x26_2 < (y101.length : Int)
                      · rw [if_pos c12] at H
                        have c12b0 : decide (x26_2 < (y101.length : Int)) = true := decide_eq_true c12
                        clear c12
                        have H' := Aside0.mk H
                        clear H
                        have p106 : 0 ≤ (x26_2 : Int) := of_decide_eq_true (by first | (with_reducible assumption) | assumption)
                        have q106 : x26_2 < (y101.length : Int) := of_decide_eq_true (by first | (with_reducible assumption) | assumption)
                        obtain ⟨ad106, e106, hx106_0⟩ := Kd.at_int (Kd.V_reads' HO_24.out).2.2 x26_2 p106 q106
                        cases e106
                        replace p106 := eq_true p106
                        replace q106 := eq_true q106
                        go_wp2
                        repeat (go_quiet (fail); try go_wp2)
                        go_roundg k2
                        case measure => have := HJ2.out; have := HK2.out; omega
                        case rel => exact ⟨(Go.bits .or .u64 (IntKind.u64.wrap (x7_2 * 256)) (IntKind.u64.wrap (rd y101 x26_2))), (wrap64 (x26_2 + 1)), (by first | rfl | (simp; done) | (simp [*]; done)), (by first | rfl | (simp; done) | (simp [*]; done)), H', ⟨by have := HJ2.out; have := HK2.out; omega⟩, ⟨by (with_reducible repeat (first | apply Kd.V_alloc | apply Kd.V_drewN | apply Kd.V_drew)); exact HO_0.out⟩, ⟨by (with_reducible repeat (first | apply Kd.V_alloc | apply Kd.V_drewN | apply Kd.V_drew)); exact HO_24.out⟩, ⟨by repeat (first | (with_reducible first | exact HB.out | apply below_alloc | apply pw_below_drewN | apply below_drew1) | exact HB.out)⟩⟩
                      · rw [if_neg c12] at H
                        exact absurd H (by simp)
                    · rw [if_neg c11] at H
                      exact absurd H (by simp)
                  · rw [if_neg c10] at H
                    have c10b0 : decide (x26_2 < (y101.length : Int)) = false := decide_eq_false c10
                    clear c10
                    by_cases c13 : 0 ≤ a1
                    · rw [if_pos c13] at H
                      have c13b0 := eq_true c13
                      have c13b1 : decide (0 ≤ a1) = true := decide_eq_true c13
                      clear c13
                      by_cases c14 : a1 ≤ (l0.length : Int)
                      · rw [if_pos c14] at H
                        have c14b0 := eq_true c14
                        have c14b1 : decide (a1 ≤ (l0.length : Int)) = true := decide_eq_true c14
                        clear c14
                        obtain ⟨y107, hy107⟩ : ∃ y_ : List Int, y_ = (l0.drop (a1 : Int).toNat) := ⟨_, rfl⟩
                        replace H : (some (x7_2, y107, 0)) = some (r1, r2, r3) := by first | (rw [hy107]; with_reducible exact H) | (have H2_ := (Option.bind_some _ _).symm.trans H; rw [hy107]; with_reducible exact H2_) | (have H2_ := (Option.bind_some _ _).symm.trans H; with_reducible exact H2_) | with_reducible exact H | (rw [hy107]; exact H) | exact H
                        have Ny107 := Aside0.mk hy107
                        clear hy107
                        simp only [Option.some.injEq, Prod.mk.injEq] at H
                        obtain ⟨rfl, rfl, rfl⟩ := H
                        have q15 : (a1 : Int) ≤ ((l0.length : Int) : Int) := of_decide_eq_true (by first | (with_reducible assumption) | assumption)
                        obtain ⟨i015, hi015, _, hsz15, _⟩ := info_parts info5
                        have hroom15 : l0.length ≤ c0 := (Kd.V_reads' HO_0.out).2.1
                        have hC15 : Kd.F (Kd.int .u8) _ _ A0 l0.length l0 := (Kd.V_at (base := w.heap.size) HO_0.out).2.2
                        have q015 : (0 : Int) ≤ (a1 : Int) := of_decide_eq_true (by first | (with_reducible assumption) | assumption)
                        have hcut15 := cut_from (P := Try.prog) 51 5 .i64 Try.underlying51 hi015 1 hsz15 A0 l0.length c0 a1 q015 q15
                        have hr15 := Kd.F_cut (m := (a1 : Int).toNat) (c := c0) hC15 (by omega) hroom15
                        obtain ⟨A15, hA15⟩ : ∃ A1, A1 = (if c0 = (a1 : Int).toNat then A0 else (A0 : Option Addr).map (·.add ((a1 : Int).toNat * 1))) := ⟨_, rfl⟩
                        obtain ⟨c15, hc15⟩ : ∃ c1, c1 = c0 - (a1 : Int).toNat := ⟨_, rfl⟩
                        have hy15 : y107.length = l0.length - (a1 : Int).toNat := (by rw [Ny107.out, List.length_drop] <;> omega)
                        rw [show (l0).drop (a1 : Int).toNat = y107 from Ny107.out.symm] at hr15
                        replace hr15 : Kd.F (Kd.int .u8) _ _ A15 y107.length y107 := (by rw [hA15]; exact hr15)
                        rw [← hy15, ← hA15, ← hc15] at hcut15
                        have HO111 := Aside0.mk (show Kd.V (Kd.int .u8) 5 _ w.heap.size _ (.slice A15 y107.length c15) y107 from Kd.V_mk (by rw [hy15, hc15]; exact Nat.sub_le_sub_right hroom15 _) hr15)
                        have HC111 := Aside0.mk (show y107.length ≤ c15 from by rw [hy15, hc15]; exact Nat.sub_le_sub_right hroom15 _)
                        clear hr15 hC15 hroom15 hi015 hsz15 hc15
                        have KY15 := Aside0.mk hy15
                        have KA15 := Aside0.mk hA15
                        clear hy15 hA15
                        replace q15 := eq_true q15
                        go_wp2
                        repeat (go_quiet (fail); try go_wp2)
                        go_ret3
                        exact ⟨_, by first | rfl | (simp [errW_none, errW_some] <;> rfl) | (simp [*, errW_none, errW_some] <;> rfl), by (with_reducible repeat (first | apply Kd.V_alloc | apply Kd.V_drewN | apply Kd.V_drew)); exact HO111.out, by repeat (first | (with_reducible first | exact HB.out | apply below_alloc | apply pw_below_drewN | apply below_drew1) | exact HB.out)⟩
                      · rw [if_neg c14] at H
                        exact absurd H (by simp)
                    · rw [if_neg c13] at H
                      exact absurd H (by simp)
            · rw [if_neg c8] at H
              exact absurd H (by simp)
          · rw [if_neg c7] at H
            exact absurd H (by simp)
end Go.Proofs.Ytajgillnkkkgjaa.P
end
section
/- Small facts of blocks and of worlds that lie below one another. -/
namespace Go.Proofs.Ytajgillnkkkgjaa.P
open Go.RowKit Go.Proofs.YtajgillnkkkgjaaW.PrintWords Go.Proofs.YtajgillnkkkgjaaW.PrintLast Go.Proofs.YtajgillnkkkgjaaW.PrintMore
set_option linter.unusedVariables false
set_option linter.unusedSimpArgs false
theorem below_dN (W : World) (n : Nat) : Below W.heap.size W (W.drewN n) := ⟨rfl, rfl, rfl, Nat.le_refl _, fun _ _ => rfl⟩
end Go.Proofs.Ytajgillnkkkgjaa.P
end
section
/- slices.Grow of nobody's row, and slices.Concat of rows of bytes. -/
namespace Go.Proofs.Ytajgillnkkkgjaa.P
open Go.RowKit Go.Proofs.YtajgillnkkkgjaaW.PrintWords Go.Proofs.YtajgillnkkkgjaaW.PrintLast Go.Proofs.YtajgillnkkkgjaaW.PrintMore
set_option linter.unusedVariables false
set_option linter.unusedSimpArgs false
/-- A result that reads as a row. -/
def RdPost (l : List Int) (w : World) (e : Ending) (w' : World) : Prop := ∃ A c, e = .returned (.slice A l.length c) ∧ l.length ≤ c ∧ Kd.C (Kd.int .u8) w' A l.length l ∧ Below w.heap.size w w'
/-- A result that is the call's own row. -/
def OwPost (l : List Int) (w : World) (e : Ending) (w' : World) : Prop := ∃ v, e = .returned v ∧ Kd.R (Kd.int .u8) 5 w' w.heap.size (fun _ => True) v l ∧ Below w.heap.size w w'
theorem R_none {w : World} {b : Nat} {l : List Int} {A : Option Addr} {n c : Nat} (h : Kd.R (Kd.int .u8) 5 w b (fun _ => True) (.slice A n c) l) : Kd.R (Kd.int .u8) 5 w b (fun _ => True) (.slice A 0 c) [] := by
  have ho := Kd.own_of_R (enc := Value.int .u8) (h1 := fun _ => rfl) h
  obtain ⟨A', c', e⟩ := own_slice ho
  injection e with e1 e2 e3
  subst e1 e2 e3
  have := own_take ho (Nat.zero_le _)
  rw [Nat.zero_mul, List.take_zero] at this
  exact Kd.R_of_own (enc := Value.int .u8) (h1 := fun _ => rfl) (xs := []) this (fun _ _ => trivial)
set_option maxHeartbeats 1000000 in
set_option maxRecDepth 100000 in
theorem grow_calls (n : Nat) (w : World) (hn : n ≤ 140737488355328) :
    Calls Try.prog 107 #[.slice none 0 0, .int .i64 n] w (OwPost [] w) := by
  have t0 : decide ((n : Int) < 0) = false := by simp
  by_cases h0 : n = 0
  · subst h0
    go_enter Try.func107, Try.ntmps107
    go_wp2
    go_ret
    exact ⟨_, rfl, Kd.R_nil _ _ _ _ _, Below.refl _ _⟩
  · have t1 : decide ((0 : Int) < n) = true := by simp; omega
    have hN : n ≤ 9223372036854775807 := by omega
    obtain ⟨i5, hi5, _⟩ := info_parts info5
    have HI := Aside0.mk hi5; clear hi5
    go_enter Try.func107, Try.ntmps107
    go_wp2_with ((at_builtin; refine Kd.R_append_zeros (Kd.int .u8) (w0 := w) w.heap.size rfl (.tmp 20) (.tmp 21) 51 3 5 (.int .u8 0) 1 rfl Try.underlying51 Try.underlying3 info5 rfl (by decide) (by omega) (.slice none 0 0) [] 0 n (fun _ => True) rfl rfl ?aZ (fun _ _ => trivial) (Kd.R_nil _ _ _ _ _) (by omega) (Below.refl _ _) (Nat.le_refl _) (by simp; omega) ?_; rotate_left; intro v1 w1 hR hB hg hat; obtain ⟨A1, c1, rfl, hc1, _⟩ := Kd.R_reads hR; have hs := cut_to 51 5 .i64 Try.underlying51 HI.out A1 _ c1 0 (by omega) (by omega) hc1 w1; have HR := Aside0.mk hR; have HB := Aside0.mk hB; clear hR hB hg hat))
    case aZ => exact rfl
    go_ret
    exact ⟨_, rfl, R_none HR.out, HB.out⟩
/-- A row of rows: the cell of one, and what it reads. -/
theorem rows_at {w : World} {A : Option Addr} {n : Nat} {ls : List (List Int)} (h : (Kd.slice 5 (Kd.int .u8)).C w A n ls) (i : Nat) (hi : i < ls.length) : ∃ ad B c, A = some ad ∧ w.cell? (ad.add i) = some (.slice B ls[i].length c) ∧ ls[i].length ≤ c ∧ Kd.C (Kd.int .u8) w B ls[i].length ls[i] := by
  have hn := h.1
  obtain ⟨ad, cs, rfl, hl, hK, hc⟩ := Kd.C_get h [] (i : Int) (by omega) (by omega)
  obtain ⟨B, c, rfl, hle, hC⟩ := hK
  have e : ls.getD (i : Int).toNat [] = ls[i] := by rw [Int.toNat_natCast, List.getD_eq_getElem?_getD, List.getElem?_eq_getElem hi]; rfl
  rw [e] at hle hC hc
  refine ⟨ad, B, c, rfl, ?_, hle, hC⟩
  have := hc 0 _ rfl
  rw [Int.toNat_natCast] at this
  simpa [Kd.slice] using this
theorem flat_snoc (ls : List (List Int)) (i : Nat) (h : i < ls.length) : (ls.take (i + 1)).flatten = (ls.take i).flatten ++ ls[i] := by
  rw [List.take_succ_eq_append_getElem h, List.flatten_append, List.flatten_singleton]
theorem flat_le (ls : List (List Int)) (i : Nat) : (ls.take i).flatten.length ≤ ls.flatten.length := by
  conv => rhs; rw [← List.take_append_drop i ls, List.flatten_append, List.length_append]
  omega
set_option maxHeartbeats 1000000 in
set_option maxRecDepth 100000 in
theorem concat_calls (A : Option Addr) (c : Nat) (ls : List (List Int)) (w : World) (hr : (Kd.slice 5 (Kd.int .u8)).C w A ls.length ls) (hb : ls.flatten.length ≤ 140737488355328) :
    Calls Try.prog 73 #[.slice A ls.length c] w (OwPost ls.flatten w) := by
  have hmax := Kd.C_max hr
  have HR := Aside0.mk hr; clear hr
  have HL := Aside0.mk hb; clear hb
  go_enter Try.func73, Try.ntmps73
  go_wp2
  go_loop [3, 11] (fun v3 v11 => ∃ i : Nat, i ≤ ls.length ∧ v11 = .int .i64 i ∧ v3 = .int .i64 ((ls.take i).flatten.length : Nat)) (fun _ v11 => ls.length - (intOf v11).toNat)
  case atStart => exact ⟨0, by omega, rfl, by simp⟩
  case round =>
    obtain ⟨i, hi, rfl, rfl⟩ := hrel
    by_cases hlt : i < ls.length
    · obtain ⟨ad, B, cB, rfl, hcell, hcB, hC⟩ := rows_at HR.out i hlt
      have hf := flat_snoc ls i hlt
      have h1 := flat_le ls (i + 1)
      rw [hf, List.length_append] at h1
      have h2 := HL.out
      have e : (ls.take (i + 1)).flatten.length = (ls.take i).flatten.length + ls[i].length := by rw [hf, List.length_append]
      obtain ⟨k, hk⟩ : ∃ k, (ls.take i).flatten.length = k := ⟨_, rfl⟩
      obtain ⟨m, hm⟩ : ∃ m, ls[i].length = m := ⟨_, rfl⟩
      rw [hk, hm] at h1 e
      rw [hm] at hcell
      rw [hk]
      have t0 : decide (((k : Int) + m) < 0) = false := by simp; omega
      have hkm : k + m ≤ 140737488355328 := by omega
      have HE := Aside0.mk e
      clear e hf hC hk hm h1 h2 hcB
      go_wp2
      go_round
      case rel => exact ⟨i + 1, by omega, by go_num, by rw [HE.out]; go_num⟩
      case measure => simp [intOf]; omega
    · obtain rfl : i = ls.length := by omega
      rw [List.take_length]
      obtain ⟨n, hn⟩ : ∃ n, ls.flatten.length = n := ⟨_, rfl⟩
      have hnm := HL.out
      rw [hn] at hnm ⊢
      clear hn
      go_wp2_with ((go_at_call 107; refine (grow_calls n _ hnm).mono ?_; rintro e w' ⟨v0, rfl, hR0, hB0⟩; have HR0 := Aside0.mk hR0; have HB0 := Aside0.mk hB0; clear hR0 hB0))
      go_loopw [6, 27] (fun v6 v27 wr => ∃ i : Nat, i ≤ ls.length ∧ v27 = .int .i64 i ∧ Aside0 (Kd.R (Kd.int .u8) 5 wr w.heap.size (fun _ => True) v6 (ls.take i).flatten) ∧ Aside0 (Below w.heap.size w wr)) (fun _ v27 _ => ls.length - (intOf v27).toNat)
      case atStart => exact ⟨0, by omega, rfl, ⟨HR0.out⟩, HB0⟩
      case round =>
        obtain ⟨i, hi, rfl, HR1, HB1⟩ := hrel
        by_cases hlt : i < ls.length
        · obtain ⟨ad, B, cB, rfl, hcell, hcB, hC⟩ := rows_at (Kd.C_below HR.out HB1.out) i hlt
          have hf := flat_snoc ls i hlt
          have h1 := flat_le ls (i + 1)
          rw [hf, List.length_append] at h1
          have h2 := HL.out
          have HC := Aside0.mk hC
          have HF := Aside0.mk hf
          have hbs : w.heap.size ≤ wr.heap.size := HB1.out.size
          have HL2 : Aside0 (((ls.take i).flatten.length + ls[i].length) * 1 ≤ 140737488355328) := ⟨by omega⟩
          clear hC hf h1 h2 hcB
          go_wp2_with ((at_builtin; refine Kd.R_append_rows (Kd.int .u8) (w0 := w) w.heap.size rfl (.tmp 31) (.tmp 32) 51 5 (.int .u8 0) 1 rfl Try.underlying51 info5 rfl (by decide) (by omega) u6 (ls.take i).flatten ls[i] _ _ _ (fun _ => True) (fun _ => False) rfl rfl HR1.out HC.out (fun _ _ h => h) (fun _ h => h.elim) (fun _ _ => trivial) HB1.out hbs HL2.out ?_; intro v1 w1 hR hB hg hat; have HR2 := Aside0.mk hR; have HB2 := Aside0.mk hB; clear hR hB hg hat))
          go_roundw
          case rel => exact ⟨i + 1, by omega, by go_num, ⟨by rw [HF.out]; exact HR2.out⟩, HB2⟩
          case measure => simp [intOf]; omega
        · obtain rfl : i = ls.length := by omega
          go_wp2
          go_ret
          have := HR1.out
          rw [List.take_length] at this
          exact ⟨_, rfl, this, HB1.out⟩
end Go.Proofs.Ytajgillnkkkgjaa.P
end
section
/- The bytes of a record: frame.Write; what lies at the front of bytes: frame.Read. -/
namespace Go.Proofs.Ytajgillnkkkgjaa.P
open Go.RowKit Go.Proofs.YtajgillnkkkgjaaW.PrintWords Go.Proofs.YtajgillnkkkgjaaW.PrintLast Go.Proofs.YtajgillnkkkgjaaW.PrintMore Go.Proofs.Ytajgillnkkkgjaa.H
set_option linter.unusedVariables false
set_option linter.unusedSimpArgs false
theorem V_of_C {w : World} {A : Option Addr} {c : Nat} {xs : List Int} (hc : xs.length ≤ c) (h : Kd.C (Kd.int .u8) w A xs.length xs) : Kd.V (Kd.int .u8) 5 w w.heap.size (fun _ => True) (.slice A xs.length c) xs :=
  ⟨_, _, rfl, hc, fun W_ hW_ => (Kd.heap_int _).C (fun k_ hk_ => hW_ k_ trivial hk_) h⟩
theorem rd_of_V {e : Nat} {w : World} {base : Nat} {ok : Nat → Prop} {v : Value} {r : List Int} (h : Kd.V (Kd.int .u8) e w base ok v r) : ∃ A c, v = .slice A r.length c ∧ r.length ≤ c ∧ Kd.C (Kd.int .u8) w A r.length r := by
  obtain ⟨A, c, rfl⟩ := Kd.V_slice h
  exact ⟨A, c, rfl, (Kd.V_at h).2.1, (Kd.V_reads' h).2.2⟩
theorem rd_of_R {e : Nat} {w : World} {base : Nat} {ok : Nat → Prop} {v : Value} {r : List Int} (h : Kd.R (Kd.int .u8) e w base ok v r) : ∃ A c, v = .slice A r.length c ∧ r.length ≤ c ∧ Kd.C (Kd.int .u8) w A r.length r := by
  obtain ⟨A, c, rfl⟩ := Kd.R_slice h
  exact ⟨A, c, rfl, (Kd.R_reads' h).2.1, (Kd.R_reads' h).2.2⟩
theorem nilC (w : World) : Kd.C (Kd.int .u8) w none 0 [] := ⟨rfl, by decide, fun h => absurd h (by decide)⟩
theorem put_rd {l0 r : List Int} {a n : Int} (h : pack_Put.f l0 a n = some r) {A0 : Option Addr} {c0 : Nat} {w : World} (h0 : Kd.C (Kd.int .u8) w A0 l0.length l0) (hc0 : l0.length ≤ c0) : Calls Try.prog 77 #[.slice A0 l0.length c0, .int .u64 a, .int .i64 n] w (RdPost r w) := by
  refine (pack_Put.calls (fun _ => True) A0 c0 l0 a n r w (V_of_C hc0 h0) h).mono ?_
  rintro e w' ⟨v, rfl, hV, hB⟩
  obtain ⟨A, c, rfl, hc, hC⟩ := rd_of_V hV
  exact ⟨A, c, rfl, hc, hC, hB⟩
theorem put_nil {r : List Int} {a n : Int} (h : pack_Put.f [] a n = some r) (w : World) : Calls Try.prog 77 #[.slice none 0 0, .int .u64 a, .int .i64 n] w (RdPost r w) := put_rd (l0 := []) h (nilC w) (Nat.le_refl _)
theorem concat_rd (A : Option Addr) (c n : Nat) (ls : List (List Int)) (r : List Int) (w : World) (hn : n = ls.length) (hf : ls.flatten = r) (hr : (Kd.slice 5 (Kd.int .u8)).C w A ls.length ls) (hb : r.length ≤ 140737488355328) :
    Calls Try.prog 73 #[.slice A n c] w (RdPost r w) := by
  subst hn hf
  refine (concat_calls A c ls w hr hb).mono ?_
  rintro e w' ⟨v, rfl, hR, hB⟩
  obtain ⟨A, c, rfl, hc, hC⟩ := rd_of_R hR
  exact ⟨A, c, rfl, hc, hC, hB⟩
theorem C_rows {w : World} (xs : List (Option Addr × Nat × List Int)) (hl : xs.length ≤ 1000) (h : ∀ x ∈ xs, x.2.2.length ≤ x.2.1 ∧ Kd.C (Kd.int .u8) w x.1 x.2.2.length x.2.2) (cs : Array Value) (hcs : cs = (xs.map fun x => Value.slice x.1 x.2.2.length x.2.1).toArray) :
    (Kd.slice 5 (Kd.int .u8)).C (w.alloc (.cells cs 51)) (some ⟨w.heap.size, 0, none⟩) (xs.map (·.2.2)).length (xs.map (·.2.2)) := by
  have hb : Below w.heap.size w (w.alloc (.cells cs 51)) := below_alloc (Below.refl _ _) _
  have hn := blk_new w (.cells cs 51)
  subst hcs
  refine ⟨rfl, by simp; omega, fun _ => ⟨_, rfl, fun j p hp => ?_⟩⟩
  rw [List.getElem?_map] at hp
  obtain ⟨x, hx, rfl⟩ := Option.map_eq_some_iff.1 hp
  obtain ⟨h1, h2⟩ := h x (List.mem_of_getElem? hx)
  refine ⟨[.slice x.1 x.2.2.length x.2.1], rfl, ⟨x.1, x.2.1, rfl, h1, Kd.C_below h2 hb⟩, fun i u hu => ?_⟩
  cases i with
  | zero =>
    simp only [List.getElem?_cons_zero, Option.some.injEq] at hu
    subst hu
    rw [add_plain', blk_cell hn]
    simp [Kd.slice, hx]
  | succ i => simp at hu
/-- The sum of bytes behind a sum. -/
def crcM (a : Int) (l : List Int) : Int := crcInv (l.foldl crcByte (crcInv a))
theorem xor32_range (a b : Int) : 0 ≤ bits .xor .u32 a b ∧ bits .xor .u32 a b ≤ 4294967295 := by
  simp only [bits, IntKind.wrap, IntKind.signed, Bool.false_and, Bool.false_eq_true, if_false, IntKind.bits]
  omega
theorem crcM_range (a : Int) (l : List Int) : 0 ≤ crcM a l ∧ crcM a l ≤ 4294967295 := xor32_range _ _
theorem frame_sum_is (l0 l1 : List Int) : frame_sum.f l0 l1 = some (crcM (crcM 0 l0) l1) := by
  have h1 := crcM_range 0 l0
  have h2 := crcM_range (crcM 0 l0) l1
  unfold frame_sum.f crc_Sum.f crc_More.f
  rw [if_pos (by omega)]
  simp only [Option.bind_some]
  rw [if_pos (show 0 ≤ crcInv (List.foldl crcByte (crcInv 0) l0) ∧ crcInv (List.foldl crcByte (crcInv 0) l0) ≤ 4294967295 from h1)]
  simp only [Option.bind_some]
  congr 1
  show (crcM (crcM 0 l0) l1) % 18446744073709551616 = _
  omega
theorem put4 (l : List Int) (a : Int) (hl : l.length ≤ 1000) (h0 : 0 ≤ a) (h1 : a < 18446744073709551616) : pack_Put.f l a 4 = some (l ++ putList a 4) := by
  unfold pack_Put.f
  rw [if_pos ⟨by omega, h0, h1⟩]
  rfl
theorem putList_len (a : Int) (k : Nat) : (putList a k).length = k := by simp [putList]
/-- A record: its length, its sum, and its payload. -/
def headP (p : List Int) : List Int := putList p.length 4 ++ putList (crcM (crcM 0 (putList p.length 4)) p) 4
def RdPost2 (l : List Int) (w : World) (e : Ending) (w' : World) : Prop := ∃ A c, e = .returned (.tuple #[.slice A l.length c, .int .i64 0]) ∧ l.length ≤ c ∧ Kd.C (Kd.int .u8) w' A l.length l ∧ Below w.heap.size w w'
set_option maxHeartbeats 1000000 in
set_option maxRecDepth 100000 in
theorem write_rd (A0 : Option Addr) (c0 : Nat) (b : List Int) (A1 : Option Addr) (c1 : Nat) (p r : List Int) (w : World) (hrr : [b, headP p, p].flatten = r) (h0 : Kd.C (Kd.int .u8) w A0 b.length b) (hc0 : b.length ≤ c0) (h1 : Kd.C (Kd.int .u8) w A1 p.length p) (hc1 : p.length ≤ c1) (hp : p.length ≤ 65536) (hb : b.length ≤ 1000000) :
    Calls Try.prog 35 #[.slice A0 b.length c0, .slice A1 p.length c1] w (RdPost2 r w) := by
  have t0 : decide ((65536 : Int) < p.length) = false := by simp; omega
  have H0 := Aside0.mk h0; clear h0
  have H1 := Aside0.mk h1; clear h1
  have P1 : Aside0 (pack_Put.f [] p.length 4 = some (putList p.length 4)) := ⟨put4 [] p.length (by simp) (by omega) (by omega)⟩
  have FS := Aside0.mk (frame_sum_is (putList p.length 4) p)
  have hr := crcM_range (crcM 0 (putList p.length 4)) p
  have P2 := Aside0.mk (put4 (putList p.length 4) (crcM (crcM 0 (putList p.length 4)) p) (by rw [putList_len]; omega) hr.1 (by omega))
  have hw : IntKind.u64.wrap (p.length : Int) = p.length := by show (p.length : Int) % 18446744073709551616 = _; omega
  have HL : Aside0 (r.length ≤ 140737488355328) := ⟨by rw [← hrr]; simp [headP, putList_len]; omega⟩
  have HRR := Aside0.mk hrr; clear hrr
  generalize hs : crcM (crcM 0 (putList p.length 4)) p = s at FS P2 hr
  have HP : Aside0 (putList p.length 4 ++ putList s 4 = headP p) := ⟨by rw [← hs]; rfl⟩
  clear hs hr
  go_enter Try.func35, Try.ntmps35
  go_wp2_with (first | (go_at_call 77; first | ((with_reducible refine (put_nil P1.out _).mono ?_); rintro e w1 ⟨Ax, cx, rfl, hcx, hC, hB⟩; have HX := Aside0.mk hC; have HCX := Aside0.mk hcx; have HB1 := Aside0.mk hB; clear hC hB hcx) | ((with_reducible refine (put_rd P2.out (Kd.C_below HX.out HB2.out) HCX.out).mono ?_); rintro e w3 ⟨Ay, cy, rfl, hcy, hC, hB⟩; rw [HP.out] at hcy hC ⊢; have HY := Aside0.mk hC; have HCY := Aside0.mk hcy; have HB3 := Aside0.mk hB; clear hC hB hcy)) | (go_at_call 78; (with_reducible refine (frame_sum.calls Ax cx _ A1 c1 p s _ HX.out HCX.out (Kd.C_below H1.out HB1.out) hc1 FS.out).mono ?_); rintro e w2 ⟨rfl, hB⟩; have HB2 := Aside0.mk hB; clear hB) | (go_at_call 73; (with_reducible refine (concat_rd _ _ 3 [b, headP p, p] r _ rfl HRR.out (C_rows [(A0, c0, b), (Ay, cy, headP p), (A1, c1, p)] (by simp) (by simp only [List.mem_cons, List.not_mem_nil, or_false, forall_eq_or_imp, forall_eq]; exact ⟨⟨hc0, Kd.C_below (Kd.C_below (Kd.C_below H0.out HB1.out) HB2.out) HB3.out⟩, ⟨HCY.out, HY.out⟩, ⟨hc1, Kd.C_below (Kd.C_below (Kd.C_below H1.out HB1.out) HB2.out) HB3.out⟩⟩) _ rfl) HL.out).mono ?_); rintro e w4 ⟨Az, cz, rfl, hcz, hC, hB⟩; have HZ := Aside0.mk hC; have HCZ := Aside0.mk hcz; have HB4 := Aside0.mk hB; clear hC hB hcz))
  go_ret2
  exact ⟨_, _, rfl, HCZ.out, HZ.out, below_step (below_step (below_step HB1.out HB2.out) HB3.out) (below_step (below_alloc (Below.refl _ _) _) HB4.out)⟩
end Go.Proofs.Ytajgillnkkkgjaa.P
end
section
-- printed by the session's own call of print.py. Not trusted: Lean checks it.
namespace Go.Proofs.Ytajgillnkkkgjaa.P
open Go.RowKit Go.Proofs.YtajgillnkkkgjaaW.PrintWords Go.Proofs.YtajgillnkkkgjaaW.PrintLast Go.Proofs.YtajgillnkkkgjaaW.PrintMore
attribute [local go_sem] max2_int min2_int max_two min_two max_three min_three max_four min_four
set_option linter.unusedVariables false
set_option linter.unusedSimpArgs false
/-! ### tallymanref08_Same: function 37 -/
end Go.Proofs.Ytajgillnkkkgjaa.P
end
section
-- printed by the session's own call of print.py. Not trusted: Lean checks it.
namespace Go.Proofs.Ytajgillnkkkgjaa.P
open Go.RowKit Go.Proofs.YtajgillnkkkgjaaW.PrintWords Go.Proofs.YtajgillnkkkgjaaW.PrintLast Go.Proofs.YtajgillnkkkgjaaW.PrintMore
attribute [local go_sem] max2_int min2_int max_two min_two max_three min_three max_four min_four
set_option linter.unusedVariables false
set_option linter.unusedSimpArgs false
/-! ### tallymanref08_Take: function 82 -/
mutual
def tallymanref08_Take.j0 : Nat → List Int → Int → Bool → Option (Int × List Int × Int)
  | 0, _, _, _ => none
  | k + 1, x0, x1, x14 => if x14 = true then (some (0, ([] : List Int), 1)) else (if (x0.length : Int) < x1 then (some (0, ([] : List Int), 4)) else (tallymanref08_Take.l0 k x0 x1 0 0))
def tallymanref08_Take.l0 : Nat → List Int → Int → Int → Int → Option (Int × List Int × Int)
  | 0, _, _, _, _ => none
  | k + 1, x0, x1, x7, x8 => if x8 < x1 then (if 0 ≤ x8 then (if x8 < (x0.length : Int) then (tallymanref08_Take.l0 k x0 x1 (IntKind.u64.wrap ((IntKind.u64.wrap (x7 * 256)) + (IntKind.u64.wrap (rd x0 x8)))) (wrap64 (x8 + 1))) else (none)) else (none)) else ((some (([] : List Int) : List Int)).bind fun y102 => (if 0 ≤ x1 then (if x1 ≤ (x0.length : Int) then (if y102.length + (x0.drop (x1 : Int).toNat).length < 140737488355328 then (some (x7, (y102 ++ (x0.drop (x1 : Int).toNat)), 0)) else (none)) else (none)) else (none)))
end
def tallymanref08_Take.f (k : Nat) (l0 : List Int) (a1 : Int) : Option (Int × List Int × Int) := if a1 < 0 then (tallymanref08_Take.j0 k l0 a1 true) else (tallymanref08_Take.j0 k l0 a1 (decide (a1 > 8)))
theorem tallymanref08_Take.mono_l : ∀ k, (∀ y0 y1 y2, LeO (tallymanref08_Take.j0 k y0 y1 y2) (tallymanref08_Take.j0 (k + 1) y0 y1 y2)) ∧ (∀ y0 y1 y2 y3, LeO (tallymanref08_Take.l0 k y0 y1 y2 y3) (tallymanref08_Take.l0 (k + 1) y0 y1 y2 y3))
  | 0 => ⟨fun _ _ _ r h => by simp [tallymanref08_Take.j0] at h, fun _ _ _ _ r h => by simp [tallymanref08_Take.l0] at h⟩
  | k + 1 => by
    obtain ⟨ih0, ih1⟩ := tallymanref08_Take.mono_l k
    refine ⟨?_, ?_⟩
    · intro y0 y1 y2
      unfold tallymanref08_Take.j0
      repeat' first
      | (with_reducible exact ih0 _ _ _)
      | (with_reducible exact ih1 _ _ _ _)
      | (with_reducible exact LeO.refl _)
      | (with_reducible exact LeO.none _)
      | (with_reducible refine LeO.ite ?_ ?_)
      | (with_reducible refine LeO.bind ?_ (fun _ => ?_))
      | exact ih0 _ _ _
      | exact ih1 _ _ _ _
      | exact LeO.none _
      | refine LeO.ite ?_ ?_
      | refine LeO.bind ?_ (fun _ => ?_)
    · intro y0 y1 y2 y3
      unfold tallymanref08_Take.l0
      repeat' first
      | (with_reducible exact ih0 _ _ _)
      | (with_reducible exact ih1 _ _ _ _)
      | (with_reducible exact LeO.refl _)
      | (with_reducible exact LeO.none _)
      | (with_reducible refine LeO.ite ?_ ?_)
      | (with_reducible refine LeO.bind ?_ (fun _ => ?_))
      | exact ih0 _ _ _
      | exact ih1 _ _ _ _
      | exact LeO.none _
      | refine LeO.ite ?_ ?_
      | refine LeO.bind ?_ (fun _ => ?_)
theorem tallymanref08_Take.mono : ∀ a0 a1 k, LeO (tallymanref08_Take.f k a0 a1) (tallymanref08_Take.f (k + 1) a0 a1) := by
  intro a0 a1 k
  obtain ⟨ih0, ih1⟩ := tallymanref08_Take.mono_l k
  unfold tallymanref08_Take.f
  repeat' first
      | (with_reducible exact ih0 _ _ _)
      | (with_reducible exact ih1 _ _ _ _)
      | (with_reducible exact LeO.refl _)
      | (with_reducible exact LeO.none _)
      | (with_reducible refine LeO.ite ?_ ?_)
      | (with_reducible refine LeO.bind ?_ (fun _ => ?_))
      | exact ih0 _ _ _
      | exact ih1 _ _ _ _
      | exact LeO.none _
      | refine LeO.ite ?_ ?_
      | refine LeO.bind ?_ (fun _ => ?_)
end Go.Proofs.Ytajgillnkkkgjaa.P
end
section
-- printed by the session's own call of print.py. Not trusted: Lean checks it.
namespace Go.Proofs.Ytajgillnkkkgjaa.P
open Go.RowKit Go.Proofs.YtajgillnkkkgjaaW.PrintWords Go.Proofs.YtajgillnkkkgjaaW.PrintLast Go.Proofs.YtajgillnkkkgjaaW.PrintMore
attribute [local go_sem] max2_int min2_int max_two min_two max_three min_three max_four min_four
set_option linter.unusedVariables false
set_option linter.unusedSimpArgs false
/-! ### tallymanref02_Clip: function 72 -/
def tallymanref02_Clip.f (a0 : Int) (a1 : Int) (a2 : Int) : Option (Int) := if a0 < a1 then (some a1) else (if a0 > a2 then (some a2) else (some a0))
end Go.Proofs.Ytajgillnkkkgjaa.P
end
section
-- printed by the session's own call of print.py. Not trusted: Lean checks it.
namespace Go.Proofs.Ytajgillnkkkgjaa.P
open Go.RowKit Go.Proofs.YtajgillnkkkgjaaW.PrintWords Go.Proofs.YtajgillnkkkgjaaW.PrintLast Go.Proofs.YtajgillnkkkgjaaW.PrintMore
attribute [local go_sem] max2_int min2_int max_two min_two max_three min_three max_four min_four
set_option linter.unusedVariables false
set_option linter.unusedSimpArgs false
/-! ### tallymanref08_Put: function 79 -/
mutual
def tallymanref08_Put.l0 : Nat → Int → List Int → Int → Option (List Int)
  | 0, _, _, _ => none
  | k + 1, x1, x7, x8 => if x8 ≥ 0 then (tallymanref08_Put.l1 k x1 x7 x8 x1 0) else (some x7)
def tallymanref08_Put.l1 : Nat → Int → List Int → Int → Int → Int → Option (List Int)
  | 0, _, _, _, _, _ => none
  | k + 1, x1, x7, x8, x9, x10 => if x10 < x8 then (tallymanref08_Put.l1 k x1 x7 x8 (IntKind.u64.wrap (Int.tdiv x9 256)) (wrap64 (x10 + 1))) else (if x7.length < 140737488355328 then (tallymanref08_Put.l0 k x1 (x7 ++ [(Int.tmod x9 256) % 256]) (wrap64 (x8 - 1))) else (none))
end
def tallymanref08_Put.f (k : Nat) (l0 : List Int) (a1 : Int) (a2 : Int) : Option (List Int) := (some (([] : List Int) : List Int)).bind fun y101 => (if y101.length + l0.length < 140737488355328 then ((tallymanref02_Clip.f a2 0 8).bind fun t107 => (tallymanref08_Put.l0 k a1 (y101 ++ l0) (wrap64 (t107 - 1)))) else (none))
theorem tallymanref08_Put.mono_l : ∀ k, (∀ y0 y1 y2, LeO (tallymanref08_Put.l0 k y0 y1 y2) (tallymanref08_Put.l0 (k + 1) y0 y1 y2)) ∧ (∀ y0 y1 y2 y3 y4, LeO (tallymanref08_Put.l1 k y0 y1 y2 y3 y4) (tallymanref08_Put.l1 (k + 1) y0 y1 y2 y3 y4))
  | 0 => ⟨fun _ _ _ r h => by simp [tallymanref08_Put.l0] at h, fun _ _ _ _ _ r h => by simp [tallymanref08_Put.l1] at h⟩
  | k + 1 => by
    obtain ⟨ih0, ih1⟩ := tallymanref08_Put.mono_l k
    refine ⟨?_, ?_⟩
    · intro y0 y1 y2
      unfold tallymanref08_Put.l0
      repeat' first
      | (with_reducible exact ih0 _ _ _)
      | (with_reducible exact ih1 _ _ _ _ _)
      | (with_reducible exact LeO.refl _)
      | (with_reducible exact LeO.none _)
      | (with_reducible refine LeO.ite ?_ ?_)
      | (with_reducible refine LeO.bind ?_ (fun _ => ?_))
      | exact ih0 _ _ _
      | exact ih1 _ _ _ _ _
      | exact LeO.none _
      | refine LeO.ite ?_ ?_
      | refine LeO.bind ?_ (fun _ => ?_)
    · intro y0 y1 y2 y3 y4
      unfold tallymanref08_Put.l1
      repeat' first
      | (with_reducible exact ih0 _ _ _)
      | (with_reducible exact ih1 _ _ _ _ _)
      | (with_reducible exact LeO.refl _)
      | (with_reducible exact LeO.none _)
      | (with_reducible refine LeO.ite ?_ ?_)
      | (with_reducible refine LeO.bind ?_ (fun _ => ?_))
      | exact ih0 _ _ _
      | exact ih1 _ _ _ _ _
      | exact LeO.none _
      | refine LeO.ite ?_ ?_
      | refine LeO.bind ?_ (fun _ => ?_)
theorem tallymanref08_Put.mono : ∀ a0 a1 a2 k, LeO (tallymanref08_Put.f k a0 a1 a2) (tallymanref08_Put.f (k + 1) a0 a1 a2) := by
  intro a0 a1 a2 k
  obtain ⟨ih0, ih1⟩ := tallymanref08_Put.mono_l k
  unfold tallymanref08_Put.f
  repeat' first
      | (with_reducible exact ih0 _ _ _)
      | (with_reducible exact ih1 _ _ _ _ _)
      | (with_reducible exact LeO.refl _)
      | (with_reducible exact LeO.none _)
      | (with_reducible refine LeO.ite ?_ ?_)
      | (with_reducible refine LeO.bind ?_ (fun _ => ?_))
      | exact ih0 _ _ _
      | exact ih1 _ _ _ _ _
      | exact LeO.none _
      | refine LeO.ite ?_ ?_
      | refine LeO.bind ?_ (fun _ => ?_)
end Go.Proofs.Ytajgillnkkkgjaa.P
end
section
namespace Go.Proofs.Ytajgillnkkkgjaa.B
open Go.RowKit
theorem wrap_u64 (n : Int) : IntKind.u64.wrap n = n % 18446744073709551616 := by simp [IntKind.wrap, IntKind.bits, IntKind.signed]
theorem wrap_i64 (n : Int) : IntKind.i64.wrap n = wrap64 n := by
  simp only [IntKind.wrap, IntKind.bits, IntKind.signed, wrap64, Bool.true_and, ge_iff_le, decide_eq_true_eq]
  by_cases h : (2 : Int) ^ (64 - 1) ≤ n % 2 ^ 64
  · rw [if_pos h]; omega
  · rw [if_neg h]; omega
theorem wf_u16 {n : Int} (h : (Lit.int .u16 n).wf = true) : 0 ≤ n ∧ n ≤ 65535 := by
  simpa [Lit.wf, IntKind.min, IntKind.max, IntKind.signed, IntKind.bits] using h
theorem wf_u8 {n : Int} (h : (Lit.int .u8 n).wf = true) : 0 ≤ n ∧ n ≤ 255 := by
  simpa [Lit.wf, IntKind.min, IntKind.max, IntKind.signed, IntKind.bits] using h
end Go.Proofs.Ytajgillnkkkgjaa.B
end
section
/- Plain lemmas on the Lean functions of pack: what Put, Take and their references come to. -/
namespace Go.Proofs.Ytajgillnkkkgjaa.Pure
open Go.RowKit Go.Proofs.Ytajgillnkkkgjaa.P Go.Proofs.YtajgillnkkkgjaaW.PrintWords Go.Proofs.YtajgillnkkkgjaaW.PrintLast Go.Proofs.Ytajgillnkkkgjaa.B
def val (l : List Int) (a : Int) : Int := l.foldl (fun w x => w * 256 + x) a
theorem bytes_of {l : List Int} (h : ∀ x ∈ l, (Lit.int .u8 x).wf = true) : ∀ x ∈ l, 0 ≤ x ∧ x ≤ 255 := fun x hx => wf_u8 (h x hx)
theorem wraps_u64 : ∀ n : Int, 0 ≤ n → n < 2 ^ 64 → IntKind.u64.wrap n = n := fun n h0 h1 => by rw [wrap_u64]; omega
theorem rd_nat (l : List Int) (i : Nat) (h : i < l.length) : rd l (i : Int) = l[i] := by
  rw [rd, List.getD_eq_getElem?_getD, Int.toNat_natCast, List.getElem?_eq_getElem h]; rfl
theorem pow_le {i : Nat} (h : i ≤ 7) : (256 : Int) ^ i ≤ 72057594037927936 := by
  have h1 : 256 ^ i ≤ 256 ^ 7 := Nat.pow_le_pow_right (by decide) h
  have h2 : (256 : Int) ^ i = ((256 ^ i : Nat) : Int) := by rw [Int.natCast_pow]; rfl
  have h3 : (256 ^ 7 : Nat) = 72057594037927936 := by decide
  rw [h2]; omega
theorem or_join (acc b : Int) (h0 : 0 ≤ acc) (h1 : acc < 72057594037927936) (b0 : 0 ≤ b) (b1 : b ≤ 255) : bits .or .u64 (IntKind.u64.wrap (acc * 256)) (IntKind.u64.wrap b) = acc * 256 + b := by
  rw [wrap_u64, wrap_u64, show acc * 256 % 18446744073709551616 = acc * 256 from by omega, show b % 18446744073709551616 = b from by omega]
  exact bits_join .u64 64 (by decide) wraps_u64 8 (acc * 256) b (by omega) (by omega) (by omega) b0 (by omega) (by omega)
theorem w64 {n : Int} (h0 : -9223372036854775808 ≤ n) (h1 : n ≤ 9223372036854775807) : wrap64 n = n := by unfold wrap64; omega
/-- The code's loop. -/
theorem take_loop (x0 : List Int) (x1 : Int) (y : List Int) (hy : ∀ x ∈ y, 0 ≤ x ∧ x ≤ 255) (hlen : y.length ≤ 8) (h0 : 0 ≤ x1) (h1 : x1 ≤ (x0.length : Int)) :
    ∀ (d i : Nat) (acc : Int), i + d = y.length → 0 ≤ acc → acc < 256 ^ i → Ev (fun k => pack_Take.l0 k x0 x1 acc y (y.length : Int) i) (val (y.drop i) acc, x0.drop x1.toNat, 0) := by
  intro d
  induction d with
  | zero =>
    intro i acc hi ha hb
    rw [List.drop_of_length_le (by omega)]
    refine Ev.step (fun k => by rw [pack_Take.l0, if_neg (by omega), if_pos h0, if_pos h1]; rfl) (Ev.now _)
  | succ d ih =>
    intro i acc hi ha hb
    have hlt : i < y.length := by omega
    obtain ⟨b0, b1⟩ := hy y[i] (List.getElem_mem hlt)
    have hp := pow_le (i := i) (by omega)
    refine Ev.step (fun k => by rw [pack_Take.l0, if_pos (by omega), if_pos (by omega), if_pos (by omega), rd_nat y i hlt, or_join acc _ ha (by omega) b0 b1, w64 (by omega) (by omega), show ((i : Int) + 1) = ((i + 1 : Nat) : Int) from by omega]) ?_
    have := ih (i + 1) (acc * 256 + y[i]) (by omega) (by omega) (by rw [Int.pow_succ]; omega)
    rw [List.drop_eq_getElem_cons hlt]
    exact this
def takeSpec (l : List Int) (n : Int) : Int × List Int × Int := if n < 0 ∨ 8 < n then (0, [], 1) else if (l.length : Int) < n then (0, [], 4) else (val (l.take n.toNat) 0, l.drop n.toNat, 0)
theorem take_code (l : List Int) (n : Int) (hl : ∀ x ∈ l, 0 ≤ x ∧ x ≤ 255) : Ev (fun k => pack_Take.f k l n) (takeSpec l n) := by
  have key : Ev (fun k => pack_Take.j0 k l n (decide (n < 0 ∨ 8 < n))) (takeSpec l n) := by
    unfold takeSpec
    by_cases h : n < 0 ∨ 8 < n
    · rw [if_pos h]
      exact Ev.step (fun k => by rw [pack_Take.j0, if_pos (by simpa using h)]) (Ev.now _)
    · rw [if_neg h]
      by_cases h2 : (l.length : Int) < n
      · rw [if_pos h2]
        exact Ev.step (fun k => by rw [pack_Take.j0, if_neg (by simpa using h), if_pos h2]) (Ev.now _)
      · rw [if_neg h2]
        have hlen : (l.take n.toNat).length ≤ 8 := by rw [List.length_take]; omega
        refine Ev.step (fun k => by rw [pack_Take.j0, if_neg (by simpa using h), if_neg h2, if_pos (by omega), if_pos (by omega)]) ?_
        exact take_loop l n (l.take n.toNat) (fun x hx => hl x (List.mem_of_mem_take hx)) hlen (by omega) (by omega) (l.take n.toNat).length 0 0 (by omega) (by omega) (by simp)
  refine Ev.congr (fun k => ?_) key
  unfold pack_Take.f
  by_cases h : n < 0
  · rw [if_pos h]; simp [h]
  · rw [if_neg h]; simp [h]
end Go.Proofs.Ytajgillnkkkgjaa.Pure
end
section
/- What lies at the front of bytes: frame.Read. -/
namespace Go.Proofs.Ytajgillnkkkgjaa.P
open Go.RowKit Go.Proofs.YtajgillnkkkgjaaW.PrintWords Go.Proofs.YtajgillnkkkgjaaW.PrintLast Go.Proofs.YtajgillnkkkgjaaW.PrintMore Go.Proofs.Ytajgillnkkkgjaa.H Go.Proofs.Ytajgillnkkkgjaa.Pure
set_option linter.unusedVariables false
set_option linter.unusedSimpArgs false
def isB (l : List Int) : Prop := ∀ x ∈ l, 0 ≤ x ∧ x ≤ 255
def be4 (l : List Int) : Int := val (l.take 4) 0
theorem isB_take {l : List Int} (h : isB l) (n : Nat) : isB (l.take n) := fun x hx => h x (List.mem_of_mem_take hx)
theorem isB_drop {l : List Int} (h : isB l) (n : Nat) : isB (l.drop n) := fun x hx => h x (List.mem_of_mem_drop hx)
theorem isB_app {l m : List Int} (h : isB l) (h' : isB m) : isB (l ++ m) := fun x hx => (List.mem_append.1 hx).elim (h x) (h' x)
theorem val_range : ∀ (l : List Int) (a : Int), isB l → 0 ≤ a → 0 ≤ val l a ∧ val l a < (a + 1) * 256 ^ l.length := by
  intro l
  induction l with
  | nil => intro a _ h; simp [val]; omega
  | cons x l ih =>
    intro a hl h
    obtain ⟨h0, h1⟩ := hl x (by simp)
    obtain ⟨i0, i1⟩ := ih (a * 256 + x) (fun y hy => hl y (by simp [hy])) (by omega)
    refine ⟨i0, Int.lt_of_lt_of_le i1 ?_⟩
    have e : (a + 1) * (256 ^ l.length * 256) = ((a + 1) * 256) * 256 ^ l.length := by rw [Int.mul_comm (256 ^ l.length) 256, Int.mul_assoc]
    rw [List.length_cons, Int.pow_succ, e]
    exact Int.mul_le_mul_of_nonneg_right (by omega) (Int.pow_nonneg (show (0 : Int) ≤ 256 by decide))
theorem be4_range {l : List Int} (h : isB l) : 0 ≤ be4 l ∧ be4 l < 4294967296 := by
  obtain ⟨h0, h1⟩ := val_range (l.take 4) 0 (isB_take h 4) (by omega)
  refine ⟨h0, Int.lt_of_lt_of_le h1 ?_⟩
  have h2 : ∀ k, k < 5 → (256 : Int) ^ k ≤ 4294967296 := by decide
  have h3 := h2 (l.take 4).length (by rw [List.length_take]; omega)
  omega
theorem take4 {l : List Int} (h : isB l) (hl : 4 ≤ l.length) : ∃ k, pack_Take.f k l 4 = some (be4 l, l.drop 4, 0) := by
  have := take_code l 4 h
  rw [show takeSpec l 4 = (be4 l, l.drop 4, 0) by unfold takeSpec be4; rw [if_neg (by omega), if_neg (by omega)]; rfl] at this
  exact Ev.rounds this
def readP (l : List Int) : List Int × List Int × Int :=
  if l.length < 8 then ([], [], 4) else if 65536 < be4 l then ([], [], 15) else if (l.length : Int) - 8 < be4 l then ([], [], 4)
  else if be4 (l.drop 4) ≠ crcM (crcM 0 (l.take 4)) ((l.drop 8).take (be4 l).toNat) then ([], [], 5) else ((l.drop 8).take (be4 l).toNat, (l.drop 8).drop (be4 l).toNat, 0)
def RdPost3 (x : Int) (r : List Int) (y : Int) (w : World) (e : Ending) (w' : World) : Prop := ∃ A c, e = .returned (.tuple #[.int .u64 x, .slice A r.length c, .int .i64 y]) ∧ r.length ≤ c ∧ Kd.C (Kd.int .u8) w' A r.length r ∧ Below w.heap.size w w'
theorem take_rd {k : Nat} {l0 : List Int} {n x y : Int} {r : List Int} (h : pack_Take.f k l0 n = some (x, r, y)) {A0 : Option Addr} {c0 : Nat} {w : World} (h0 : Kd.C (Kd.int .u8) w A0 l0.length l0) (hc0 : l0.length ≤ c0) :
    Calls Try.prog 81 #[.slice A0 l0.length c0, .int .i64 n] w (RdPost3 x r y w) := by
  refine (pack_Take.calls k (fun _ => True) A0 c0 l0 n x r y w (V_of_C hc0 h0) h).mono ?_
  rintro e w' ⟨v, rfl, hV, hB⟩
  obtain ⟨A, c, rfl, hc, hC⟩ := rd_of_V hV
  exact ⟨A, c, rfl, hc, hC, hB⟩
def RdPostV (P : Nat → Prop) (x : Int) (r : List Int) (y : Int) (w : World) (e : Ending) (w' : World) : Prop := ∃ A c, e = .returned (.tuple #[.int .u64 x, .slice A r.length c, .int .i64 y]) ∧ r.length ≤ c ∧ Kd.F (Kd.int .u8) w' (fun k => P k ∨ w.heap.size ≤ k) A r.length r ∧ Below w.heap.size w w'
theorem take_rd' {P : Nat → Prop} {k : Nat} {l0 : List Int} {n x y : Int} {r : List Int} {m : Nat} (hm : m = l0.length) (h : pack_Take.f k l0 n = some (x, r, y)) {A0 : Option Addr} {c0 : Nat} {w : World} (h0 : Kd.F (Kd.int .u8) w P A0 l0.length l0) (hc0 : l0.length ≤ c0) :
    Calls Try.prog 81 #[.slice A0 m c0, .int .i64 n] w (RdPostV P x r y w) := by
  subst hm
  refine (pack_Take.calls k P A0 c0 l0 n x r y w (Kd.V_mk hc0 h0) h).mono ?_
  rintro e w' ⟨v, rfl, hV, hB⟩
  obtain ⟨A, c, rfl⟩ := Kd.V_slice hV
  exact ⟨A, c, rfl, (Kd.V_at hV).2.1, (Kd.V_at hV).2.2, hB⟩
theorem slice_to (A : Option Addr) (n c m : Nat) (hm : m ≤ c) (W : World) : (Instr.slice 51 (.slice A n c) none (some (.int .u64 m)) (some (.int .u64 m))).run Try.prog W = .ok (.slice A m m) W := by
  obtain ⟨i, hi, _⟩ := info_parts info5
  simp [Instr.slice, Instr.sliceBounds, Instr.sliceBound, run_underlying Try.underlying51, asIntOf, hm, sizeOf, typeInfo, hi, add0]
def RdTwo (P : Nat → Prop) (x : List Int × List Int × Int) (w : World) (e : Ending) (w' : World) : Prop := ∃ A c B d, e = .returned (.tuple #[.slice A x.1.length c, .slice B x.2.1.length d, .int .i64 x.2.2]) ∧ x.1.length ≤ c ∧ Kd.F (Kd.int .u8) w' (fun k => P k ∨ w.heap.size ≤ k) A x.1.length x.1 ∧ x.2.1.length ≤ d ∧ Kd.F (Kd.int .u8) w' (fun k => P k ∨ w.heap.size ≤ k) B x.2.1.length x.2.1 ∧ Below w.heap.size w w'
theorem two_nil {P : Nat → Prop} {y : Int} {w w' : World} (hB : Below w.heap.size w w') : RdTwo P ([], [], y) w (.returned (.tuple #[.slice none 0 0, .slice none 0 0, .int .i64 y])) w' := ⟨none, 0, none, 0, rfl, Nat.le_refl _, Kd.F_nil _ _ _, Nat.le_refl _, Kd.F_nil _ _ _, hB⟩
theorem two_of {P Q : Nat → Prop} {x r : List Int} {n m c d : Nat} {A B : Option Addr} {y : Int} {w w' : World} (e1 : n = x.length) (e2 : m = r.length) (h1 : n ≤ c) (h2 : Kd.F (Kd.int .u8) w' Q A n x) (h3 : m ≤ d) (h4 : Kd.F (Kd.int .u8) w' Q B r.length r) (hB : Below w.heap.size w w') (hQ : ∀ k, Q k → P k ∨ w.heap.size ≤ k) : RdTwo P (x, r, y) w (.returned (.tuple #[.slice A n c, .slice B m d, .int .i64 y])) w' := by
  subst e1 e2
  exact ⟨A, c, B, d, rfl, h1, Kd.F_mono h2 hQ, h3, Kd.F_mono h4 hQ, hB⟩
theorem sum_rd' {l0 l1 : List Int} {m0 m1 : Nat} {s : Int} (e0 : m0 = l0.length) (e1 : m1 = l1.length) (hs : crcM (crcM 0 l0) l1 = s) {A0 A1 : Option Addr} {c0 c1 : Nat} {w : World} (h0 : Kd.C (Kd.int .u8) w A0 m0 l0) (hc0 : m0 ≤ c0) (h1 : Kd.C (Kd.int .u8) w A1 m1 l1) (hc1 : m1 ≤ c1) :
    Calls Try.prog 78 #[.slice A0 m0 c0, .slice A1 m1 c1] w fun e w' => e = .returned (.int .u64 s) ∧ Below w.heap.size w w' := by
  subst e0 e1 hs
  exact frame_sum.calls A0 c0 l0 A1 c1 l1 _ w h0 hc0 h1 hc1 (frame_sum_is l0 l1)
abbrev ReadS (Q : Nat → Prop) (w0 : World) (A0 : Option Addr) (l : List Int) (Ay : Option Addr) (n : Nat) (r : List Int) (An : Option Addr) (q : List Int) (w' : World) : Prop := Aside0 (Kd.C (Kd.int .u8) w' A0 4 l) ∧ Aside0 (Kd.F (Kd.int .u8) w' Q Ay n r) ∧ Aside0 (Below w0.heap.size w0 w') ∧ Aside0 (Kd.F (Kd.int .u8) w' Q An q.length q)
theorem ReadS.keep {Q : Nat → Prop} {w0 : World} {A0 : Option Addr} {l : List Int} {Ay : Option Addr} {n : Nat} {r : List Int} {An : Option Addr} {q : List Int} {w1 w2 : World} (h : ReadS Q w0 A0 l Ay n r An q w1) (hb : Below w1.heap.size w1 w2) : ReadS Q w0 A0 l Ay n r An q w2 := ⟨⟨Kd.C_below h.1.out hb⟩, ⟨Kd.F_below h.2.1.out hb⟩, ⟨below_step h.2.2.1.out hb⟩, ⟨Kd.F_below h.2.2.2.out hb⟩⟩
set_option maxHeartbeats 2000000 in
set_option maxRecDepth 100000 in
theorem read_F (P : Nat → Prop) (A0 : Option Addr) (c0 : Nat) (l : List Int) (w : World) (hF : Kd.F (Kd.int .u8) w P A0 l.length l) (hc0 : l.length ≤ c0) (hb : isB l) :
    Calls Try.prog 40 #[.slice A0 l.length c0] w (RdTwo P (readP l) w) := by
  have h0 := Kd.F_now hF
  have hmax := Kd.C_max h0
  by_cases g1 : l.length < 8
  · have t1 : decide (l.length < 8) = true := by simpa using g1
    have t1' : decide ((l.length : Int) < 8) = true := by simp; omega
    have HP : Aside0 (readP l = ([], [], 4)) := ⟨by unfold readP; rw [if_pos g1]⟩
    clear g1
    go_enter Try.func40, Try.ntmps40
    go_wp2
    go_ret3
    rw [HP.out]
    exact two_nil (Below.refl _ _)
  have t1 : decide (l.length < 8) = false := by simpa using g1
  have t1' : decide ((l.length : Int) < 8) = false := by simp; omega
  obtain ⟨k1, f1⟩ := take4 hb (by omega)
  obtain ⟨k2, f2⟩ := take4 (isB_drop hb 4) (by rw [List.length_drop]; omega)
  rw [show (l.drop 4).drop 4 = l.drop 8 from by rw [List.drop_drop]] at f2
  have F1 := Aside0.mk f1; clear f1
  have F2 := Aside0.mk f2; clear f2
  obtain ⟨i5, hi5, _, hsz5, _⟩ := info_parts info5
  obtain ⟨A4, cf, h4⟩ : ∃ A4, (∀ W : World, (Instr.slice 51 (.slice A0 l.length c0) (some (.int .i64 4)) none none).run Try.prog W = .ok (.slice A4 (l.length - 4) (c0 - 4)) W) ∧ Kd.F (Kd.int .u8) w P A4 (l.drop 4).length (l.drop 4) :=
    ⟨_, cut_from 51 5 .i64 Try.underlying51 hi5 1 hsz5 A0 l.length c0 4 (by omega) (by omega), Kd.F_cut hF (m := 4) (by omega) hc0⟩
  have cf2 : ∀ W : World, (Instr.slice 51 (.slice A0 l.length c0) none (some (.int .i64 4)) none).run Try.prog W = .ok (.slice A0 4 c0) W := cut_to 51 5 .i64 Try.underlying51 hi5 A0 l.length c0 4 (by omega) (by omega) hc0
  have HI5 := Aside0.mk hi5; have HS5 := Aside0.mk hsz5; clear hi5 hsz5
  have H4 := Aside0.mk h4; clear h4
  have H44 := Aside0.mk (Kd.C_take h0 (m := 4) (by omega))
  have H0 := Aside0.mk h0; clear h0 hF
  have E4 : Aside0 (l.length - 4 = (l.drop 4).length) := ⟨by rw [List.length_drop]⟩
  obtain ⟨n0, n1⟩ := be4_range hb
  obtain ⟨n, hn⟩ : ∃ n : Nat, be4 l = n := ⟨(be4 l).toNat, by omega⟩
  have HRP : Aside0 (readP l = if 65536 < n then ([], [], 15) else if l.length - 8 < n then ([], [], 4)
    else if be4 (l.drop 4) ≠ crcM (crcM 0 (l.take 4)) ((l.drop 8).take n) then ([], [], 5) else ((l.drop 8).take n, (l.drop 8).drop n, 0)) := by
    constructor
    unfold readP
    rw [if_neg g1, hn, Int.toNat_natCast]
    by_cases g2 : 65536 < n
    · rw [if_pos (by omega), if_pos g2]
    · rw [if_neg (by omega), if_neg g2]
      by_cases g3 : l.length - 8 < n
      · rw [if_pos (by omega), if_pos g3]
      · rw [if_neg (by omega), if_neg g3]
  rw [hn] at F1
  have hc4 : l.length - 4 ≤ c0 - 4 := by omega
  clear hn n0 n1
  have hw8 : IntKind.u64.wrap (l.length - 8 : Nat) = (l.length - 8 : Nat) := by show ((l.length - 8 : Nat) : Int) % 18446744073709551616 = _; omega
  have e8 : (l.drop 8).length = l.length - 8 := List.length_drop
  obtain ⟨m, hm⟩ : ∃ m, l.length - 8 = m := ⟨_, rfl⟩
  rw [hm] at hw8 e8
  have E8 := Aside0.mk e8; clear e8
  have HM := Aside0.mk hm; clear hm
  by_cases g2 : 65536 < n
  · have t2 : decide ((65536 : Int) < n) = true := by simp; omega
    have HQ : Aside0 (readP l = ([], [], 15)) := ⟨by rw [HRP.out, if_pos g2]⟩
    clear g2
    go_enter Try.func40, Try.ntmps40
    go_wp2_with (go_at_call 81; first | ((with_reducible refine (take_rd F1.out H0.out hc0).mono ?_); rintro e w1 ⟨Ax, cx, rfl, hcx, hC, hB⟩; have HB1 := Aside0.mk hB; clear hcx hC hB) | ((with_reducible refine (take_rd' E4.out F2.out (Kd.F_below H4.out HB1.out) (by have := E4.out; omega)).mono ?_); rintro e w2 ⟨Ay, cy, rfl, hcy, hC, hB⟩; have HB2 := Aside0.mk hB; clear hcy hC hB))
    all_goals go_ret3
    rw [HQ.out]
    exact two_nil (below_step HB1.out HB2.out)
  · have t2 : decide ((65536 : Int) < n) = false := by simp; omega
    have t3 : decide (65536 < n) = false := by simpa using g2
    by_cases g3 : m < n
    · have t4 : decide ((m : Int) < n) = true := by simp; omega
      have t4' : decide (m < n) = true := by simp; omega
      have HQ : Aside0 (readP l = ([], [], 4)) := ⟨by rw [HRP.out, if_neg g2, HM.out, if_pos g3]⟩
      clear g2 g3
      go_enter Try.func40, Try.ntmps40
      go_wp2_with (go_at_call 81; first | ((with_reducible refine (take_rd F1.out H0.out hc0).mono ?_); rintro e w1 ⟨Ax, cx, rfl, hcx, hC, hB⟩; have HB1 := Aside0.mk hB; clear hcx hC hB) | ((with_reducible refine (take_rd' E4.out F2.out (Kd.F_below H4.out HB1.out) (by have := E4.out; omega)).mono ?_); rintro e w2 ⟨Ay, cy, rfl, hcy, hC, hB⟩; rw [E8.out]; have HB2 := Aside0.mk hB; clear hcy hC hB))
      all_goals go_ret3
      rw [HQ.out]
      exact two_nil (below_step HB1.out HB2.out)
    · have t4 : decide ((m : Int) < n) = false := by simp; omega
      have t4' : decide (m < n) = false := by simp; omega
      have hnm : n ≤ m := by omega
      go_enter Try.func40, Try.ntmps40
      go_wp2_with (go_at_call 81; first | ((with_reducible refine (take_rd F1.out H0.out hc0).mono ?_); rintro e w1 ⟨Ax, cx, rfl, hcx, hC, hB⟩; have HB1 := Aside0.mk hB; clear hcx hC hB) | ((with_reducible refine (take_rd' E4.out F2.out (Kd.F_below H4.out HB1.out) (by have := E4.out; omega)).mono ?_); rintro e w2 ⟨Ay, cy, rfl, hcy, hC, hB⟩; rw [E8.out] at hC hcy ⊢; have HY := Aside0.mk hC; have HCY := Aside0.mk hcy; have HB2 := Aside0.mk hB; clear hcy hC hB))
      have hyl := HY.out
      rw [← E8.out] at hyl
      have h10 := Kd.F_take hyl (m := n) (by rw [E8.out]; omega)
      have l10 : ((l.drop 8).take n).length = n := by rw [List.length_take, E8.out]; omega
      rw [l10] at h10
      have cg : ∀ W : World, (Instr.slice 51 (.slice Ay m cy) none (some (.int .u64 n)) none).run Try.prog W = .ok (.slice Ay n cy) W := cut_to 51 5 .u64 Try.underlying51 HI5.out Ay m cy n (by omega) (by omega) HCY.out
      have cg2 : ∀ W : World, (Instr.slice 51 (.slice Ay m cy) none (some (.int .u64 n)) (some (.int .u64 n))).run Try.prog W = .ok (.slice Ay n n) W := slice_to Ay m cy n (by have := HCY.out; omega)
      obtain ⟨An, cg3, h11⟩ : ∃ An, (∀ W : World, (Instr.slice 51 (.slice Ay m cy) (some (.int .u64 n)) none none).run Try.prog W = .ok (.slice An (m - n) (cy - n)) W) ∧ Kd.F (Kd.int .u8) w2 (fun k => P k ∨ w1.heap.size ≤ k) An ((l.drop 8).drop n).length ((l.drop 8).drop n) :=
        ⟨_, cut_from 51 5 .u64 Try.underlying51 HI5.out 1 HS5.out Ay m cy n (by omega) (by omega), Kd.F_cut hyl (m := n) (by rw [E8.out]; omega) (by rw [E8.out]; exact HCY.out)⟩
      have l11 : ((l.drop 8).drop n).length = m - n := by rw [List.length_drop, E8.out]
      have l4 : (l.take 4).length = 4 := by rw [List.length_take]; have := E4.out; have := HM.out; omega
      have h44 := H44.out
      rw [l4] at h44
      have hS : ReadS (fun k => P k ∨ w1.heap.size ≤ k) w A0 (l.take 4) Ay n ((l.drop 8).take n) An ((l.drop 8).drop n) w2 := ⟨⟨Kd.C_below (Kd.C_below h44 HB1.out) HB2.out⟩, ⟨h10⟩, ⟨below_step HB1.out HB2.out⟩, ⟨h11⟩⟩
      have L10 := Aside0.mk l10.symm
      have L11 := Aside0.mk l11.symm
      have L4 := Aside0.mk l4.symm
      have C4 : Aside0 (4 ≤ c0) := ⟨by omega⟩
      have CN : Aside0 (n ≤ cy) := ⟨by have := HCY.out; omega⟩
      have CN2 : Aside0 (m - n ≤ cy - n) := ⟨by have := HCY.out; omega⟩
      clear h10 h11 h44 l10 l11 l4 hyl
      obtain ⟨s, hs⟩ : ∃ s, crcM (crcM 0 (l.take 4)) ((l.drop 8).take n) = s := ⟨_, rfl⟩
      obtain ⟨q, hq⟩ : ∃ q, be4 (l.drop 4) = q := ⟨_, rfl⟩
      have HE : Aside0 (readP l = if q ≠ s then ([], [], 5) else ((l.drop 8).take n, (l.drop 8).drop n, 0)) := ⟨by rw [HRP.out, if_neg g2, HM.out, if_neg g3, hs, hq]⟩
      have HS := Aside0.mk hs
      rw [hq]
      clear hs hq g2 g3
      by_cases g4 : q = s
      · subst g4
        have HQ : Aside0 (readP l = ((l.drop 8).take n, (l.drop 8).drop n, 0)) := ⟨by rw [HE.out]; simp⟩
        have t5 : (q != q) = false := by simp
        go_region_held3 (ReadS (fun k => P k ∨ w1.heap.size ≤ k) w A0 (l.take 4) Ay n ((l.drop 8).take n) An ((l.drop 8).drop n)) (first | exact ReadS.keep (by assumption) hb | exact ReadS.keep hS (below_dN _ 1))
          (first | (go_at_call 78; refine (sum_rd' L4.out L10.out HS.out (show ReadS (fun k => P k ∨ w1.heap.size ≤ k) w A0 (l.take 4) Ay n ((l.drop 8).take n) An ((l.drop 8).drop n) _ by assumption).1.out C4.out (Kd.F_now (show ReadS (fun k => P k ∨ w1.heap.size ≤ k) w A0 (l.take 4) Ay n ((l.drop 8).take n) An ((l.drop 8).drop n) _ by assumption).2.1.out) CN.out).mono ?_; rintro e w' ⟨rfl, hb⟩))
        go_wp2
        go_quiet (fail)
        go_wp2
        go_ret3
        rw [HQ.out]
        have hF := (show ReadS (fun k => P k ∨ w1.heap.size ≤ k) w A0 (l.take 4) Ay n ((l.drop 8).take n) An ((l.drop 8).drop n) _ by assumption)
        exact two_of L10.out L11.out (Nat.le_refl _) (Kd.F_drewN hF.2.1.out _) CN2.out (Kd.F_drewN hF.2.2.2.out _) (pw_below_drewN hF.2.2.1.out _) (fun k hk => hk.imp_right (Nat.le_trans HB1.out.size))
      · have t5 : (q != s) = true := by simp [g4]
        have HQ : Aside0 (readP l = ([], [], 5)) := ⟨by rw [HE.out]; simp [g4]⟩
        go_region_held3 (ReadS (fun k => P k ∨ w1.heap.size ≤ k) w A0 (l.take 4) Ay n ((l.drop 8).take n) An ((l.drop 8).drop n)) (first | exact ReadS.keep (by assumption) hb | exact ReadS.keep hS (below_dN _ 1))
          (first | (go_at_call 78; refine (sum_rd' L4.out L10.out HS.out (show ReadS (fun k => P k ∨ w1.heap.size ≤ k) w A0 (l.take 4) Ay n ((l.drop 8).take n) An ((l.drop 8).drop n) _ by assumption).1.out C4.out (Kd.F_now (show ReadS (fun k => P k ∨ w1.heap.size ≤ k) w A0 (l.take 4) Ay n ((l.drop 8).take n) An ((l.drop 8).drop n) _ by assumption).2.1.out) CN.out).mono ?_; rintro e w' ⟨rfl, hb⟩))
        go_wp2
        go_ret3
        rw [HQ.out]
        exact two_nil (show ReadS (fun k => P k ∨ w1.heap.size ≤ k) w A0 (l.take 4) Ay n ((l.drop 8).take n) An ((l.drop 8).drop n) _ by assumption).2.2.1.out
theorem read_rd (A0 : Option Addr) (c0 : Nat) (l : List Int) (w : World) (h0 : Kd.C (Kd.int .u8) w A0 l.length l) (hc0 : l.length ≤ c0) (hb : isB l) :
    Calls Try.prog 40 #[.slice A0 l.length c0] w (RdTwo (fun k => k < w.heap.size) (readP l) w) := read_F _ A0 c0 l w (Kd.C_F (Kd.heap_int _) h0) hc0 hb
end Go.Proofs.Ytajgillnkkkgjaa.P
end
section
-- printed by the session's own call of print.py. Not trusted: Lean checks it.
namespace Go.Proofs.Ytajgillnkkkgjaa.P
open Go.RowKit Go.Proofs.YtajgillnkkkgjaaW.PrintWords Go.Proofs.YtajgillnkkkgjaaW.PrintLast Go.Proofs.YtajgillnkkkgjaaW.PrintMore
attribute [local go_sem] max2_int min2_int max_two min_two max_three min_three max_four min_four
set_option linter.unusedVariables false
set_option linter.unusedSimpArgs false
/-! ### tallymanref09_turn: function 119 -/
def tallymanref09_turn.f (a0 : Int) : Option (Int) := some ((4294967295 - a0) % 4294967296)
end Go.Proofs.Ytajgillnkkkgjaa.P
end
section
-- printed by the session's own call of print.py. Not trusted: Lean checks it.
namespace Go.Proofs.Ytajgillnkkkgjaa.P
open Go.RowKit Go.Proofs.YtajgillnkkkgjaaW.PrintWords Go.Proofs.YtajgillnkkkgjaaW.PrintLast Go.Proofs.YtajgillnkkkgjaaW.PrintMore
attribute [local go_sem] max2_int min2_int max_two min_two max_three min_three max_four min_four
set_option linter.unusedVariables false
set_option linter.unusedSimpArgs false
/-! ### tallymanref09_either: function 120 -/
def tallymanref09_either.l0 : Nat → Int → Int → Int → Int → Int → Option (Int)
  | 0, _, _, _, _, _ => none
  | k + 1, x0, x1, x5, x6, x7 => if x7 < 32 then (if (Int.tmod x0 2) = (Int.tmod x1 2) then (tallymanref09_either.l0 k ((Int.tdiv x0 2) % 4294967296) ((Int.tdiv x1 2) % 4294967296) x5 ((x6 * 2) % 4294967296) (wrap64 (x7 + 1))) else (tallymanref09_either.l0 k ((Int.tdiv x0 2) % 4294967296) ((Int.tdiv x1 2) % 4294967296) ((x5 + x6) % 4294967296) ((x6 * 2) % 4294967296) (wrap64 (x7 + 1)))) else (some x5)
def tallymanref09_either.f (k : Nat) (a0 : Int) (a1 : Int) : Option (Int) := tallymanref09_either.l0 k a0 a1 0 1 0
theorem tallymanref09_either.mono_l : ∀ k, (∀ y0 y1 y2 y3 y4, LeO (tallymanref09_either.l0 k y0 y1 y2 y3 y4) (tallymanref09_either.l0 (k + 1) y0 y1 y2 y3 y4))
  | 0 => fun _ _ _ _ _ r h => by simp [tallymanref09_either.l0] at h
  | k + 1 => by
    have ih0 := tallymanref09_either.mono_l k
    · intro y0 y1 y2 y3 y4
      unfold tallymanref09_either.l0
      repeat' first
      | (with_reducible exact ih0 _ _ _ _ _)
      | (with_reducible exact LeO.refl _)
      | (with_reducible exact LeO.none _)
      | (with_reducible refine LeO.ite ?_ ?_)
      | (with_reducible refine LeO.bind ?_ (fun _ => ?_))
      | exact ih0 _ _ _ _ _
      | exact LeO.none _
      | refine LeO.ite ?_ ?_
      | refine LeO.bind ?_ (fun _ => ?_)
theorem tallymanref09_either.mono : ∀ a0 a1 k, LeO (tallymanref09_either.f k a0 a1) (tallymanref09_either.f (k + 1) a0 a1) := by
  intro a0 a1 k
  have ih0 := tallymanref09_either.mono_l k
  unfold tallymanref09_either.f
  repeat' first
      | (with_reducible exact ih0 _ _ _ _ _)
      | (with_reducible exact LeO.refl _)
      | (with_reducible exact LeO.none _)
      | (with_reducible refine LeO.ite ?_ ?_)
      | (with_reducible refine LeO.bind ?_ (fun _ => ?_))
      | exact ih0 _ _ _ _ _
      | exact LeO.none _
      | refine LeO.ite ?_ ?_
      | refine LeO.bind ?_ (fun _ => ?_)
end Go.Proofs.Ytajgillnkkkgjaa.P
end
section
-- printed by the session's own call of print.py. Not trusted: Lean checks it.
namespace Go.Proofs.Ytajgillnkkkgjaa.P
open Go.RowKit Go.Proofs.YtajgillnkkkgjaaW.PrintWords Go.Proofs.YtajgillnkkkgjaaW.PrintLast Go.Proofs.YtajgillnkkkgjaaW.PrintMore
attribute [local go_sem] max2_int min2_int max_two min_two max_three min_three max_four min_four
set_option linter.unusedVariables false
set_option linter.unusedSimpArgs false
/-! ### tallymanref09_More: function 111 -/
mutual
def tallymanref09_More.l0 : Nat → List Int → Int → Int → Option (Int)
  | 0, _, _, _ => none
  | k + 1, x1, x5, x6 => if x6 < (x1.length : Int) then (if 0 ≤ x6 then ((tallymanref09_either.f k x5 ((rd x1 x6) % 4294967296)).bind fun t104 => (tallymanref09_More.l1 k x1 t104 x6 0)) else (none)) else ((tallymanref09_turn.f x5).bind fun t102 => (some t102))
def tallymanref09_More.l1 : Nat → List Int → Int → Int → Int → Option (Int)
  | 0, _, _, _, _ => none
  | k + 1, x1, x5, x6, x7 => if x7 < 8 then (if (Int.tmod x5 2) = 1 then ((tallymanref09_either.f k ((Int.tdiv x5 2) % 4294967296) 3988292384).bind fun t105 => (tallymanref09_More.l1 k x1 t105 x6 (wrap64 (x7 + 1)))) else (tallymanref09_More.l1 k x1 ((Int.tdiv x5 2) % 4294967296) x6 (wrap64 (x7 + 1)))) else (tallymanref09_More.l0 k x1 x5 (wrap64 (x6 + 1)))
end
def tallymanref09_More.f (k : Nat) (a0 : Int) (l1 : List Int) : Option (Int) := (tallymanref09_turn.f a0).bind fun t101 => (tallymanref09_More.l0 k l1 t101 0)
theorem tallymanref09_More.mono_l : ∀ k, (∀ y0 y1 y2, LeO (tallymanref09_More.l0 k y0 y1 y2) (tallymanref09_More.l0 (k + 1) y0 y1 y2)) ∧ (∀ y0 y1 y2 y3, LeO (tallymanref09_More.l1 k y0 y1 y2 y3) (tallymanref09_More.l1 (k + 1) y0 y1 y2 y3))
  | 0 => ⟨fun _ _ _ r h => by simp [tallymanref09_More.l0] at h, fun _ _ _ _ r h => by simp [tallymanref09_More.l1] at h⟩
  | k + 1 => by
    obtain ⟨ih0, ih1⟩ := tallymanref09_More.mono_l k
    refine ⟨?_, ?_⟩
    · intro y0 y1 y2
      unfold tallymanref09_More.l0
      repeat' first
      | (with_reducible exact ih0 _ _ _)
      | (with_reducible exact ih1 _ _ _ _)
      | (with_reducible exact tallymanref09_either.mono _ _ _)
      | (with_reducible exact LeO.refl _)
      | (with_reducible exact LeO.none _)
      | (with_reducible refine LeO.ite ?_ ?_)
      | (with_reducible refine LeO.bind ?_ (fun _ => ?_))
      | exact ih0 _ _ _
      | exact ih1 _ _ _ _
      | exact tallymanref09_either.mono _ _ _
      | exact LeO.none _
      | refine LeO.ite ?_ ?_
      | refine LeO.bind ?_ (fun _ => ?_)
    · intro y0 y1 y2 y3
      unfold tallymanref09_More.l1
      repeat' first
      | (with_reducible exact ih0 _ _ _)
      | (with_reducible exact ih1 _ _ _ _)
      | (with_reducible exact tallymanref09_either.mono _ _ _)
      | (with_reducible exact LeO.refl _)
      | (with_reducible exact LeO.none _)
      | (with_reducible refine LeO.ite ?_ ?_)
      | (with_reducible refine LeO.bind ?_ (fun _ => ?_))
      | exact ih0 _ _ _
      | exact ih1 _ _ _ _
      | exact tallymanref09_either.mono _ _ _
      | exact LeO.none _
      | refine LeO.ite ?_ ?_
      | refine LeO.bind ?_ (fun _ => ?_)
theorem tallymanref09_More.mono : ∀ a0 a1 k, LeO (tallymanref09_More.f k a0 a1) (tallymanref09_More.f (k + 1) a0 a1) := by
  intro a0 a1 k
  obtain ⟨ih0, ih1⟩ := tallymanref09_More.mono_l k
  unfold tallymanref09_More.f
  repeat' first
      | (with_reducible exact ih0 _ _ _)
      | (with_reducible exact ih1 _ _ _ _)
      | (with_reducible exact tallymanref09_either.mono _ _ _)
      | (with_reducible exact LeO.refl _)
      | (with_reducible exact LeO.none _)
      | (with_reducible refine LeO.ite ?_ ?_)
      | (with_reducible refine LeO.bind ?_ (fun _ => ?_))
      | exact ih0 _ _ _
      | exact ih1 _ _ _ _
      | exact tallymanref09_either.mono _ _ _
      | exact LeO.none _
      | refine LeO.ite ?_ ?_
      | refine LeO.bind ?_ (fun _ => ?_)
end Go.Proofs.Ytajgillnkkkgjaa.P
end
section
-- printed by the session's own call of print.py. Not trusted: Lean checks it.
namespace Go.Proofs.Ytajgillnkkkgjaa.P
open Go.RowKit Go.Proofs.YtajgillnkkkgjaaW.PrintWords Go.Proofs.YtajgillnkkkgjaaW.PrintLast Go.Proofs.YtajgillnkkkgjaaW.PrintMore
attribute [local go_sem] max2_int min2_int max_two min_two max_three min_three max_four min_four
set_option linter.unusedVariables false
set_option linter.unusedSimpArgs false
/-! ### tallymanref09_Sum: function 80 -/
def tallymanref09_Sum.f (k : Nat) (l0 : List Int) : Option (Int) := (tallymanref09_More.f k 0 l0).bind fun t101 => (some t101)
theorem tallymanref09_Sum.mono : ∀ a0 k, LeO (tallymanref09_Sum.f k a0) (tallymanref09_Sum.f (k + 1) a0) := by
  intro a0 k
  unfold tallymanref09_Sum.f
  repeat' first
      | (with_reducible exact tallymanref09_More.mono _ _ _)
      | (with_reducible exact LeO.refl _)
      | (with_reducible exact LeO.none _)
      | (with_reducible refine LeO.ite ?_ ?_)
      | (with_reducible refine LeO.bind ?_ (fun _ => ?_))
      | exact tallymanref09_More.mono _ _ _
      | exact LeO.none _
      | refine LeO.ite ?_ ?_
      | refine LeO.bind ?_ (fun _ => ?_)
end Go.Proofs.Ytajgillnkkkgjaa.P
end
section
/- Plain lemmas on crc: what Sum, More and their references come to. -/
namespace Go.Proofs.Ytajgillnkkkgjaa.Pure
open Go.RowKit Go.Proofs.Ytajgillnkkkgjaa.P Go.Proofs.YtajgillnkkkgjaaW.PrintWords Go.Proofs.YtajgillnkkkgjaaW.PrintLast Go.Proofs.Ytajgillnkkkgjaa.B
end Go.Proofs.Ytajgillnkkkgjaa.Pure
end
section
/- The document's Read, and its Rows of equal rows. -/
namespace Go.Proofs.Ytajgillnkkkgjaa.P
open Go.RowKit Go.Proofs.YtajgillnkkkgjaaW.PrintWords Go.Proofs.YtajgillnkkkgjaaW.PrintLast Go.Proofs.YtajgillnkkkgjaaW.PrintMore Go.Proofs.Ytajgillnkkkgjaa.H Go.Proofs.Ytajgillnkkkgjaa.Pure
set_option linter.unusedVariables false
set_option linter.unusedSimpArgs false
def okB (l : List Int) : Bool := l.all (fun x => decide (0 ≤ x) && decide (x ≤ 255)) && decide (l.length ≤ 1000000)
def tallymanref10_Read.f (k : Nat) (l0 : List Int) : Option (List Int × List Int × Int) := if okB l0 then some (readP l0) else none
theorem tallymanref10_Read.mono : ∀ a0 k, LeO (tallymanref10_Read.f k a0) (tallymanref10_Read.f (k + 1) a0) := fun _ _ => LeO.refl _
end Go.Proofs.Ytajgillnkkkgjaa.P
end
section
/- All records at the front of bytes: frame.All. -/
namespace Go.Proofs.Ytajgillnkkkgjaa.P
open Go.RowKit Go.Proofs.YtajgillnkkkgjaaW.PrintWords Go.Proofs.YtajgillnkkkgjaaW.PrintLast Go.Proofs.YtajgillnkkkgjaaW.PrintMore Go.Proofs.Ytajgillnkkkgjaa.H Go.Proofs.Ytajgillnkkkgjaa.Pure
set_option linter.unusedVariables false
set_option linter.unusedSimpArgs false
/-- All records, k at most, and how many bytes they have. -/
def allP : Nat → List Int → List (List Int) × Nat
  | 0, _ => ([], 0)
  | k + 1, l => if (readP l).2.2 = 0 then ((readP l).1 :: (allP k (readP l).2.1).1, 8 + (readP l).1.length + (allP k (readP l).2.1).2) else ([], 0)
theorem readP_ok {l : List Int} (hb : isB l) (h : (readP l).2.2 = 0) : 8 + (readP l).1.length + (readP l).2.1.length = l.length ∧ isB (readP l).1 ∧ isB (readP l).2.1 := by
  unfold readP at h ⊢
  by_cases h1 : l.length < 8
  · rw [if_pos h1] at h; simp at h
  rw [if_neg h1] at h ⊢
  by_cases h2 : 65536 < be4 l
  · rw [if_pos h2] at h; simp at h
  rw [if_neg h2] at h ⊢
  by_cases h3 : (l.length : Int) - 8 < be4 l
  · rw [if_pos h3] at h; simp at h
  rw [if_neg h3] at h ⊢
  by_cases h4 : be4 (l.drop 4) ≠ crcM (crcM 0 (l.take 4)) ((l.drop 8).take (be4 l).toNat)
  · rw [if_pos h4] at h; simp at h
  rw [if_neg h4]
  obtain ⟨n0, n1⟩ := be4_range hb
  refine ⟨?_, isB_take (isB_drop hb 8) _, isB_drop (isB_drop hb 8) _⟩
  simp only [List.length_take, List.length_drop]
  omega
theorem allP_mono : ∀ (k : Nat) (l : List Int), isB l → l.length ≤ k → ∀ m, allP (k + m) l = allP k l := by
  intro k
  induction k with
  | zero =>
    intro l hb hl m
    cases m with
    | zero => rfl
    | succ m =>
      rw [show 0 + (m + 1) = m + 1 by omega]
      have : ¬ (readP l).2.2 = 0 := by unfold readP; rw [if_pos (by omega)]; decide
      show (if (readP l).2.2 = 0 then _ else _) = _
      rw [if_neg this]; rfl
  | succ k ih =>
    intro l hb hl m
    rw [show k + 1 + m = (k + m) + 1 by omega, allP, allP]
    by_cases h : (readP l).2.2 = 0
    · rw [if_pos h, if_pos h]
      obtain ⟨h1, h2, h3⟩ := readP_ok hb h
      rw [ih _ h3 (by omega)]
    · rw [if_neg h, if_neg h]
abbrev Hdr := Option Addr × Nat × Nat
def hdrV (x : Hdr) : Value := .slice x.1 x.2.1 x.2.2
/-- A row of headers, each of which reads as a row, in blocks of ok. -/
def ReadsAll (ok : Nat → Prop) (w : World) (hs : List Hdr) (ls : List (List Int)) : Prop := hs.length = ls.length ∧ ∀ (j : Nat) (h : Hdr) (l : List Int), hs[j]? = some h → ls[j]? = some l → h.2.1 = l.length ∧ l.length ≤ h.2.2 ∧ Kd.F (Kd.int .u8) w ok h.1 l.length l
theorem ReadsAll.map {ok ok' : Nat → Prop} {w w' : World} {hs : List Hdr} {ls : List (List Int)} (h : ReadsAll ok w hs ls) (hF : ∀ A n l, Kd.F (Kd.int .u8) w ok A n l → Kd.F (Kd.int .u8) w' ok' A n l) : ReadsAll ok' w' hs ls :=
  ⟨h.1, fun j x l h1 h2 => ⟨(h.2 j x l h1 h2).1, (h.2 j x l h1 h2).2.1, hF _ _ _ (h.2 j x l h1 h2).2.2⟩⟩
theorem ReadsAll.below {ok : Nat → Prop} {w w' : World} {hs : List Hdr} {ls : List (List Int)} (h : ReadsAll ok w hs ls) (hb : Below w.heap.size w w') : ReadsAll ok w' hs ls := h.map (fun _ _ _ hf => Kd.F_below hf hb)
theorem ReadsAll.snoc {ok : Nat → Prop} {w : World} {hs : List Hdr} {ls : List (List Int)} (h : ReadsAll ok w hs ls) {A : Option Addr} {c : Nat} {l : List Int} (hc : l.length ≤ c) (hC : Kd.F (Kd.int .u8) w ok A l.length l) : ReadsAll ok w (hs ++ [(A, l.length, c)]) (ls ++ [l]) := by
  refine ⟨by simp [h.1], fun j x y h1 h2 => ?_⟩
  by_cases hj : j < hs.length
  · rw [List.getElem?_append_left hj] at h1
    rw [List.getElem?_append_left (by rw [← h.1]; exact hj)] at h2
    exact h.2 j x y h1 h2
  · have hj2 : j < (hs ++ [(A, l.length, c)]).length := (List.getElem?_eq_some_iff.1 h1).1
    rw [List.length_append] at hj2
    simp only [List.length_singleton] at hj2
    obtain rfl : j = hs.length := by omega
    rw [List.getElem?_append_right (Nat.le_refl _), Nat.sub_self] at h1
    rw [h.1, List.getElem?_append_right (Nat.le_refl _), Nat.sub_self] at h2
    simp only [List.getElem?_cons_zero, Option.some.injEq] at h1 h2
    subst h1 h2
    exact ⟨rfl, hc, hC⟩
theorem hdr_one (x : Hdr) : (hdrV x).oneCell' = true := rfl
theorem C_of_hdrs {w : World} {A : Option Addr} {n : Nat} {hs : List Hdr} {ls : List (List Int)} {ok : Nat → Prop} (h : (Kd.scalar hdrV hdr_one).C w A n hs) (hr : ReadsAll ok w hs ls) : (Kd.slice 5 (Kd.int .u8)).C w A n ls := by
  refine ⟨by rw [← hr.1]; exact h.1, h.2.1, fun hn => ?_⟩
  obtain ⟨ad, rfl, hc⟩ := h.2.2 hn
  refine ⟨ad, rfl, fun j l hj => ?_⟩
  have hj2 : j < ls.length := (List.getElem?_eq_some_iff.1 hj).1
  have hh : hs[j]? = some (hs[j]'(by rw [hr.1]; exact hj2)) := List.getElem?_eq_getElem _
  obtain ⟨cs, h1, h2, h3⟩ := hc j _ hh
  obtain ⟨r1, r2, r3⟩ := hr.2 j _ l hh hj
  refine ⟨cs, h1, ⟨_, _, ?_, r2, Kd.F_now r3⟩, h3⟩
  have h2 : cs = [hdrV _] := h2
  rw [h2, hdrV, r1]
def RowsPost (ls : List (List Int)) (n : Nat) (w : World) (e : Ending) (w' : World) : Prop := ∃ A c, e = .returned (.tuple #[.slice A ls.length c, .int .i64 n]) ∧ ls.length ≤ c ∧ (Kd.slice 5 (Kd.int .u8)).C w' A ls.length ls ∧ Below w.heap.size w w'
abbrev offV (v : Value) (k : Nat) : Prop := True ∧ some k ≠ v.ownBlock
theorem off_new {w : World} {b : Nat} {v : Value} {hs : List Hdr} (h : (Kd.scalar hdrV hdr_one).R 51 w b (fun _ => True) v hs) (k : Nat) (hk : offV v k ∨ w.heap.size ≤ k) : offV v k := by
  rcases hk with hk | hk
  · exact hk
  · refine ⟨trivial, fun e => ?_⟩
    have := Kd.R_lt h k e.symm
    omega
def AllI (w : World) (l : List Int) (full : List (List Int) × Nat) (v4 : Value) (left : List Int) (A : Option Addr) (c : Nat) (wr : World) : Prop :=
  ∃ (hs : List Hdr) (ls : List (List Int)), isB left ∧ left.length ≤ c ∧ Kd.F (Kd.int .u8) wr (offV v4) A left.length left ∧ (Kd.scalar hdrV hdr_one).R 51 wr w.heap.size (fun _ => True) v4 hs ∧ ReadsAll (offV v4) wr hs ls ∧
    ls ++ (allP left.length left).1 = full.1 ∧ l.length - left.length + (allP left.length left).2 = full.2 ∧ left.length ≤ l.length ∧ 8 * ls.length + left.length ≤ l.length ∧ Below w.heap.size w wr
set_option maxHeartbeats 2000000 in
set_option maxRecDepth 100000 in
theorem all_rd (A0 : Option Addr) (c0 : Nat) (l : List Int) (w : World) (h0 : Kd.C (Kd.int .u8) w A0 l.length l) (hc0 : l.length ≤ c0) (hb : isB l) (hl : l.length ≤ 1000000) :
    Calls Try.prog 42 #[.slice A0 l.length c0] w (RowsPost (allP l.length l).1 (allP l.length l).2 w) := by
  have HI0 : Aside0 (AllI w l (allP l.length l) (.slice none 0 0) l A0 c0 w) := ⟨[], [], hb, hc0, Kd.F_mono (Kd.F_apart_nil (Kd.C_F (Kd.heap_int _) h0)) (fun k hk => ⟨trivial, hk.2⟩), Kd.R_nil _ _ _ _ _, ⟨rfl, fun j x y h1 => by simp at h1⟩, rfl, by omega, by omega, by simp, Below.refl _ _⟩
  clear h0 hb
  go_enter Try.func42, Try.ntmps42
  go_wp2
  refine wp_scope_enter 0 rfl ?_
  go_wp2
  go_step3
  simp only [Exit.then]
  rename_i hk
  refine hk _ _ ?_
  clear hk
  refine wp_label_slots 0 (by rfl) ([2, 3, 4, 5, 6, 7, 8, 9, 10, 11, 12, 13, 14, 15, 16, 17, 18, 19, 20, 21, 22, 23, 24, 25, 26, 27, 28] : List Nat) (fun n us wr => ∃ (left : List Int) (A : Option Addr) (c : Nat), Aside0 (n = left.length) ∧ us.getD 3 undef = .slice A left.length c ∧ Aside0 (AllI w l (allP l.length l) (us.getD 2 undef) left A c wr)) (l.length) ?_ ?_
  · refine ⟨l, A0, c0, ⟨rfl⟩, rfl, HI0⟩
  · rintro n us wr hln ⟨left, A, c, HN, h5, HU⟩ J K hJ hK
    simp only [List.length_cons, List.length_nil] at hln
    match us, hln with
    | u2 :: u3 :: u4 :: u5 :: u6 :: u7 :: u8 :: u9 :: u10 :: u11 :: u12 :: u13 :: u14 :: u15 :: u16 :: u17 :: u18 :: u19 :: u20 :: u21 :: u22 :: u23 :: u24 :: u25 :: u26 :: u27 :: u28 :: [], _ =>
    rename_i hx; clear hx
    simp only [List.getD_cons_succ, List.getD_cons_zero] at h5
    subst h5
    simp only [putS, Act.put, List.setIfInBounds_toArray, List.set_cons_zero, List.set_cons_succ]
    simp only [List.getD_cons_succ, List.getD_cons_zero] at HU
    have hJ2 := fun (k : Nat) (v2 v3 v4 v5 v6 v7 v8 v9 v10 v11 v12 v13 v14 v15 v16 v17 v18 v19 v20 v21 v22 v23 v24 v25 v26 v27 v28 : Value) (w' : World) => hJ k (v2 :: v3 :: v4 :: v5 :: v6 :: v7 :: v8 :: v9 :: v10 :: v11 :: v12 :: v13 :: v14 :: v15 :: v16 :: v17 :: v18 :: v19 :: v20 :: v21 :: v22 :: v23 :: v24 :: v25 :: v26 :: v27 :: v28 :: []) _ w' rfl rfl
    clear hJ
    simp only [putS, Act.put, List.setIfInBounds_toArray, List.set_cons_zero, List.set_cons_succ] at hJ2
    have HJ := Aside0.mk hJ2; clear hJ2
    have HK := Aside0.mk hK; clear hK
    obtain ⟨hs, ls, hbl, hlc, hC, hR, hA, hf1, hf2, hle, h8, hB⟩ := HU.out
    clear HU
    obtain ⟨A4, c4, rfl, hc4, hC4⟩ := Kd.R_reads hR
    have HRd := Aside0.mk (read_F _ A c left wr hC hlc hbl)
    obtain ⟨x1, x2, y, hx⟩ : ∃ x1 x2 y, readP left = (x1, x2, y) := ⟨_, _, _, rfl⟩
    rw [hx] at HRd
    have HX := Aside0.mk hx; have HF1 := Aside0.mk hf1; have HF2 := Aside0.mk hf2; have HBL := Aside0.mk hbl
    have HR := Aside0.mk hR; have HA := Aside0.mk hA; have HB := Aside0.mk hB; have HC4 := Aside0.mk hC4; have HCC4 := Aside0.mk hc4
    clear hx hf1 hf2 hC hbl hR hA hB hlc hC4 hc4
    by_cases hy : y = 0
    · subst hy
      have t1 : ((0 : Int) != 0) = false := by simp
      obtain ⟨q1, q2, q3⟩ := readP_ok HBL.out (by rw [HX.out])
      rw [HX.out] at q1 q2 q3
      simp only at q1 q2 q3
      have Q1 := Aside0.mk q1; have Q3 := Aside0.mk q3
      have hk : allP left.length left = (x1 :: (allP x2.length x2).1, 8 + x1.length + (allP x2.length x2).2) := by
        obtain ⟨k, hk⟩ : ∃ k, left.length = k + 1 := ⟨left.length - 1, by omega⟩
        have hm := allP_mono x2.length x2 q3 (Nat.le_refl _) (k - x2.length)
        rw [show x2.length + (k - x2.length) = k by omega] at hm
        rw [hk, allP, HX.out, if_pos rfl]
        simp only
        rw [hm]
      have G1 : Aside0 ((ls ++ [x1]) ++ (allP x2.length x2).1 = (allP l.length l).1) := ⟨by rw [← HF1.out, hk, List.append_assoc]; rfl⟩
      have G2 : Aside0 (l.length - x2.length + (allP x2.length x2).2 = (allP l.length l).2) := ⟨by rw [← HF2.out, hk]; simp only; omega⟩
      have G3 : Aside0 (x2.length ≤ l.length) := ⟨by omega⟩
      have G4 : Aside0 (8 * (ls ++ [x1]).length + x2.length ≤ l.length) := ⟨by rw [List.length_append]; simp; omega⟩
      clear hk
      have HL : Aside0 ((hs.length + 1) * 24 ≤ 140737488355328) := ⟨by have := HA.out.1; omega⟩
      clear q1 q2 q3
      go_wp2_with (first | (go_at_call 40; (with_reducible refine HRd.out.mono ?_); rintro e w1 ⟨B, d, E, f, rfl, hcB, hCB, hcE, hCE, hB1⟩; have HCB := Aside0.mk (Kd.F_mono hCB (off_new HR.out)); have HcB := Aside0.mk hcB; have HCE := Aside0.mk (Kd.F_mono hCE (off_new HR.out)); have HcE := Aside0.mk hcE; have HR1 := Aside0.mk (Kd.R_below HR.out hB1); have HB1 := Aside0.mk (below_step HB.out hB1); have HA1 := Aside0.mk (HA.out.below hB1); clear hcB hCB hcE hCE hB1) | (at_builtin; refine Kd.R_append (Kd.scalar hdrV hdr_one) (w0 := w) w.heap.size rfl (.tmp 24) (.tmp 26) 73 51 (.slice none 0 0) 24 rfl Try.underlying73 info51 rfl (by decide) (by omega) _ hs (B, x1.length, d) [hdrV (B, x1.length, d)] (fun _ => True) (fun _ => False) rfl rfl rfl (fun _ h => h.elim) (fun _ _ => trivial) HR1.out HB1.out HB1.out.size HL.out ?_; intro v2 w2 hR2 hB2 hg2 hat2; have HB2 := Aside0.mk hB2; have HR2 := Aside0.mk hR2; have HA2 := Aside0.mk ((HA1.out.snoc HcB.out HCB.out).map (fun _ _ _ hf => Kd.F_after hf hg2 hat2)); have HCE2 := Aside0.mk (Kd.F_after HCE.out hg2 hat2); clear hR2 hB2 hg2 hat2))
      go_step3
      refine ⟨rfl, HK.out _ _ (Handed.intro (x2.length) ?_ (HJ.out _ _ _ _ _ _ _ _ _ _ _ _ _ _ _ _ _ _ _ _ _ _ _ _ _ _ _ _ _ ⟨x2, E, f, ⟨rfl⟩, rfl, ⟨hs ++ [(B, x1.length, d)], ls ++ [x1], Q3.out, HcE.out, HCE2.out, HR2.out, HA2.out, G1.out, G2.out, G3.out, G4.out, HB2.out⟩⟩))⟩
      have := HN.out
      have := Q1.out
      omega
    · have t1 : (y != 0) = true := by simp [hy]
      have hz : allP left.length left = ([], 0) := by
        cases hk : left.length with
        | zero => rfl
        | succ k => rw [allP, HX.out, if_neg hy]
      rw [hz] at HF1 HF2
      go_wp2_with (go_at_call 40; (with_reducible refine HRd.out.mono ?_); rintro e w1 ⟨B, d, E, f, rfl, hcB, hCB, hcE, hCE, hB1⟩; have HB1 := Aside0.mk hB1; clear hcB hCB hcE hCE hB1)
      go_ret2
      have e1 := HF1.out
      have e2 := HF2.out
      simp only [List.append_nil, Nat.add_zero] at e1 e2
      have := C_of_hdrs (Kd.C_below HC4.out HB1.out) (HA.out.below HB1.out)
      have e3 := HA.out.1
      rw [e1] at this e3
      rw [e3] at this
      have hcc := HCC4.out
      rw [e3] at hcc
      refine ⟨A4, c4, ?_, hcc, this, below_step HB.out HB1.out⟩
      rw [← e3, ← e2, show ((l.length - left.length : Nat) : Int) = (l.length : Int) - left.length by omega]
      rfl
end Go.Proofs.Ytajgillnkkkgjaa.P
end
section
-- printed by the session's own call of print.py. Not trusted: Lean checks it.
namespace Go.Proofs.Ytajgillnkkkgjaa.P
open Go.RowKit Go.Proofs.YtajgillnkkkgjaaW.PrintWords Go.Proofs.YtajgillnkkkgjaaW.PrintLast Go.Proofs.YtajgillnkkkgjaaW.PrintMore
attribute [local go_sem] max2_int min2_int max_two min_two max_three min_three max_four min_four
set_option linter.unusedVariables false
set_option linter.unusedSimpArgs false
/-! ### tallymanref10_Size: function 39 -/
end Go.Proofs.Ytajgillnkkkgjaa.P
end
section
/- All records, by the document's All. -/
namespace Go.Proofs.Ytajgillnkkkgjaa.P
open Go.RowKit Go.Proofs.YtajgillnkkkgjaaW.PrintWords Go.Proofs.YtajgillnkkkgjaaW.PrintLast Go.Proofs.YtajgillnkkkgjaaW.PrintMore Go.Proofs.Ytajgillnkkkgjaa.H Go.Proofs.Ytajgillnkkkgjaa.Pure
set_option linter.unusedVariables false
set_option linter.unusedSimpArgs false
theorem F_of_R {w : World} {b : Nat} {ok : Nat → Prop} {v : Value} {xs : List Int} (h : Kd.R (Kd.int .u8) 5 w b ok v xs) : ∃ A c, v = .slice A xs.length c ∧ xs.length ≤ c ∧ Kd.F (Kd.int .u8) w (fun k => False ∨ b ≤ k) A xs.length xs := by
  have hV := Kd.R_V (base' := b) (Kd.R_bound h)
  obtain ⟨A, c, rfl⟩ := Kd.V_slice hV
  exact ⟨A, c, rfl, (Kd.V_at hV).2.1, Kd.F_mono (Kd.V_at hV).2.2 (fun k hk => .inr hk.2.1)⟩
end Go.Proofs.Ytajgillnkkkgjaa.P
end
section
-- printed by the session's own call of print.py. Not trusted: Lean checks it.
namespace Go.Proofs.Ytajgillnkkkgjaa.P
open Go.RowKit Go.Proofs.YtajgillnkkkgjaaW.PrintWords Go.Proofs.YtajgillnkkkgjaaW.PrintLast Go.Proofs.YtajgillnkkkgjaaW.PrintMore
attribute [local go_sem] max2_int min2_int max_two min_two max_three min_three max_four min_four
set_option linter.unusedVariables false
set_option linter.unusedSimpArgs false
/-! ### frame_Size: function 38 -/
def frame_Size.f (a0 : Int) : Option (Int) := if a0 < 0 then (some 0) else (if a0 > 65536 then (some 0) else (some (wrap64 (8 + a0))))
set_option maxHeartbeats 8000000 in
set_option maxRecDepth 100000 in
theorem frame_Size.calls (a0 : Int) (r : Int) (w : World) (h : frame_Size.f a0 = some r) :
    Calls Try.prog 38 #[.int .i64 a0] w fun e w' => e = .returned (.int .i64 r) ∧ Drawn0 w w' := by
  have H : (if a0 < 0 then (some 0) else (if a0 > 65536 then (some 0) else (some (wrap64 (8 + a0))))) = some r := h
  clear h
  by_cases c2 : a0 < 0
  · rw [if_pos c2] at H
    have c2b0 : decide (a0 < 0) = true := decide_eq_true c2
    clear c2
    obtain rfl := Option.some.inj H
    go_enter Try.func38, Try.ntmps38
    go_wp2
    go_ret
    exact ⟨by first | rfl | ((repeat first | rw [Int.tdiv_eq_ediv_of_nonneg (by omega)] | rw [Int.tmod_eq_emod_of_nonneg (by omega)]); rfl) | (simp; done) | (simp [*]; done), by repeat (first | exact Drawn0.refl _ | apply Drawn0.step)⟩
  · rw [if_neg c2] at H
    have c2b0 : decide (a0 < 0) = false := decide_eq_false c2
    clear c2
    by_cases c3 : a0 > 65536
    · rw [if_pos c3] at H
      have c3b0 : decide (65536 < a0) = true := decide_eq_true c3
      clear c3
      obtain rfl := Option.some.inj H
      go_enter Try.func38, Try.ntmps38
      go_wp2
      go_ret
      exact ⟨by first | rfl | ((repeat first | rw [Int.tdiv_eq_ediv_of_nonneg (by omega)] | rw [Int.tmod_eq_emod_of_nonneg (by omega)]); rfl) | (simp; done) | (simp [*]; done), by repeat (first | exact Drawn0.refl _ | apply Drawn0.step)⟩
    · rw [if_neg c3] at H
      have c3b0 : decide (65536 < a0) = false := decide_eq_false c3
      clear c3
      obtain rfl := Option.some.inj H
      go_enter Try.func38, Try.ntmps38
      go_wp2
      go_ret
      exact ⟨by first | rfl | ((repeat first | rw [Int.tdiv_eq_ediv_of_nonneg (by omega)] | rw [Int.tmod_eq_emod_of_nonneg (by omega)]); rfl) | (simp; done) | (simp [*]; done), by repeat (first | exact Drawn0.refl _ | apply Drawn0.step)⟩
end Go.Proofs.Ytajgillnkkkgjaa.P
end
section
/- The document's Rows, of rows that are the same. -/
namespace Go.Proofs.Ytajgillnkkkgjaa.P
open Go.RowKit Go.Proofs.YtajgillnkkkgjaaW.PrintWords Go.Proofs.YtajgillnkkkgjaaW.PrintLast Go.Proofs.YtajgillnkkkgjaaW.PrintMore
set_option linter.unusedVariables false
set_option linter.unusedSimpArgs false
def tallymanref10_Rows.f (l0 l1 : List (List Int)) : Option Bool := if l0 = l1 then some true else none
abbrev RowsS (w0 : World) (A B : Addr) (i : Nat) (a b : Option Addr) (m c d : Nat) (s : ByteArray) (w' : World) : Prop :=
  Aside0 (Drawn0 w0 w') ∧ w'.cell? (A.add i) = some (.slice a m c) ∧ w'.cell? (B.add i) = some (.slice b m d) ∧ (convert 51 9 (.slice a m c)).run Try.prog w' = Result.ok (Value.string s) w' ∧ (convert 51 9 (.slice b m d)).run Try.prog w' = Result.ok (Value.string s) w'
theorem RowsS.mk {w : World} {A B : Option Addr} {l : List (List Int)} (h0 : (Kd.slice 5 (Kd.int .u8)).C w A l.length l) (h1 : (Kd.slice 5 (Kd.int .u8)).C w B l.length l) (i : Nat) (hi : i < l.length) :
    ∃ ad bd a b m c d s, A = some ad ∧ B = some bd ∧ ∀ W, Drawn0 w W → RowsS w ad bd i a b m c d s W := by
  obtain ⟨ad, a, c, rfl, hc, hl, hC⟩ := rows_at h0 i hi
  obtain ⟨bd, b, d, rfl, hd, hl2, hC2⟩ := rows_at h1 i hi
  refine ⟨ad, bd, a, b, l[i].length, c, d, strOfNums l[i], rfl, rfl, fun W hW => ?_⟩
  have hC' := Kd.C_below hC hW.below
  have hC2' := Kd.C_below hC2 hW.below
  refine ⟨⟨hW⟩, ?_, ?_, Kd.C_string Try.underlying51 Try.underlying5 Try.underlying9 hC', Kd.C_string Try.underlying51 Try.underlying5 Try.underlying9 hC2'⟩
  · obtain ⟨⟨n, rfl⟩⟩ := hW; exact hc
  · obtain ⟨⟨n, rfl⟩⟩ := hW; exact hd
set_option maxHeartbeats 1000000 in
set_option maxRecDepth 100000 in
theorem tallymanref10_Rows.calls (A0 : Option Addr) (c0 : Nat) (l0 : List (List Int)) (A1 : Option Addr) (c1 : Nat) (l1 : List (List Int)) (r : Bool) (w : World) (hr0 : Kd.C (Kd.slice 5 (Kd.int .u8)) w A0 l0.length l0) (hc0 : l0.length ≤ c0) (hr1 : Kd.C (Kd.slice 5 (Kd.int .u8)) w A1 l1.length l1) (hc1 : l1.length ≤ c1) (h : tallymanref10_Rows.f l0 l1 = some r) :
    Calls Try.prog 44 #[.slice A0 l0.length c0, .slice A1 l1.length c1] w fun e w' => e = .returned (.bool r) ∧ Drawn0 w w' := by
  unfold tallymanref10_Rows.f at h
  by_cases he : l0 = l1
  case neg => rw [if_neg he] at h; cases h
  rw [if_pos he] at h
  obtain rfl := Option.some.inj h
  subst he
  clear h
  have hmax := Kd.C_max hr0
  have t0 : ((l0.length : Int) != (l0.length : Int)) = false := by simp
  have H0 := Aside0.mk hr0; clear hr0
  have H1 := Aside0.mk hr1; clear hr1
  go_enter Try.func44, Try.ntmps44
  go_wp2
  go_loopw [5] (fun v5 wr => ∃ i : Nat, i ≤ l0.length ∧ v5 = .int .i64 i ∧ Aside0 (Drawn0 w wr)) (fun v5 _ => l0.length - (intOf v5).toNat)
  case atStart => exact ⟨0, by omega, rfl, ⟨Drawn0.refl _⟩⟩
  case round =>
    obtain ⟨i, hi, rfl, HD⟩ := hrel
    by_cases hlt : i < l0.length
    · obtain ⟨ad, bd, a, b, m, c, d, s, rfl, rfl, HS⟩ := RowsS.mk H0.out H1.out i hlt
      have HSS := Aside0.mk HS; clear HS
      have t1 : (s.toList != s.toList) = false := by simp
      go_wp2
      go_region_held3 (RowsS w ad bd i a b m c d s) (exact HSS.out _ (HD.out.step 1)) (fail)
      go_wp2
      go_roundw
      case rel => exact ⟨i + 1, by omega, by go_num, (show RowsS w ad bd i a b m c d s _ by assumption).1⟩
      case measure => simp [intOf]; omega
    · obtain rfl : i = l0.length := by omega
      go_wp2
      go_ret
      exact ⟨rfl, HD.out⟩
end Go.Proofs.Ytajgillnkkkgjaa.P
end
