import Derived.Test.YtjdnlibgfjlakaaP0
import Derived.Deep.Upon
namespace Go.Proofs.Ytjdnlibgfjlakaa.P
open Go.RowKit Go.Proofs.YtjdnlibgfjlakaaW.PrintWords Go.Proofs.YtjdnlibgfjlakaaW.PrintLast Go.Proofs.YtjdnlibgfjlakaaW.PrintMore
set_option linter.unusedVariables false
set_option linter.unusedSimpArgs false
theorem add0 (A : Option Addr) : A.map (fun x => x.add 0) = A := by cases A <;> simp [Addr.add]
theorem slice_full (A0 : Option Addr) (n c0 : Nat) (w : World) (hc : n ≤ c0) : (Instr.slice 27 (.slice A0 n c0) none (some (.int .i64 n)) (some (.int .i64 n))).run Try.prog w = .ok (.slice A0 n n) w := by
  obtain ⟨i, hi, _⟩ := info_parts info5
  simp [Instr.slice, Instr.sliceBounds, Instr.sliceBound, run_underlying Try.underlying27, asIntOf, hc, sizeOf, typeInfo, hi, add0]
theorem clip_calls (A0 : Option Addr) (n c0 : Nat) (w : World) (hc : n ≤ c0) :
    Calls Try.prog 38 #[.slice A0 n c0] w fun e w' => e = .returned (.slice A0 n n) ∧ w = w' := by
  have hsl := slice_full A0 n c0 w hc
  go_enter Try.func38, Try.ntmps38
  go_wp2
  go_ret
  exact ⟨rfl, rfl⟩
-- cells of a row of numbers
theorem C_cells {k : IntKind} {w : World} {ad : Addr} {l : List Int} (h : Kd.C (Kd.int k) w (some ad) l.length l) : ∀ j u, (l.map (Value.int k))[j]? = some u → w.cell? (ad.add j) = some u := by
  intro j u hu
  rw [List.getElem?_map] at hu
  obtain ⟨x, hx, rfl⟩ := Option.map_eq_some_iff.1 hu
  have hj : j < l.length := (List.getElem?_eq_some_iff.1 hx).1
  obtain ⟨ad', he, hc⟩ := Kd.at_int h j (by omega) (by omega)
  injection he with he
  subst he
  simp only [Int.toNat_natCast] at hc
  rw [hc, rd, List.getD_eq_getElem?_getD, Int.toNat_natCast, hx]
  rfl
theorem add_plain' (g i j : Nat) : (⟨g, i, none⟩ : Addr).add j = ⟨g, i + j, none⟩ := by unfold Addr.add; split <;> simp_all
theorem C_none {k : IntKind} {w : World} {n : Nat} {l : List Int} (h : Kd.C (Kd.int k) w none n l) : l = [] := by
  obtain ⟨h1, _, h3⟩ := h
  rcases Nat.eq_zero_or_pos n with h0 | h0
  · exact List.eq_nil_of_length_eq_zero (h1.trans h0)
  · obtain ⟨ad, e, _⟩ := h3 h0
    cases e
theorem C_of_cells {k : IntKind} {w : World} {ad : Addr} {l : List Int} (hl : l.length ≤ 9223372036854775807) (h : ∀ j u, (l.map (Value.int k))[j]? = some u → w.cell? (ad.add j) = some u) : Kd.C (Kd.int k) w (some ad) l.length l := by
  refine ⟨rfl, hl, fun _ => ⟨ad, rfl, fun j p hp => ⟨[.int k p], rfl, rfl, fun i u hu => ?_⟩⟩⟩
  cases i with
  | zero =>
    simp only [List.getElem?_cons_zero, Option.some.injEq] at hu
    subst hu
    simp only [Nat.add_zero, show (Kd.int k).sz = 1 from rfl, Nat.mul_one]
    exact h j _ (by rw [List.getElem?_map, hp]; rfl)
  | succ i => simp at hu
theorem wpList_append_nothing {P : Program} (w : World) {ops : Array Oper} {rest : List Oper} {o : Oper} {a : Act} {Q : Exit → Act → World → Prop} (hgd : o.guard = none) (s x : Operand) (t : TypeId)
    (ho : o.op = .call { callee := .builtin .append, args := #[s, x], argTypes := #[t, t] }) (e : TypeId) (i : TypeInfo) (ht : P.underlying t = some (.slice e)) (hi : P.info? e = some i)
    (base : Option Addr) (n cap : Nat) (hle : n ≤ cap) (hs : a.eval s = .slice base n cap) (v : Value) (hx : a.eval x = v) (hsrc : Src P i.size t v 0 [] w)
    (h : wpList P ops Q rest (a.put o.dst (.slice base n cap)) w) : wpList P ops Q (o :: rest) a w := by
  refine wpList_plain hgd fun K hK => ?_
  have hr := run_append_nothing w t t o.type e i ht hi base n cap hle v hsrc
  unfold Oper.wp execOp
  simp only [ho, resolve, invoke, builtin, Sem.run_bind, Sem.run_pure, Result.andThen_ok, List.map_toArray, List.map_cons, List.map_nil, hs, hx, hr]
  exact hK _ _ h
def BehindPost (l0 l1 : List Int) (A0 : Option Addr) (w : World) (e : Ending) (w' : World) : Prop :=
  ∃ v, e = .returned v ∧ ((l1 = [] ∧ v = .slice A0 l0.length l0.length ∧ w = w') ∨ (l1 ≠ [] ∧ Kd.R (Kd.int .u8) 5 w' w.heap.size (fun _ => True) v (l0 ++ l1) ∧ Below w.heap.size w w'))
theorem grown_below {w w' : World} (h : w.grownBy w' none) : Below w.heap.size w w' := ⟨h.os, h.tape, h.output, h.size, fun k hk => h.block k hk (by simp)⟩
set_option maxHeartbeats 800000 in
theorem behind_calls (A0 : Option Addr) (c0 : Nat) (l0 : List Int) (A1 : Option Addr) (c1 : Nat) (l1 : List Int) (w : World) (hr0 : Kd.C (Kd.int .u8) w A0 l0.length l0) (hc0 : l0.length ≤ c0) (hr1 : Kd.C (Kd.int .u8) w A1 l1.length l1)
    (hb : l0.length + l1.length ≤ 140737488355328) :
    Calls Try.prog 36 #[.slice A0 l0.length c0, .slice A1 l1.length c1] w (BehindPost l0 l1 A0 w) := by
  obtain ⟨i, hi, hz, hs, hby⟩ := info_parts info5
  have Hz := Aside0.mk hz; clear hz
  have Hs := Aside0.mk hs; clear hs
  have Hby := Aside0.mk hby; clear hby
  have Hi := Aside0.mk hi; clear hi
  by_cases h1 : l1 = []
  · subst h1
    go_enter Try.func36, Try.ntmps36
    go_wp2_with (first | (go_at_call 38; refine (clip_calls A0 l0.length c0 _ hc0).mono ?_; rintro e w' ⟨rfl, rfl⟩) | (at_builtin; refine wpList_append_nothing _ rfl _ _ 27 rfl 5 i Try.underlying27 Hi.out A0 l0.length l0.length (Nat.le_refl _) rfl (.slice A1 0 c1) rfl ?g1 ?_; rotate_left))
    case g1 =>
      cases A1 with
      | none => exact Src.ofNil (w := w) Try.underlying27 c1
      | some a => exact Src.ofSlice (w := w) Try.underlying27 a 0 c1 [] (by simp) (by simp) (by simp)
    go_ret
    exact ⟨_, rfl, .inl ⟨rfl, rfl, rfl⟩⟩
  · cases A1 with
    | none => exact absurd (C_none hr1) h1
    | some a1 =>
      have Hb := Aside0.mk hb; clear hb
      have H0 := Aside0.mk hr0; clear hr0
      have H1 := Aside0.mk hr1; clear hr1
      have N1 := Aside0.mk h1; clear h1
      go_enter Try.func36, Try.ntmps36
      go_wp2_with (first | (go_at_call 38; refine (clip_calls A0 l0.length c0 _ hc0).mono ?_; rintro e w' ⟨rfl, rfl⟩) | (at_builtin; refine wpList_append_grows _ rfl _ _ 27 rfl 5 i (.int .u8 0) 1 1 Try.underlying27 Hi.out Hz.out Hs.out Hby.out rfl (by decide) A0 l0.length l0.length (l0.map (Value.int .u8)) rfl ?g1 ?g2 ?g3 a1 l1.length c1 (l1.map (Value.int .u8)) rfl ?g4 ?g5 ?g6 ?g7 ?g8 ?g9 ?_; rotate_left 9; intro v' w' ho hg; have Ho := Aside0.mk ho; clear ho; have Hg := Aside0.mk hg; clear hg))
      case g1 => rintro rfl; have := C_none H0.out; subst this; exact ⟨rfl, rfl⟩
      case g2 => simp
      case g3 => rintro b rfl; exact C_cells H0.out
      case g4 => simp
      case g5 => exact C_cells H1.out
      case g6 => intro u hu; obtain ⟨x, _, rfl⟩ := List.mem_map.1 hu; rfl
      case g7 => have := List.length_pos_iff.2 N1.out; omega
      case g8 => have := Hb.out; unfold maxLen; omega
      case g9 => have := Hb.out; omega
      go_ret
      refine ⟨_, rfl, .inr ⟨N1.out, ?_, grown_below Hg.out⟩⟩
      refine Kd.R_of_own (enc := Value.int .u8) (h1 := fun _ => rfl) ?_ (fun _ _ => trivial)
      have := Ho.out
      rw [← List.map_append] at this
      rw [List.length_append]
      exact this
theorem behind_calls' (A0 : Option Addr) (c0 : Nat) (l0 : List Int) (A1 : Option Addr) (n1 c1 : Nat) (l1 : List Int) (w : World) (hn : l1.length = n1) (hr0 : Kd.C (Kd.int .u8) w A0 l0.length l0) (hc0 : l0.length ≤ c0) (hr1 : Kd.C (Kd.int .u8) w A1 l1.length l1)
    (hb : l0.length + l1.length ≤ 140737488355328) :
    Calls Try.prog 36 #[.slice A0 l0.length c0, .slice A1 n1 c1] w (BehindPost l0 l1 A0 w) := by
  subst hn
  exact behind_calls A0 c0 l0 A1 c1 l1 w hr0 hc0 hr1 hb
/-- The bytes of a number's lower k bytes, the greatest first. -/
def byteAt (x : Int) (i : Nat) : Int := x / 2 ^ (8 * i) % 256
def putList (x : Int) (k : Nat) : List Int := (List.range k).reverse.map (byteAt x)
def kOf (a : Int) : Nat := (min (max a 0) 8).toNat
def pack_Put.f (l0 : List Int) (a1 : Int) (a2 : Int) : Option (List Int) := if l0.length ≤ 140737488355320 ∧ 0 ≤ a1 ∧ a1 < 18446744073709551616 then some (l0 ++ putList a1 (kOf a2)) else none
/-- The array behind i rounds. -/
def arrAt (x : Int) (i : Nat) : List Value := (List.range 8).map fun j => Value.int .u8 (if 8 - i ≤ j then byteAt x (7 - j) else 0)
theorem arr_len (x : Int) (i : Nat) : (arrAt x i).length = 8 := by simp [arrAt]
theorem arr_zero (x : Int) : arrAt x 0 = [Value.int IntKind.u8 0, Value.int IntKind.u8 0, Value.int IntKind.u8 0, Value.int IntKind.u8 0, Value.int IntKind.u8 0, Value.int IntKind.u8 0, Value.int IntKind.u8 0, Value.int IntKind.u8 0] := by
  simp [arrAt, List.range, List.range.loop]
theorem arr_set (x : Int) (i : Nat) (hi : i < 8) : (arrAt x i).set (7 - i) (Value.int .u8 (byteAt x i)) = arrAt x (i + 1) := by
  apply List.ext_getElem (by simp [arr_len])
  intro j h1 h2
  simp only [arr_len] at h1 h2
  rw [List.getElem_set]
  simp only [arrAt, List.getElem_map, List.getElem_range]
  by_cases e : 7 - i = j
  · rw [if_pos e, if_pos (by omega), show 7 - j = i from by omega]
  · rw [if_neg e]
    by_cases h3 : 8 - i ≤ j
    · rw [if_pos h3, if_pos (by omega)]
    · rw [if_neg h3, if_neg (by omega)]
theorem shr_byte (x : Int) (i : Nat) : x / 2 ^ (8 * i) / 256 = x / 2 ^ (8 * (i + 1)) := by
  rw [Int.ediv_ediv_of_nonneg (by exact Int.pow_nonneg (by decide)), show (8 * (i + 1)) = 8 * i + 8 from by omega, Int.pow_add]
  rfl
theorem put_cells {w : World} {g : Nat} {x : Int} (h : w.heap[g]? = some (.cells (arrAt x 8).toArray 53 (0, 0))) {K : Nat} (hK : K ≤ 8) : Kd.C (Kd.int .u8) w (some ⟨g, 8 - K, none⟩) (putList x K).length (putList x K) := by
  have hl : (putList x K).length = K := by simp [putList]
  refine C_of_cells (by omega) fun j u hu => ?_
  rw [add_plain', blk_cell h]
  rw [List.getElem?_map] at hu
  obtain ⟨y, hy, rfl⟩ := Option.map_eq_some_iff.1 hu
  have hj : j < K := by have := (List.getElem?_eq_some_iff.1 hy).1; omega
  obtain ⟨h1, rfl⟩ := List.getElem?_eq_some_iff.1 hy
  simp [putList, arrAt, show 8 - K + j < 8 from by omega, show 7 - (8 - K + j) = K - 1 - j from by omega]
def PutPost (P0_ : Nat → Prop) (w : World) (r : List Int) (e : Ending) (w' : World) : Prop := ∃ v0_ : Value, e = .returned (v0_) ∧ Kd.V (Kd.int .u8) 5 w' w.heap.size (fun k_ => (P0_ k_ ∨ w.heap.size ≤ k_)) v0_ r ∧ Below w.heap.size w w'
theorem put_post {P0_ : Nat → Prop} {A0 : Option Addr} {c0 K : Nat} {l0 : List Int} {a1 : Int} {w wr w' : World} {v : Value} (hs : Kd.V (Kd.int .u8) 5 w w.heap.size (fun k_ => P0_ k_) (.slice A0 l0.length c0) l0) (hB : Below w.heap.size w wr)
    (hv : (putList a1 K = [] ∧ v = .slice A0 l0.length l0.length ∧ wr = w') ∨ (putList a1 K ≠ [] ∧ Kd.R (Kd.int .u8) 5 w' wr.heap.size (fun _ => True) v (l0 ++ putList a1 K) ∧ Below wr.heap.size wr w')) : PutPost P0_ w (l0 ++ putList a1 K) (.returned v) w' := by
  rcases hv with ⟨he, rfl, rfl⟩ | ⟨_, hR, hb⟩
  · rw [he, List.append_nil]
    refine ⟨_, rfl, ⟨A0, _, rfl, Nat.le_refl _, Kd.V_F (Kd.V_mono (Kd.V_below hs hB) (fun _ h => .inl h))⟩, hB⟩
  · refine ⟨_, rfl, Kd.R_V (Kd.R_mono (Kd.R_bound hR) (fun k hk => .inr ?_)), below_step hB hb⟩
    exact Nat.le_trans hB.size hk.2.1
set_option maxHeartbeats 1000000 in
theorem pack_Put.calls (P0_ : Nat → Prop) (A0 : Option Addr) (c0 : Nat) (l0 : List Int) (a1 : Int) (a2 : Int) (r : List Int) (w : World) (hs0 : Kd.V (Kd.int .u8) 5 w w.heap.size (fun k_ => P0_ k_) (.slice A0 l0.length c0) l0) (h : pack_Put.f l0 a1 a2 = some r) :
    Calls Try.prog 26 #[.slice A0 l0.length c0, .int .u64 a1, .int .i64 a2] w (PutPost P0_ w r) := by
  have hc0 := (Kd.V_at hs0).2.1
  have HS := Aside0.mk hs0; clear hs0
  have H := Aside0.mk h; clear h
  go_enter Try.func26, Try.ntmps26
  go_wp2
  go_loopw [1, 9] (fun v1 v9 wr => ∃ i : Nat, i ≤ 8 ∧ v9 = .int .i64 i ∧ v1 = .int .u64 (a1 / 2 ^ (8 * i)) ∧ Aside0 (wr.heap[w.heap.size]? = some (.cells (arrAt a1 i).toArray 53 (0, 0))) ∧ Aside0 (Below w.heap.size w wr)) (fun _ v9 _ => 8 - (intOf v9).toNat)
  case atStart =>
    refine ⟨0, by omega, rfl, by simp, ⟨?_⟩, ⟨below_alloc (Below.refl _ _) _⟩⟩
    rw [arr_zero]; exact blk_new _ _
  case round =>
    obtain ⟨i, hi, rfl, rfl, HC, HB⟩ := hrel
    by_cases hlt : i < 8
    · have hcell : wr.cell? ⟨w.heap.size, 7 - i, none⟩ = some ((arrAt a1 i).getD (7 - i) undef) := by
        rw [blk_cell HC.out]
        have : (7 - i) < (arrAt a1 i).length := by rw [arr_len]; omega
        simp [this]
      have hfr := blk_frozen HC.out (7 - i)
      go_wp2
      go_roundw
      case rel =>
        refine ⟨i + 1, by omega, by go_num, ?_, ⟨?_⟩, ⟨below_set HB.out (Nat.le_refl _)⟩⟩
        · rw [← shr_byte]
        · refine blk_put HC.out _ _ ?_
          rw [List.setIfInBounds_toArray, ← arr_set _ _ hlt]
          congr 2
      case measure => simp [intOf]; omega
    · obtain rfl : i = 8 := by omega
      have hK : a2 < 0 ∨ a2 = 0 ∨ a2 = 1 ∨ a2 = 2 ∨ a2 = 3 ∨ a2 = 4 ∨ a2 = 5 ∨ a2 = 6 ∨ a2 = 7 ∨ a2 = 8 ∨ 8 < a2 := by omega
      have hV := Kd.V_reads' HS.out
      have fin : ∀ K o, K ≤ 8 → K = kOf a2 → o = (if K = 0 then 0 else 8 - K) → Calls Try.prog 36 #[.slice A0 l0.length c0, .slice (some ⟨w.heap.size, o, none⟩) K K] wr (fun e w' => PutPost P0_ w r e w' ∧ ∃ v, e = .returned v) := by
        rintro K o hk hK rfl
        have h := H.out
        unfold pack_Put.f at h
        split at h
        · rename_i hl
          rw [← hK] at h
          obtain rfl := Option.some.inj h
          refine (behind_calls' A0 c0 l0 _ K K (putList a1 K) wr (by simp [putList]) (Kd.C_below hV.2.2 HB.out) hc0 ?_ ?_).mono ?_
          · by_cases h0 : K = 0
            · subst h0
              exact ⟨rfl, by simp [putList], fun h => by simp [putList] at h⟩
            · rw [if_neg h0]
              exact put_cells HC.out hk
          · simp [putList]; omega
          · rintro e w' ⟨v, rfl, hv⟩
            exact ⟨put_post HS.out HB.out hv, _, rfl⟩
        · cases h
      have FIN := Aside0.mk fin; clear fin hV
      rcases hK with hK | hK | hK | hK | hK | hK | hK | hK | hK | hK | hK
      all_goals
        try subst hK
        go_wp2_with fail
        refine (FIN.out _ _ (by omega) (by first | rfl | (unfold kOf; omega)) (by rfl)).mono ?_
        rintro e w' ⟨hp, v, rfl⟩
        have HP := Aside0.mk hp; clear hp
        go_wp2
        go_ret
        exact HP.out
end Go.Proofs.Ytjdnlibgfjlakaa.P
