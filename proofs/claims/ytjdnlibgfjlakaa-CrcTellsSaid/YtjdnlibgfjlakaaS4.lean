import Derived.Test.YtjdnlibgfjlakaaS1
import Derived.Test.YtjdnlibgfjlakaaH
import Derived.Scope
namespace Go.Proofs.Ytjdnlibgfjlakaa.P
open Go.RowKit Go.Proofs.YtjdnlibgfjlakaaW.PrintWords Go.Proofs.YtjdnlibgfjlakaaW.PrintLast Go.Proofs.YtjdnlibgfjlakaaW.PrintMore Go.Proofs.Ytjdnlibgfjlakaa.H
set_option linter.unusedVariables false
set_option linter.unusedSimpArgs false
/-- The short form of a number, as the code writes it. -/
def varL : Nat → Int → List Int
  | 0, x => [x]
  | n + 1, x => if x < 128 then [x] else bits .or .u8 (x % 256) 128 :: varL n (x / 128)
def pack_Var.f (k : Nat) (l0 : List Int) (a1 : Int) : Option (List Int) := if l0.length ≤ 140737488355300 ∧ 0 ≤ a1 ∧ a1 < 18446744073709551616 then some (l0 ++ varL 9 a1) else none
theorem pack_Var.mono : ∀ a0 a1 k, LeO (pack_Var.f k a0 a1) (pack_Var.f (k + 1) a0 a1) := fun _ _ _ _ h => h
def VarPost (w : World) (r : List Int) (e : Ending) (w' : World) : Prop := ∃ v0_ : Value, e = .returned (v0_) ∧ Kd.R (Kd.int .u8) 5 w' w.heap.size (fun _ => True) v0_ r ∧ Below w.heap.size w w'
theorem C_one (w : World) (x : Int) : Kd.C (Kd.int .u8) (w.alloc (.cells #[.int .u8 x] 5)) (some ⟨w.heap.size, 0, none⟩) 1 [x] := by
  refine C_of_cells (l := [x]) (by simp) ?_
  exact cell_one_new w _ 5
theorem reps_eq {α : Type} {enc : α → Value} {xs : List α} {cs : List Value} (h : Reps (fun (x : α) (cs : List Value) => cs = [enc x]) 1 xs cs) : cs = xs.map enc := by
  obtain ⟨hl, hp⟩ := h
  rw [Nat.mul_one] at hl
  apply List.ext_getElem (by simp [hl])
  intro j h1 h2
  have hj : j < xs.length := by omega
  have := hp j xs[j] (List.getElem?_eq_getElem hj)
  rw [Nat.mul_one, List.drop_eq_getElem_cons h1, List.take_succ_cons, List.take_zero] at this
  rw [List.getElem_map]
  injection this
theorem grown_below0 {w0 wr w' : World} {row : Option Nat} (hB : Below w0.heap.size w0 wr) (hg : wr.grownBy w' row) (hr : ∀ k, row = some k → w0.heap.size ≤ k) : Below w0.heap.size w0 w' :=
  ⟨hg.os.trans hB.os, hg.tape.trans hB.tape, hg.output.trans hB.output, Nat.le_trans hB.size hg.size, fun k hk => (hg.block k (Nat.lt_of_lt_of_le hk hB.size) (fun e => by have := hr k e.symm; omega)).trans (hB.block k hk)⟩
theorem wpList_append_var {ops : Array Oper} {rest : List Oper} {o : Oper} {a : Act} {Q : Exit → Act → World → Prop} (hgd : o.guard = none) (s x : Operand) (ho : o.op = .call { callee := .builtin .append, args := #[s, x], argTypes := #[27, 27] })
    (w0 wr : World) (hB : Below w0.heap.size w0 wr) (A : Option Addr) (L : List Int) (c : Nat) (hs : a.eval s = .slice A L.length c) (hLc : L.length ≤ c) (hC : Kd.C (Kd.int .u8) wr A L.length L)
    (hO : c = L.length ∨ Kd.R (Kd.int .u8) 5 wr w0.heap.size (fun _ => True) (.slice A L.length c) L) (ad : Addr) (cx : Nat) (l1 : List Int) (hx : a.eval x = .slice (some ad) l1.length cx) (hC1 : Kd.C (Kd.int .u8) wr (some ad) l1.length l1)
    (hp : 0 < l1.length) (hlen : L.length + l1.length ≤ 140737488355328)
    (h : ∀ A' c' w', L.length + l1.length ≤ c' → Kd.R (Kd.int .u8) 5 w' w0.heap.size (fun _ => True) (.slice A' (L.length + l1.length) c') (L ++ l1) → Below w0.heap.size w0 w' → wpList Try.prog ops Q rest (a.put o.dst (.slice A' (L.length + l1.length) c')) w') :
    wpList Try.prog ops Q (o :: rest) a wr := by
  obtain ⟨i, hi, hz, hsz, hby⟩ := info_parts info5
  have fin : ∀ v' w' row, w'.ownsRow w0.heap.size 5 1 v' (L.length + l1.length) (L.map (Value.int .u8) ++ l1.map (Value.int .u8)) → wr.grownBy w' row → (∀ k, row = some k → w0.heap.size ≤ k) → wpList Try.prog ops Q rest (a.put o.dst v') w' := by
    intro v' w' row hown hg hr
    rw [← List.map_append, ← List.length_append] at hown
    have hR : Kd.R (Kd.int .u8) 5 w' w0.heap.size (fun _ => True) v' (L ++ l1) := Kd.R_of_own (enc := Value.int .u8) (h1 := fun _ => rfl) hown (fun _ _ => trivial)
    obtain ⟨A', c', rfl⟩ := Kd.R_slice hR
    have := (Kd.R_reads' hR).2.1
    rw [List.length_append] at hR this ⊢
    exact h A' c' w' this hR (grown_below0 hB hg hr)
  rcases hO with hc | hR
  · refine wpList_append_grows wr hgd s x 27 ho 5 i (.int .u8 0) 1 1 Try.underlying27 hi hz hsz hby rfl (by decide) A L.length c (L.map (Value.int .u8)) hs ?_ (by simp) ?_ ad l1.length cx (l1.map (Value.int .u8)) hx (by simp) (C_cells hC1) ?_ (by omega) (by unfold maxLen; omega) (by omega) ?_
    · rintro rfl; have := C_none hC; subst this; exact ⟨rfl, hc⟩
    · rintro b rfl; exact C_cells hC
    · intro u hu; obtain ⟨x, _, rfl⟩ := List.mem_map.1 hu; rfl
    · intro v' w' hown hg
      exact fin v' w' none (own_weaken hown hB.size) hg (by simp)
  · obtain ⟨_, inner, hown, hrep⟩ := hR
    have hin : inner = L.map (Value.int .u8) := reps_eq hrep
    subst hin
    refine wpList_append_own wr hgd s x 27 ho w0.heap.size 5 i (.int .u8 0) 1 1 Try.underlying27 hi hz hsz hby rfl (by decide) (.slice A L.length c) L.length (L.map (Value.int .u8)) hs hown ad l1.length cx (l1.map (Value.int .u8)) hx (by simp) (C_cells hC1) ?_ (by unfold maxLen; omega) (by omega) hB.size ?_
    · intro u hu; obtain ⟨x, _, rfl⟩ := List.mem_map.1 hu; rfl
    · intro v' w' hown' hg _
      exact fin v' w' _ hown' hg (fun k hk => own_base hown k hk)
set_option maxHeartbeats 1000000 in
set_option maxRecDepth 100000 in
theorem pack_Var.calls (k : Nat) (A0 : Option Addr) (c0 : Nat) (l0 : List Int) (a1 : Int) (r : List Int) (w : World) (hr0 : Kd.C (Kd.int .u8) w A0 l0.length l0) (hc0 : l0.length ≤ c0) (h : pack_Var.f k l0 a1 = some r) :
    Calls Try.prog 30 #[.slice A0 l0.length c0, .int .u64 a1] w (VarPost w r) := by
  have HR := Aside0.mk hr0; clear hr0
  unfold pack_Var.f at h
  split at h
  case isFalse => cases h
  rename_i hb
  obtain ⟨hb1, hb2, hb3⟩ := hb
  have hr := Option.some.inj h
  clear h
  have HF := Aside0.mk hr; clear hr
  have HL := Aside0.mk hb1; clear hb1
  have HX := Aside0.mk hb3; clear hb3
  go_enter Try.func30, Try.ntmps30
  go_wp2
  refine wp_scope_enter 0 rfl ?_
  go_wp2_with (go_at_call 38; refine (clip_calls A0 l0.length c0 _ hc0).mono ?_; rintro e w' ⟨rfl, rfl⟩)
  go_step3
  simp only [Exit.then]
  rename_i hk
  refine hk _ _ ?_
  clear hk
  refine wp_label_slots 0 (by rfl) ([1, 4, 5, 8, 9, 10, 11, 12, 13, 14, 15, 16, 17, 18, 19, 20, 21, 22] : List Nat) (fun n us wr => ∃ (i : Nat) (x : Int) (L : List Int) (A : Option Addr) (c : Nat), i ≤ 9 ∧ Aside0 (n = 10 - i) ∧ us.getD 0 undef = .int .u64 x ∧ us.getD 2 undef = .slice A L.length c ∧ L.length ≤ c ∧ 0 ≤ x ∧ Aside0 (x < 2 ^ (64 - 7 * i)) ∧ Aside0 (L ++ varL (9 - i) x = r ∧ L.length = l0.length + i)
      ∧ Aside0 (Kd.C (Kd.int .u8) wr A L.length L) ∧ Aside0 (c = L.length ∨ Kd.R (Kd.int .u8) 5 wr w.heap.size (fun _ => True) (.slice A L.length c) L) ∧ Aside0 (Below w.heap.size w wr)) 10 ?_ ?_
  · refine ⟨0, a1, l0, A0, l0.length, by omega, ⟨rfl⟩, rfl, rfl, Nat.le_refl _, hb2, ⟨HX.out⟩, ⟨HF.out, rfl⟩, ⟨HR.out⟩, ⟨.inl rfl⟩, ⟨Below.refl _ _⟩⟩
  · rintro n us wr hl ⟨i, x, L, A, c, hi, HN, h5, h6, hLc, hx0, HXI, HU, HC, HO, HB⟩ J K hJ hK
    simp only [List.length_cons, List.length_nil] at hl
    match us, hl with
    | u1 :: u4 :: u5 :: u8 :: u9 :: u10 :: u11 :: u12 :: u13 :: u14 :: u15 :: u16 :: u17 :: u18 :: u19 :: u20 :: u21 :: u22 :: [], _ =>
    rename_i hx; clear hx
    simp only [List.getD_cons_succ, List.getD_cons_zero] at h5 h6
    subst h5 h6
    simp only [putS, Act.put, List.setIfInBounds_toArray, List.set_cons_zero, List.set_cons_succ]
    have hJ2 := fun (k : Nat) (v1 v4 v5 v8 v9 v10 v11 v12 v13 v14 v15 v16 v17 v18 v19 v20 v21 v22 : Value) (w' : World) => hJ k (v1 :: v4 :: v5 :: v8 :: v9 :: v10 :: v11 :: v12 :: v13 :: v14 :: v15 :: v16 :: v17 :: v18 :: v19 :: v20 :: v21 :: v22 :: []) _ w' rfl rfl
    clear hJ
    simp only [putS, Act.put, List.setIfInBounds_toArray, List.set_cons_zero, List.set_cons_succ] at hJ2
    have HJ := Aside0.mk hJ2; clear hJ2
    have HK := Aside0.mk hK; clear hK
    have hlen : L.length ≤ 140737488355310 := by have h1 := HU.out.2; have h2 := HL.out; omega
    have HLn := Aside0.mk hlen; clear hlen
    by_cases hx : x < 128
    · have hx1 : decide (x < 128) = true := by simp [hx]
      have hfin : r = L ++ [x] := by
        have := HU.out.1
        rw [← this]
        cases h9 : 9 - i with
        | zero => rfl
        | succ m => rw [varL, if_pos hx]
      have HFin := Aside0.mk hfin; clear hfin
      have hB0 := HB.out.size
      go_wp2_with (go_at_call 36; refine (behind_calls' A c L _ 1 1 [x] _ rfl (Kd.C_below HC.out (below_alloc (Below.refl _ _) _)) hLc (C_one wr _) (by have := HLn.out; simp; omega)).mono ?_; rintro e w' ⟨v, rfl, hbp⟩; have HP := Aside0.mk hbp; clear hbp)
      have hv := HP.out
      clear HP
      rcases hv with ⟨h, _⟩ | ⟨_, hR, hb⟩
      · cases h
      · have HR2 := Aside0.mk hR; clear hR
        have HB2 := Aside0.mk hb; clear hb
        simp only [Exit.jump]
        go_ret
        rw [HFin.out]
        have h1 : w.heap.size ≤ (wr.alloc (.cells #[.int .u8 x] 5)).heap.size := (below_alloc HB.out _).size
        exact ⟨_, rfl, Kd.R_lower HR2.out h1, below_step (below_alloc HB.out _) HB2.out⟩
    · have hx1 : decide (x < 128) = false := by simp; omega
      have hi9 : i ≠ 9 := by
        rintro rfl
        have := HXI.out
        omega
      have HX2 := Aside0.mk hx; clear hx
      go_wp2_with (at_builtin; refine wpList_append_var rfl _ _ rfl w _ (below_alloc HB.out _) A L c rfl hLc (Kd.C_below HC.out (below_alloc (Below.refl _ _) _)) (HO.out.imp_right (fun h => Kd.R_alloc h _)) _ 1 [bits BinOp.or IntKind.u8 (x % 256) 128] rfl (C_one wr _) (by simp) (by have := HLn.out; simp; omega) ?_; intro A' c' w' hc' hR' hb'; have HR' := Aside0.mk hR'; clear hR'; have HB' := Aside0.mk hb'; clear hb')
      go_step3
      refine ⟨rfl, HK.out _ _ (Handed.intro (10 - (i + 1)) ?_ (HJ.out _ _ _ _ _ _ _ _ _ _ _ _ _ _ _ _ _ _ _ _ ⟨i + 1, x / 128, L ++ [bits BinOp.or IntKind.u8 (x % 256) 128], A', c', by omega, ⟨rfl⟩, rfl, by simp, by simpa using hc', by omega, ?_, ⟨?_, ?_⟩, ⟨?_⟩, ⟨.inr ?_⟩, HB'⟩))⟩
      · have := HN.out; omega
      · have h1 := HXI.out
        have h2 : (2 : Int) ^ (64 - 7 * i) = 2 ^ (64 - 7 * (i + 1)) * 128 := by
          rw [show 64 - 7 * i = (64 - 7 * (i + 1)) + 7 from by omega, Int.pow_add]; rfl
        rw [h2] at h1
        exact ⟨by omega⟩
      · have h1 := HU.out.1
        obtain ⟨m, hm⟩ : ∃ m, 9 - i = m + 1 := ⟨8 - i, by omega⟩
        rw [hm, varL, if_neg (by have := HX2.out; omega)] at h1
        rw [show 9 - (i + 1) = m from by omega, List.append_assoc]
        exact h1
      · have := HU.out.2
        simp; omega
      · exact (Kd.R_reads' (A := A') (n := (L ++ [bits BinOp.or IntKind.u8 (x % 256) 128]).length) (c := c') (by simpa using HR'.out)).2.2
      · simpa using HR'.out
end Go.Proofs.Ytjdnlibgfjlakaa.P
