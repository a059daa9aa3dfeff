/- Several texts of this proof in one: what the law's functions come to, and the lemmas (some as the kit's print.sh printed them, what is not used struck). -/
import Derived.Test.YtopblnecdabcgaaM3
section
/- HeapPops: the calls, and its walk. -/
namespace Go.Proofs.Ytopblnecdabcgaa.P
open Go.RowKit Go.Proofs.YtopblnecdabcgaaW.PrintWords Go.Proofs.YtopblnecdabcgaaW.PrintLast Go.Proofs.YtopblnecdabcgaaW.PrintMore Go.Proofs.Ytopblnecdabcgaa.H Go.Proofs.Ytopblnecdabcgaa.MP Go.Proofs.Ytopblnecdabcgaa.RP
set_option linter.unusedVariables false
set_option linter.unusedSimpArgs false
theorem F_of_Ri {W : World} {base : Nat} {P : Nat → Prop} {e : Nat} {A : Option Addr} {n c : Nat} {xs : List Int} (h : Kd.R (Kd.int .i64) e W base P (.slice A n c) xs) : Kd.F (Kd.int .i64) W P A xs.length xs :=
  fun W' hW => (Kd.R_reads' (Kd.R_step h hW)).2.2
/-- The heap lies as l; the ids of L are read at A; the variable at bx is y. -/
structure PpB (w : World) (xb bx : Nat) (y : Th) (l L : List Th) (A : Option Addr) (B : Nat) (W : World) : Prop where
  ex : ∃ Q N, Hpl W xb Q N l ∧ (∀ k, Q k → w.heap.size ≤ k) ∧ ¬ Q bx ∧ Kd.F (Kd.int .i64) W (fun k => ¬ Q k ∧ k ≠ bx) A L.length (L.map S37.f0) ∧ N ≤ B
  box : W.heap[bx]? = some (.cells #[.int .i64 y.f0, .int .i64 y.f1, .int .i64 y.f2] 37 (0, 0))
  base : w.heap.size ≤ bx
  below : Below w.heap.size w W
/-- .. ahead of the variable. -/
structure PpA (w : World) (xb : Nat) (l L : List Th) (A : Option Addr) (B : Nat) (W : World) : Prop where
  ex : ∃ Q N, Hpl W xb Q N l ∧ (∀ k, Q k → w.heap.size ≤ k) ∧ Kd.F (Kd.int .i64) W (fun k => ¬ Q k) A L.length (L.map S37.f0) ∧ N ≤ B
  below : Below w.heap.size w W
section
variable {w : World} {xb bx : Nat} {y : Th} {l L : List Th} {A : Option Addr} {B : Nat} {W : World}
theorem pa_all {N : Nat} (h : HpC w.heap.size W xb N L) (hb : Below w.heap.size w W) (hl : L.length ≤ 1000) (hN : N ≤ B) : Calls Try.prog 32 #[.pointer (some ⟨xb, 0, none⟩)] W fun e w' => ∃ A' c', e = .returned (.slice A' L.length c') ∧ L.length ≤ c' ∧ PpA w xb L L A' B w' := by
  obtain ⟨Q, h1, h2⟩ := h
  refine (all_calls xb W Q N L h1 hl).mono fun e w' ⟨v, p1, p2, p3⟩ => ?_
  obtain ⟨A', c', rfl, hc, hC⟩ := Kd.R_reads p2
  have hF := F_of_Ri (Kd.R_mono (Kd.R_bound p2) (ok' := fun k => ¬ Q k) (fun k hk q => by have := h1.own k q; have := hk.2.1; omega))
  rw [List.length_map] at p1 hc hF
  exact ⟨A', c', p1, hc, ⟨Q, N, hpl_below h1 p3, h2, hF, hN⟩, below_step hb p3⟩
theorem pa_below (h : PpA w xb l L A B W) {W' : World} (k : Below W.heap.size W W') : PpA w xb l L A B W' := by
  obtain ⟨⟨Q, N, h1, h2, h3, h4⟩, hb⟩ := h
  exact ⟨⟨Q, N, hpl_below h1 k, h2, Kd.F_below h3 k, h4⟩, below_step hb k⟩
theorem pa_len (h : PpA w xb l L A B W) : Calls Try.prog 30 #[.pointer (some ⟨xb, 0, none⟩)] W fun e w' => e = .returned (.int .i64 l.length) ∧ PpA w xb l L A B w' := by
  have h' := h
  obtain ⟨⟨Q, N, h1, _⟩, _⟩ := h
  exact (len_calls xb W Q N l h1).mono fun e w' ⟨p1, p2⟩ => ⟨p1, pa_below h' p2⟩
theorem pa_box (h : PpA w xb l L A B W) (y : Th) : PpB w xb W.heap.size y l L A B (W.alloc (.cells #[.int .i64 y.f0, .int .i64 y.f1, .int .i64 y.f2] 37)) := by
  obtain ⟨⟨Q, N, h1, h2, h3, h4⟩, hb⟩ := h
  exact ⟨⟨Q, N, hpl_below h1 (below_alloc (Below.refl _ _) _), h2, fun c => by have := h1.own _ c; omega, Kd.F_alloc (Kd.F_elderB h3 _ (Nat.le_refl _)) _, h4⟩, blk_new W _, hb.size, below_alloc hb _⟩
theorem pb_below (h : PpB w xb bx y l L A B W) {W' : World} (k : Below W.heap.size W W') : PpB w xb bx y l L A B W' := by
  obtain ⟨⟨Q, N, h1, h2, h5, h3, h4⟩, ho, hbx, hb⟩ := h
  exact ⟨⟨Q, N, hpl_below h1 k, h2, h5, Kd.F_below h3 k, h4⟩, blk_keep ho k, hbx, below_step hb k⟩
theorem pb_same (h : PpB w xb bx y l L A B W) {fn : FuncId} {args : Array Value} {e0 : Ending} (hc : Calls Try.prog fn args W fun e w' => e = e0 ∧ Below W.heap.size W w') : Calls Try.prog fn args W fun e w' => e = e0 ∧ PpB w xb bx y l L A B w' :=
  hc.mono fun e w' ⟨p1, p2⟩ => ⟨p1, pb_below h p2⟩
theorem pb_has (h : PpB w xb bx y l L A B W) (id : Int) (hx : wfI id) {v : Value} (hv : hasV l id = v) : Calls Try.prog 28 #[.pointer (some ⟨xb, 0, none⟩), .int .i64 id] W fun e w' => e = .returned v ∧ PpB w xb bx y l L A B w' := by
  subst hv
  have h' := h
  obtain ⟨⟨Q, N, h1, _⟩, _⟩ := h
  exact pb_same h' (has_calls xb id W Q N l h1 hx)
theorem pb_pop (h : PpB w xb bx y l L A B W) (hB : B ≤ 10000000) (hl : l.length ≤ 1000) : Calls Try.prog 26 #[.pointer (some ⟨xb, 0, none⟩)] W fun e w' => e = .returned (.tuple #[.int .i64 (headI l), .bool (someB l)]) ∧ PpB w xb bx y l.tail L A (B + 3000) w' := by
  obtain ⟨⟨Q, N, h1, h2, h5, h3, h4⟩, ho, hbx, hb⟩ := h
  refine (pop_calls xb W Q N l h1 (by omega) hl).mono fun e w' ⟨p1, p2, hk⟩ => ⟨p1, ⟨Q, _, p2, h2, h5, ?_, by omega⟩, (hk.block bx (lt_blk ho) h5).trans ho, hbx, hb.trans (hk.below hb.size (fun j hj hn => by have := h2 j hn; omega))⟩
  exact Kd.F_step h3 (fun k ho hl => hk.block k hl ho.1)
theorem pb_lenc (h : PpB w xb bx y l L A B W) : Calls Try.prog 30 #[.pointer (some ⟨xb, 0, none⟩)] W fun e w' => e = .returned (.int .i64 l.length) ∧ PpB w xb bx y l L A B w' := by
  have h' := h
  obtain ⟨⟨Q, N, h1, _⟩, _⟩ := h
  exact pb_same h' (len_calls xb W Q N l h1)
theorem pb_wf (h : PpB w xb bx y l L A B W) {x : Th} (hx : x ∈ l) : wfI x.f0 := by
  obtain ⟨⟨Q, N, h1, _⟩, _⟩ := h
  exact hpl_wf h1 hx
theorem pb_id (h : PpB w xb bx y l L A B W) (j : Nat) (hj : j < L.length) : ∃ ad, A = some ad ∧ W.cell? (ad.add j) = some (.int .i64 (atH L j).f0) := by
  obtain ⟨⟨Q, N, h1, h2, h5, h3, h4⟩, _⟩ := h
  obtain ⟨ad, e, hc⟩ := Kd.at_int (Kd.F_now h3) (j : Int) (by omega) (by omega)
  refine ⟨ad, e, ?_⟩
  have e2 : rd (L.map S37.f0) (j : Int) = (atH L j).f0 := by
    unfold rd
    rw [Int.toNat_natCast, List.getD_eq_getElem?_getD, List.getElem?_map, List.getElem?_eq_getElem hj, atH_get L j hj]
    rfl
  rw [e2] at hc
  exact hc
theorem pb_pop_box (h : PpB w xb bx y l L A B W) (hB : B ≤ 10000000) (hl : l.length ≤ 1000) (o : Obj) : Calls Try.prog 26 #[.pointer (some ⟨xb, 0, none⟩)] (W.alloc o) fun e w' => e = .returned (.tuple #[.int .i64 (headI l), .bool (someB l)]) ∧ PpB w xb bx y l.tail L A (B + 3000) w' ∧ w'.heap[W.heap.size]? = some o := by
  obtain ⟨⟨Q, N, h1, h2, h5, h3, h4⟩, ho, hbx, hb⟩ := h
  have hba := below_alloc (Below.refl W.heap.size W) o
  have ho2 := blk_keep ho hba
  have hb2 := below_alloc hb o
  refine (pop_calls xb _ Q N l (hpl_below h1 hba) (by omega) hl).mono fun e w' ⟨p1, p2, hk⟩ => ⟨p1, ⟨⟨Q, _, p2, h2, h5, ?_, by omega⟩, (hk.block bx (lt_blk ho2) h5).trans ho2, hbx, hb2.trans (hk.below hb2.size (fun j hj hn => by have := h2 j hn; omega))⟩, (hk.block W.heap.size (by rw [alloc_size]; omega) (fun q => by have := h1.own _ q; omega)).trans (blk_new W o)⟩
  exact Kd.F_step (Kd.F_alloc h3 o) (fun k ho hl => hk.block k hl ho.1)
/-- The variable is laid anew. -/
theorem pb_put (h : PpB w xb bx y l L A B W) (z : Th) : PpB w xb bx z l L A B (((W.setCell ⟨bx, 0, none⟩ (.int .i64 z.f0)).setCell ⟨bx, 1, none⟩ (.int .i64 z.f1)).setCell ⟨bx, 2, none⟩ (.int .i64 z.f2)) := by
  obtain ⟨⟨Q, N, h1, h2, h5, h3, h4⟩, ho, hbx, hb⟩ := h
  have e : ((W.setCell ⟨bx, 0, none⟩ (.int .i64 z.f0)).setCell ⟨bx, 1, none⟩ (.int .i64 z.f1)).setCell ⟨bx, 2, none⟩ (.int .i64 z.f2) = W.setCells bx 0 [.int .i64 z.f0, .int .i64 z.f1, .int .i64 z.f2] := rfl
  have hbx2 := blk_put (blk_put (blk_put ho 0 (.int .i64 z.f0) rfl) 1 (.int .i64 z.f1) rfl) 2 (.int .i64 z.f2) rfl
  have hg := grown_cells W bx 0 [.int .i64 z.f0, .int .i64 z.f1, .int .i64 z.f2]
  rw [← e] at hg
  refine ⟨⟨Q, N, ?_, h2, h5, ?_, h4⟩, hbx2, hbx, below_set (below_set (below_set hb hbx) hbx) hbx⟩
  · exact hpl_keep (Q' := fun k => k = bx) h1 ⟨hg.1.os, hg.1.tape, hg.1.output, hg.1.size, fun k hk hn => hg.1.block k hk (fun e => by injection e with e; exact hn e)⟩ (fun j hj e => h5 (e ▸ hj))
  · exact Kd.F_step h3 (fun k ho hl => hg.1.block k hl (fun e => by injection e with e; exact ho.2 e))
end
theorem ahead_c (x y : Th) (w : World) (b : Bool) (hb : decide (ahd x y) = b) : Calls Try.prog 34 #[.agg #[.int .i64 x.f0, .int .i64 x.f1, .int .i64 x.f2], .agg #[.int .i64 y.f0, .int .i64 y.f1, .int .i64 y.f2]] w fun e w' => e = .returned (.bool b) ∧ Below w.heap.size w w' := by
  subst hb
  exact (tallymanref13_Ahead.calls _ _ _ _ _ _ _ w (ahead_ref x y)).mono fun e w' h => ⟨h.1, by first | exact h.2 | exact h.2.below⟩
/-- A heap that is being filled. -/
structure FillI (w : World) (xb i : Nat) (wr : World) : Prop where
  ex : ∃ L, HpC w.heap.size wr xb (i * 3000) L ∧ L.length ≤ i
  below : Below w.heap.size w wr
def yOf (L : List Th) (j : Nat) : Th := if j = 0 then ⟨0, 0, 0⟩ else atH L (j - 1)
theorem has_head (L : List Th) (j : Nat) (hj : j < L.length) : hasV (L.drop j) (atH L j).f0 = .tuple #[.int .i64 (atH L j).f1, .int .i64 (atH L j).f2, .bool true] := by
  have e : findH (L.drop j) (atH L j).f0 = some (atH L j) := by rw [drop_at L j hj]; exact List.find?_cons_of_pos (by simp)
  unfold hasV
  rw [e]
theorem sort_next {L : List Th} (h : SortH L) {j : Nat} (h0 : 0 < j) (hj : j < L.length) : ahd (yOf L j) (atH L j) := by
  unfold yOf
  rw [if_neg (by omega), atH_get L (j - 1) (by omega), atH_get L j hj]
  exact List.pairwise_iff_getElem.1 h (j - 1) j (by omega) hj (by omega)
set_option maxHeartbeats 8000000 in
set_option maxRecDepth 100000 in
theorem pops_calls (A0 : Option Addr) (c0 : Nat) (l : List Th) (w : World) (hC : Kd.C k37 w A0 l.length l) (hw : ∀ p ∈ l, wfT p) :
    Calls Try.prog 7 #[.slice A0 l.length c0] w fun e w' => e = .returned (.bool true) ∧ Below w.heap.size w w' := by
  by_cases hl : l.length > 60
  · have t0 : decide (60 < l.length) = true := by simp; exact hl
    go_enter Try.func7, Try.ntmps7
    go_wp2_with (first | (go_at_call 20; (with_reducible refine (alive13_calls _).mono ?_); rintro e w1 ⟨rfl, hb1⟩; have HB1 := Aside0.mk hb1; clear hb1))
    go_ret
    exact ⟨rfl, HB1.out⟩
  have t0 : decide (60 < l.length) = false := by simp; omega
  have HC := Aside0.mk hC
  have HW := Aside0.mk hw
  have HL : Aside0 (l.length ≤ 60) := ⟨by omega⟩
  clear hC hw
  go_enter Try.func7, Try.ntmps7
  go_wp2_with (first | (go_at_call 21; (with_reducible refine (new_c _).mono ?_); rintro e w1 ⟨xb, rfl, hp1, hb1⟩; have HST := Aside0.mk (show FillI w xb 0 w1 from ⟨⟨[], hp1, Nat.le_refl _⟩, hb1⟩); clear hp1 hb1))
  go_loopw [30] (fun v wr => ∃ i : Nat, i ≤ l.length ∧ v = .int .i64 i ∧ Aside0 (FillI w xb i wr)) (fun v _ => l.length - (intOf v).toNat)
  case atStart => exact ⟨0, Nat.zero_le _, rfl, HST⟩
  case round =>
    obtain ⟨i, hi, rfl, HF⟩ := hrel
    by_cases hlt : i < l.length
    · obtain ⟨ad, hA, x0, x1, x2⟩ := at_T37 (Kd.C_below HC.out HF.out.below) (i : Int) (by omega) (by omega)
      subst hA
      rw [Int.toNat_natCast, rd37] at x0 x1 x2
      have hwl : wfT (atH l i) := by rw [atH_get l i hlt]; exact HW.out _ (List.getElem_mem hlt)
      have HWX : Aside0 (wfI (atH l i).f0) := ⟨hwl.1⟩
      have lp : (i : Int) < (l.length : Int) := by omega
      obtain ⟨x, hx⟩ : ∃ x, atH l i = x := ⟨_, rfl⟩
      rw [hx] at x0 x1 x2 HWX
      obtain ⟨L, hp, hLi⟩ := HF.out.ex
      have hba := below_alloc (Below.refl wr.heap.size wr) (.cells #[.int .i64 x.f0, .int .i64 x.f1, .int .i64 x.f2] 37)
      have HP := Aside0.mk (put_c (hpc_below hp hba) (Nat.le_trans HF.out.below.size hba.size) x HWX.out (by have := HL.out; omega) (by have := HL.out; omega) _ _ rfl rfl)
      have HB := Aside0.mk (below_step HF.out.below hba)
      have HLN : Aside0 ((putH L x).length ≤ i + 1) := ⟨by have := row_len (l := L) (x := x) (by have := HL.out; omega); omega⟩
      have hb3 : l.length ≤ 60 := HL.out
      clear hwl hx hp hLi hba
      go_wp2_with (first | (go_at_call 22; (with_reducible refine (HP.out).mono ?_); rintro e w2 ⟨rfl, h2, hb2⟩; have H2 := Aside0.mk h2; have HB2 := Aside0.mk (HB.out.trans hb2); clear h2 hb2))
      go_roundw
      case rel => exact ⟨i + 1, by omega, by go_num, ⟨⟨_, by have h := H2.out; rw [show i * 3000 + 3000 = (i + 1) * 3000 by omega] at h; exact h, HLN.out⟩, HB2.out⟩⟩
      case measure => simp [intOf]; omega
    · obtain rfl : i = l.length := by omega
      obtain ⟨L, hp, hLi⟩ := HF.out.ex
      have HLL : Aside0 (L.length ≤ 60) := ⟨Nat.le_trans hLi HL.out⟩
      have HS : Aside0 (SortH L) := ⟨by obtain ⟨Q, h1, _⟩ := hp; exact h1.row.sort⟩
      have HAL := Aside0.mk (pa_all hp HF.out.below (by have := HLL.out; omega) (show l.length * 3000 ≤ 200000 by have := HL.out; omega))
      clear hp hLi HST
      go_wp2_with (first
        | (go_at_call 32; (with_reducible refine (HAL.out).mono ?_); rintro e w2 ⟨A2, c2, rfl, hc2, h2⟩; have H2 := Aside0.mk h2; clear h2 hc2)
        | (go_at_call 30; (with_reducible refine (pa_len H2.out).mono ?_); rintro e w3 ⟨rfl, h3⟩; have H3 := Aside0.mk h3; clear h3))
      have HST2 := Aside0.mk (pa_box H3.out ⟨0, 0, 0⟩)
      go_loopw [52] (fun v wr => ∃ j : Nat, j ≤ L.length ∧ v = .int .i64 j ∧ Aside0 (PpB w xb w3.heap.size (yOf L j) (L.drop j) L A2 (200000 + j * 3000) wr)) (fun v _ => L.length - (intOf v).toNat)
      case atStart => exact ⟨0, Nat.zero_le _, rfl, ⟨by rw [List.drop_zero]; exact HST2.out⟩⟩
      case round =>
        obtain ⟨j, hj, rfl, HP⟩ := hrel
        by_cases hjt : j < L.length
        · obtain ⟨ad, hA, z0⟩ := pb_id HP.out j hjt
          subst hA
          have lp : (j : Int) < (L.length : Int) := by omega
          have hdr := drop_at L j hjt
          have hwx : wfI (atH L j).f0 := pb_wf HP.out (by rw [hdr]; exact List.mem_cons_self ..)
          have hh := has_head L j hjt
          have hb4 : L.length ≤ 60 := HLL.out
          have hdl : (L.drop j).length ≤ 1000 := by rw [List.length_drop]; omega
          have HN := Aside0.mk (show 0 < j → ahd (yOf L j) (atH L j) from fun h => sort_next HS.out h hjt)
          have HY : Aside0 (yOf L (j + 1) = atH L j) := ⟨by unfold yOf; rw [if_neg (by omega)]; rfl⟩
          obtain ⟨x, hx⟩ : ∃ x, atH L j = x := ⟨_, rfl⟩
          obtain ⟨y, hy⟩ : ∃ y, yOf L j = y := ⟨_, rfl⟩
          rw [hx] at z0 hdr hwx hh HN HY
          rw [hy] at HN HP
          have HHS := Aside0.mk (pb_has HP.out x.f0 hwx hh)
          have HPP := fun W (h : PpB w xb w3.heap.size y (L.drop j) L (some ad) (200000 + j * 3000) W) => Aside0.mk (show Calls Try.prog 26 #[.pointer (some ⟨xb, 0, none⟩)] (W.alloc (.cells #[.int .i64 x.f0, .int .i64 x.f1, .int .i64 x.f2] 37)) (fun e w' => e = .returned (.tuple #[.int .i64 x.f0, .bool true]) ∧ PpB w xb w3.heap.size y (L.drop (j + 1)) L (some ad) (200000 + j * 3000 + 3000) w' ∧ w'.heap[W.heap.size]? = some (.cells #[.int .i64 x.f0, .int .i64 x.f1, .int .i64 x.f2] 37)) from by
            have h2 := pb_pop_box h (by omega) hdl (.cells #[.int .i64 x.f0, .int .i64 x.f1, .int .i64 x.f2] 37)
            rw [hdr] at h2
            exact h2)
          have HPE := fun (W : World) (h : PpB w xb w3.heap.size y (L.drop (j + 1)) L (some ad) (200000 + j * 3000 + 3000) W) => (show PpB w xb w3.heap.size (yOf L (j + 1)) (L.drop (j + 1)) L (some ad) (200000 + (j + 1) * 3000) _ from by
            have h2 := pb_put h x
            rw [HY.out, show 200000 + (j + 1) * 3000 = 200000 + j * 3000 + 3000 by omega]
            exact h2)
          have HPE := Aside0.mk HPE
          clear hdr hwx hh hdl hx hy HST2
          by_cases hj0 : 0 < j
          · have gt : decide (0 < j) = true := by simp; exact hj0
            have HAH := fun W => Aside0.mk (ahead_c y x W true (decide_eq_true (HN.out hj0)))
            go_wp2_with (first
              | (go_at_call 28; (with_reducible refine (HHS.out).mono ?_); rintro e w4 ⟨rfl, h4⟩; have H4 := Aside0.mk h4; clear h4)
              | (go_at_call 26; (with_reducible refine ((HPP _ H4.out).out).mono ?_); rintro e w5 ⟨rfl, h5, hb5⟩; have H5 := Aside0.mk h5; have HX5 := Aside0.mk hb5; have q0 := blk_cell h5.box 0; have q1 := blk_cell h5.box 1; have q2 := blk_cell h5.box 2; have r0 := blk_cell hb5 0; have r1 := blk_cell hb5 1; have r2 := blk_cell hb5 2; clear h5 hb5)
              | (go_at_call 34; (with_reducible refine ((HAH _).out).mono ?_); rintro e w6 ⟨rfl, hb6⟩; have H6 := Aside0.mk (pb_below H5.out hb6); have hb7 := blk_keep HX5.out hb6; clear q0 q1 q2 r0 r1 r2; have q0 := blk_cell H6.out.box 0; have q1 := blk_cell H6.out.box 1; have q2 := blk_cell H6.out.box 2; have qf0 := blk_frozen H6.out.box 0; have qf1 := blk_frozen H6.out.box 1; have qf2 := blk_frozen H6.out.box 2; have r0 := blk_cell hb7 0; have r1 := blk_cell hb7 1; have r2 := blk_cell hb7 2; clear hb6 hb7))
            go_roundw
            case rel => exact ⟨j + 1, by omega, by go_num, ⟨HPE.out _ H6.out⟩⟩
            case measure => simp [intOf]; omega
          · have gt : decide (0 < j) = false := by simp; omega
            go_wp2_with (first
              | (go_at_call 28; (with_reducible refine (HHS.out).mono ?_); rintro e w4 ⟨rfl, h4⟩; have H4 := Aside0.mk h4; clear h4)
              | (go_at_call 26; (with_reducible refine ((HPP _ H4.out).out).mono ?_); rintro e w5 ⟨rfl, h5, hb5⟩; have H5 := Aside0.mk h5; have q0 := blk_cell h5.box 0; have q1 := blk_cell h5.box 1; have q2 := blk_cell h5.box 2; have qf0 := blk_frozen h5.box 0; have qf1 := blk_frozen h5.box 1; have qf2 := blk_frozen h5.box 2; have r0 := blk_cell hb5 0; have r1 := blk_cell hb5 1; have r2 := blk_cell hb5 2; clear h5 hb5))
            go_roundw
            case rel => exact ⟨j + 1, by omega, by go_num, ⟨HPE.out _ H5.out⟩⟩
            case measure => simp [intOf]; omega
        · obtain rfl : j = L.length := by omega
          have HP0 : Aside0 (PpB w xb w3.heap.size (yOf L L.length) [] L A2 (200000 + L.length * 3000) wr) := ⟨by have h := HP.out; rw [List.drop_length] at h; exact h⟩
          have HPP := Aside0.mk (show Calls Try.prog 26 #[.pointer (some ⟨xb, 0, none⟩)] wr (fun e w' => e = .returned (.tuple #[.int .i64 0, .bool false]) ∧ PpB w xb w3.heap.size (yOf L L.length) [] L A2 (200000 + L.length * 3000 + 3000) w') from pb_pop HP0.out (by have := HLL.out; omega) (by decide))
          have HLE := fun W (h : PpB w xb w3.heap.size (yOf L L.length) [] L A2 (200000 + L.length * 3000 + 3000) W) => Aside0.mk (show Calls Try.prog 30 #[.pointer (some ⟨xb, 0, none⟩)] W (fun e w' => e = .returned (.int .i64 0) ∧ PpB w xb w3.heap.size (yOf L L.length) [] L A2 (200000 + L.length * 3000 + 3000) w') from pb_lenc h)
          clear HP HST2
          go_wp2_with (first
            | (go_at_call 26; first | ((with_reducible refine (HPP.out).mono ?_); rintro e w4 ⟨rfl, h4⟩; have H6 := Aside0.mk h4; clear h4) | ((with_reducible refine (pop_none _).mono ?_); rintro e w5 ⟨rfl, hb⟩; have H6 := Aside0.mk (pb_below H6.out hb); clear hb))
            | (go_at_call 27; (with_reducible refine (first_none _).mono ?_); rintro e w5 ⟨rfl, hb⟩; have H6 := Aside0.mk (pb_below H6.out hb); clear hb)
            | (go_at_call 30; first | ((with_reducible refine ((HLE _ H6.out).out).mono ?_); rintro e w5 ⟨rfl, h5⟩; have H6 := Aside0.mk h5; clear h5) | ((with_reducible refine (len_none _).mono ?_); rintro e w5 ⟨rfl, hb⟩; have H6 := Aside0.mk (pb_below H6.out hb); clear hb))
            | (go_at_call 22; (with_reducible refine (put_none _ _ _ _).mono ?_); rintro e w5 ⟨rfl, hb⟩; have H6 := Aside0.mk (pb_below H6.out hb); clear hb)
            | (go_at_call 24; (with_reducible refine (drop_none _ _).mono ?_); rintro e w5 ⟨rfl, hb⟩; have H6 := Aside0.mk (pb_below H6.out hb); clear hb)
            | (go_at_call 20; (with_reducible refine (alive13_calls _).mono ?_); rintro e w9 ⟨rfl, hb9⟩; have HB9 := Aside0.mk (below_step H6.out.below hb9); clear hb9))
          go_ret
          exact ⟨rfl, HB9.out⟩
def tallymanlaw13_HeapPops.Pure : Prop := True
theorem tallymanlaw13_HeapPops.walk (P : tallymanlaw13_HeapPops.Pure) (a0 : Option Addr) (len0 cap0 : Nat) (w : World) {H : Type} {enc : TypeId × Value → H} {d : DataW H} {p : List MemPlace} (h0 : DataW.Trod enc Try.prog w 0 (fun _ => true) true 35 (.slice a0 len0 cap0) d p) :
    Calls Try.prog 7 #[.slice a0 len0 cap0] w fun e w' => e = .returned (.bool true) ∧ Below w.heap.size w w' := by
  obtain ⟨fuel, hf⟩ := h0
  obtain ⟨l, ⟨A, c, e, hc, hC⟩, hw⟩ := Tr35 _ _ _ _ _ _ hf
  simp [Value.cells] at e
  obtain ⟨rfl, rfl, rfl⟩ := e
  exact pops_calls _ _ l w hC hw
end Go.Proofs.Ytopblnecdabcgaa.P
end
section
/- HeapPops: nothing is left to show. -/
namespace Go.Proofs.Ytopblnecdabcgaa.Pure
theorem HeapPops : P.tallymanlaw13_HeapPops.Pure := trivial
end Go.Proofs.Ytopblnecdabcgaa.Pure
end
