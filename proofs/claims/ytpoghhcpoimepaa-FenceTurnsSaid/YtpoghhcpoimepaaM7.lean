/- Several texts of this proof in one: what the law's functions come to, and the lemmas (some as the kit's print.sh printed them, what is not used struck). -/
import Derived.Test.YtpoghhcpoimepaaM2
import Derived.Test.YtpoghhcpoimepaaM3
import Derived.Test.YtpoghhcpoimepaaM5
import Derived.Test.YtpoghhcpoimepaaM6
import Derived.Test.YtpoghhcpoimepaaM4
section
-- printed by the session's own call of print.py. Not trusted: Lean checks it.
namespace Go.Proofs.Ytpoghhcpoimepaa.P
open Go.RowKit Go.Proofs.YtpoghhcpoimepaaW.PrintWords Go.Proofs.YtpoghhcpoimepaaW.PrintLast Go.Proofs.YtpoghhcpoimepaaW.PrintMore
attribute [local go_sem] max2_int min2_int max_two min_two max_three min_three max_four min_four
set_option linter.unusedVariables false
set_option linter.unusedSimpArgs false
/-! ### tallymanref06_Move: function 25 -/
def tallymanref06_Move.l0 : Nat → List (S24) → List (S24) → Int → Int → Int → Int → Option ((List (S24)))
  | 0, _, _, _, _, _, _ => none
  | k + 1, x1, x5, x6, x102000, x102001, x102002 => if x6 < (x1.length : Int) then (if 0 ≤ x6 then ((tallymanref04_Do.f x102000 x102001 x102002 ((rd_T24 x1 x6).f0) ((rd_T24 x1 x6).f1)).bind fun bt103 => (if x5.length < 8796093022208 then (tallymanref06_Move.l0 k x1 (x5 ++ [(⟨bt103.1, bt103.2⟩ : S24)]) (wrap64 (x6 + 1)) x102000 x102001 x102002) else (none))) else (none)) else (some x5)
def tallymanref06_Move.f (k : Nat) (a0_0 : Int) (a0_1 : Int) (a0_2 : Int) (l1 : List (S24)) : Option ((List (S24))) := tallymanref06_Move.l0 k l1 ([] : List (S24)) 0 a0_0 a0_1 a0_2
theorem tallymanref06_Move.mono_l : ∀ k, (∀ y0 y1 y2 y3 y4 y5, LeO (tallymanref06_Move.l0 k y0 y1 y2 y3 y4 y5) (tallymanref06_Move.l0 (k + 1) y0 y1 y2 y3 y4 y5))
  | 0 => fun _ _ _ _ _ _ r h => by simp [tallymanref06_Move.l0] at h
  | k + 1 => by
    have ih0 := tallymanref06_Move.mono_l k
    · intro y0 y1 y2 y3 y4 y5
      unfold tallymanref06_Move.l0
      repeat' first
      | (with_reducible exact ih0 _ _ _ _ _ _)
      | (with_reducible exact LeO.refl _)
      | (with_reducible exact LeO.none _)
      | (with_reducible refine LeO.ite ?_ ?_)
      | (with_reducible refine LeO.bind ?_ (fun _ => ?_))
      | exact ih0 _ _ _ _ _ _
      | exact LeO.none _
      | refine LeO.ite ?_ ?_
      | refine LeO.bind ?_ (fun _ => ?_)
theorem tallymanref06_Move.mono : ∀ a0 a1 a2 a3 k, LeO (tallymanref06_Move.f k a0 a1 a2 a3) (tallymanref06_Move.f (k + 1) a0 a1 a2 a3) := by
  intro a0 a1 a2 a3 k
  have ih0 := tallymanref06_Move.mono_l k
  unfold tallymanref06_Move.f
  repeat' first
      | (with_reducible exact ih0 _ _ _ _ _ _)
      | (with_reducible exact LeO.refl _)
      | (with_reducible exact LeO.none _)
      | (with_reducible refine LeO.ite ?_ ?_)
      | (with_reducible refine LeO.bind ?_ (fun _ => ?_))
      | exact ih0 _ _ _ _ _ _
      | exact LeO.none _
      | refine LeO.ite ?_ ?_
      | refine LeO.bind ?_ (fun _ => ?_)
end Go.Proofs.Ytpoghhcpoimepaa.P
end
section
/- Fences: where a motion brings the corners (plain). -/
namespace Go.Proofs.Ytpoghhcpoimepaa.P
open Go.Proofs.Ytpoghhcpoimepaa.B Go.RowKit Go.Proofs.YtpoghhcpoimepaaW.PrintWords Go.Proofs.YtpoghhcpoimepaaW.PrintLast Go.Proofs.YtpoghhcpoimepaaW.PrintMore Go.Proofs.Ytpoghhcpoimepaa.FX Go.Proofs.Ytpoghhcpoimepaa.H
set_option linter.unusedVariables false
set_option linter.unusedSimpArgs false
def mvB (n x y : Int) (p : S24) : S24 := ⟨(doBy n x y p.f0 p.f1).1, (doBy n x y p.f0 p.f1).2⟩
theorem rdL (l : List S24) (i : Nat) (h : i < l.length) : rd_T24 l (i : Int) = l[i] := by rw [rdP l i h, atP_get l i h]
theorem move_loop (n x y : Int) (l : List S24) (hl : l.length ≤ 1000) : ∀ (d i : Nat) (acc : List S24), i + d = l.length → acc.length = i → Ev (fun k => fence_Move.l0 k acc l (l.length : Int) (i : Int) n x y) (acc ++ (l.drop i).map (mvB n x y)) := by
  intro d
  induction d with
  | zero =>
    intro i acc hi ha
    rw [List.drop_eq_nil_of_le (by omega), List.map_nil, List.append_nil]
    refine Ev.step (fun k => ?_) (Ev.now _)
    rw [fence_Move.l0, if_neg (by omega)]
  | succ d ih =>
    intro i acc hi ha
    have hlt : i < l.length := by omega
    have ih' := ih (i + 1) (acc ++ [mvB n x y l[i]]) (by omega) (by rw [List.length_append, ha]; rfl)
    rw [List.append_assoc] at ih'
    rw [List.drop_eq_getElem_cons hlt, List.map_cons]
    refine Ev.step (fun k => ?_) ih'
    rw [fence_Move.l0, if_pos (by omega), if_pos (by omega), if_pos (by omega), motion_Do.f, Option.bind_some, if_pos (by omega), rdL l i hlt, n64 (by omega) (by omega)]
    rfl
theorem move_ev (n x y : Int) (l : List S24) (hl : l.length ≤ 1000) : Ev (fun k => fence_Move.f k n x y l) (l.map (mvB n x y)) := by
  have := move_loop n x y l hl l.length 0 [] (by omega) rfl
  rwa [List.drop_zero, List.nil_append] at this
/-- Small points are brought where so many quarters and a shift bring them. -/
theorem mvB_small (n x y : Int) (p : S24) (hp : smallP p) : mvB n x y p = mvP (qt n) (fx x) (fx y) p := by
  unfold mvB doBy
  rw [hp.1, hp.2]
  have hq := qt_lt n
  generalize qt n = q at hq ⊢
  have hq : q = 0 ∨ q = 1 ∨ q = 2 ∨ q = 3 := by omega
  rcases hq with h | h | h | h <;> subst h <;> simp [cm, ip, mvP] <;> omega
end Go.Proofs.Ytpoghhcpoimepaa.P
end
section
/- Fences the other way round. -/
namespace Go.Proofs.Ytpoghhcpoimepaa.P
open Go.Proofs.Ytpoghhcpoimepaa.B Go.RowKit Go.Proofs.YtpoghhcpoimepaaW.PrintWords Go.Proofs.YtpoghhcpoimepaaW.PrintLast Go.Proofs.YtpoghhcpoimepaaW.PrintMore Go.Proofs.Ytpoghhcpoimepaa.FX Go.Proofs.Ytpoghhcpoimepaa.H
set_option linter.unusedVariables false
set_option linter.unusedSimpArgs false
theorem atP_rev (l : List S24) (j : Nat) (hj : j < l.length) : atP l.reverse j = atP l (l.length - 1 - j) := by
  rw [atP_get l.reverse j (by rw [List.length_reverse]; exact hj), atP_get l (l.length - 1 - j) (by omega), List.getElem_reverse]
theorem sumTo_head (g : Nat → Int) : ∀ n, sumTo g (n + 1) = g 0 + sumTo (fun j => g (j + 1)) n := by
  intro n
  induction n with
  | zero => simp only [sumTo]; omega
  | succ n ih => rw [sumTo, ih, sumTo]; omega
theorem sumTo_flip (g : Nat → Int) : ∀ n, sumTo (fun j => g (n - 1 - j)) n = sumTo g n := by
  intro n
  induction n with
  | zero => rfl
  | succ n ih =>
    rw [sumTo_head, show n + 1 - 1 - 0 = n by omega, sumTo]
    have : sumTo (fun j => g (n + 1 - 1 - (j + 1))) n = sumTo (fun j => g (n - 1 - j)) n := sumTo_congr n (fun j _ => by rw [show n + 1 - 1 - (j + 1) = n - 1 - j by omega])
    rw [this, ih]; omega
theorem atP_rev_next (l : List S24) (h0 : 0 < l.length) (j : Nat) (hj : j < l.length) : atP l.reverse (j + 1) = atP l (l.length - 1 - j + l.length - 1) := by
  rcases Nat.lt_or_ge (j + 1) l.length with h | h
  · rw [atP_rev l (j + 1) h, show l.length - 1 - j + l.length - 1 = l.length - 1 - (j + 1) + l.length by omega, atP_add]
  · have e := atP_add l.reverse 0
    rw [List.length_reverse] at e
    rw [show j + 1 = 0 + l.length by omega, e, atP_rev l 0 h0]
    congr 1
    omega
/-- What changes its sign with the way of an edge does so with the way of a ring. -/
theorem sum_rev (l : List S24) (h0 : 0 < l.length) (h : S24 → S24 → Int) (ha : ∀ a b, h b a = -h a b) :
    sumTo (fun j => h (atP l.reverse j) (atP l.reverse (j + 1))) l.length = -sumTo (fun j => h (atP l j) (atP l (j + 1))) l.length := by
  have e1 : sumTo (fun j => h (atP l.reverse j) (atP l.reverse (j + 1))) l.length = sumTo (fun j => (fun m => h (atP l m) (atP l (m + l.length - 1))) (l.length - 1 - j)) l.length :=
    sumTo_congr _ (fun j hj => by rw [atP_rev l j hj, atP_rev_next l h0 j hj])
  rw [e1, sumTo_flip (fun m => h (atP l m) (atP l (m + l.length - 1))) l.length]
  have e2 : sumTo (fun m => h (atP l m) (atP l (m + l.length - 1))) l.length = sumTo (fun m => -1 * h (atP l (m + l.length - 1)) (atP l m)) l.length := sumTo_congr _ (fun m _ => by rw [ha]; omega)
  rw [e2, sumTo_mul]
  have e3 : sumTo (fun m => h (atP l (m + l.length - 1)) (atP l m)) l.length = sumTo (fun j => h (atP l j) (atP l (j + 1))) l.length := by
    obtain ⟨n, hn⟩ : ∃ n, l.length = n + 1 := ⟨l.length - 1, by omega⟩
    rw [hn, sumTo_head, sumTo]
    have e4 : sumTo (fun j => h (atP l (j + 1 + (n + 1) - 1)) (atP l (j + 1))) n = sumTo (fun j => h (atP l j) (atP l (j + 1))) n := sumTo_congr _ (fun j _ => by
      have := atP_add l j
      rw [hn] at this
      rw [show j + 1 + (n + 1) - 1 = j + (n + 1) by omega, this])
    rw [e4]
    have e5 := atP_add l 0
    rw [hn] at e5
    rw [show 0 + (n + 1) - 1 = n by omega, ← e5, Nat.zero_add]
    omega
  rw [e3]
  omega
theorem turn_symm (o a b : S24) : turnP b a o ↔ turnP o a b := by
  unfold turnP levelP steepP
  omega
theorem right_rev {l : List S24} (hR : RightP l) : RightP l.reverse := by
  have hn := hR.1
  refine ⟨by rw [List.length_reverse]; exact hn, fun j hj => ?_⟩
  rw [List.length_reverse] at hj ⊢
  have h0 : 0 < l.length := by omega
  have s := hR.2 (l.length - 1 - j) (by omega)
  rw [turn_step] at s ⊢
  refine ⟨by rw [atP_rev l j hj]; exact s.1, ?_⟩
  have e : atP l.reverse (j + l.length - 1) = atP l (l.length - 1 - j + 1) := by
    rcases Nat.eq_zero_or_pos j with rfl | hj0
    · rw [show 0 + l.length - 1 = l.length - 1 by omega, atP_rev l _ (by omega), show l.length - 1 - (l.length - 1) = 0 by omega, show l.length - 1 - 0 + 1 = 0 + l.length by omega, atP_add]
    · have e2 := atP_add l.reverse (j - 1)
      rw [List.length_reverse] at e2
      rw [show j + l.length - 1 = j - 1 + l.length by omega, e2, atP_rev l _ (by omega)]
      congr 1
      omega
  rw [e, atP_rev l j hj, atP_rev_next l h0 j hj, turn_symm]
  exact s.2
theorem area_rev {l : List S24} (hR : RightP l) : areaV l.reverse = -areaV l := by
  unfold areaV
  rw [if_pos (right_rev hR), if_pos hR, List.length_reverse, sum_rev l (by have := hR.1; omega) crs (fun a b => by unfold crs; rw [Int.mul_comm b.f0, Int.mul_comm b.f1]; omega)]
  exact Int.neg_tdiv _ _
theorem cell_rev {l : List S24} (hR : RightP l) (x y : Int) : cellV l.reverse x y = -cellV l x y := by
  unfold cellV
  rw [if_pos (right_rev hR), if_pos hR, List.length_reverse]
  exact sum_rev l (by have := hR.1; omega) (fun a b => cellS a.f0 a.f1 b.f0 b.f1 x y) (fun a b => by
    rw [cellS_stp, cellS_stp]
    by_cases h : a.f1 = b.f1
    · rw [if_pos h, if_pos h.symm, ← h, ← Int.mul_neg]; congr 1; omega
    · rw [if_neg h, if_neg (fun e => h e.symm)]; rfl)
end Go.Proofs.Ytpoghhcpoimepaa.P
end
section
-- printed by the session's own call of print.py. Not trusted: Lean checks it.
namespace Go.Proofs.Ytpoghhcpoimepaa.P
open Go.RowKit Go.Proofs.YtpoghhcpoimepaaW.PrintWords Go.Proofs.YtpoghhcpoimepaaW.PrintLast Go.Proofs.YtpoghhcpoimepaaW.PrintMore
attribute [local go_sem] max2_int min2_int max_two min_two max_three min_three max_four min_four
set_option linter.unusedVariables false
set_option linter.unusedSimpArgs false
/-! ### tallymanref04_Small: function 22 -/
def tallymanref04_Small.f (a0_0 : Int) (a0_1 : Int) (a0_2 : Int) (a1 : Int) : Option (Bool) := (tallymanref03_Small.f a0_1 a0_2 a1).bind fun t102 => (some t102)
set_option maxHeartbeats 8000000 in
set_option maxRecDepth 100000 in
theorem tallymanref04_Small.calls (a0_0 : Int) (a0_1 : Int) (a0_2 : Int) (a1 : Int) (r : Bool) (w : World) (h : tallymanref04_Small.f a0_0 a0_1 a0_2 a1 = some r) :
    Calls Try.prog 22 #[.agg #[.int .i64 a0_0, .int .i64 a0_1, .int .i64 a0_2], .int .i64 a1] w fun e w' => e = .returned (.bool r) ∧ Below w.heap.size w w' := by
  have hu34 := Try.underlying34
  have hu24 := Try.underlying24
  have HB := Aside0.mk (Below.refl w.heap.size w)
  have H : ((tallymanref03_Small.f a0_1 a0_2 a1).bind fun t102 => (some t102)) = some r := h
  clear h
  replace H := Option.bind_eq_some_iff.mp H
  obtain ⟨t102, A30, H⟩ := H
  replace H : (some t102) = some r := H
  have A3 := Aside0.mk A30
  clear A30
  obtain rfl := Option.some.inj H
  go_enter Try.func22, Try.ntmps22
  go_wp2_with (first | ((with_reducible refine gate_dst (N := 2) rfl ?_); refine box_event ?hg (N := 2) ?hd (cs := #[.int .i64 a0_0, .int .i64 a0_1, .int .i64 a0_2]) (t := 34) ?hr ?_; (case hd => rfl); (case hg => rfl); (case hr => first | (go_simp; done) | (go_simp; rfl)); intro gb101 hg w4 hbox hb; have n0_ := Aside0.mk (below_step (by repeat (first | (with_reducible first | exact HB.out | apply below_alloc | apply pw_below_drewN | apply below_drew1) | exact HB.out)) hb); have n1_ := Aside0.mk (hbox); have n2_ := Aside0.mk ((by rw [hg]; exact (below_size (by repeat (first | (with_reducible first | exact HB.out | apply below_alloc | apply pw_below_drewN | apply below_drew1) | exact HB.out))) : w.heap.size ≤ gb101)); have n3_ := Aside0.mk ((by rw [hg]; exact (below_size (by repeat (first | (with_reducible first | exact HB.out | apply below_alloc | apply pw_below_drewN | apply below_drew1) | exact HB.out))) : w.heap.size ≤ gb101)); clear HB; have HB := n0_; have BK101 := n1_; have GW101 := n2_; have GE101 := n3_; clear n0_ n1_ n2_ n3_; clear hb hbox hg; have hcz5_0 : w4.cell? ⟨gb101, 0, none⟩ = some (.int .i64 a0_0) := (blk_cell BK101.out 0).trans rfl; have hcz5_1 : w4.cell? ⟨gb101, 1, none⟩ = some (.int .i64 a0_1) := (blk_cell BK101.out 1).trans rfl; have hcz5_2 : w4.cell? ⟨gb101, 2, none⟩ = some (.int .i64 a0_2) := (blk_cell BK101.out 2).trans rfl; have hfz5_0 := blk_frozen BK101.out 0; have hfz5_1 := blk_frozen BK101.out 1; have hfz5_2 := blk_frozen BK101.out 2) | ((with_reducible refine gate_callee (f := 18) rfl ?_); refine goesL_ (some 8) rfl rfl Try.func18 (by kernel_rfl) rfl #[.agg #[.int .i64 a0_1, .int .i64 a0_2], .int .i64 a1] rfl (by (try simp only [List.map_toArray, List.map_cons, List.map_nil]); first | done | rfl | (simp only [List.length_drop, List.length_take]; rfl)) ?_; (with_reducible refine (tallymanref03_Small.calls a0_1 a0_2 a1 t102 _ A3.out).mono ?_); rintro e w6 ⟨rfl, hb⟩; refine ⟨_, rfl, ?_⟩; have n0_ := Aside0.mk (blk_below (g := gb101) (o := .cells #[.int .i64 a0_0, .int .i64 a0_1, .int .i64 a0_2] 34 (0, 0)) (by (with_reducible repeat (first | refine blk_drewN ?_ _ | refine blk_drew ?_ | refine blk_alloc ?_ _)); exact BK101.out) hb); have n1_ := Aside0.mk (below_step (by repeat (first | (with_reducible first | exact HB.out | apply below_alloc | apply pw_below_drewN | apply below_drew1 | refine below_set ?_ GE101.out) | exact HB.out)) hb); clear BK101; clear HB; have BK101 := n0_; have HB := n1_; clear n0_ n1_; (try clear hb); (try clear hb2); (try clear hk); (try clear hi)))
  go_ret
  exact ⟨by first | rfl | ((repeat first | rw [Int.tdiv_eq_ediv_of_nonneg (by omega)] | rw [Int.tmod_eq_emod_of_nonneg (by omega)]); rfl) | (simp [errW_none, errW_some] <;> rfl) | (simp [*, errW_none, errW_some] <;> rfl), by repeat (first | (with_reducible first | exact HB.out | apply below_alloc | apply pw_below_drewN | apply below_drew1 | refine below_set ?_ GE101.out) | exact HB.out)⟩
end Go.Proofs.Ytpoghhcpoimepaa.P
end
