/- Several texts of this proof in one: what the law's functions come to, and the lemmas (some as the kit's print.sh printed them, what is not used struck). -/
import Derived.Test.YtpoghhcpoimepaaM2
import Derived.Test.YtpoghhcpoimepaaM5
import Derived.Test.YtpoghhcpoimepaaM6
import Derived.Scope
section
-- printed by the session's own call of print.py. Not trusted: Lean checks it.
namespace Go.Proofs.Ytpoghhcpoimepaa.P
open Go.RowKit Go.Proofs.YtpoghhcpoimepaaW.PrintWords Go.Proofs.YtpoghhcpoimepaaW.PrintLast Go.Proofs.YtpoghhcpoimepaaW.PrintMore
attribute [local go_sem] max2_int min2_int max_two min_two max_three min_three max_four min_four
set_option linter.unusedVariables false
set_option linter.unusedSimpArgs false
/-! ### tallymanlaw06_FenceMeasures: function 3 -/
def tallymanlaw06_FenceMeasures.f (k : Nat) (l0 : List (S24)) (a1_0 : Int) (a1_1 : Int) : Option (Bool) := if (l0.length : Int) > 300 then ((tallymanlaw06_alive.f).bind fun t102 => (some t102)) else ((fence_Area.f l0).bind fun t103 => ((tallymanref06_Area.f k l0).bind fun t104 => (if t103 = t104 then ((fence_Cell.f l0 a1_0 a1_1).bind fun t105 => ((tallymanref06_Cell.f k l0 a1_0 a1_1).bind fun t106 => (if t105 = t106 then ((tallymanlaw06_alive.f).bind fun t107 => (some t107)) else (some false)))) else (some false))))
theorem tallymanlaw06_FenceMeasures.mono : ∀ a0 a1 a2 k, LeO (tallymanlaw06_FenceMeasures.f k a0 a1 a2) (tallymanlaw06_FenceMeasures.f (k + 1) a0 a1 a2) := by
  intro a0 a1 a2 k
  unfold tallymanlaw06_FenceMeasures.f
  repeat' first
      | (with_reducible exact tallymanref06_Area.mono _ _)
      | (with_reducible exact tallymanref06_Cell.mono _ _ _ _)
      | (with_reducible exact LeO.refl _)
      | (with_reducible exact LeO.none _)
      | (with_reducible refine LeO.ite ?_ ?_)
      | (with_reducible refine LeO.bind ?_ (fun _ => ?_))
      | exact tallymanref06_Area.mono _ _
      | exact tallymanref06_Cell.mono _ _ _ _
      | exact LeO.none _
      | refine LeO.ite ?_ ?_
      | refine LeO.bind ?_ (fun _ => ?_)
end Go.Proofs.Ytpoghhcpoimepaa.P
end
section
/- Fences: areas and cells; the law FenceMeasures. -/
namespace Go.Proofs.Ytpoghhcpoimepaa.P
open Go.Proofs.Ytpoghhcpoimepaa.B Go.RowKit Go.Proofs.YtpoghhcpoimepaaW.PrintWords Go.Proofs.YtpoghhcpoimepaaW.PrintLast Go.Proofs.YtpoghhcpoimepaaW.PrintMore Go.Proofs.Ytpoghhcpoimepaa.FX Go.Proofs.Ytpoghhcpoimepaa.H
set_option linter.unusedVariables false
set_option linter.unusedSimpArgs false
set_option maxRecDepth 100000 in
theorem alive06 : tallymanlaw06_alive.f = some true := by decide +kernel
end Go.Proofs.Ytpoghhcpoimepaa.P
end
section
/- fence.Box. -/
namespace Go.Proofs.Ytpoghhcpoimepaa.P
open Go.Proofs.Ytpoghhcpoimepaa.B Go.RowKit Go.Proofs.YtpoghhcpoimepaaW.PrintWords Go.Proofs.YtpoghhcpoimepaaW.PrintLast Go.Proofs.YtpoghhcpoimepaaW.PrintMore Go.Proofs.Ytpoghhcpoimepaa.FX Go.Proofs.Ytpoghhcpoimepaa.H
set_option linter.unusedVariables false
set_option linter.unusedSimpArgs false
attribute [local go_sem] max2_int min2_int max_two min_two
/-- The least and the greatest parts of the first points. -/
def bxT (l : List S24) : Nat → S24 × S24
  | 0 => (⟨0, 0⟩, ⟨0, 0⟩)
  | 1 => (atP l 0, atP l 0)
  | i + 2 => (⟨mn (bxT l (i + 1)).1.f0 (atP l (i + 1)).f0, mn (bxT l (i + 1)).1.f1 (atP l (i + 1)).f1⟩, ⟨mx (bxT l (i + 1)).2.f0 (atP l (i + 1)).f0, mx (bxT l (i + 1)).2.f1 (atP l (i + 1)).f1⟩)
theorem bxT_succ (l : List S24) (i : Nat) (h : 1 ≤ i) : bxT l (i + 1) = (⟨mn (bxT l i).1.f0 (atP l i).f0, mn (bxT l i).1.f1 (atP l i).f1⟩, ⟨mx (bxT l i).2.f0 (atP l i).f0, mx (bxT l i).2.f1 (atP l i).f1⟩) := by
  obtain ⟨k, rfl⟩ : ∃ k, i = k + 1 := ⟨i - 1, by omega⟩
  rfl
structure BxQ (w0 : World) (g4 g5 : Nat) (lx ly hx hy : Int) (w' : World) : Prop where
  r1 : w'.heap[w0.heap.size]? = some (.cells #[.int .i64 0, .int .i64 0] 24 (0, 0))
  r2 : w'.heap[w0.heap.size + 1]? = some (.cells #[.int .i64 0, .int .i64 0] 24 (0, 0))
  b4 : w'.heap[g4]? = some (.cells #[.int .i64 lx, .int .i64 ly] 24 (0, 0))
  b5 : w'.heap[g5]? = some (.cells #[.int .i64 hx, .int .i64 hy] 24 (0, 0))
  hB : Below w0.heap.size w0 w'
  n4 : w0.heap.size + 1 < g4
  n5 : w0.heap.size + 1 < g5
  ne : g4 ≠ g5
theorem BxQ.drew {w0 : World} {g4 g5 : Nat} {lx ly hx hy : Int} {w' : World} (h : BxQ w0 g4 g5 lx ly hx hy w') : BxQ w0 g4 g5 lx ly hx hy w'.drew := ⟨h.r1, h.r2, h.b4, h.b5, below_drew h.hB, h.n4, h.n5, h.ne⟩
theorem BxQ.set4 {w0 : World} {g4 g5 : Nat} {lx ly hx hy : Int} {w' : World} (h : BxQ w0 g4 g5 lx ly hx hy w') (v u : Int) : BxQ w0 g4 g5 v u hx hy ((w'.setCell ⟨g4, 0, none⟩ (.int .i64 v)).setCell ⟨g4, 1, none⟩ (.int .i64 u)) :=
  ⟨far1 (far1 h.r1 (by have := h.n4; omega) _ _) (by have := h.n4; omega) _ _, far1 (far1 h.r2 (by have := h.n4; omega) _ _) (by have := h.n4; omega) _ _, blk_set (blk_set h.b4 0 _) 1 _, far1 (far1 h.b5 (fun e => h.ne e.symm) _ _) (fun e => h.ne e.symm) _ _, below_set (below_set h.hB (by have := h.n4; omega)) (by have := h.n4; omega), h.n4, h.n5, h.ne⟩
theorem BxQ.set5 {w0 : World} {g4 g5 : Nat} {lx ly hx hy : Int} {w' : World} (h : BxQ w0 g4 g5 lx ly hx hy w') (v u : Int) : BxQ w0 g4 g5 lx ly v u ((w'.setCell ⟨g5, 0, none⟩ (.int .i64 v)).setCell ⟨g5, 1, none⟩ (.int .i64 u)) :=
  ⟨far1 (far1 h.r1 (by have := h.n5; omega) _ _) (by have := h.n5; omega) _ _, far1 (far1 h.r2 (by have := h.n5; omega) _ _) (by have := h.n5; omega) _ _, far1 (far1 h.b4 h.ne _ _) h.ne _ _, blk_set (blk_set h.b5 0 _) 1 _, below_set (below_set h.hB (by have := h.n5; omega)) (by have := h.n5; omega), h.n4, h.n5, h.ne⟩
abbrev BxS (w0 : World) (ad : Addr) (x y : Int) (w' : World) : Prop := Aside0 (w'.heap[w0.heap.size]? = some (.cells #[.int .i64 0, .int .i64 0] 24 (0, 0))) ∧ Aside0 (w'.heap[w0.heap.size + 1]? = some (.cells #[.int .i64 0, .int .i64 0] 24 (0, 0))) ∧ Aside0 (Below w0.heap.size w0 w') ∧ Aside0 (ad.block < w0.heap.size) ∧ w'.cell? ad = some (.int .i64 x) ∧ w'.cell? ⟨ad.block, ad.off + 1, none⟩ = some (.int .i64 y)
theorem BxS.mk {w0 : World} {ad : Addr} {x y : Int} {w' : World} (h0 : w'.heap[w0.heap.size]? = some (.cells #[.int .i64 0, .int .i64 0] 24 (0, 0))) (h1 : w'.heap[w0.heap.size + 1]? = some (.cells #[.int .i64 0, .int .i64 0] 24 (0, 0))) (hB : Below w0.heap.size w0 w') (x0 : w0.cell? ad = some (.int .i64 x)) (x1 : w0.cell? ⟨ad.block, ad.off + 1, none⟩ = some (.int .i64 y)) : BxS w0 ad x y w' :=
  ⟨⟨h0⟩, ⟨h1⟩, ⟨hB⟩, ⟨World.block_lt_of_cell? _ _ x0⟩, (hB.cell (World.block_lt_of_cell? _ _ x0)).trans x0, (hB.cell (World.block_lt_of_cell? _ _ x1)).trans x1⟩
theorem BxS.keep {w0 : World} {ad : Addr} {x y : Int} {w1 w2 : World} (h : BxS w0 ad x y w1) (hb : Below w1.heap.size w1 w2) : BxS w0 ad x y w2 :=
  ⟨⟨blk_keep h.1.out hb⟩, ⟨blk_keep h.2.1.out hb⟩, ⟨below_step h.2.2.1.out hb⟩, h.2.2.2.1, (hb.cell (World.block_lt_of_cell? _ _ h.2.2.2.2.1)).trans h.2.2.2.2.1, (hb.cell (World.block_lt_of_cell? _ _ h.2.2.2.2.2)).trans h.2.2.2.2.2⟩
theorem BxS.drew {w0 : World} {ad : Addr} {x y : Int} {w1 : World} (h : BxS w0 ad x y w1) : BxS w0 ad x y w1.drew := BxS.keep h (below_drew (Below.refl _ _))
theorem cell_far10 {W : World} {a p : Addr} (h : p.block ≠ a.block) (v : Value) : (W.setCell a v).cell? p = W.cell? p := World.cell?_of_block (w := W) (Below.heap_setCell W a v p.block h)
theorem BxS.set {w0 : World} {ad : Addr} {x y : Int} {w1 : World} (h : BxS w0 ad x y w1) {g : Nat} (hg : w0.heap.size + 1 < g) (i : Nat) (v : Value) : BxS w0 ad x y (w1.setCell ⟨g, i, none⟩ v) :=
  ⟨⟨far1 h.1.out (by omega) i v⟩, ⟨far1 h.2.1.out (by omega) i v⟩, ⟨below_set h.2.2.1.out (by omega)⟩, h.2.2.2.1, (cell_far10 (by have := h.2.2.2.1.out; simp only []; omega) v).trans h.2.2.2.2.1, (cell_far10 (by have := h.2.2.2.1.out; simp only []; omega) v).trans h.2.2.2.2.2⟩
theorem BxQ.fin {w0 : World} {g4 g5 : Nat} {lx ly hx hy : Int} {w' : World} (h : BxQ w0 g4 g5 lx ly hx hy w') (a b c d : Value) :
    ((((w'.setCell ⟨w0.heap.size, 0, none⟩ a).setCell ⟨w0.heap.size, 1, none⟩ b).setCell ⟨w0.heap.size + 1, 0, none⟩ c).setCell ⟨w0.heap.size + 1, 1, none⟩ d).heap[w0.heap.size]? = some (.cells #[a, b] 24 (0, 0)) ∧
    ((((w'.setCell ⟨w0.heap.size, 0, none⟩ a).setCell ⟨w0.heap.size, 1, none⟩ b).setCell ⟨w0.heap.size + 1, 0, none⟩ c).setCell ⟨w0.heap.size + 1, 1, none⟩ d).heap[w0.heap.size + 1]? = some (.cells #[c, d] 24 (0, 0)) ∧
    Below w0.heap.size w0 ((((w'.setCell ⟨w0.heap.size, 0, none⟩ a).setCell ⟨w0.heap.size, 1, none⟩ b).setCell ⟨w0.heap.size + 1, 0, none⟩ c).setCell ⟨w0.heap.size + 1, 1, none⟩ d) :=
  ⟨far1 (far1 (blk_set (blk_set h.r1 0 _) 1 _) (by omega) _ _) (by omega) _ _, blk_set (blk_set (far1 (far1 h.r2 (by omega) _ _) (by omega) _ _) 0 _) 1 _, below_set (below_set (below_set (below_set h.hB (by omega)) (by omega)) (by omega)) (by omega)⟩
set_option maxHeartbeats 4000000 in
set_option maxRecDepth 100000 in
theorem box_calls (A : Option Addr) (c : Nat) (l : List S24) (w : World) (hC : Kd.C k24 w A l.length l) (hc : l.length ≤ c) :
    Calls Try.prog 17 #[.slice A l.length c] w fun e w' => e = .returned (.tuple #[.agg #[.int .i64 (bxT l l.length).1.f0, .int .i64 (bxT l l.length).1.f1], .agg #[.int .i64 (bxT l l.length).2.f0, .int .i64 (bxT l l.length).2.f1]]) ∧ Below w.heap.size w w' := by
  have hmax := Kd.C_max hC
  have HR := Aside0.mk hC; clear hC
  rcases Nat.eq_zero_or_pos l.length with h0 | h0
  · have t1 : ((l.length : Int) == 0) = true := by simp [h0]
    have hnil : l = [] := List.eq_nil_of_length_eq_zero h0
    rw [h0]
    go_enter Try.func17, Try.ntmps17
    go_wp2
    refine wp_scope_enter 0 rfl ?_
    go_wp2
    simp only [Exit.jump]
    have n1 := blk_new (w.alloc (.cells #[.int .i64 0, .int .i64 0] 24)) (.cells #[.int .i64 0, .int .i64 0] 24)
    rw [alloc_size] at n1
    refine bodyPost_ret (results_cc rfl _ _ w.heap.size (w.heap.size + 1) 24 24 #[.int .i64 0, .int .i64 0] #[.int .i64 0, .int .i64 0] (0, 0) (0, 0) _ _ rfl (blk_keep (blk_new w _) (below_alloc (Below.refl _ _) _)) Try.underlying24 rfl (by kernel_rfl) rfl n1 Try.underlying24 rfl (by kernel_rfl)) rfl ?_
    exact ⟨rfl, two_allocs _ _ _⟩
  · have t1 : ((l.length : Int) == 0) = false := beq_eq_false_iff_ne.2 (by omega)
    have hne : ¬ l = [] := by rintro rfl; simp at h0
    have t2 : (l.length == 0) = false := beq_eq_false_iff_ne.2 (by omega)
    obtain ⟨ad, hA, x0, x1⟩ := at_T24 HR.out (0 : Int) (by omega) (by omega)
    subst hA
    have hx0 : rd_T24 l (0 : Int) = atP l 0 := by unfold atP; rw [Nat.zero_mod]; rfl
    rw [hx0] at x0 x1
    rw [show ad.add (Int.toNat 0 * 2) = ad from by simp [Addr.add]] at x0 x1
    have n0 := blk_new w (.cells #[.int .i64 0, .int .i64 0] 24)
    have n1 := blk_new (w.alloc (.cells #[.int .i64 0, .int .i64 0] 24)) (.cells #[.int .i64 0, .int .i64 0] 24)
    rw [alloc_size] at n1
    go_enter Try.func17, Try.ntmps17
    go_wp2
    refine wp_scope_enter 0 rfl ?_
    go_upto_region 3 with fail
    have HS : BxS w ad (atP l 0).f0 (atP l 0).f1 ((w.alloc (.cells #[.int .i64 0, .int .i64 0] 24)).alloc (.cells #[.int .i64 0, .int .i64 0] 24)) := BxS.mk (blk_keep n0 (below_alloc (Below.refl _ _) _)) n1 (below_alloc (below_alloc (Below.refl _ _) _) _) x0 x1
    clear n0 n1 x0 x1
    obtain ⟨p, hp0⟩ : ∃ p, atP l 0 = p := ⟨_, rfl⟩
    rw [hp0] at HS
    go_cut [4, 5, 6] (fun s4 s5 s6 wx => ∃ g4 g5 : Nat, s4 = .pointer (some ⟨g4, 0, none⟩) ∧ s5 = .pointer (some ⟨g5, 0, none⟩) ∧ s6 = .int .i64 1 ∧ Aside0 (BxQ w g4 g5 p.f0 p.f1 p.f0 p.f1 wx))
    case first =>
      refine start_ (n := 11) (S := BxS w ad p.f0 p.f1) (ds := [9]) #[false, false, false, false, false, false, false, false, false, false, false] (by kernel_rfl) rfl rfl (BxS.drew HS) (fun hHeld => ?_)
      clear HS
      generalize ((w.alloc (.cells #[.int .i64 0, .int .i64 0] 24)).alloc (.cells #[.int .i64 0, .int .i64 0] 24)).drew = w2 at hHeld ⊢
      refine pure_ (i := 0) (N := some 12) (v := ?_) (a' := ?_) #[true, false, false, false, false, false, false, false, false, false, false] rfl rfl (by kernel_rfl) (fun _ _ _ h => h) (Or.inl ⟨by rfl, ?_⟩) ?_ ?_
      rotate_left
      · intro w'
        go_simp
        with_reducible rfl
      rotate_left
      · simp only [Act.put, List.setIfInBounds_toArray, List.set_cons_zero, List.set_cons_succ]
        rfl
      refine pure_ (i := 1) (N := some 13) (v := ?_) (a' := ?_) #[true, true, false, false, false, false, false, false, false, false, false] rfl rfl (by kernel_rfl) (fun _ _ _ h => h) (Or.inl ⟨by rfl, ?_⟩) ?_ ?_
      rotate_left
      · intro w'
        go_simp
        with_reducible rfl
      rotate_left
      · simp only [Act.put, List.setIfInBounds_toArray, List.set_cons_zero, List.set_cons_succ]
        rfl
      refine take_ (i := 2) (N := some 14) (v := ?_) (a' := ?_) #[true, true, true, false, false, false, false, false, false, false, false] rfl rfl (by kernel_rfl) (fun _ _ _ h => h) (Or.inl ⟨by rfl, ?_⟩) hHeld ?_ ?_
      rotate_left
      · rintro w' ⟨_, _, _, _, k1, k2⟩
        go_simp
        with_reducible rfl
      rotate_left
      · simp only [Act.put, List.setIfInBounds_toArray, List.set_cons_zero, List.set_cons_succ]
        rfl
      refine pure_ (i := 3) (N := some 15) (v := ?_) (a' := ?_) #[true, true, true, true, false, false, false, false, false, false, false] rfl rfl (by kernel_rfl) (fun _ _ _ h => h) (Or.inl ⟨by rfl, ?_⟩) ?_ ?_
      rotate_left
      · intro w'
        go_simp
        with_reducible rfl
      rotate_left
      · simp only [Act.put, List.setIfInBounds_toArray, List.set_cons_zero, List.set_cons_succ]
        rfl
      refine pure_ (i := 4) (N := some 16) (v := ?_) (a' := ?_) #[true, true, true, true, true, false, false, false, false, false, false] rfl rfl (by kernel_rfl) (fun _ _ _ h => h) (Or.inl ⟨by rfl, ?_⟩) ?_ ?_
      rotate_left
      · intro w'
        go_simp
        with_reducible rfl
      rotate_left
      · simp only [Act.put, List.setIfInBounds_toArray, List.set_cons_zero, List.set_cons_succ]
        rfl
      refine take_ (i := 5) (N := some 17) (v := ?_) (a' := ?_) #[true, true, true, true, true, true, false, false, false, false, false] rfl rfl (by kernel_rfl) (fun _ _ _ h => h) (Or.inl ⟨by rfl, ?_⟩) hHeld ?_ ?_
      rotate_left
      · rintro w' ⟨_, _, _, _, k1, k2⟩
        go_simp
        with_reducible rfl
      rotate_left
      · simp only [Act.put, List.setIfInBounds_toArray, List.set_cons_zero, List.set_cons_succ]
        rfl
      refine two_ (i := 6) (j := 7) (Ni := some 4) (Nj := some 5) #[true, true, true, true, true, true, true, false, false, false, false] #[true, true, true, true, true, true, false, true, false, false, false] rfl rfl rfl rfl (by kernel_rfl) (by decide) (by decide) (fun K_ hK => ?_) (fun K_ hK => ?_)
      · skip
        have p6 := lt_blk hHeld.2.1.out
        rw [if_pos (by rfl)]
        go_wp2
        refine hK.out _ _ (BxS.keep hHeld (below_alloc (Below.refl _ _) _)) (fun hHeld => ?_)
        clear hK
        have h6 := blk_new w2 (.cells #[.int .i64 0, .int .i64 0] 24)
        generalize World.alloc w2 (.cells #[.int .i64 0, .int .i64 0] 24) = w2 at hHeld h6 ⊢
        refine one_ (i := 7) (N := some 5) #[true, true, true, true, true, true, true, true, false, false, false] rfl rfl (by kernel_rfl) (by decide) (fun K_ hK => ?_)
        have p7 := lt_blk hHeld.2.1.out
        rw [if_pos (by rfl)]
        go_wp2
        refine hK.out _ _ (BxS.keep hHeld (below_alloc (Below.refl _ _) _)) (fun hHeld => ?_)
        clear hK
        have q76 := lt_blk h6
        have h6 := blk_keep h6 (below_alloc (Below.refl _ _) (.cells #[.int .i64 0, .int .i64 0] 24))
        have h7 := blk_new w2 (.cells #[.int .i64 0, .int .i64 0] 24)
        generalize World.alloc w2 (.cells #[.int .i64 0, .int .i64 0] 24) = w2 at hHeld h6 h7 ⊢
        have c0 := blk_cell h6 0
        have f0 := blk_frozen h6 0
        have c1 := blk_cell h6 1
        have f1 := blk_frozen h6 1
        refine one_ (i := 8) (N := none) #[true, true, true, true, true, true, true, true, true, false, false] rfl rfl (by kernel_rfl) (by decide) (fun K_ hK => ?_)
        rw [if_pos (by rfl)]
        go_wp2
        have hHeld0 := (BxS.set (BxS.set hHeld p6 0 (.int .i64 p.f0)) p6 1 (.int .i64 p.f1))
        refine hK.out _ _ hHeld0 (fun _ => ?_)
        clear hHeld0 hK c0 f0 c1 f1
        have h7 := (far1p (far1p h7 p6 (by omega) 0 (.int .i64 p.f0)) p6 (by omega) 1 (.int .i64 p.f1))
        have h6 := (blk_put (cs := #[.int .i64 p.f0, .int .i64 0]) (blk_put (cs := #[.int .i64 0, .int .i64 0]) h6 0 (.int .i64 p.f0) rfl) 1 (.int .i64 p.f1) rfl)
        have hHeld := (BxS.set (BxS.set hHeld p6 0 (.int .i64 p.f0)) p6 1 (.int .i64 p.f1))
        have c0 := blk_cell h7 0
        have f0 := blk_frozen h7 0
        have c1 := blk_cell h7 1
        have f1 := blk_frozen h7 1
        refine last_ (i := 9) (N := none) #[true, true, true, true, true, true, true, true, true, true, false] rfl rfl (by kernel_rfl) (by decide) (fun K_ hK => ?_)
        rw [if_pos (by rfl)]
        go_wp2
        refine hK.out _ _ ?_
        clear hK c0 f0 c1 f1
        have h6 := (far1p (far1p h6 p7 (by omega) 0 (.int .i64 p.f0)) p7 (by omega) 1 (.int .i64 p.f1))
        have h7 := (blk_put (cs := #[.int .i64 p.f0, .int .i64 0]) (blk_put (cs := #[.int .i64 0, .int .i64 0]) h7 0 (.int .i64 p.f0) rfl) 1 (.int .i64 p.f1) rfl)
        have hHeld := (BxS.set (BxS.set hHeld p7 0 (.int .i64 p.f0)) p7 1 (.int .i64 p.f1))
        refine pure_ (i := 10) (N := some 6) (v := ?_) (a' := ?_) #[true, true, true, true, true, true, true, true, true, true, true] rfl rfl (by kernel_rfl) (fun _ _ _ h => h) (Or.inl ⟨by rfl, ?_⟩) ?_ ?_
        rotate_left
        · intro w'
          go_simp
          with_reducible rfl
        rotate_left
        · simp only [Act.put, List.setIfInBounds_toArray, List.set_cons_zero, List.set_cons_succ]
          rfl
        refine done_ (by kernel_rfl) ?_
        go_wp2_with fail
        go_meet
        exact ⟨_, _, rfl, rfl, rfl, ⟨hHeld.1.out, hHeld.2.1.out, h6, h7, hHeld.2.2.1.out, p6, p7, by omega⟩⟩
      · skip
        have p7 := lt_blk hHeld.2.1.out
        rw [if_pos (by rfl)]
        go_wp2
        refine hK.out _ _ (BxS.keep hHeld (below_alloc (Below.refl _ _) _)) (fun hHeld => ?_)
        clear hK
        have h7 := blk_new w2 (.cells #[.int .i64 0, .int .i64 0] 24)
        generalize World.alloc w2 (.cells #[.int .i64 0, .int .i64 0] 24) = w2 at hHeld h7 ⊢
        refine one_ (i := 6) (N := some 4) #[true, true, true, true, true, true, true, true, false, false, false] rfl rfl (by kernel_rfl) (by decide) (fun K_ hK => ?_)
        have p6 := lt_blk hHeld.2.1.out
        rw [if_pos (by rfl)]
        go_wp2
        refine hK.out _ _ (BxS.keep hHeld (below_alloc (Below.refl _ _) _)) (fun hHeld => ?_)
        clear hK
        have q67 := lt_blk h7
        have h7 := blk_keep h7 (below_alloc (Below.refl _ _) (.cells #[.int .i64 0, .int .i64 0] 24))
        have h6 := blk_new w2 (.cells #[.int .i64 0, .int .i64 0] 24)
        generalize World.alloc w2 (.cells #[.int .i64 0, .int .i64 0] 24) = w2 at hHeld h7 h6 ⊢
        have c0 := blk_cell h6 0
        have f0 := blk_frozen h6 0
        have c1 := blk_cell h6 1
        have f1 := blk_frozen h6 1
        refine one_ (i := 8) (N := none) #[true, true, true, true, true, true, true, true, true, false, false] rfl rfl (by kernel_rfl) (by decide) (fun K_ hK => ?_)
        rw [if_pos (by rfl)]
        go_wp2
        have hHeld0 := (BxS.set (BxS.set hHeld p6 0 (.int .i64 p.f0)) p6 1 (.int .i64 p.f1))
        refine hK.out _ _ hHeld0 (fun _ => ?_)
        clear hHeld0 hK c0 f0 c1 f1
        have h7 := (far1p (far1p h7 p6 (by omega) 0 (.int .i64 p.f0)) p6 (by omega) 1 (.int .i64 p.f1))
        have h6 := (blk_put (cs := #[.int .i64 p.f0, .int .i64 0]) (blk_put (cs := #[.int .i64 0, .int .i64 0]) h6 0 (.int .i64 p.f0) rfl) 1 (.int .i64 p.f1) rfl)
        have hHeld := (BxS.set (BxS.set hHeld p6 0 (.int .i64 p.f0)) p6 1 (.int .i64 p.f1))
        have c0 := blk_cell h7 0
        have f0 := blk_frozen h7 0
        have c1 := blk_cell h7 1
        have f1 := blk_frozen h7 1
        refine last_ (i := 9) (N := none) #[true, true, true, true, true, true, true, true, true, true, false] rfl rfl (by kernel_rfl) (by decide) (fun K_ hK => ?_)
        rw [if_pos (by rfl)]
        go_wp2
        refine hK.out _ _ ?_
        clear hK c0 f0 c1 f1
        have h6 := (far1p (far1p h6 p7 (by omega) 0 (.int .i64 p.f0)) p7 (by omega) 1 (.int .i64 p.f1))
        have h7 := (blk_put (cs := #[.int .i64 p.f0, .int .i64 0]) (blk_put (cs := #[.int .i64 0, .int .i64 0]) h7 0 (.int .i64 p.f0) rfl) 1 (.int .i64 p.f1) rfl)
        have hHeld := (BxS.set (BxS.set hHeld p7 0 (.int .i64 p.f0)) p7 1 (.int .i64 p.f1))
        refine pure_ (i := 10) (N := some 6) (v := ?_) (a' := ?_) #[true, true, true, true, true, true, true, true, true, true, true] rfl rfl (by kernel_rfl) (fun _ _ _ h => h) (Or.inl ⟨by rfl, ?_⟩) ?_ ?_
        rotate_left
        · intro w'
          go_simp
          with_reducible rfl
        rotate_left
        · simp only [Act.put, List.setIfInBounds_toArray, List.set_cons_zero, List.set_cons_succ]
          rfl
        refine done_ (by kernel_rfl) ?_
        go_wp2_with fail
        go_meet
        exact ⟨_, _, rfl, rfl, rfl, ⟨hHeld.1.out, hHeld.2.1.out, h6, h7, hHeld.2.2.1.out, p6, p7, by omega⟩⟩
    case rest =>
      obtain ⟨g4, g5, rfl, rfl, rfl, HQ⟩ := hcut
      clear HS
      go_wp2
      go_step3
      simp only [Exit.then]
      rename_i hk
      refine hk _ _ ?_
      clear hk
      refine wp_label_slots 0 (by rfl) ([6, 18, 19, 20, 21, 22, 23, 24, 25, 26, 27, 28, 29, 30, 31, 32, 33, 34, 35, 36, 37, 38, 39, 40, 41, 42, 43, 44, 45, 46, 47, 48, 49, 50, 51, 52, 53, 54, 55, 56, 57, 58, 59] : List Nat) (fun n us wr => ∃ (i : Nat), i ≤ l.length ∧ 1 ≤ i ∧ Aside0 (n = l.length - i) ∧ us.getD 0 undef = .int .i64 i ∧ Aside0 (BxQ w g4 g5 (bxT l i).1.f0 (bxT l i).1.f1 (bxT l i).2.f0 (bxT l i).2.f1 wr)) (l.length - 1) ?_ ?_
      · refine ⟨1, by omega, by omega, ⟨rfl⟩, rfl, ⟨by rw [show bxT l 1 = (p, p) from by unfold bxT; rw [hp0]]; exact HQ.out⟩⟩
      · rintro n us wr hln ⟨i, hi, hi1, HN, h6, HQ0⟩ J K hJ hK
        simp only [List.length_cons, List.length_nil] at hln
        match us, hln with
        | u6 :: u18 :: u19 :: u20 :: u21 :: u22 :: u23 :: u24 :: u25 :: u26 :: u27 :: u28 :: u29 :: u30 :: u31 :: u32 :: u33 :: u34 :: u35 :: u36 :: u37 :: u38 :: u39 :: u40 :: u41 :: u42 :: u43 :: u44 :: u45 :: u46 :: u47 :: u48 :: u49 :: u50 :: u51 :: u52 :: u53 :: u54 :: u55 :: u56 :: u57 :: u58 :: u59 :: [], _ =>
        rename_i hx; clear hx
        simp only [List.getD_cons_succ, List.getD_cons_zero] at h6
        subst h6
        simp only [putS, Act.put, List.setIfInBounds_toArray, List.set_cons_zero, List.set_cons_succ]
        have hJ2 := fun (k : Nat) (v6 v18 v19 v20 v21 v22 v23 v24 v25 v26 v27 v28 v29 v30 v31 v32 v33 v34 v35 v36 v37 v38 v39 v40 v41 v42 v43 v44 v45 v46 v47 v48 v49 v50 v51 v52 v53 v54 v55 v56 v57 v58 v59 : Value) (w' : World) => hJ k (v6 :: v18 :: v19 :: v20 :: v21 :: v22 :: v23 :: v24 :: v25 :: v26 :: v27 :: v28 :: v29 :: v30 :: v31 :: v32 :: v33 :: v34 :: v35 :: v36 :: v37 :: v38 :: v39 :: v40 :: v41 :: v42 :: v43 :: v44 :: v45 :: v46 :: v47 :: v48 :: v49 :: v50 :: v51 :: v52 :: v53 :: v54 :: v55 :: v56 :: v57 :: v58 :: v59 :: []) _ w' rfl rfl
        clear hJ
        simp only [putS, Act.put, List.setIfInBounds_toArray, List.set_cons_zero, List.set_cons_succ] at hJ2
        have HJ := Aside0.mk hJ2; clear hJ2
        have HK := Aside0.mk hK; clear hK
        have HQi := HQ0.out
        have XC := fun (W : World) (h : Below w.heap.size w W) (hlt : i < l.length) => at_T24 (Kd.C_below HR.out h) (i : Int) (by omega) (by omega)
        by_cases hlt : i < l.length
        · have t3 : decide ((i : Int) < (l.length : Int)) = true := decide_eq_true (by omega)
          have t4 : decide (i < l.length) = true := decide_eq_true hlt
          have hrd : rd_T24 l (i : Int) = atP l i := by unfold atP; rw [Nat.mod_eq_of_lt hlt]
          have hsucc := bxT_succ l i hi1
          obtain ⟨q, hq⟩ : ∃ q, atP l i = q := ⟨_, rfl⟩
          rw [hq] at hsucc hrd
          obtain ⟨⟨⟨lx, ly⟩, hx, hy⟩, hB⟩ : ∃ b, bxT l i = b := ⟨_, rfl⟩
          rw [hB] at hsucc HQi
          simp only [] at hsucc HQi
          obtain ⟨ad2, hA2, x0, x1⟩ := XC wr HQi.hB hlt
          obtain rfl := Option.some.inj hA2
          clear hA2
          rw [hrd, Int.toNat_natCast] at x0 x1
          obtain ⟨px, py⟩ := q
          simp only [] at x0 x1 hsucc
          obtain ⟨ad3, hA3, z0, _⟩ := XC w (Below.refl _ _) hlt
          obtain rfl := Option.some.inj hA3
          clear hA3
          have hbl := World.block_lt_of_cell? _ _ z0
          rw [Int.toNat_natCast] at hbl
          have hne4 : (ad.add (i * 2)).block ≠ g4 := by have := HQi.n4; omega
          have hne5 : (ad.add (i * 2)).block ≠ g5 := by have := HQi.n5; omega
          clear z0 hbl
          obtain ⟨m1, hm1⟩ : ∃ m, (if px < lx then px else lx) = m := ⟨_, rfl⟩
          obtain ⟨m2, hm2⟩ : ∃ m, (if py < ly then py else ly) = m := ⟨_, rfl⟩
          obtain ⟨M1, hM1⟩ : ∃ m, (if hx < px then px else hx) = m := ⟨_, rfl⟩
          obtain ⟨M2, hM2⟩ : ∃ m, (if hy < py then py else hy) = m := ⟨_, rfl⟩
          rw [show mn lx px = m1 from hm1, show mn ly py = m2 from hm2, show mx hx px = M1 from hM1, show mx hy py = M2 from hM2] at hsucc
          go_upto_region 5 with fail
          have HQ := BxQ.drew HQi
          refine start_ (n := 20) (S := fun w' => w'.cell? ⟨g4, 1, none⟩ = some (.int .i64 ly) ∧ w'.cell? (ad.add (i * 2)) = some (.int .i64 px) ∧ w'.cell? ⟨(ad.add (i * 2)).block, (ad.add (i * 2)).off + 1, none⟩ = some (.int .i64 py)) (ds := [19]) #[false, false, false, false, false, false, false, false, false, false, false, false, false, false, false, false, false, false, false, false] (by kernel_rfl) rfl rfl ⟨blk_cell HQi.b4 1, x0, x1⟩ (fun hHeld => ?_)
          generalize wr.drew = w2 at hHeld HQ ⊢
          refine pure_ (i := 0) (N := some 22) (v := ?_) (a' := ?_) #[true, false, false, false, false, false, false, false, false, false, false, false, false, false, false, false, false, false, false, false] rfl rfl (by kernel_rfl) (fun _ _ _ h => h) (Or.inl ⟨by rfl, ?_⟩) ?_ ?_
          rotate_left
          · intro w'
            go_simp
            with_reducible rfl
          rotate_left
          · simp only [Act.put, List.setIfInBounds_toArray, List.set_cons_zero, List.set_cons_succ]
            rfl
          refine pure_ (i := 2) (N := some 24) (v := ?_) (a' := ?_) #[true, false, true, false, false, false, false, false, false, false, false, false, false, false, false, false, false, false, false, false] rfl rfl (by kernel_rfl) (fun _ _ _ h => h) (Or.inl ⟨by rfl, ?_⟩) ?_ ?_
          rotate_left
          · intro w'
            go_simp
            with_reducible rfl
          rotate_left
          · simp only [Act.put, List.setIfInBounds_toArray, List.set_cons_zero, List.set_cons_succ]
            rfl
          refine pure_ (i := 3) (N := some 25) (v := ?_) (a' := ?_) #[true, false, true, true, false, false, false, false, false, false, false, false, false, false, false, false, false, false, false, false] rfl rfl (by kernel_rfl) (fun _ _ _ h => h) (Or.inl ⟨by rfl, ?_⟩) ?_ ?_
          rotate_left
          · intro w'
            go_simp
            with_reducible rfl
          rotate_left
          · simp only [Act.put, List.setIfInBounds_toArray, List.set_cons_zero, List.set_cons_succ]
            rfl
          refine pure_ (i := 4) (N := some 26) (v := ?_) (a' := ?_) #[true, false, true, true, true, false, false, false, false, false, false, false, false, false, false, false, false, false, false, false] rfl rfl (by kernel_rfl) (fun _ _ _ h => h) (Or.inl ⟨by rfl, ?_⟩) ?_ ?_
          rotate_left
          · intro w'
            go_simp
            with_reducible rfl
          rotate_left
          · simp only [Act.put, List.setIfInBounds_toArray, List.set_cons_zero, List.set_cons_succ]
            rfl
          refine pure_ (i := 5) (N := some 27) (v := ?_) (a' := ?_) #[true, false, true, true, true, true, false, false, false, false, false, false, false, false, false, false, false, false, false, false] rfl rfl (by kernel_rfl) (fun _ _ _ h => h) (Or.inl ⟨by rfl, ?_⟩) ?_ ?_
          rotate_left
          · intro w'
            go_simp
            with_reducible rfl
          rotate_left
          · simp only [Act.put, List.setIfInBounds_toArray, List.set_cons_zero, List.set_cons_succ]
            rfl
          refine take_ (i := 6) (N := some 28) (v := ?_) (a' := ?_) #[true, false, true, true, true, true, true, false, false, false, false, false, false, false, false, false, false, false, false, false] rfl rfl (by kernel_rfl) (fun _ _ _ h => h) (Or.inl ⟨by rfl, ?_⟩) hHeld ?_ ?_
          rotate_left
          · rintro w' ⟨k2, k3, k4⟩
            go_simp
            with_reducible rfl
          rotate_left
          · simp only [Act.put, List.setIfInBounds_toArray, List.set_cons_zero, List.set_cons_succ]
            rfl
          refine pure_ (i := 8) (N := some 30) (v := ?_) (a' := ?_) #[true, false, true, true, true, true, true, false, true, false, false, false, false, false, false, false, false, false, false, false] rfl rfl (by kernel_rfl) (fun _ _ _ h => h) (Or.inl ⟨by rfl, ?_⟩) ?_ ?_
          rotate_left
          · intro w'
            go_simp
            with_reducible rfl
          rotate_left
          · simp only [Act.put, List.setIfInBounds_toArray, List.set_cons_zero, List.set_cons_succ]
            rfl
          refine take_ (i := 9) (N := some 31) (v := ?_) (a' := ?_) #[true, false, true, true, true, true, true, false, true, true, false, false, false, false, false, false, false, false, false, false] rfl rfl (by kernel_rfl) (fun _ _ _ h => h) (Or.inl ⟨by rfl, ?_⟩) hHeld ?_ ?_
          rotate_left
          · rintro w' ⟨k2, k3, k4⟩
            go_simp
            with_reducible rfl
          rotate_left
          · simp only [Act.put, List.setIfInBounds_toArray, List.set_cons_zero, List.set_cons_succ]
            rfl
          refine pure_ (i := 10) (N := some 32) (v := ?_) (a' := ?_) #[true, false, true, true, true, true, true, false, true, true, true, false, false, false, false, false, false, false, false, false] rfl rfl (by kernel_rfl) (fun _ _ _ h => h) (Or.inl ⟨by rfl, ?_⟩) ?_ ?_
          rotate_left
          · intro w'
            go_simp
            with_reducible rfl
          rotate_left
          · simp only [Act.put, List.setIfInBounds_toArray, List.set_cons_zero, List.set_cons_succ]
            rfl
          refine pure_ (i := 11) (N := some 33) (v := ?_) (a' := ?_) #[true, false, true, true, true, true, true, false, true, true, true, true, false, false, false, false, false, false, false, false] rfl rfl (by kernel_rfl) (fun _ _ _ h => h) (Or.inl ⟨by rfl, ?_⟩) ?_ ?_
          rotate_left
          · intro w'
            go_simp
            with_reducible rfl
          rotate_left
          · simp only [Act.put, List.setIfInBounds_toArray, List.set_cons_zero, List.set_cons_succ]
            rfl
          refine pure_ (i := 12) (N := some 34) (v := ?_) (a' := ?_) #[true, false, true, true, true, true, true, false, true, true, true, true, true, false, false, false, false, false, false, false] rfl rfl (by kernel_rfl) (fun _ _ _ h => h) (Or.inl ⟨by rfl, ?_⟩) ?_ ?_
          rotate_left
          · intro w'
            go_simp
            with_reducible rfl
          rotate_left
          · simp only [Act.put, List.setIfInBounds_toArray, List.set_cons_zero, List.set_cons_succ]
            rfl
          refine pure_ (i := 13) (N := some 35) (v := ?_) (a' := ?_) #[true, false, true, true, true, true, true, false, true, true, true, true, true, true, false, false, false, false, false, false] rfl rfl (by kernel_rfl) (fun _ _ _ h => h) (Or.inl ⟨by rfl, ?_⟩) ?_ ?_
          rotate_left
          · intro w'
            go_simp
            with_reducible rfl
          rotate_left
          · simp only [Act.put, List.setIfInBounds_toArray, List.set_cons_zero, List.set_cons_succ]
            rfl
          refine take_ (i := 14) (N := some 36) (v := ?_) (a' := ?_) #[true, false, true, true, true, true, true, false, true, true, true, true, true, true, true, false, false, false, false, false] rfl rfl (by kernel_rfl) (fun _ _ _ h => h) (Or.inl ⟨by rfl, ?_⟩) hHeld ?_ ?_
          rotate_left
          · rintro w' ⟨k2, k3, k4⟩
            go_simp
            with_reducible rfl
          rotate_left
          · simp only [Act.put, List.setIfInBounds_toArray, List.set_cons_zero, List.set_cons_succ]
            rfl
          refine pure_ (i := 15) (N := some 37) (v := ?_) (a' := ?_) #[true, false, true, true, true, true, true, false, true, true, true, true, true, true, true, true, false, false, false, false] rfl rfl (by kernel_rfl) (fun _ _ _ h => h) (Or.inl ⟨by rfl, ?_⟩) ?_ ?_
          rotate_left
          · intro w'
            go_simp
            with_reducible rfl
          rotate_left
          · simp only [Act.put, List.setIfInBounds_toArray, List.set_cons_zero, List.set_cons_succ]
            rfl
          have c0 := blk_cell HQ.b4 0; have c1 := blk_cell HQ.b4 1; have f0 := blk_frozen HQ.b4 0; have f1 := blk_frozen HQ.b4 1
          refine one_ (i := 1) (N := some 23) #[true, true, true, true, true, true, true, false, true, true, true, true, true, true, true, true, false, false, false, false] rfl rfl (by kernel_rfl) (by decide) (fun K_ hK => ?_)
          rw [if_pos (by rfl)]
          go_wp2
          refine hK.out _ _ hHeld (fun _ => ?_)
          clear hK
          refine pure_ (i := 7) (N := some 29) (v := ?_) (a' := ?_) #[true, true, true, true, true, true, true, true, true, true, true, true, true, true, true, true, false, false, false, false] rfl rfl (by kernel_rfl) (fun _ _ _ h => h) (Or.inl ⟨by rfl, ?_⟩) ?_ ?_
          rotate_left
          · intro w'
            go_simp
            with_reducible rfl
          rotate_left
          · simp only [Act.put, List.setIfInBounds_toArray, List.set_cons_zero, List.set_cons_succ]
            rfl
          refine pure_ (i := 16) (N := some 38) (v := ?_) (a' := ?_) #[true, true, true, true, true, true, true, true, true, true, true, true, true, true, true, true, true, false, false, false] rfl rfl (by kernel_rfl) (fun _ _ _ h => h) (Or.inl ⟨by rfl, ?_⟩) ?_ ?_
          rotate_left
          · intro w'
            go_simp
            with_reducible rfl
          rotate_left
          · simp only [Act.put, List.setIfInBounds_toArray, List.set_cons_zero, List.set_cons_succ]
            rfl
          refine one_ (i := 17) (N := none) #[true, true, true, true, true, true, true, true, true, true, true, true, true, true, true, true, true, true, false, false] rfl rfl (by kernel_rfl) (by decide) (fun K_ hK => ?_)
          rw [if_pos (by rfl)]
          go_wp2
          have c2 := (blk_cell (blk_set HQ.b4 0 (.int .i64 m1)) 1)
          refine hK.out _ _ ⟨c2, (cell_far10 (by have := lt_blk HQ.b4; simp only []; omega) _).trans hHeld.2.1, (cell_far10 (by simp only []; omega) _).trans hHeld.2.2⟩ (fun hHeld => ?_)
          clear hK
          refine pure_ (i := 18) (N := some 39) (v := ?_) (a' := ?_) #[true, true, true, true, true, true, true, true, true, true, true, true, true, true, true, true, true, true, true, false] rfl rfl (by kernel_rfl) (fun _ _ _ h => h) (Or.inl ⟨by rfl, ?_⟩) ?_ ?_
          rotate_left
          · intro w'
            go_simp
            with_reducible rfl
          rotate_left
          · simp only [Act.put, List.setIfInBounds_toArray, List.set_cons_zero, List.set_cons_succ]
            rfl
          refine last_ (i := 19) (N := none) #[true, true, true, true, true, true, true, true, true, true, true, true, true, true, true, true, true, true, true, true] rfl rfl (by kernel_rfl) (by decide) (fun K_ hK => ?_)
          rw [if_pos (by rfl)]
          go_wp2
          refine hK.out _ _ ?_
          clear hK
          refine done_ (by kernel_rfl) ?_
          clear c0 c1 c2 f0 f1 hHeld
          have HQ1 := BxQ.set4 HQ m1 m2
          generalize ((w2.setCell ⟨g4, 0, none⟩ (.int .i64 m1)).setCell ⟨g4, 1, none⟩ (.int .i64 m2)) = w3 at HQ1 ⊢
          obtain ⟨ad2, hA2, y0, y1⟩ := XC w3 HQ1.hB hlt
          obtain rfl := Option.some.inj hA2
          clear hA2
          rw [hrd, Int.toNat_natCast] at y0 y1
          simp only [] at y0 y1
          clear HQ x0 x1
          go_upto_region 6 with fail
          have HQ := BxQ.drew HQ1
          refine start_ (n := 20) (S := fun w' => w'.cell? ⟨g5, 1, none⟩ = some (.int .i64 hy) ∧ w'.cell? (ad.add (i * 2)) = some (.int .i64 px) ∧ w'.cell? ⟨(ad.add (i * 2)).block, (ad.add (i * 2)).off + 1, none⟩ = some (.int .i64 py)) (ds := [19]) #[false, false, false, false, false, false, false, false, false, false, false, false, false, false, false, false, false, false, false, false] (by kernel_rfl) rfl rfl ⟨blk_cell HQ1.b5 1, y0, y1⟩ (fun hHeld => ?_)
          generalize w3.drew = w2 at hHeld HQ ⊢
          refine pure_ (i := 0) (N := some 40) (v := ?_) (a' := ?_) #[true, false, false, false, false, false, false, false, false, false, false, false, false, false, false, false, false, false, false, false] rfl rfl (by kernel_rfl) (fun _ _ _ h => h) (Or.inl ⟨by rfl, ?_⟩) ?_ ?_
          rotate_left
          · intro w'
            go_simp
            with_reducible rfl
          rotate_left
          · simp only [Act.put, List.setIfInBounds_toArray, List.set_cons_zero, List.set_cons_succ]
            rfl
          refine pure_ (i := 2) (N := some 42) (v := ?_) (a' := ?_) #[true, false, true, false, false, false, false, false, false, false, false, false, false, false, false, false, false, false, false, false] rfl rfl (by kernel_rfl) (fun _ _ _ h => h) (Or.inl ⟨by rfl, ?_⟩) ?_ ?_
          rotate_left
          · intro w'
            go_simp
            with_reducible rfl
          rotate_left
          · simp only [Act.put, List.setIfInBounds_toArray, List.set_cons_zero, List.set_cons_succ]
            rfl
          refine pure_ (i := 3) (N := some 43) (v := ?_) (a' := ?_) #[true, false, true, true, false, false, false, false, false, false, false, false, false, false, false, false, false, false, false, false] rfl rfl (by kernel_rfl) (fun _ _ _ h => h) (Or.inl ⟨by rfl, ?_⟩) ?_ ?_
          rotate_left
          · intro w'
            go_simp
            with_reducible rfl
          rotate_left
          · simp only [Act.put, List.setIfInBounds_toArray, List.set_cons_zero, List.set_cons_succ]
            rfl
          refine pure_ (i := 4) (N := some 44) (v := ?_) (a' := ?_) #[true, false, true, true, true, false, false, false, false, false, false, false, false, false, false, false, false, false, false, false] rfl rfl (by kernel_rfl) (fun _ _ _ h => h) (Or.inl ⟨by rfl, ?_⟩) ?_ ?_
          rotate_left
          · intro w'
            go_simp
            with_reducible rfl
          rotate_left
          · simp only [Act.put, List.setIfInBounds_toArray, List.set_cons_zero, List.set_cons_succ]
            rfl
          refine pure_ (i := 5) (N := some 45) (v := ?_) (a' := ?_) #[true, false, true, true, true, true, false, false, false, false, false, false, false, false, false, false, false, false, false, false] rfl rfl (by kernel_rfl) (fun _ _ _ h => h) (Or.inl ⟨by rfl, ?_⟩) ?_ ?_
          rotate_left
          · intro w'
            go_simp
            with_reducible rfl
          rotate_left
          · simp only [Act.put, List.setIfInBounds_toArray, List.set_cons_zero, List.set_cons_succ]
            rfl
          refine take_ (i := 6) (N := some 46) (v := ?_) (a' := ?_) #[true, false, true, true, true, true, true, false, false, false, false, false, false, false, false, false, false, false, false, false] rfl rfl (by kernel_rfl) (fun _ _ _ h => h) (Or.inl ⟨by rfl, ?_⟩) hHeld ?_ ?_
          rotate_left
          · rintro w' ⟨k2, k3, k4⟩
            go_simp
            with_reducible rfl
          rotate_left
          · simp only [Act.put, List.setIfInBounds_toArray, List.set_cons_zero, List.set_cons_succ]
            rfl
          refine pure_ (i := 8) (N := some 48) (v := ?_) (a' := ?_) #[true, false, true, true, true, true, true, false, true, false, false, false, false, false, false, false, false, false, false, false] rfl rfl (by kernel_rfl) (fun _ _ _ h => h) (Or.inl ⟨by rfl, ?_⟩) ?_ ?_
          rotate_left
          · intro w'
            go_simp
            with_reducible rfl
          rotate_left
          · simp only [Act.put, List.setIfInBounds_toArray, List.set_cons_zero, List.set_cons_succ]
            rfl
          refine take_ (i := 9) (N := some 49) (v := ?_) (a' := ?_) #[true, false, true, true, true, true, true, false, true, true, false, false, false, false, false, false, false, false, false, false] rfl rfl (by kernel_rfl) (fun _ _ _ h => h) (Or.inl ⟨by rfl, ?_⟩) hHeld ?_ ?_
          rotate_left
          · rintro w' ⟨k2, k3, k4⟩
            go_simp
            with_reducible rfl
          rotate_left
          · simp only [Act.put, List.setIfInBounds_toArray, List.set_cons_zero, List.set_cons_succ]
            rfl
          refine pure_ (i := 10) (N := some 50) (v := ?_) (a' := ?_) #[true, false, true, true, true, true, true, false, true, true, true, false, false, false, false, false, false, false, false, false] rfl rfl (by kernel_rfl) (fun _ _ _ h => h) (Or.inl ⟨by rfl, ?_⟩) ?_ ?_
          rotate_left
          · intro w'
            go_simp
            with_reducible rfl
          rotate_left
          · simp only [Act.put, List.setIfInBounds_toArray, List.set_cons_zero, List.set_cons_succ]
            rfl
          refine pure_ (i := 11) (N := some 51) (v := ?_) (a' := ?_) #[true, false, true, true, true, true, true, false, true, true, true, true, false, false, false, false, false, false, false, false] rfl rfl (by kernel_rfl) (fun _ _ _ h => h) (Or.inl ⟨by rfl, ?_⟩) ?_ ?_
          rotate_left
          · intro w'
            go_simp
            with_reducible rfl
          rotate_left
          · simp only [Act.put, List.setIfInBounds_toArray, List.set_cons_zero, List.set_cons_succ]
            rfl
          refine pure_ (i := 12) (N := some 52) (v := ?_) (a' := ?_) #[true, false, true, true, true, true, true, false, true, true, true, true, true, false, false, false, false, false, false, false] rfl rfl (by kernel_rfl) (fun _ _ _ h => h) (Or.inl ⟨by rfl, ?_⟩) ?_ ?_
          rotate_left
          · intro w'
            go_simp
            with_reducible rfl
          rotate_left
          · simp only [Act.put, List.setIfInBounds_toArray, List.set_cons_zero, List.set_cons_succ]
            rfl
          refine pure_ (i := 13) (N := some 53) (v := ?_) (a' := ?_) #[true, false, true, true, true, true, true, false, true, true, true, true, true, true, false, false, false, false, false, false] rfl rfl (by kernel_rfl) (fun _ _ _ h => h) (Or.inl ⟨by rfl, ?_⟩) ?_ ?_
          rotate_left
          · intro w'
            go_simp
            with_reducible rfl
          rotate_left
          · simp only [Act.put, List.setIfInBounds_toArray, List.set_cons_zero, List.set_cons_succ]
            rfl
          refine take_ (i := 14) (N := some 54) (v := ?_) (a' := ?_) #[true, false, true, true, true, true, true, false, true, true, true, true, true, true, true, false, false, false, false, false] rfl rfl (by kernel_rfl) (fun _ _ _ h => h) (Or.inl ⟨by rfl, ?_⟩) hHeld ?_ ?_
          rotate_left
          · rintro w' ⟨k2, k3, k4⟩
            go_simp
            with_reducible rfl
          rotate_left
          · simp only [Act.put, List.setIfInBounds_toArray, List.set_cons_zero, List.set_cons_succ]
            rfl
          refine pure_ (i := 15) (N := some 55) (v := ?_) (a' := ?_) #[true, false, true, true, true, true, true, false, true, true, true, true, true, true, true, true, false, false, false, false] rfl rfl (by kernel_rfl) (fun _ _ _ h => h) (Or.inl ⟨by rfl, ?_⟩) ?_ ?_
          rotate_left
          · intro w'
            go_simp
            with_reducible rfl
          rotate_left
          · simp only [Act.put, List.setIfInBounds_toArray, List.set_cons_zero, List.set_cons_succ]
            rfl
          have c0 := blk_cell HQ.b5 0; have c1 := blk_cell HQ.b5 1; have f0 := blk_frozen HQ.b5 0; have f1 := blk_frozen HQ.b5 1
          refine one_ (i := 1) (N := some 41) #[true, true, true, true, true, true, true, false, true, true, true, true, true, true, true, true, false, false, false, false] rfl rfl (by kernel_rfl) (by decide) (fun K_ hK => ?_)
          rw [if_pos (by rfl)]
          go_wp2
          refine hK.out _ _ hHeld (fun _ => ?_)
          clear hK
          refine pure_ (i := 7) (N := some 47) (v := ?_) (a' := ?_) #[true, true, true, true, true, true, true, true, true, true, true, true, true, true, true, true, false, false, false, false] rfl rfl (by kernel_rfl) (fun _ _ _ h => h) (Or.inl ⟨by rfl, ?_⟩) ?_ ?_
          rotate_left
          · intro w'
            go_simp
            with_reducible rfl
          rotate_left
          · simp only [Act.put, List.setIfInBounds_toArray, List.set_cons_zero, List.set_cons_succ]
            rfl
          refine pure_ (i := 16) (N := some 56) (v := ?_) (a' := ?_) #[true, true, true, true, true, true, true, true, true, true, true, true, true, true, true, true, true, false, false, false] rfl rfl (by kernel_rfl) (fun _ _ _ h => h) (Or.inl ⟨by rfl, ?_⟩) ?_ ?_
          rotate_left
          · intro w'
            go_simp
            with_reducible rfl
          rotate_left
          · simp only [Act.put, List.setIfInBounds_toArray, List.set_cons_zero, List.set_cons_succ]
            rfl
          refine one_ (i := 17) (N := none) #[true, true, true, true, true, true, true, true, true, true, true, true, true, true, true, true, true, true, false, false] rfl rfl (by kernel_rfl) (by decide) (fun K_ hK => ?_)
          rw [if_pos (by rfl)]
          go_wp2
          have c2 := (blk_cell (blk_set HQ.b5 0 (.int .i64 M1)) 1)
          refine hK.out _ _ ⟨c2, (cell_far10 (by have := lt_blk HQ.b5; simp only []; omega) _).trans hHeld.2.1, (cell_far10 (by simp only []; omega) _).trans hHeld.2.2⟩ (fun hHeld => ?_)
          clear hK
          refine pure_ (i := 18) (N := some 57) (v := ?_) (a' := ?_) #[true, true, true, true, true, true, true, true, true, true, true, true, true, true, true, true, true, true, true, false] rfl rfl (by kernel_rfl) (fun _ _ _ h => h) (Or.inl ⟨by rfl, ?_⟩) ?_ ?_
          rotate_left
          · intro w'
            go_simp
            with_reducible rfl
          rotate_left
          · simp only [Act.put, List.setIfInBounds_toArray, List.set_cons_zero, List.set_cons_succ]
            rfl
          refine last_ (i := 19) (N := none) #[true, true, true, true, true, true, true, true, true, true, true, true, true, true, true, true, true, true, true, true] rfl rfl (by kernel_rfl) (by decide) (fun K_ hK => ?_)
          rw [if_pos (by rfl)]
          go_wp2
          refine hK.out _ _ ?_
          clear hK
          refine done_ (by kernel_rfl) ?_
          clear c0 c1 c2 f0 f1 hHeld
          have HQ2 := BxQ.set5 HQ M1 M2
          generalize ((w2.setCell ⟨g5, 0, none⟩ (.int .i64 M1)).setCell ⟨g5, 1, none⟩ (.int .i64 M2)) = w4 at HQ2 ⊢
          clear HQ y0 y1
          go_wp2
          go_step3
          refine ⟨rfl, HK.out _ _ (Handed.intro (l.length - (i + 1)) ?_ (HJ.out _ _ _ _ _ _ _ _ _ _ _ _ _ _ _ _ _ _ _ _ _ _ _ _ _ _ _ _ _ _ _ _ _ _ _ _ _ _ _ _ _ _ _ _ _ ⟨i + 1, by omega, by omega, ⟨rfl⟩, rfl, ⟨by rw [hsucc]; exact HQ2⟩⟩))⟩
          have := HN.out
          omega
        · have t3 : decide ((i : Int) < (l.length : Int)) = false := decide_eq_false (by omega)
          have t4 : decide (i < l.length) = false := decide_eq_false hlt
          obtain rfl : i = l.length := by omega
          clear XC HQ0
          obtain ⟨⟨⟨lx, ly⟩, hx, hy⟩, hB⟩ : ∃ b, bxT l l.length = b := ⟨_, rfl⟩
          rw [hB] at HQi
          simp only [] at HQi
          go_upto_region 8 with fail
          have HQ := BxQ.drew HQi
          have hn4 := HQi.n4; have hn5 := HQi.n5
          refine start_ (n := 4) (S := fun w' => w'.cell? ⟨g4, 0, none⟩ = some (.int .i64 lx) ∧ w'.cell? ⟨g4, 1, none⟩ = some (.int .i64 ly) ∧ w'.cell? ⟨g5, 0, none⟩ = some (.int .i64 hx) ∧ w'.cell? ⟨g5, 1, none⟩ = some (.int .i64 hy)) (ds := [3]) #[false, false, false, false] (by kernel_rfl) rfl rfl ⟨blk_cell HQi.b4 0, blk_cell HQi.b4 1, blk_cell HQi.b5 0, blk_cell HQi.b5 1⟩ (fun hHeld => ?_)
          generalize wr.drew = w2 at hHeld HQ ⊢
          refine take_ (i := 0) (N := some 60) (v := ?_) (a' := ?_) #[true, false, false, false] rfl rfl (by kernel_rfl) (fun _ _ _ h => h) (Or.inl ⟨by rfl, ?_⟩) hHeld ?_ ?_
          rotate_left
          · rintro w' ⟨k1, k2, k3, k4⟩
            go_simp
            with_reducible rfl
          rotate_left
          · simp only [Act.put, List.setIfInBounds_toArray, List.set_cons_zero, List.set_cons_succ]
            rfl
          refine take_ (i := 1) (N := some 61) (v := ?_) (a' := ?_) #[true, true, false, false] rfl rfl (by kernel_rfl) (fun _ _ _ h => h) (Or.inl ⟨by rfl, ?_⟩) hHeld ?_ ?_
          rotate_left
          · rintro w' ⟨k1, k2, k3, k4⟩
            go_simp
            with_reducible rfl
          rotate_left
          · simp only [Act.put, List.setIfInBounds_toArray, List.set_cons_zero, List.set_cons_succ]
            rfl
          have c0 := blk_cell HQ.r1 0; have c1 := blk_cell HQ.r1 1; have f0 := blk_frozen HQ.r1 0; have f1 := blk_frozen HQ.r1 1
          have d0 := blk_cell HQ.r2 0; have d1 := blk_cell HQ.r2 1; have e0 := blk_frozen HQ.r2 0; have e1 := blk_frozen HQ.r2 1
          refine one_ (i := 2) (N := none) #[true, true, true, false] rfl rfl (by kernel_rfl) (by decide) (fun K_ hK => ?_)
          rw [if_pos (by rfl)]
          go_wp2
          refine hK.out _ _ ⟨(cell_far10 (by simp only []; omega) _).trans ((cell_far10 (by simp only []; omega) _).trans hHeld.1), (cell_far10 (by simp only []; omega) _).trans ((cell_far10 (by simp only []; omega) _).trans hHeld.2.1), (cell_far10 (by simp only []; omega) _).trans ((cell_far10 (by simp only []; omega) _).trans hHeld.2.2.1), (cell_far10 (by simp only []; omega) _).trans ((cell_far10 (by simp only []; omega) _).trans hHeld.2.2.2)⟩ (fun _ => ?_)
          clear hK
          refine last_ (i := 3) (N := none) #[true, true, true, true] rfl rfl (by kernel_rfl) (by decide) (fun K_ hK => ?_)
          rw [if_pos (by rfl)]
          go_wp2
          refine hK.out _ _ ?_
          clear hK
          refine done_ (by kernel_rfl) ?_
          go_wp2
          simp only [Exit.jump]
          have hf := BxQ.fin HQ (.int .i64 lx) (.int .i64 ly) (.int .i64 hx) (.int .i64 hy)
          refine bodyPost_ret (results_cc rfl _ _ w.heap.size (w.heap.size + 1) 24 24 #[.int .i64 lx, .int .i64 ly] #[.int .i64 hx, .int .i64 hy] (0, 0) (0, 0) _ _ rfl hf.1 Try.underlying24 rfl (by kernel_rfl) rfl hf.2.1 Try.underlying24 rfl (by kernel_rfl)) rfl ?_
          exact ⟨by rw [hB], hf.2.2⟩
def fence_Box.f (l0 : List (S24)) : Option (Int × Int × Int × Int) := some ((bxT l0 l0.length).1.f0, (bxT l0 l0.length).1.f1, (bxT l0 l0.length).2.f0, (bxT l0 l0.length).2.f1)
theorem fence_Box.calls (A0 : Option Addr) (c0 : Nat) (l0 : List (S24)) (r1 : Int) (r2 : Int) (r3 : Int) (r4 : Int) (w : World) (hr0 : Kd.C k24 w A0 l0.length l0) (hc0 : l0.length ≤ c0) (h : fence_Box.f l0 = some (r1, r2, r3, r4)) :
    Calls Try.prog 17 #[.slice A0 l0.length c0] w fun e w' => e = .returned (.tuple #[.agg #[.int .i64 r1, .int .i64 r2], .agg #[.int .i64 r3, .int .i64 r4]]) ∧ Below w.heap.size w w' := by
  have h := Option.some.inj h
  simp only [Prod.mk.injEq] at h
  obtain ⟨rfl, rfl, rfl, rfl⟩ := h
  exact box_calls A0 c0 l0 w hr0 hc0
end Go.Proofs.Ytpoghhcpoimepaa.P
end
section
/- Fences: the cells of a box, together, are the area. -/
namespace Go.Proofs.Ytpoghhcpoimepaa.P
open Go.Proofs.Ytpoghhcpoimepaa.B Go.RowKit Go.Proofs.YtpoghhcpoimepaaW.PrintWords Go.Proofs.YtpoghhcpoimepaaW.PrintLast Go.Proofs.YtpoghhcpoimepaaW.PrintMore Go.Proofs.Ytpoghhcpoimepaa.FX Go.Proofs.Ytpoghhcpoimepaa.H
set_option linter.unusedVariables false
set_option linter.unusedSimpArgs false
end Go.Proofs.Ytpoghhcpoimepaa.P
end
section
/- Fences and motions (plain). -/
namespace Go.Proofs.Ytpoghhcpoimepaa.P
open Go.Proofs.Ytpoghhcpoimepaa.B Go.RowKit Go.Proofs.YtpoghhcpoimepaaW.PrintWords Go.Proofs.YtpoghhcpoimepaaW.PrintLast Go.Proofs.YtpoghhcpoimepaaW.PrintMore Go.Proofs.Ytpoghhcpoimepaa.FX Go.Proofs.Ytpoghhcpoimepaa.H
set_option linter.unusedVariables false
set_option linter.unusedSimpArgs false
end Go.Proofs.Ytpoghhcpoimepaa.P
end
