/- The document's time at which an item is full. -/
import Derived.Test.YtopblnecdabcgaaS1
import Derived.Test.YtopblnecdabcgaaBK
import Derived.Test.YtopblnecdabcgaaB
import Derived.Test.YtopblnecdabcgaaF73
import Derived.Test.YtopblnecdabcgaaF75
import Derived.Test.YtopblnecdabcgaaF77
import Derived.Deep.RegionHeld3
namespace Go.Proofs.Ytopblnecdabcgaa.P
open Go.Proofs.Ytopblnecdabcgaa.B Go.RowKit Go.Proofs.YtopblnecdabcgaaW.PrintWords Go.Proofs.YtopblnecdabcgaaW.PrintLast Go.Proofs.YtopblnecdabcgaaW.PrintMore Go.Proofs.Ytopblnecdabcgaa.H
set_option linter.unusedVariables false
set_option linter.unusedSimpArgs false
attribute [local go_sem] max2_int min2_int max_two min_two
def clp (n m : Int) : Int := if n < 0 then 0 else if m < n then m else n
theorem clp_in (n m : Int) (hm : 0 ≤ m) : 0 ≤ clp n m ∧ clp n m ≤ m := by unfold clp; split <;> (try split) <;> omega
theorem n64 {x : Int} (h0 : -9223372036854775808 ≤ x) (h1 : x ≤ 9223372036854775807) : wrap64 x = x := by unfold wrap64; omega
theorem clip_ref (n m : Int) : tallymanref02_Clip.f n 0 m = some (clp n m) := by
  unfold tallymanref02_Clip.f clp
  by_cases h1 : n < 0
  · rw [if_pos h1, if_pos h1]
  · rw [if_neg h1, if_neg h1]
    by_cases h2 : m < n
    · rw [if_pos h2, if_pos h2]
    · rw [if_neg h2, if_neg h2]
/-- How often one number goes into another one, rounded up. -/
def ovr (a b : Int) : Int := if a % b = 0 then a / b else a / b + 1
theorem ovr_in (a b : Int) (ha : 0 ≤ a) (hb : 1 ≤ b) : 0 ≤ ovr a b ∧ ovr a b ≤ a + 1 ∧ a ≤ b * ovr a b ∧ (1 ≤ a → b * (ovr a b - 1) < a) := by
  have h1 := Int.mul_ediv_add_emod a b
  have h2 := Int.emod_nonneg a (show b ≠ 0 by omega)
  have h3 := Int.emod_lt_of_pos a (show 0 < b by omega)
  have h4 := Int.ediv_nonneg ha (show 0 ≤ b by omega)
  have h5 : a / b * 1 ≤ a / b * b := Int.mul_le_mul_of_nonneg_left hb h4
  unfold ovr
  generalize a / b = q at *
  generalize a % b = r at *
  rw [Int.mul_comm q b] at h5
  split
  · rw [Int.mul_sub]; refine ⟨h4, ?_, ?_, ?_⟩ <;> omega
  · rw [Int.mul_add, Int.add_sub_cancel]; refine ⟨?_, ?_, ?_, ?_⟩ <;> omega
theorem over_ref (a b : Int) (ha : 0 ≤ a ∧ a ≤ 1048575) (hb : 1 ≤ b) : tallymanref02_Over.f a b = some (ovr a b) := by
  have h := ovr_in a b ha.1 hb
  have e1 : mx a 0 = a := by unfold mx; omega
  have e2 : mx b 1 = b := by unfold mx; omega
  unfold tallymanref02_Over.f
  rw [e1, e2, if_neg (by omega)]
  unfold ovr at h ⊢
  split at h
  · rename_i h0
    rw [if_pos h0, if_pos h0, n64 (by omega) (by omega)]
  · rename_i h0
    rw [if_neg h0, if_neg h0, n64 (x := a / b) (by omega) (by omega), n64 (by omega) (by omega)]
def fullV (p s r : Int) : Int := if 1048575 - clp p 1048575 = 0 then clp s 2147483647 else if clp r 1048576 = 0 then 2147483648 else mn (clp s 2147483647 + ovr (1048575 - clp p 1048575) (clp r 1048576)) 2147483648
def tallymanref14_Full.f (a0_0 : Int) (a0_1 : Int) (a0_2 : Int) (a0_3 : Int) (a1 : Int) : Option (Int) := some (fullV a0_1 a0_2 a1)
abbrev FuS (w0 : World) (g : Nat) (a0_0 P S a0_3 : Int) (w' : World) : Prop :=
  Aside0 (w'.heap[g]? = some (.cells #[.int .i64 a0_0, .int .i64 P, .int .i64 S, .int .i64 a0_3] 23 (0, 0))) ∧ Aside0 (Below w0.heap.size w0 w') ∧ w'.cell? ⟨g, 0, none⟩ = some (.int .i64 a0_0) ∧ w'.cell? ⟨g, 1, none⟩ = some (.int .i64 P) ∧ w'.cell? ⟨g, 2, none⟩ = some (.int .i64 S) ∧ w'.cell? ⟨g, 3, none⟩ = some (.int .i64 a0_3)
theorem FuS.mk {w0 : World} {g : Nat} {a0_0 P S a0_3 : Int} {w' : World} (h0 : w'.heap[g]? = some (.cells #[.int .i64 a0_0, .int .i64 P, .int .i64 S, .int .i64 a0_3] 23 (0, 0))) (hB : Below w0.heap.size w0 w') : FuS w0 g a0_0 P S a0_3 w' :=
  ⟨⟨h0⟩, ⟨hB⟩, blk_cell h0 0, blk_cell h0 1, blk_cell h0 2, blk_cell h0 3⟩
theorem FuS.keep {w0 : World} {g : Nat} {a0_0 P S a0_3 : Int} {w1 w2 : World} (h : FuS w0 g a0_0 P S a0_3 w1) (hb : Below w1.heap.size w1 w2) : FuS w0 g a0_0 P S a0_3 w2 :=
  FuS.mk (blk_keep h.1.out hb) (below_step h.2.1.out hb)
theorem FuS.drew {w0 : World} {g : Nat} {a0_0 P S a0_3 : Int} {w1 : World} (h : FuS w0 g a0_0 P S a0_3 w1) : FuS w0 g a0_0 P S a0_3 w1.drew :=
  FuS.mk h.1.out (below_drew h.2.1.out)
set_option maxHeartbeats 4000000 in
set_option maxRecDepth 100000 in
theorem full_walk (a0_0 a0_1 a0_2 a0_3 a1 P S R O : Int) (hP : 0 ≤ P ∧ P ≤ 1048575) (hS : 0 ≤ S ∧ S ≤ 2147483647) (hR : 0 ≤ R ∧ R ≤ 1048576) (hO : 1048575 - P ≠ 0 → R ≠ 0 → 0 ≤ O ∧ O ≤ 1048576) (w : World)
    (h1 : ∀ W, Calls Try.prog 73 #[.agg #[.int .i64 a0_0, .int .i64 a0_1, .int .i64 a0_2, .int .i64 a0_3]] W fun e w' => e = .returned (.agg #[.int .i64 a0_0, .int .i64 P, .int .i64 S, .int .i64 a0_3]) ∧ Below W.heap.size W w')
    (h2 : ∀ W, Calls Try.prog 75 #[.int .i64 a1] W fun e w' => e = .returned (.int .i64 R) ∧ Below W.heap.size W w')
    (h3 : 1048575 - P ≠ 0 → R ≠ 0 → ∀ W, Calls Try.prog 77 #[.int .i64 (1048575 - P), .int .i64 R] W fun e w' => e = .returned (.int .i64 O) ∧ Below W.heap.size W w') :
    Calls Try.prog 16 #[.agg #[.int .i64 a0_0, .int .i64 a0_1, .int .i64 a0_2, .int .i64 a0_3], .int .i64 a1] w fun e w' => e = .returned (.int .i64 (if 1048575 - P = 0 then S else if R = 0 then 2147483648 else mn (S + O) 2147483648)) ∧ Below w.heap.size w w' := by
  have H1 := Aside0.mk h1; clear h1
  have H2 := Aside0.mk h2; clear h2
  have H3 := Aside0.mk h3; clear h3
  have HO := Aside0.mk hO; clear hO
  have arm1 := below_alloc (Below.refl w.heap.size w) (.cells #[.int .i64 a0_0, .int .i64 a0_1, .int .i64 a0_2, .int .i64 a0_3] 23)
  have HA := Aside0.mk arm1; clear arm1
  by_cases c1 : 1048575 - P = 0
  · have t1 : ((1048575 - P) == 0) = true := by simp [c1]
    rw [if_pos c1]
    clear c1
    go_enter Try.func16, Try.ntmps16
    go_wp2_with (go_at_call 73; (with_reducible refine (H1.out _).mono ?_); rintro e w1 ⟨rfl, hb⟩; have HB := Aside0.mk (below_step HA.out hb); clear hb)
    go_ret
    exact ⟨rfl, below_alloc HB.out _⟩
  · have t1 : ((1048575 - P) == 0) = false := by simp [c1]
    rw [if_neg c1]
    by_cases c2 : R = 0
    · rw [if_pos c2]
      subst c2
      clear c1
      go_enter Try.func16, Try.ntmps16
      go_wp2_with (first | (go_at_call 73; (with_reducible refine (H1.out _).mono ?_); rintro e w1 ⟨rfl, hb⟩; have HB := Aside0.mk (below_step HA.out hb); clear hb) | (go_at_call 75; (with_reducible refine (H2.out _).mono ?_); rintro e w2 ⟨rfl, hb⟩; have HB2 := Aside0.mk (below_step (below_alloc HB.out (.cells #[.int .i64 a0_0, .int .i64 P, .int .i64 S, .int .i64 a0_3] 23)) hb); clear hb))
      go_ret
      exact ⟨rfl, HB2.out⟩
    · have t2 : (R == 0) = false := by simp [c2]
      rw [if_neg c2]
      have hO := HO.out c1 c2
      have H4 := Aside0.mk (H3.out c1 c2)
      have s1 : IntKind.i64.wrap (S + O) = S + O := by rw [wrap_i64]; exact n64 (by omega) (by omega)
      have s2 : wrap64 (S + O) = S + O := n64 (by omega) (by omega)
      obtain ⟨M, hM⟩ : ∃ M, mn (S + O) 2147483648 = M := ⟨_, rfl⟩
      have hM_ : (if 2147483648 < S + O then 2147483648 else S + O) = M := hM
      rw [hM]
      clear c1 c2 hM
      go_enter Try.func16, Try.ntmps16
      go_wp2_with (first | (go_at_call 73; (with_reducible refine (H1.out _).mono ?_); rintro e w1 ⟨rfl, hb⟩; have HB := Aside0.mk (below_step HA.out hb); have HS1 := Aside0.mk (FuS.mk (blk_new w1 (.cells #[.int .i64 a0_0, .int .i64 P, .int .i64 S, .int .i64 a0_3] 23)) (below_alloc HB.out (.cells #[.int .i64 a0_0, .int .i64 P, .int .i64 S, .int .i64 a0_3] 23))); clear hb) | (go_at_call 75; (with_reducible refine (H2.out _).mono ?_); rintro e w2 ⟨rfl, hb⟩; have HS := FuS.keep HS1.out hb; clear hb))
      go_region_held3 (FuS w w1.heap.size a0_0 P S a0_3)
        (first | exact FuS.keep (by assumption) hb | exact FuS.drew HS | assumption)
        (first | (go_at_call 75; (with_reducible refine (H2.out _).mono ?_); rintro e w' ⟨rfl, hb⟩) | (go_at_call 77; (with_reducible refine (H4.out _).mono ?_); rintro e w' ⟨rfl, hb⟩))
      all_goals go_wp2
      all_goals go_ret
      all_goals exact ⟨rfl, (show FuS _ _ _ _ _ _ _ by assumption).2.1.out⟩
theorem fix_ref (a b c d : Int) : tallymanref14_Fix.f a b c d = some (a, clp b 1048575, clp c 2147483647, d) := by
  unfold tallymanref14_Fix.f tallymanref14_Tick.f
  rw [clip_ref, clip_ref]; rfl
theorem rate_ref (a : Int) : tallymanref14_Rate.f a = some (clp a 1048576) := by
  unfold tallymanref14_Rate.f
  rw [clip_ref]; rfl
theorem tallymanref14_Full.calls (a0_0 : Int) (a0_1 : Int) (a0_2 : Int) (a0_3 : Int) (a1 : Int) (r : Int) (w : World) (h : tallymanref14_Full.f a0_0 a0_1 a0_2 a0_3 a1 = some r) :
    Calls Try.prog 16 #[.agg #[.int .i64 a0_0, .int .i64 a0_1, .int .i64 a0_2, .int .i64 a0_3], .int .i64 a1] w fun e w' => e = .returned (.int .i64 r) ∧ Below w.heap.size w w' := by
  have h2 := full_walk a0_0 a0_1 a0_2 a0_3 a1 (clp a0_1 1048575) (clp a0_2 2147483647) (clp a1 1048576) (ovr (1048575 - clp a0_1 1048575) (clp a1 1048576)) (clp_in _ _ (by decide)) (clp_in _ _ (by decide)) (clp_in _ _ (by decide))
    (fun c1 c2 => by
      have b1 := clp_in a0_1 1048575 (by decide)
      have b2 := clp_in a1 1048576 (by decide)
      have b3 := ovr_in (1048575 - clp a0_1 1048575) (clp a1 1048576) (by omega) (by omega)
      omega) w
    (fun W => tallymanref14_Fix.calls _ _ _ _ _ _ _ _ W (fix_ref _ _ _ _))
    (fun W => (tallymanref14_Rate.calls _ _ W (rate_ref _)).mono fun e w' ⟨h3, h4⟩ => ⟨h3, h4.below⟩)
    (fun c1 c2 W => tallymanref02_Over.calls _ _ _ W (over_ref _ _ (by have b1 := clp_in a0_1 1048575 (by decide); omega) (by have b2 := clp_in a1 1048576 (by decide); omega)))
  rw [show (if 1048575 - clp a0_1 1048575 = 0 then clp a0_2 2147483647 else if clp a1 1048576 = 0 then 2147483648 else mn (clp a0_2 2147483647 + ovr (1048575 - clp a0_1 1048575) (clp a1 1048576)) 2147483648) = fullV a0_1 a0_2 a1 from rfl, Option.some.inj h] at h2
  exact h2
end Go.Proofs.Ytopblnecdabcgaa.P
