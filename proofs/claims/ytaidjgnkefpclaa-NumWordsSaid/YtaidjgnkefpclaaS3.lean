import Derived.Test.YtaidjgnkefpclaaSh
import Derived.Test.YtaidjgnkefpclaaF8
import Derived.Test.YtaidjgnkefpclaaF10
import Derived.Test.YtaidjgnkefpclaaF12
import Derived.Test.YtaidjgnkefpclaaNL
namespace Go.Proofs.Ytaidjgnkefpclaa.P
open Go.Proofs.Ytaidjgnkefpclaa.B Go.RowKit Go.Proofs.YtaidjgnkefpclaaW.PrintWords Go.Proofs.YtaidjgnkefpclaaW.PrintLast Go.Proofs.YtaidjgnkefpclaaW.PrintMore
set_option linter.unusedVariables false
set_option linter.unusedSimpArgs false
set_option maxRecDepth 100000
theorem join_calls (g : Nat) (l : List ByteArray) (w : World) (hc : ∀ (j : Nat) x, l[j]? = some x → w.cell? ⟨g, 0 + j, none⟩ = some (.string x)) (hg : g < w.heap.size) (r : ByteArray) (hl : l.length ≤ 1000)
    (hlen : (Lib.join (l.map (·.data.toList)) [32]).length ≤ 140737488355328) (hr : (⟨(Lib.join (l.map (·.data.toList)) [32]).toArray⟩ : ByteArray) = r) :
    Calls Try.prog 19 #[.slice (some ⟨g, 0, none⟩) l.length l.length] w fun e w' => e = .returned (.string r) ∧ Below w.heap.size w w' := by
  subst hr
  have HC := Aside0.mk hc; clear hc
  go_enter Try.func19, Try.ntmps19
  go_wp2_with (go_at_call 26; refine (Try.strings_Join g 0 l.length l ⟨#[32]⟩ _ HC.out hg (by omega) (Nat.le_refl _) hlen).mono ?_; rintro e w' ⟨rfl, hb⟩)
  go_ret
  exact ⟨rfl, hb⟩
theorem join_ab (w : World) : Calls Try.prog 19 #[.slice (some ⟨w.heap.size, 0, none⟩) 2 2] (w.alloc (.cells #[.string ⟨#[97]⟩, .string ⟨#[98]⟩] 9)) fun e w' => e = .returned (.string ⟨#[97, 32, 98]⟩) ∧ Below w.heap.size w w' := by
  refine (join_calls w.heap.size [⟨#[97]⟩, ⟨#[98]⟩] _ ?_ ?_ _ (by decide) (by decide) rfl).mono ?_
  · intro j x hx
    rw [blk_cell (blk_new w _)]
    match j, hx with
    | 0, hx => simp at hx; subst hx; rfl
    | 1, hx => simp at hx; subst hx; rfl
  · have h2 := blk_new w (.cells #[.string ⟨#[97]⟩, .string ⟨#[98]⟩] 9)
    exact (Array.getElem?_eq_some_iff.1 h2).1
  · rintro e w' ⟨rfl, hb⟩
    exact ⟨rfl, below_step (below_alloc (Below.refl _ _) _) hb⟩
theorem p1 : num_Parse.f ⟨#[45, 49, 50]⟩ = some (-12, true) := (Pure.parse_code [45, 49, 50] (by decide)).trans (by kernel_rfl)
theorem p2 : num_Parse.f ⟨#[48, 55]⟩ = some (0, false) := (Pure.parse_code [48, 55] (by decide)).trans (by kernel_rfl)
theorem p3 : num_Unhex.f ⟨#[102, 102]⟩ = some (255, true) := by kernel_rfl
theorem p4 : num_Print.f (-9223372036854775808) = some ⟨#[45, 57, 50, 50, 51, 51, 55, 50, 48, 51, 54, 56, 53, 52, 55, 55, 53, 56, 48, 56]⟩ := by kernel_rfl
def tallymanlaw01_alive.f  : Option (Bool) := some true
set_option maxHeartbeats 4000000 in
theorem tallymanlaw01_alive.calls  (r : Bool) (w : World) (h : tallymanlaw01_alive.f  = some r) :
    Calls Try.prog 7 #[] w fun e w' => e = .returned (.bool r) ∧ Below w.heap.size w w' := by
  obtain rfl := Option.some.inj h
  have HB := Aside0.mk (Below.refl w.heap.size w)
  go_enter Try.func7, Try.ntmps7
  go_wp2_with (first | (go_at_call 8; (with_reducible refine (num_Parse.calls _ _ _ _ p1).mono ?_); rintro e w' ⟨rfl, hb⟩; have n0 := Aside0.mk (below_step HB.out hb); clear HB; have HB := n0; clear n0 hb) | (go_at_call 8; (with_reducible refine (num_Parse.calls _ _ _ _ p2).mono ?_); rintro e w' ⟨rfl, hb⟩; have n0 := Aside0.mk (below_step HB.out hb); clear HB; have HB := n0; clear n0 hb) | (go_at_call 12; (with_reducible refine (num_Unhex.calls _ _ _ _ p3).mono ?_); rintro e w' ⟨rfl, hb⟩; have n0 := Aside0.mk (below_step HB.out hb); clear HB; have HB := n0; clear n0 hb) | (go_at_call 10; (with_reducible refine (num_Print.calls _ _ _ p4).mono ?_); rintro e w' ⟨rfl, hb⟩; have n0 := Aside0.mk (below_step HB.out hb); clear HB; have HB := n0; clear n0 hb) | (go_at_call 19; (with_reducible refine (join_ab _).mono ?_); rintro e w' ⟨rfl, hb⟩; have n0 := Aside0.mk (below_step HB.out hb); clear HB; have HB := n0; clear n0 hb))
  all_goals go_ret
  all_goals exact ⟨rfl, HB.out⟩
end Go.Proofs.Ytaidjgnkefpclaa.P
