/- NumBack: numbers come back from how they are printed, what is read is printed so again, words come back from their line. -/
import Derived.Test.YtaidjgnkefpclaaNB
import Derived.Test.YtaidjgnkefpclaaS3
import Derived.Test.YtaidjgnkefpclaaF14
set_option linter.unusedVariables false
set_option linter.unusedSimpArgs false
namespace Go.Proofs.Ytaidjgnkefpclaa.P
open Go.Proofs.Ytaidjgnkefpclaa.B Go.RowKit Go.Proofs.Ytaidjgnkefpclaa.Pure Go.Proofs.YtaidjgnkefpclaaW.PrintWords Go.Proofs.YtaidjgnkefpclaaW.PrintLast Go.Proofs.YtaidjgnkefpclaaW.PrintMore
theorem words_bad (l : List UInt8) (w : World) (hl : l.length ≤ 100000) (h : ¬ (l = [] ∨ ∀ a ∈ spl l, a ≠ [])) : Calls Try.prog 16 #[.string (str l)] w fun e w' => e = .returned (.tuple #[.slice none 0 0, .bool false]) ∧ Below w.heap.size w w' := by
  refine (words_calls l w hl).mono ?_
  rintro e w' (⟨_, h1, h2⟩ | ⟨h0, _⟩ | ⟨h0, _⟩)
  · exact ⟨h1, h2⟩
  · exact absurd (.inl h0) h
  · exact absurd (.inr h0) h
theorem words_nil (w : World) : Calls Try.prog 16 #[.string (str [])] w fun e w' => e = .returned (.tuple #[.slice none 0 0, .bool true]) ∧ Below w.heap.size w w' := by
  refine (words_calls [] w (by simp)).mono ?_
  rintro e w' (⟨h0, _⟩ | ⟨_, h1, h2⟩ | ⟨_, h0, _⟩)
  · exact absurd (.inl rfl) h0
  · exact ⟨h1, h2⟩
  · exact absurd rfl h0
theorem words_ok (l : List UInt8) (w : World) (hl : l.length ≤ 100000) (h0 : l ≠ []) (h : ∀ a ∈ spl l, a ≠ []) : Calls Try.prog 16 #[.string (str l)] w fun e w' => ∃ g c, e = .returned (.tuple #[.slice (some ⟨g, 0, none⟩) (spl l).length c, .bool true]) ∧ (spl l).length ≤ c ∧ g < w'.heap.size ∧ Kd.C Kd.string w' (some ⟨g, 0, none⟩) (spl l).length ((spl l).map str) ∧ Below w.heap.size w w' := by
  refine (words_calls l w hl).mono ?_
  rintro e w' (⟨h1, _⟩ | ⟨h1, _⟩ | ⟨_, _, g, c, h1, h2, _, h4, h5, h6⟩)
  · exact absurd (.inr h) h1
  · exact absurd h1 h0
  · exact ⟨g, c, h1, h2, h4, h5, h6⟩
theorem join_rd (g c n : Nat) (l : List ByteArray) (w : World) (hn : l.length = n) (hC : Kd.C Kd.string w (some ⟨g, 0, none⟩) n l) (hcap : n ≤ c) (hg : g < w.heap.size) (r : ByteArray) (hl : l.length ≤ 1000000)
    (hlen : (Lib.join (l.map (·.data.toList)) [32]).length ≤ 140737488355328) (hr : (⟨(Lib.join (l.map (·.data.toList)) [32]).toArray⟩ : ByteArray) = r) :
    Calls Try.prog 19 #[.slice (some ⟨g, 0, none⟩) n c] w fun e w' => e = .returned (.string r) ∧ Below w.heap.size w w' := by
  subst hr hn
  have hc : ∀ (j : Nat) x, l[j]? = some x → w.cell? ⟨g, 0 + j, none⟩ = some (.string x) := by
    intro j x hx
    have hj : j < l.length := (List.getElem?_eq_some_iff.1 hx).1
    obtain ⟨_, _, h3⟩ := hC
    obtain ⟨ad, e, hp⟩ := h3 (by omega)
    injection e with e
    subst e
    obtain ⟨cs, _, h2, hcs⟩ := hp j x hx
    obtain rfl : cs = [.string x] := h2
    have h3 := hcs 0 (.string x) rfl
    rw [add_plain] at h3
    simpa [show Kd.string.sz = 1 from rfl] using h3
  have HC := Aside0.mk hc; clear hc
  go_enter Try.func19, Try.ntmps19
  go_wp2_with (go_at_call 26; refine (Try.strings_Join g 0 c l ⟨#[32]⟩ _ HC.out hg (by omega) hcap hlen).mono ?_; rintro e w' ⟨rfl, hb⟩)
  go_ret
  exact ⟨rfl, hb⟩
theorem join_none (w : World) : Calls Try.prog 19 #[.slice none 0 0] w fun e w' => e = .returned (.string ⟨#[]⟩) ∧ Below w.heap.size w w' := by
  go_enter Try.func19, Try.ntmps19
  go_wp2_with (go_at_call 26; refine (Try.strings_Join_none none 0 ⟨#[32]⟩ _).mono ?_; rintro e w' ⟨rfl, rfl⟩)
  go_ret
  exact ⟨rfl, Below.refl _ _⟩
theorem join_back (l : List UInt8) (g c : Nat) (w : World) (hl : l.length ≤ 300) (hC : Kd.C Kd.string w (some ⟨g, 0, none⟩) (spl l).length ((spl l).map str)) (hcap : (spl l).length ≤ c) (hg : g < w.heap.size) :
    Calls Try.prog 19 #[.slice (some ⟨g, 0, none⟩) (spl l).length c] w fun e w' => e = .returned (.string (str l)) ∧ Below w.heap.size w w' := by
  have hm : ((spl l).map str).map (·.data.toList) = spl l := by rw [List.map_map]; conv => rhs; rw [← List.map_id (spl l)]
                                                                rfl
  refine join_rd g c _ _ w (by rw [List.length_map]) hC hcap hg _ ?_ ?_ ?_
  · rw [List.length_map]; have := spl_len l; omega
  · rw [hm, join_spl]; omega
  · rw [hm, join_spl]
set_option maxHeartbeats 4000000 in
set_option maxRecDepth 100000 in
theorem back_bad (n m v : Int) (l : List UInt8) (w : World) (pn pm hx s : ByteArray) (c x : Int) (was was2 : Bool) (hs : str l = s) (hl : l.length ≤ 300)
    (f1 : num_Print.f n = some pn) (f2 : num_Parse.f pn = some (n, true)) (f3 : num_Hex.f v = some hx) (f4 : num_Unhex.f hx = some (v, true)) (f5 : num_Print.f m = some pm) (heq : (pn.toList == pm.toList) = (n == m))
    (f6 : num_Parse.f s = some (c, was)) (f7 : was = false ∨ was = true ∧ num_Print.f c = some s) (f8 : num_Unhex.f s = some (x, was2)) (f9 : was2 = false ∨ was2 = true ∧ num_Hex.f x = some s) (hsz : s.size = l.length) (hw : ∀ w, Calls Try.prog 16 #[.string s] w fun e w' => e = .returned (.tuple #[.slice none 0 0, .bool false]) ∧ Below w.heap.size w w') :
    Calls Try.prog 6 #[.int .i64 n, .int .i64 m, .int .u64 v, .string s] w fun e w' => e = .returned (.bool true) ∧ Below w.heap.size w w' := by
  have HB := Aside0.mk (Below.refl w.heap.size w)
  have F1 := Aside0.mk f1; clear f1
  have F2 := Aside0.mk f2; clear f2
  have F3 := Aside0.mk f3; clear f3
  have F4 := Aside0.mk f4; clear f4
  have F5 := Aside0.mk f5; clear f5
  have F6 := Aside0.mk f6; clear f6
  have F8 := Aside0.mk f8; clear f8
  have g1 : decide ((300 : Int) < s.size) = false := by simp; omega
  have g2 : (n != n) = false := by simp
  have g3 : (v != v) = false := by simp
  have g4 : (s.toList != s.toList) = false := by simp
  have g5 : (s.toList == s.toList) = true := by simp
  have HW := Aside0.mk hw; clear hw
  rcases f7 with rfl | ⟨rfl, f7⟩
  all_goals rcases f9 with rfl | ⟨rfl, f9⟩
  · go_enter Try.func6, Try.ntmps6
    go_wp2_with (first | (go_at_call 10; (with_reducible refine (num_Print.calls _ _ _ F1.out).mono ?_); rintro e w' ⟨rfl, hb⟩; have n0 := Aside0.mk (below_step HB.out hb); clear HB; have HB := n0; clear n0 hb) | (go_at_call 10; (with_reducible refine (num_Print.calls _ _ _ F5.out).mono ?_); rintro e w' ⟨rfl, hb⟩; have n0 := Aside0.mk (below_step HB.out hb); clear HB; have HB := n0; clear n0 hb) | (go_at_call 8; (with_reducible refine (num_Parse.calls _ _ _ _ F2.out).mono ?_); rintro e w' ⟨rfl, hb⟩; have n0 := Aside0.mk (below_step HB.out hb); clear HB; have HB := n0; clear n0 hb) | (go_at_call 8; (with_reducible refine (num_Parse.calls _ _ _ _ F6.out).mono ?_); rintro e w' ⟨rfl, hb⟩; have n0 := Aside0.mk (below_step HB.out hb); clear HB; have HB := n0; clear n0 hb) | (go_at_call 14; (with_reducible refine (num_Hex.calls _ _ _ F3.out).mono ?_); rintro e w' ⟨rfl, hb⟩; have n0 := Aside0.mk (below_step HB.out hb); clear HB; have HB := n0; clear n0 hb) | (go_at_call 12; (with_reducible refine (num_Unhex.calls _ _ _ _ F4.out).mono ?_); rintro e w' ⟨rfl, hb⟩; have n0 := Aside0.mk (below_step HB.out hb); clear HB; have HB := n0; clear n0 hb) | (go_at_call 12; (with_reducible refine (num_Unhex.calls _ _ _ _ F8.out).mono ?_); rintro e w' ⟨rfl, hb⟩; have n0 := Aside0.mk (below_step HB.out hb); clear HB; have HB := n0; clear n0 hb) | (go_at_call 7; (with_reducible refine (tallymanlaw01_alive.calls true _ rfl).mono ?_); rintro e w' ⟨rfl, hb⟩; have n0 := Aside0.mk (below_step HB.out hb); clear HB; have HB := n0; clear n0 hb) | (go_at_call 16; (with_reducible refine (HW.out _).mono ?_); rintro e w' ⟨rfl, hb⟩; have n0 := Aside0.mk (below_step HB.out hb); clear HB; have HB := n0; clear n0 hb))
    all_goals go_ret
    all_goals exact ⟨by first | rfl | simp [*], HB.out⟩
  · have F9 := Aside0.mk f9; clear f9
    go_enter Try.func6, Try.ntmps6
    go_wp2_with (first | (go_at_call 10; (with_reducible refine (num_Print.calls _ _ _ F1.out).mono ?_); rintro e w' ⟨rfl, hb⟩; have n0 := Aside0.mk (below_step HB.out hb); clear HB; have HB := n0; clear n0 hb) | (go_at_call 10; (with_reducible refine (num_Print.calls _ _ _ F5.out).mono ?_); rintro e w' ⟨rfl, hb⟩; have n0 := Aside0.mk (below_step HB.out hb); clear HB; have HB := n0; clear n0 hb) | (go_at_call 14; (with_reducible refine (num_Hex.calls _ _ _ F9.out).mono ?_); rintro e w' ⟨rfl, hb⟩; have n0 := Aside0.mk (below_step HB.out hb); clear HB; have HB := n0; clear n0 hb) | (go_at_call 8; (with_reducible refine (num_Parse.calls _ _ _ _ F2.out).mono ?_); rintro e w' ⟨rfl, hb⟩; have n0 := Aside0.mk (below_step HB.out hb); clear HB; have HB := n0; clear n0 hb) | (go_at_call 8; (with_reducible refine (num_Parse.calls _ _ _ _ F6.out).mono ?_); rintro e w' ⟨rfl, hb⟩; have n0 := Aside0.mk (below_step HB.out hb); clear HB; have HB := n0; clear n0 hb) | (go_at_call 14; (with_reducible refine (num_Hex.calls _ _ _ F3.out).mono ?_); rintro e w' ⟨rfl, hb⟩; have n0 := Aside0.mk (below_step HB.out hb); clear HB; have HB := n0; clear n0 hb) | (go_at_call 12; (with_reducible refine (num_Unhex.calls _ _ _ _ F4.out).mono ?_); rintro e w' ⟨rfl, hb⟩; have n0 := Aside0.mk (below_step HB.out hb); clear HB; have HB := n0; clear n0 hb) | (go_at_call 12; (with_reducible refine (num_Unhex.calls _ _ _ _ F8.out).mono ?_); rintro e w' ⟨rfl, hb⟩; have n0 := Aside0.mk (below_step HB.out hb); clear HB; have HB := n0; clear n0 hb) | (go_at_call 7; (with_reducible refine (tallymanlaw01_alive.calls true _ rfl).mono ?_); rintro e w' ⟨rfl, hb⟩; have n0 := Aside0.mk (below_step HB.out hb); clear HB; have HB := n0; clear n0 hb) | (go_at_call 16; (with_reducible refine (HW.out _).mono ?_); rintro e w' ⟨rfl, hb⟩; have n0 := Aside0.mk (below_step HB.out hb); clear HB; have HB := n0; clear n0 hb))
    all_goals go_ret
    all_goals exact ⟨by first | rfl | simp [*], HB.out⟩
  · have F7 := Aside0.mk f7; clear f7
    go_enter Try.func6, Try.ntmps6
    go_wp2_with (first | (go_at_call 10; (with_reducible refine (num_Print.calls _ _ _ F1.out).mono ?_); rintro e w' ⟨rfl, hb⟩; have n0 := Aside0.mk (below_step HB.out hb); clear HB; have HB := n0; clear n0 hb) | (go_at_call 10; (with_reducible refine (num_Print.calls _ _ _ F5.out).mono ?_); rintro e w' ⟨rfl, hb⟩; have n0 := Aside0.mk (below_step HB.out hb); clear HB; have HB := n0; clear n0 hb) | (go_at_call 10; (with_reducible refine (num_Print.calls _ _ _ F7.out).mono ?_); rintro e w' ⟨rfl, hb⟩; have n0 := Aside0.mk (below_step HB.out hb); clear HB; have HB := n0; clear n0 hb) | (go_at_call 8; (with_reducible refine (num_Parse.calls _ _ _ _ F2.out).mono ?_); rintro e w' ⟨rfl, hb⟩; have n0 := Aside0.mk (below_step HB.out hb); clear HB; have HB := n0; clear n0 hb) | (go_at_call 8; (with_reducible refine (num_Parse.calls _ _ _ _ F6.out).mono ?_); rintro e w' ⟨rfl, hb⟩; have n0 := Aside0.mk (below_step HB.out hb); clear HB; have HB := n0; clear n0 hb) | (go_at_call 14; (with_reducible refine (num_Hex.calls _ _ _ F3.out).mono ?_); rintro e w' ⟨rfl, hb⟩; have n0 := Aside0.mk (below_step HB.out hb); clear HB; have HB := n0; clear n0 hb) | (go_at_call 12; (with_reducible refine (num_Unhex.calls _ _ _ _ F4.out).mono ?_); rintro e w' ⟨rfl, hb⟩; have n0 := Aside0.mk (below_step HB.out hb); clear HB; have HB := n0; clear n0 hb) | (go_at_call 12; (with_reducible refine (num_Unhex.calls _ _ _ _ F8.out).mono ?_); rintro e w' ⟨rfl, hb⟩; have n0 := Aside0.mk (below_step HB.out hb); clear HB; have HB := n0; clear n0 hb) | (go_at_call 7; (with_reducible refine (tallymanlaw01_alive.calls true _ rfl).mono ?_); rintro e w' ⟨rfl, hb⟩; have n0 := Aside0.mk (below_step HB.out hb); clear HB; have HB := n0; clear n0 hb) | (go_at_call 16; (with_reducible refine (HW.out _).mono ?_); rintro e w' ⟨rfl, hb⟩; have n0 := Aside0.mk (below_step HB.out hb); clear HB; have HB := n0; clear n0 hb))
    all_goals go_ret
    all_goals exact ⟨by first | rfl | simp [*], HB.out⟩
  · have F7 := Aside0.mk f7; clear f7
    have F9 := Aside0.mk f9; clear f9
    go_enter Try.func6, Try.ntmps6
    go_wp2_with (first | (go_at_call 10; (with_reducible refine (num_Print.calls _ _ _ F1.out).mono ?_); rintro e w' ⟨rfl, hb⟩; have n0 := Aside0.mk (below_step HB.out hb); clear HB; have HB := n0; clear n0 hb) | (go_at_call 10; (with_reducible refine (num_Print.calls _ _ _ F5.out).mono ?_); rintro e w' ⟨rfl, hb⟩; have n0 := Aside0.mk (below_step HB.out hb); clear HB; have HB := n0; clear n0 hb) | (go_at_call 14; (with_reducible refine (num_Hex.calls _ _ _ F9.out).mono ?_); rintro e w' ⟨rfl, hb⟩; have n0 := Aside0.mk (below_step HB.out hb); clear HB; have HB := n0; clear n0 hb) | (go_at_call 10; (with_reducible refine (num_Print.calls _ _ _ F7.out).mono ?_); rintro e w' ⟨rfl, hb⟩; have n0 := Aside0.mk (below_step HB.out hb); clear HB; have HB := n0; clear n0 hb) | (go_at_call 8; (with_reducible refine (num_Parse.calls _ _ _ _ F2.out).mono ?_); rintro e w' ⟨rfl, hb⟩; have n0 := Aside0.mk (below_step HB.out hb); clear HB; have HB := n0; clear n0 hb) | (go_at_call 8; (with_reducible refine (num_Parse.calls _ _ _ _ F6.out).mono ?_); rintro e w' ⟨rfl, hb⟩; have n0 := Aside0.mk (below_step HB.out hb); clear HB; have HB := n0; clear n0 hb) | (go_at_call 14; (with_reducible refine (num_Hex.calls _ _ _ F3.out).mono ?_); rintro e w' ⟨rfl, hb⟩; have n0 := Aside0.mk (below_step HB.out hb); clear HB; have HB := n0; clear n0 hb) | (go_at_call 12; (with_reducible refine (num_Unhex.calls _ _ _ _ F4.out).mono ?_); rintro e w' ⟨rfl, hb⟩; have n0 := Aside0.mk (below_step HB.out hb); clear HB; have HB := n0; clear n0 hb) | (go_at_call 12; (with_reducible refine (num_Unhex.calls _ _ _ _ F8.out).mono ?_); rintro e w' ⟨rfl, hb⟩; have n0 := Aside0.mk (below_step HB.out hb); clear HB; have HB := n0; clear n0 hb) | (go_at_call 7; (with_reducible refine (tallymanlaw01_alive.calls true _ rfl).mono ?_); rintro e w' ⟨rfl, hb⟩; have n0 := Aside0.mk (below_step HB.out hb); clear HB; have HB := n0; clear n0 hb) | (go_at_call 16; (with_reducible refine (HW.out _).mono ?_); rintro e w' ⟨rfl, hb⟩; have n0 := Aside0.mk (below_step HB.out hb); clear HB; have HB := n0; clear n0 hb))
    all_goals go_ret
    all_goals exact ⟨by first | rfl | simp [*], HB.out⟩
set_option maxHeartbeats 4000000 in
set_option maxRecDepth 100000 in
theorem back_nil (n m v : Int) (l : List UInt8) (w : World) (pn pm hx s : ByteArray) (c x : Int) (was was2 : Bool) (hs : str l = s) (hl : l.length ≤ 300)
    (f1 : num_Print.f n = some pn) (f2 : num_Parse.f pn = some (n, true)) (f3 : num_Hex.f v = some hx) (f4 : num_Unhex.f hx = some (v, true)) (f5 : num_Print.f m = some pm) (heq : (pn.toList == pm.toList) = (n == m))
    (f6 : num_Parse.f s = some (c, was)) (f7 : was = false ∨ was = true ∧ num_Print.f c = some s) (f8 : num_Unhex.f s = some (x, was2)) (f9 : was2 = false ∨ was2 = true ∧ num_Hex.f x = some s) (hsz : s.size = l.length) (hw : ∀ w, Calls Try.prog 16 #[.string s] w fun e w' => e = .returned (.tuple #[.slice none 0 0, .bool true]) ∧ Below w.heap.size w w') (hj : ∀ w, Calls Try.prog 19 #[.slice none 0 0] w fun e w' => e = .returned (.string s) ∧ Below w.heap.size w w') :
    Calls Try.prog 6 #[.int .i64 n, .int .i64 m, .int .u64 v, .string s] w fun e w' => e = .returned (.bool true) ∧ Below w.heap.size w w' := by
  have HB := Aside0.mk (Below.refl w.heap.size w)
  have F1 := Aside0.mk f1; clear f1
  have F2 := Aside0.mk f2; clear f2
  have F3 := Aside0.mk f3; clear f3
  have F4 := Aside0.mk f4; clear f4
  have F5 := Aside0.mk f5; clear f5
  have F6 := Aside0.mk f6; clear f6
  have F8 := Aside0.mk f8; clear f8
  have g1 : decide ((300 : Int) < s.size) = false := by simp; omega
  have g2 : (n != n) = false := by simp
  have g3 : (v != v) = false := by simp
  have g4 : (s.toList != s.toList) = false := by simp
  have g5 : (s.toList == s.toList) = true := by simp
  have HW := Aside0.mk hw; clear hw
  have HJ := Aside0.mk hj; clear hj
  rcases f7 with rfl | ⟨rfl, f7⟩
  all_goals rcases f9 with rfl | ⟨rfl, f9⟩
  · go_enter Try.func6, Try.ntmps6
    go_wp2_with (first | (go_at_call 10; (with_reducible refine (num_Print.calls _ _ _ F1.out).mono ?_); rintro e w' ⟨rfl, hb⟩; have n0 := Aside0.mk (below_step HB.out hb); clear HB; have HB := n0; clear n0 hb) | (go_at_call 10; (with_reducible refine (num_Print.calls _ _ _ F5.out).mono ?_); rintro e w' ⟨rfl, hb⟩; have n0 := Aside0.mk (below_step HB.out hb); clear HB; have HB := n0; clear n0 hb) | (go_at_call 8; (with_reducible refine (num_Parse.calls _ _ _ _ F2.out).mono ?_); rintro e w' ⟨rfl, hb⟩; have n0 := Aside0.mk (below_step HB.out hb); clear HB; have HB := n0; clear n0 hb) | (go_at_call 8; (with_reducible refine (num_Parse.calls _ _ _ _ F6.out).mono ?_); rintro e w' ⟨rfl, hb⟩; have n0 := Aside0.mk (below_step HB.out hb); clear HB; have HB := n0; clear n0 hb) | (go_at_call 14; (with_reducible refine (num_Hex.calls _ _ _ F3.out).mono ?_); rintro e w' ⟨rfl, hb⟩; have n0 := Aside0.mk (below_step HB.out hb); clear HB; have HB := n0; clear n0 hb) | (go_at_call 12; (with_reducible refine (num_Unhex.calls _ _ _ _ F4.out).mono ?_); rintro e w' ⟨rfl, hb⟩; have n0 := Aside0.mk (below_step HB.out hb); clear HB; have HB := n0; clear n0 hb) | (go_at_call 12; (with_reducible refine (num_Unhex.calls _ _ _ _ F8.out).mono ?_); rintro e w' ⟨rfl, hb⟩; have n0 := Aside0.mk (below_step HB.out hb); clear HB; have HB := n0; clear n0 hb) | (go_at_call 7; (with_reducible refine (tallymanlaw01_alive.calls true _ rfl).mono ?_); rintro e w' ⟨rfl, hb⟩; have n0 := Aside0.mk (below_step HB.out hb); clear HB; have HB := n0; clear n0 hb) | (go_at_call 16; (with_reducible refine (HW.out _).mono ?_); rintro e w' ⟨rfl, hb⟩; have n0 := Aside0.mk (below_step HB.out hb); clear HB; have HB := n0; clear n0 hb) | (go_at_call 19; (with_reducible refine (HJ.out _).mono ?_); rintro e w' ⟨rfl, hb⟩; have n0 := Aside0.mk (below_step HB.out hb); clear HB; have HB := n0; clear n0 hb))
    all_goals go_ret
    all_goals exact ⟨by first | rfl | simp [*], HB.out⟩
  · have F9 := Aside0.mk f9; clear f9
    go_enter Try.func6, Try.ntmps6
    go_wp2_with (first | (go_at_call 10; (with_reducible refine (num_Print.calls _ _ _ F1.out).mono ?_); rintro e w' ⟨rfl, hb⟩; have n0 := Aside0.mk (below_step HB.out hb); clear HB; have HB := n0; clear n0 hb) | (go_at_call 10; (with_reducible refine (num_Print.calls _ _ _ F5.out).mono ?_); rintro e w' ⟨rfl, hb⟩; have n0 := Aside0.mk (below_step HB.out hb); clear HB; have HB := n0; clear n0 hb) | (go_at_call 14; (with_reducible refine (num_Hex.calls _ _ _ F9.out).mono ?_); rintro e w' ⟨rfl, hb⟩; have n0 := Aside0.mk (below_step HB.out hb); clear HB; have HB := n0; clear n0 hb) | (go_at_call 8; (with_reducible refine (num_Parse.calls _ _ _ _ F2.out).mono ?_); rintro e w' ⟨rfl, hb⟩; have n0 := Aside0.mk (below_step HB.out hb); clear HB; have HB := n0; clear n0 hb) | (go_at_call 8; (with_reducible refine (num_Parse.calls _ _ _ _ F6.out).mono ?_); rintro e w' ⟨rfl, hb⟩; have n0 := Aside0.mk (below_step HB.out hb); clear HB; have HB := n0; clear n0 hb) | (go_at_call 14; (with_reducible refine (num_Hex.calls _ _ _ F3.out).mono ?_); rintro e w' ⟨rfl, hb⟩; have n0 := Aside0.mk (below_step HB.out hb); clear HB; have HB := n0; clear n0 hb) | (go_at_call 12; (with_reducible refine (num_Unhex.calls _ _ _ _ F4.out).mono ?_); rintro e w' ⟨rfl, hb⟩; have n0 := Aside0.mk (below_step HB.out hb); clear HB; have HB := n0; clear n0 hb) | (go_at_call 12; (with_reducible refine (num_Unhex.calls _ _ _ _ F8.out).mono ?_); rintro e w' ⟨rfl, hb⟩; have n0 := Aside0.mk (below_step HB.out hb); clear HB; have HB := n0; clear n0 hb) | (go_at_call 7; (with_reducible refine (tallymanlaw01_alive.calls true _ rfl).mono ?_); rintro e w' ⟨rfl, hb⟩; have n0 := Aside0.mk (below_step HB.out hb); clear HB; have HB := n0; clear n0 hb) | (go_at_call 16; (with_reducible refine (HW.out _).mono ?_); rintro e w' ⟨rfl, hb⟩; have n0 := Aside0.mk (below_step HB.out hb); clear HB; have HB := n0; clear n0 hb) | (go_at_call 19; (with_reducible refine (HJ.out _).mono ?_); rintro e w' ⟨rfl, hb⟩; have n0 := Aside0.mk (below_step HB.out hb); clear HB; have HB := n0; clear n0 hb))
    all_goals go_ret
    all_goals exact ⟨by first | rfl | simp [*], HB.out⟩
  · have F7 := Aside0.mk f7; clear f7
    go_enter Try.func6, Try.ntmps6
    go_wp2_with (first | (go_at_call 10; (with_reducible refine (num_Print.calls _ _ _ F1.out).mono ?_); rintro e w' ⟨rfl, hb⟩; have n0 := Aside0.mk (below_step HB.out hb); clear HB; have HB := n0; clear n0 hb) | (go_at_call 10; (with_reducible refine (num_Print.calls _ _ _ F5.out).mono ?_); rintro e w' ⟨rfl, hb⟩; have n0 := Aside0.mk (below_step HB.out hb); clear HB; have HB := n0; clear n0 hb) | (go_at_call 10; (with_reducible refine (num_Print.calls _ _ _ F7.out).mono ?_); rintro e w' ⟨rfl, hb⟩; have n0 := Aside0.mk (below_step HB.out hb); clear HB; have HB := n0; clear n0 hb) | (go_at_call 8; (with_reducible refine (num_Parse.calls _ _ _ _ F2.out).mono ?_); rintro e w' ⟨rfl, hb⟩; have n0 := Aside0.mk (below_step HB.out hb); clear HB; have HB := n0; clear n0 hb) | (go_at_call 8; (with_reducible refine (num_Parse.calls _ _ _ _ F6.out).mono ?_); rintro e w' ⟨rfl, hb⟩; have n0 := Aside0.mk (below_step HB.out hb); clear HB; have HB := n0; clear n0 hb) | (go_at_call 14; (with_reducible refine (num_Hex.calls _ _ _ F3.out).mono ?_); rintro e w' ⟨rfl, hb⟩; have n0 := Aside0.mk (below_step HB.out hb); clear HB; have HB := n0; clear n0 hb) | (go_at_call 12; (with_reducible refine (num_Unhex.calls _ _ _ _ F4.out).mono ?_); rintro e w' ⟨rfl, hb⟩; have n0 := Aside0.mk (below_step HB.out hb); clear HB; have HB := n0; clear n0 hb) | (go_at_call 12; (with_reducible refine (num_Unhex.calls _ _ _ _ F8.out).mono ?_); rintro e w' ⟨rfl, hb⟩; have n0 := Aside0.mk (below_step HB.out hb); clear HB; have HB := n0; clear n0 hb) | (go_at_call 7; (with_reducible refine (tallymanlaw01_alive.calls true _ rfl).mono ?_); rintro e w' ⟨rfl, hb⟩; have n0 := Aside0.mk (below_step HB.out hb); clear HB; have HB := n0; clear n0 hb) | (go_at_call 16; (with_reducible refine (HW.out _).mono ?_); rintro e w' ⟨rfl, hb⟩; have n0 := Aside0.mk (below_step HB.out hb); clear HB; have HB := n0; clear n0 hb) | (go_at_call 19; (with_reducible refine (HJ.out _).mono ?_); rintro e w' ⟨rfl, hb⟩; have n0 := Aside0.mk (below_step HB.out hb); clear HB; have HB := n0; clear n0 hb))
    all_goals go_ret
    all_goals exact ⟨by first | rfl | simp [*], HB.out⟩
  · have F7 := Aside0.mk f7; clear f7
    have F9 := Aside0.mk f9; clear f9
    go_enter Try.func6, Try.ntmps6
    go_wp2_with (first | (go_at_call 10; (with_reducible refine (num_Print.calls _ _ _ F1.out).mono ?_); rintro e w' ⟨rfl, hb⟩; have n0 := Aside0.mk (below_step HB.out hb); clear HB; have HB := n0; clear n0 hb) | (go_at_call 10; (with_reducible refine (num_Print.calls _ _ _ F5.out).mono ?_); rintro e w' ⟨rfl, hb⟩; have n0 := Aside0.mk (below_step HB.out hb); clear HB; have HB := n0; clear n0 hb) | (go_at_call 14; (with_reducible refine (num_Hex.calls _ _ _ F9.out).mono ?_); rintro e w' ⟨rfl, hb⟩; have n0 := Aside0.mk (below_step HB.out hb); clear HB; have HB := n0; clear n0 hb) | (go_at_call 10; (with_reducible refine (num_Print.calls _ _ _ F7.out).mono ?_); rintro e w' ⟨rfl, hb⟩; have n0 := Aside0.mk (below_step HB.out hb); clear HB; have HB := n0; clear n0 hb) | (go_at_call 8; (with_reducible refine (num_Parse.calls _ _ _ _ F2.out).mono ?_); rintro e w' ⟨rfl, hb⟩; have n0 := Aside0.mk (below_step HB.out hb); clear HB; have HB := n0; clear n0 hb) | (go_at_call 8; (with_reducible refine (num_Parse.calls _ _ _ _ F6.out).mono ?_); rintro e w' ⟨rfl, hb⟩; have n0 := Aside0.mk (below_step HB.out hb); clear HB; have HB := n0; clear n0 hb) | (go_at_call 14; (with_reducible refine (num_Hex.calls _ _ _ F3.out).mono ?_); rintro e w' ⟨rfl, hb⟩; have n0 := Aside0.mk (below_step HB.out hb); clear HB; have HB := n0; clear n0 hb) | (go_at_call 12; (with_reducible refine (num_Unhex.calls _ _ _ _ F4.out).mono ?_); rintro e w' ⟨rfl, hb⟩; have n0 := Aside0.mk (below_step HB.out hb); clear HB; have HB := n0; clear n0 hb) | (go_at_call 12; (with_reducible refine (num_Unhex.calls _ _ _ _ F8.out).mono ?_); rintro e w' ⟨rfl, hb⟩; have n0 := Aside0.mk (below_step HB.out hb); clear HB; have HB := n0; clear n0 hb) | (go_at_call 7; (with_reducible refine (tallymanlaw01_alive.calls true _ rfl).mono ?_); rintro e w' ⟨rfl, hb⟩; have n0 := Aside0.mk (below_step HB.out hb); clear HB; have HB := n0; clear n0 hb) | (go_at_call 16; (with_reducible refine (HW.out _).mono ?_); rintro e w' ⟨rfl, hb⟩; have n0 := Aside0.mk (below_step HB.out hb); clear HB; have HB := n0; clear n0 hb) | (go_at_call 19; (with_reducible refine (HJ.out _).mono ?_); rintro e w' ⟨rfl, hb⟩; have n0 := Aside0.mk (below_step HB.out hb); clear HB; have HB := n0; clear n0 hb))
    all_goals go_ret
    all_goals exact ⟨by first | rfl | simp [*], HB.out⟩
set_option maxHeartbeats 4000000 in
set_option maxRecDepth 100000 in
theorem back_ok (n m v : Int) (l : List UInt8) (w : World) (pn pm hx s : ByteArray) (c x : Int) (was was2 : Bool) (hs : str l = s) (hl : l.length ≤ 300)
    (f1 : num_Print.f n = some pn) (f2 : num_Parse.f pn = some (n, true)) (f3 : num_Hex.f v = some hx) (f4 : num_Unhex.f hx = some (v, true)) (f5 : num_Print.f m = some pm) (heq : (pn.toList == pm.toList) = (n == m))
    (f6 : num_Parse.f s = some (c, was)) (f7 : was = false ∨ was = true ∧ num_Print.f c = some s) (f8 : num_Unhex.f s = some (x, was2)) (f9 : was2 = false ∨ was2 = true ∧ num_Hex.f x = some s) (hsz : s.size = l.length) (N : Nat) (ws : List ByteArray) (hw : ∀ w, Calls Try.prog 16 #[.string s] w fun e w' => ∃ g c, e = .returned (.tuple #[.slice (some ⟨g, 0, none⟩) N c, .bool true]) ∧ N ≤ c ∧ g < w'.heap.size ∧ Kd.C Kd.string w' (some ⟨g, 0, none⟩) N ws ∧ Below w.heap.size w w') (hj : ∀ g c w, Kd.C Kd.string w (some ⟨g, 0, none⟩) N ws → N ≤ c → g < w.heap.size → Calls Try.prog 19 #[.slice (some ⟨g, 0, none⟩) N c] w fun e w' => e = .returned (.string s) ∧ Below w.heap.size w w') :
    Calls Try.prog 6 #[.int .i64 n, .int .i64 m, .int .u64 v, .string s] w fun e w' => e = .returned (.bool true) ∧ Below w.heap.size w w' := by
  have HB := Aside0.mk (Below.refl w.heap.size w)
  have F1 := Aside0.mk f1; clear f1
  have F2 := Aside0.mk f2; clear f2
  have F3 := Aside0.mk f3; clear f3
  have F4 := Aside0.mk f4; clear f4
  have F5 := Aside0.mk f5; clear f5
  have F6 := Aside0.mk f6; clear f6
  have F8 := Aside0.mk f8; clear f8
  have g1 : decide ((300 : Int) < s.size) = false := by simp; omega
  have g2 : (n != n) = false := by simp
  have g3 : (v != v) = false := by simp
  have g4 : (s.toList != s.toList) = false := by simp
  have g5 : (s.toList == s.toList) = true := by simp
  have HW := Aside0.mk hw; clear hw
  have HJ := Aside0.mk hj; clear hj
  rcases f7 with rfl | ⟨rfl, f7⟩
  all_goals rcases f9 with rfl | ⟨rfl, f9⟩
  · go_enter Try.func6, Try.ntmps6
    go_wp2_with (first | (go_at_call 10; (with_reducible refine (num_Print.calls _ _ _ F1.out).mono ?_); rintro e w' ⟨rfl, hb⟩; have n0 := Aside0.mk (below_step HB.out hb); clear HB; have HB := n0; clear n0 hb) | (go_at_call 10; (with_reducible refine (num_Print.calls _ _ _ F5.out).mono ?_); rintro e w' ⟨rfl, hb⟩; have n0 := Aside0.mk (below_step HB.out hb); clear HB; have HB := n0; clear n0 hb) | (go_at_call 8; (with_reducible refine (num_Parse.calls _ _ _ _ F2.out).mono ?_); rintro e w' ⟨rfl, hb⟩; have n0 := Aside0.mk (below_step HB.out hb); clear HB; have HB := n0; clear n0 hb) | (go_at_call 8; (with_reducible refine (num_Parse.calls _ _ _ _ F6.out).mono ?_); rintro e w' ⟨rfl, hb⟩; have n0 := Aside0.mk (below_step HB.out hb); clear HB; have HB := n0; clear n0 hb) | (go_at_call 14; (with_reducible refine (num_Hex.calls _ _ _ F3.out).mono ?_); rintro e w' ⟨rfl, hb⟩; have n0 := Aside0.mk (below_step HB.out hb); clear HB; have HB := n0; clear n0 hb) | (go_at_call 12; (with_reducible refine (num_Unhex.calls _ _ _ _ F4.out).mono ?_); rintro e w' ⟨rfl, hb⟩; have n0 := Aside0.mk (below_step HB.out hb); clear HB; have HB := n0; clear n0 hb) | (go_at_call 12; (with_reducible refine (num_Unhex.calls _ _ _ _ F8.out).mono ?_); rintro e w' ⟨rfl, hb⟩; have n0 := Aside0.mk (below_step HB.out hb); clear HB; have HB := n0; clear n0 hb) | (go_at_call 7; (with_reducible refine (tallymanlaw01_alive.calls true _ rfl).mono ?_); rintro e w' ⟨rfl, hb⟩; have n0 := Aside0.mk (below_step HB.out hb); clear HB; have HB := n0; clear n0 hb) | (go_at_call 16; (with_reducible refine (HW.out _).mono ?_); rintro e w' ⟨g, k, rfl, hk, hg, hC, hb⟩; have n0 := Aside0.mk (below_step HB.out hb); clear HB; have HB := n0; clear n0 hb; have HC := Aside0.mk (HJ.out g k w' hC hk hg); clear hC hk hg) | (go_at_call 19; (with_reducible refine (HC.out).mono ?_); rintro e w' ⟨rfl, hb⟩; have n0 := Aside0.mk (below_step HB.out hb); clear HB; have HB := n0; clear n0 hb))
    all_goals go_ret
    all_goals exact ⟨by first | rfl | simp [*], HB.out⟩
  · have F9 := Aside0.mk f9; clear f9
    go_enter Try.func6, Try.ntmps6
    go_wp2_with (first | (go_at_call 10; (with_reducible refine (num_Print.calls _ _ _ F1.out).mono ?_); rintro e w' ⟨rfl, hb⟩; have n0 := Aside0.mk (below_step HB.out hb); clear HB; have HB := n0; clear n0 hb) | (go_at_call 10; (with_reducible refine (num_Print.calls _ _ _ F5.out).mono ?_); rintro e w' ⟨rfl, hb⟩; have n0 := Aside0.mk (below_step HB.out hb); clear HB; have HB := n0; clear n0 hb) | (go_at_call 14; (with_reducible refine (num_Hex.calls _ _ _ F9.out).mono ?_); rintro e w' ⟨rfl, hb⟩; have n0 := Aside0.mk (below_step HB.out hb); clear HB; have HB := n0; clear n0 hb) | (go_at_call 8; (with_reducible refine (num_Parse.calls _ _ _ _ F2.out).mono ?_); rintro e w' ⟨rfl, hb⟩; have n0 := Aside0.mk (below_step HB.out hb); clear HB; have HB := n0; clear n0 hb) | (go_at_call 8; (with_reducible refine (num_Parse.calls _ _ _ _ F6.out).mono ?_); rintro e w' ⟨rfl, hb⟩; have n0 := Aside0.mk (below_step HB.out hb); clear HB; have HB := n0; clear n0 hb) | (go_at_call 14; (with_reducible refine (num_Hex.calls _ _ _ F3.out).mono ?_); rintro e w' ⟨rfl, hb⟩; have n0 := Aside0.mk (below_step HB.out hb); clear HB; have HB := n0; clear n0 hb) | (go_at_call 12; (with_reducible refine (num_Unhex.calls _ _ _ _ F4.out).mono ?_); rintro e w' ⟨rfl, hb⟩; have n0 := Aside0.mk (below_step HB.out hb); clear HB; have HB := n0; clear n0 hb) | (go_at_call 12; (with_reducible refine (num_Unhex.calls _ _ _ _ F8.out).mono ?_); rintro e w' ⟨rfl, hb⟩; have n0 := Aside0.mk (below_step HB.out hb); clear HB; have HB := n0; clear n0 hb) | (go_at_call 7; (with_reducible refine (tallymanlaw01_alive.calls true _ rfl).mono ?_); rintro e w' ⟨rfl, hb⟩; have n0 := Aside0.mk (below_step HB.out hb); clear HB; have HB := n0; clear n0 hb) | (go_at_call 16; (with_reducible refine (HW.out _).mono ?_); rintro e w' ⟨g, k, rfl, hk, hg, hC, hb⟩; have n0 := Aside0.mk (below_step HB.out hb); clear HB; have HB := n0; clear n0 hb; have HC := Aside0.mk (HJ.out g k w' hC hk hg); clear hC hk hg) | (go_at_call 19; (with_reducible refine (HC.out).mono ?_); rintro e w' ⟨rfl, hb⟩; have n0 := Aside0.mk (below_step HB.out hb); clear HB; have HB := n0; clear n0 hb))
    all_goals go_ret
    all_goals exact ⟨by first | rfl | simp [*], HB.out⟩
  · have F7 := Aside0.mk f7; clear f7
    go_enter Try.func6, Try.ntmps6
    go_wp2_with (first | (go_at_call 10; (with_reducible refine (num_Print.calls _ _ _ F1.out).mono ?_); rintro e w' ⟨rfl, hb⟩; have n0 := Aside0.mk (below_step HB.out hb); clear HB; have HB := n0; clear n0 hb) | (go_at_call 10; (with_reducible refine (num_Print.calls _ _ _ F5.out).mono ?_); rintro e w' ⟨rfl, hb⟩; have n0 := Aside0.mk (below_step HB.out hb); clear HB; have HB := n0; clear n0 hb) | (go_at_call 10; (with_reducible refine (num_Print.calls _ _ _ F7.out).mono ?_); rintro e w' ⟨rfl, hb⟩; have n0 := Aside0.mk (below_step HB.out hb); clear HB; have HB := n0; clear n0 hb) | (go_at_call 8; (with_reducible refine (num_Parse.calls _ _ _ _ F2.out).mono ?_); rintro e w' ⟨rfl, hb⟩; have n0 := Aside0.mk (below_step HB.out hb); clear HB; have HB := n0; clear n0 hb) | (go_at_call 8; (with_reducible refine (num_Parse.calls _ _ _ _ F6.out).mono ?_); rintro e w' ⟨rfl, hb⟩; have n0 := Aside0.mk (below_step HB.out hb); clear HB; have HB := n0; clear n0 hb) | (go_at_call 14; (with_reducible refine (num_Hex.calls _ _ _ F3.out).mono ?_); rintro e w' ⟨rfl, hb⟩; have n0 := Aside0.mk (below_step HB.out hb); clear HB; have HB := n0; clear n0 hb) | (go_at_call 12; (with_reducible refine (num_Unhex.calls _ _ _ _ F4.out).mono ?_); rintro e w' ⟨rfl, hb⟩; have n0 := Aside0.mk (below_step HB.out hb); clear HB; have HB := n0; clear n0 hb) | (go_at_call 12; (with_reducible refine (num_Unhex.calls _ _ _ _ F8.out).mono ?_); rintro e w' ⟨rfl, hb⟩; have n0 := Aside0.mk (below_step HB.out hb); clear HB; have HB := n0; clear n0 hb) | (go_at_call 7; (with_reducible refine (tallymanlaw01_alive.calls true _ rfl).mono ?_); rintro e w' ⟨rfl, hb⟩; have n0 := Aside0.mk (below_step HB.out hb); clear HB; have HB := n0; clear n0 hb) | (go_at_call 16; (with_reducible refine (HW.out _).mono ?_); rintro e w' ⟨g, k, rfl, hk, hg, hC, hb⟩; have n0 := Aside0.mk (below_step HB.out hb); clear HB; have HB := n0; clear n0 hb; have HC := Aside0.mk (HJ.out g k w' hC hk hg); clear hC hk hg) | (go_at_call 19; (with_reducible refine (HC.out).mono ?_); rintro e w' ⟨rfl, hb⟩; have n0 := Aside0.mk (below_step HB.out hb); clear HB; have HB := n0; clear n0 hb))
    all_goals go_ret
    all_goals exact ⟨by first | rfl | simp [*], HB.out⟩
  · have F7 := Aside0.mk f7; clear f7
    have F9 := Aside0.mk f9; clear f9
    go_enter Try.func6, Try.ntmps6
    go_wp2_with (first | (go_at_call 10; (with_reducible refine (num_Print.calls _ _ _ F1.out).mono ?_); rintro e w' ⟨rfl, hb⟩; have n0 := Aside0.mk (below_step HB.out hb); clear HB; have HB := n0; clear n0 hb) | (go_at_call 10; (with_reducible refine (num_Print.calls _ _ _ F5.out).mono ?_); rintro e w' ⟨rfl, hb⟩; have n0 := Aside0.mk (below_step HB.out hb); clear HB; have HB := n0; clear n0 hb) | (go_at_call 14; (with_reducible refine (num_Hex.calls _ _ _ F9.out).mono ?_); rintro e w' ⟨rfl, hb⟩; have n0 := Aside0.mk (below_step HB.out hb); clear HB; have HB := n0; clear n0 hb) | (go_at_call 10; (with_reducible refine (num_Print.calls _ _ _ F7.out).mono ?_); rintro e w' ⟨rfl, hb⟩; have n0 := Aside0.mk (below_step HB.out hb); clear HB; have HB := n0; clear n0 hb) | (go_at_call 8; (with_reducible refine (num_Parse.calls _ _ _ _ F2.out).mono ?_); rintro e w' ⟨rfl, hb⟩; have n0 := Aside0.mk (below_step HB.out hb); clear HB; have HB := n0; clear n0 hb) | (go_at_call 8; (with_reducible refine (num_Parse.calls _ _ _ _ F6.out).mono ?_); rintro e w' ⟨rfl, hb⟩; have n0 := Aside0.mk (below_step HB.out hb); clear HB; have HB := n0; clear n0 hb) | (go_at_call 14; (with_reducible refine (num_Hex.calls _ _ _ F3.out).mono ?_); rintro e w' ⟨rfl, hb⟩; have n0 := Aside0.mk (below_step HB.out hb); clear HB; have HB := n0; clear n0 hb) | (go_at_call 12; (with_reducible refine (num_Unhex.calls _ _ _ _ F4.out).mono ?_); rintro e w' ⟨rfl, hb⟩; have n0 := Aside0.mk (below_step HB.out hb); clear HB; have HB := n0; clear n0 hb) | (go_at_call 12; (with_reducible refine (num_Unhex.calls _ _ _ _ F8.out).mono ?_); rintro e w' ⟨rfl, hb⟩; have n0 := Aside0.mk (below_step HB.out hb); clear HB; have HB := n0; clear n0 hb) | (go_at_call 7; (with_reducible refine (tallymanlaw01_alive.calls true _ rfl).mono ?_); rintro e w' ⟨rfl, hb⟩; have n0 := Aside0.mk (below_step HB.out hb); clear HB; have HB := n0; clear n0 hb) | (go_at_call 16; (with_reducible refine (HW.out _).mono ?_); rintro e w' ⟨g, k, rfl, hk, hg, hC, hb⟩; have n0 := Aside0.mk (below_step HB.out hb); clear HB; have HB := n0; clear n0 hb; have HC := Aside0.mk (HJ.out g k w' hC hk hg); clear hC hk hg) | (go_at_call 19; (with_reducible refine (HC.out).mono ?_); rintro e w' ⟨rfl, hb⟩; have n0 := Aside0.mk (below_step HB.out hb); clear HB; have HB := n0; clear n0 hb))
    all_goals go_ret
    all_goals exact ⟨by first | rfl | simp [*], HB.out⟩
theorem backs_none (n m v : Int) (s : ByteArray) (w : World) (h : 300 < s.size) : Calls Try.prog 6 #[.int .i64 n, .int .i64 m, .int .u64 v, .string s] w fun e w' => e = .returned (.bool true) ∧ Below w.heap.size w w' := by
  go_enter Try.func6, Try.ntmps6
  go_wp2_with (go_at_call 7; (with_reducible refine (tallymanlaw01_alive.calls true _ rfl).mono ?_); rintro e w' ⟨rfl, hb⟩)
  all_goals go_ret
  all_goals exact ⟨rfl, hb⟩
def tallymanlaw01_NumBack.Pure : Prop := True
theorem tallymanlaw01_NumBack.walk (P : tallymanlaw01_NumBack.Pure) (a0 a1 a2 : Int) (a3 : ByteArray) (w : World) (w0 : (Lit.int .i64 a0).wf = true) (w1 : (Lit.int .i64 a1).wf = true) (w2 : (Lit.int .u64 a2).wf = true) (w3 : a3.size ≤ 140737488351232) :
    Calls Try.prog 6 #[.int .i64 a0, .int .i64 a1, .int .u64 a2, .string a3] w fun e w' => e = .returned (.bool true) ∧ Below w.heap.size w w' := by
  obtain ⟨l, rfl⟩ := bytes_list a3
  obtain ⟨n0, n1⟩ := wf_i64 w0
  obtain ⟨m0, m1⟩ := wf_i64 w1
  obtain ⟨b0, b1⟩ := wf_u64 w2
  obtain ⟨v, rfl⟩ := Int.eq_ofNat_of_zero_le b0
  rw [size_l] at w3
  by_cases hl : 300 < l.length
  · exact backs_none a0 a1 v _ w (by rw [size_l]; exact hl)
  · have f1 := print_code a0 n0 n1
    have f2 : num_Parse.f ⟨(printS a0).toArray⟩ = some (a0, true) := by rw [parse_code _ (by unfold printS; have := toD_len 10 64 a0.natAbs; split <;> simp <;> omega), parse_print a0 n0 n1]
    have f3 := hex_code v (by omega)
    have f4 : num_Unhex.f ⟨(toD 16 64 v).toArray⟩ = some ((v : Int), true) := by rw [unhex_code _ (by have := toD_len 16 64 v; omega), take_toD 16 _ _ (by decide) (by decide) (by decide) (by omega) (by omega)]
    have f5 := print_code a1 m0 m1
    have heq : ((⟨(printS a0).toArray⟩ : ByteArray).toList == (⟨(printS a1).toArray⟩ : ByteArray).toList) = (a0 == a1) := by rw [toList_l, toList_l]; exact print_inj a0 a1 n0 n1 m0 m1
    obtain ⟨c, was, hp⟩ : ∃ c was, parseS l = (c, was) := ⟨_, _, rfl⟩
    have f6 : num_Parse.f ⟨l.toArray⟩ = some (c, was) := by rw [parse_code l (by omega), hp]
    have f7 : was = false ∨ was = true ∧ num_Print.f c = some ⟨l.toArray⟩ := by
      cases was with
      | false => exact .inl rfl
      | true =>
        obtain ⟨e1, e2, e3⟩ := print_parse l c hp
        refine .inr ⟨rfl, ?_⟩
        rw [print_code c e2 e3, e1]
    obtain ⟨x, was2, hx⟩ : ∃ x was2, takeD 16 18446744073709551615 l = (x, was2) := ⟨_, _, rfl⟩
    have f8 : num_Unhex.f ⟨l.toArray⟩ = some ((x : Int), was2) := by rw [unhex_code l (by omega), hx]
    have f9 : was2 = false ∨ was2 = true ∧ num_Hex.f (x : Int) = some ⟨l.toArray⟩ := by
      cases was2 with
      | false => exact .inl rfl
      | true =>
        have e1 := take_back 16 _ x (by decide) (by decide) (by decide) (by decide) l hx
        have e2 := takeB_le 16 18446744073709551615 (by decide) (by decide) (by decide) l
        rw [hx] at e2
        refine .inr ⟨rfl, ?_⟩
        rw [hex_code x (by simp only [] at e2; omega), e1]
    by_cases hn : l = []
    · subst hn
      exact back_nil a0 a1 v [] w _ _ _ _ c x was was2 rfl (by simp) f1 f2 f3 f4 f5 heq f6 f7 f8 f9 (size_l []) (fun w => words_nil w) (fun w => join_none w)
    · by_cases ha : ∀ a ∈ spl l, a ≠ []
      · exact back_ok a0 a1 v l w _ _ _ _ c x was was2 rfl (by omega) f1 f2 f3 f4 f5 heq f6 f7 f8 f9 (size_l l) _ _ (fun w => words_ok l w (by omega) hn ha) (fun g c w h1 h2 h3 => join_back l g c w (by omega) h1 h2 h3)
      · exact back_bad a0 a1 v l w _ _ _ _ c x was was2 rfl (by omega) f1 f2 f3 f4 f5 heq f6 f7 f8 f9 (size_l l) (fun w => words_bad l w (by omega) (fun h => h.elim hn ha))
end Go.Proofs.Ytaidjgnkefpclaa.P
