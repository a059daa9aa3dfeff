import Derived.Test.YtijhdhgfchodaaaS1
import Derived.Test.YtijhdhgfchodaaaK
import Derived.Test.YtijhdhgfchodaaaF19
import Derived.Test.YtijhdhgfchodaaaF23
namespace Go.Proofs.Ytijhdhgfchodaaa.P
open Go.RowKit Go.Proofs.YtijhdhgfchodaaaW.PrintWords Go.Proofs.YtijhdhgfchodaaaW.PrintLast Go.Proofs.YtijhdhgfchodaaaW.PrintMore Go.Proofs.Ytijhdhgfchodaaa.H
set_option linter.unusedVariables false
set_option linter.unusedSimpArgs false
attribute [local go_sem] max2_int min2_int max_two min_two max_three min_three max_four min_four
theorem add2 {m x y r : Int} (h : sat_Add.f m [x, y] = some r) (w : World) (e : Nat) : Calls Try.prog 24 #[.int .i64 m, .slice (some ⟨w.heap.size, 0, none⟩) 2 2] (w.alloc (.cells #[.int .i64 x, .int .i64 y] e)) fun e' w' => e' = .returned (.int .i64 r) ∧ Below (w.alloc (.cells #[.int .i64 x, .int .i64 y] e)).heap.size (w.alloc (.cells #[.int .i64 x, .int .i64 y] e)) w' :=
  sat_Add.calls m _ 2 [x, y] r _ (C_lit w [x, y] (by simp) e rfl) (by simp) h
theorem add3 {m x y z r : Int} (h : sat_Add.f m [x, y, z] = some r) (w : World) (e : Nat) : Calls Try.prog 24 #[.int .i64 m, .slice (some ⟨w.heap.size, 0, none⟩) 3 3] (w.alloc (.cells #[.int .i64 x, .int .i64 y, .int .i64 z] e)) fun e' w' => e' = .returned (.int .i64 r) ∧ Below (w.alloc (.cells #[.int .i64 x, .int .i64 y, .int .i64 z] e)).heap.size (w.alloc (.cells #[.int .i64 x, .int .i64 y, .int .i64 z] e)) w' :=
  sat_Add.calls m _ 3 [x, y, z] r _ (C_lit w [x, y, z] (by simp) e rfl) (by simp) h
theorem mul2 {m x y r : Int} (h : sat_Mul.f m [x, y] = some r) (w : World) (e : Nat) : Calls Try.prog 26 #[.int .i64 m, .slice (some ⟨w.heap.size, 0, none⟩) 2 2] (w.alloc (.cells #[.int .i64 x, .int .i64 y] e)) fun e' w' => e' = .returned (.int .i64 r) ∧ Below (w.alloc (.cells #[.int .i64 x, .int .i64 y] e)).heap.size (w.alloc (.cells #[.int .i64 x, .int .i64 y] e)) w' :=
  sat_Mul.calls m _ 2 [x, y] r _ (C_lit w [x, y] (by simp) e rfl) (by simp) h
theorem mul3 {m x y z r : Int} (h : sat_Mul.f m [x, y, z] = some r) (w : World) (e : Nat) : Calls Try.prog 26 #[.int .i64 m, .slice (some ⟨w.heap.size, 0, none⟩) 3 3] (w.alloc (.cells #[.int .i64 x, .int .i64 y, .int .i64 z] e)) fun e' w' => e' = .returned (.int .i64 r) ∧ Below (w.alloc (.cells #[.int .i64 x, .int .i64 y, .int .i64 z] e)).heap.size (w.alloc (.cells #[.int .i64 x, .int .i64 y, .int .i64 z] e)) w' :=
  sat_Mul.calls m _ 3 [x, y, z] r _ (C_lit w [x, y, z] (by simp) e rfl) (by simp) h
set_option maxHeartbeats 4000000 in
set_option maxRecDepth 100000 in
theorem satLaws_calls (n a b c m x y s p s1 s2 p1 p2 p3 d u v q r f g : Int) (w : World) (hm : (if n < 0 then 0 else n) = m) (hx : (if b < a then b else a) = x) (hy : (if a < b then b else a) = y)
    (h0 : sat_Add.f m [a, b, c] = some s)
    (h1 : sat_Mul.f m [a, b, c] = some p)
    (h2 : sat_Add.f m [c, b, a] = some s)
    (h3 : sat_Add.f m [a, b] = some s1)
    (h4 : sat_Add.f m [s1, c] = some s)
    (h5 : sat_Add.f m [b, c] = some s2)
    (h6 : sat_Add.f m [a, s2] = some s)
    (h7 : sat_Mul.f m [c, a, b] = some p)
    (h8 : sat_Mul.f m [a, b] = some p1)
    (h9 : sat_Mul.f m [p1, c] = some p)
    (h10 : sat_Mul.f m [b, c] = some p2)
    (h11 : sat_Mul.f m [a, p2] = some p)
    (h12 : sat_Mul.f m [a, s2] = some d)
    (h13 : sat_Mul.f m [a, c] = some p3)
    (h14 : sat_Add.f m [p1, p3] = some d)
    (h15 : sat_Add.f m [x, c] = some u)
    (h16 : sat_Add.f m [y, c] = some v)
    (h17 : sat_Mul.f m [x, c] = some q)
    (h18 : sat_Mul.f m [y, c] = some r)
    (l1 : sat_Less.f x c = some f) (l2 : sat_Less.f y c = some g) (hal : tallymanlaw02_alive.f = some true)
    (t1 : decide (s < 0) = false) (t2 : decide (m < s) = false) (t3 : decide (p < 0) = false) (t4 : decide (m < p) = false) (t5 : decide (u ≤ v) = true) (t6 : decide (q ≤ r) = true) (t7 : decide (f ≤ g) = true) :
    Calls Try.prog 7 #[.int .i64 n, .int .i64 a, .int .i64 b, .int .i64 c] w fun e w' => e = .returned (.bool true) ∧ Below w.heap.size w w' := by
  have HB := Aside0.mk (Below.refl w.heap.size w)
  have F0 := Aside0.mk h0; clear h0
  have F1 := Aside0.mk h1; clear h1
  have F2 := Aside0.mk h2; clear h2
  have F3 := Aside0.mk h3; clear h3
  have F4 := Aside0.mk h4; clear h4
  have F5 := Aside0.mk h5; clear h5
  have F6 := Aside0.mk h6; clear h6
  have F7 := Aside0.mk h7; clear h7
  have F8 := Aside0.mk h8; clear h8
  have F9 := Aside0.mk h9; clear h9
  have F10 := Aside0.mk h10; clear h10
  have F11 := Aside0.mk h11; clear h11
  have F12 := Aside0.mk h12; clear h12
  have F13 := Aside0.mk h13; clear h13
  have F14 := Aside0.mk h14; clear h14
  have F15 := Aside0.mk h15; clear h15
  have F16 := Aside0.mk h16; clear h16
  have F17 := Aside0.mk h17; clear h17
  have F18 := Aside0.mk h18; clear h18
  have L1 := Aside0.mk l1; clear l1
  have L2 := Aside0.mk l2; clear l2
  have HAl := Aside0.mk hal; clear hal
  have ts : (s != s) = false := by simp
  have tp : (p != p) = false := by simp
  have td : (d != d) = false := by simp
  go_enter Try.func7, Try.ntmps7
  go_wp2_with (first | (go_at_call 24; (with_reducible refine (add3 F0.out _ _).mono ?_); rintro e w' ⟨rfl, hb⟩; have n0 := Aside0.mk (below_step (below_alloc HB.out _) hb); clear HB hb; have HB := n0; clear n0) | (go_at_call 26; (with_reducible refine (mul3 F1.out _ _).mono ?_); rintro e w' ⟨rfl, hb⟩; have n0 := Aside0.mk (below_step (below_alloc HB.out _) hb); clear HB hb; have HB := n0; clear n0) | (go_at_call 24; (with_reducible refine (add3 F2.out _ _).mono ?_); rintro e w' ⟨rfl, hb⟩; have n0 := Aside0.mk (below_step (below_alloc HB.out _) hb); clear HB hb; have HB := n0; clear n0) | (go_at_call 24; (with_reducible refine (add2 F3.out _ _).mono ?_); rintro e w' ⟨rfl, hb⟩; have n0 := Aside0.mk (below_step (below_alloc HB.out _) hb); clear HB hb; have HB := n0; clear n0) | (go_at_call 24; (with_reducible refine (add2 F4.out _ _).mono ?_); rintro e w' ⟨rfl, hb⟩; have n0 := Aside0.mk (below_step (below_alloc HB.out _) hb); clear HB hb; have HB := n0; clear n0) | (go_at_call 24; (with_reducible refine (add2 F5.out _ _).mono ?_); rintro e w' ⟨rfl, hb⟩; have n0 := Aside0.mk (below_step (below_alloc HB.out _) hb); clear HB hb; have HB := n0; clear n0) | (go_at_call 24; (with_reducible refine (add2 F6.out _ _).mono ?_); rintro e w' ⟨rfl, hb⟩; have n0 := Aside0.mk (below_step (below_alloc HB.out _) hb); clear HB hb; have HB := n0; clear n0) | (go_at_call 26; (with_reducible refine (mul3 F7.out _ _).mono ?_); rintro e w' ⟨rfl, hb⟩; have n0 := Aside0.mk (below_step (below_alloc HB.out _) hb); clear HB hb; have HB := n0; clear n0) | (go_at_call 26; (with_reducible refine (mul2 F8.out _ _).mono ?_); rintro e w' ⟨rfl, hb⟩; have n0 := Aside0.mk (below_step (below_alloc HB.out _) hb); clear HB hb; have HB := n0; clear n0) | (go_at_call 26; (with_reducible refine (mul2 F9.out _ _).mono ?_); rintro e w' ⟨rfl, hb⟩; have n0 := Aside0.mk (below_step (below_alloc HB.out _) hb); clear HB hb; have HB := n0; clear n0) | (go_at_call 26; (with_reducible refine (mul2 F10.out _ _).mono ?_); rintro e w' ⟨rfl, hb⟩; have n0 := Aside0.mk (below_step (below_alloc HB.out _) hb); clear HB hb; have HB := n0; clear n0) | (go_at_call 26; (with_reducible refine (mul2 F11.out _ _).mono ?_); rintro e w' ⟨rfl, hb⟩; have n0 := Aside0.mk (below_step (below_alloc HB.out _) hb); clear HB hb; have HB := n0; clear n0) | (go_at_call 26; (with_reducible refine (mul2 F12.out _ _).mono ?_); rintro e w' ⟨rfl, hb⟩; have n0 := Aside0.mk (below_step (below_alloc HB.out _) hb); clear HB hb; have HB := n0; clear n0) | (go_at_call 26; (with_reducible refine (mul2 F13.out _ _).mono ?_); rintro e w' ⟨rfl, hb⟩; have n0 := Aside0.mk (below_step (below_alloc HB.out _) hb); clear HB hb; have HB := n0; clear n0) | (go_at_call 24; (with_reducible refine (add2 F14.out _ _).mono ?_); rintro e w' ⟨rfl, hb⟩; have n0 := Aside0.mk (below_step (below_alloc HB.out _) hb); clear HB hb; have HB := n0; clear n0) | (go_at_call 24; (with_reducible refine (add2 F15.out _ _).mono ?_); rintro e w' ⟨rfl, hb⟩; have n0 := Aside0.mk (below_step (below_alloc HB.out _) hb); clear HB hb; have HB := n0; clear n0) | (go_at_call 24; (with_reducible refine (add2 F16.out _ _).mono ?_); rintro e w' ⟨rfl, hb⟩; have n0 := Aside0.mk (below_step (below_alloc HB.out _) hb); clear HB hb; have HB := n0; clear n0) | (go_at_call 26; (with_reducible refine (mul2 F17.out _ _).mono ?_); rintro e w' ⟨rfl, hb⟩; have n0 := Aside0.mk (below_step (below_alloc HB.out _) hb); clear HB hb; have HB := n0; clear n0) | (go_at_call 26; (with_reducible refine (mul2 F18.out _ _).mono ?_); rintro e w' ⟨rfl, hb⟩; have n0 := Aside0.mk (below_step (below_alloc HB.out _) hb); clear HB hb; have HB := n0; clear n0) | (go_at_call 19; (first | (with_reducible refine (sat_Less.calls x c f _ L1.out).mono ?_) | (with_reducible refine (sat_Less.calls y c g _ L2.out).mono ?_)); rintro e w' ⟨rfl, hb⟩; have n0 := Aside0.mk (below_step HB.out hb); clear HB hb; have HB := n0; clear n0) | (go_at_call 23; (with_reducible refine (tallymanlaw02_alive.calls true _ HAl.out).mono ?_); rintro e w' ⟨rfl, hb⟩; have n0 := Aside0.mk (below_step HB.out hb); clear HB hb; have HB := n0; clear n0))
  go_ret
  exact ⟨rfl, HB.out⟩
end Go.Proofs.Ytijhdhgfchodaaa.P
