import Derived.Test.YtjdnlibgfjlakaaS9
import Derived.Test.YtjdnlibgfjlakaaS5
import Derived.Test.YtjdnlibgfjlakaaS8
import Derived.Test.YtjdnlibgfjlakaaF17
import Derived.Test.YtjdnlibgfjlakaaF21
import Derived.Deep.RegionHeld3
namespace Go.Proofs.Ytjdnlibgfjlakaa.P
open Go.RowKit Go.Proofs.YtjdnlibgfjlakaaW.PrintWords Go.Proofs.YtjdnlibgfjlakaaW.PrintLast Go.Proofs.YtjdnlibgfjlakaaW.PrintMore Go.Proofs.Ytjdnlibgfjlakaa.H
set_option linter.unusedVariables false
set_option linter.unusedSimpArgs false
theorem flip_rd {l r : List Int} {a b : Int} (h : crc_Flip.f l a b = some r) {A0 : Option Addr} {c0 : Nat} {w : World} (h0 : Kd.C (Kd.int .u8) w A0 l.length l) (hc0 : l.length ≤ c0) :
    Calls Try.prog 22 #[.slice A0 l.length c0, .int .i64 a, .int .u32 b] w (RdPost r w) := by
  refine (crc_Flip.calls A0 c0 l a b r w h0 hc0 h).mono ?_
  rintro e w' ⟨v, rfl, hV, hB⟩
  obtain ⟨A, c, rfl, hc, hC⟩ := rd_of_R hV
  exact ⟨A, c, rfl, hc, hC, hB⟩
theorem alive9_rd (w : World) : Calls Try.prog 16 #[] w fun e w' => e = .returned (.bool true) ∧ Below w.heap.size w w' := tallymanlaw09_alive.calls true w rfl
abbrev TellS (w0 : World) (A0 : Option Addr) (c0 : Nat) (l : List Int) (Ax : Option Addr) (cx : Nat) (x : List Int) (w' : World) : Prop :=
  Aside0 (Kd.C (Kd.int .u8) w' A0 l.length l) ∧ Aside0 (Kd.C (Kd.int .u8) w' Ax x.length x) ∧ Aside0 (Below w0.heap.size w0 w') ∧ (convert 27 9 (.slice A0 l.length c0)).run Try.prog w' = Result.ok (Value.string (strOfNums l)) w' ∧ (convert 27 9 (.slice Ax x.length cx)).run Try.prog w' = Result.ok (Value.string (strOfNums x)) w'
theorem tells_mk {w0 : World} {A0 : Option Addr} {c0 : Nat} {l : List Int} {Ax : Option Addr} {cx : Nat} {x : List Int} {w' : World} (h1 : Kd.C (Kd.int .u8) w' A0 l.length l) (h2 : Kd.C (Kd.int .u8) w' Ax x.length x) (h3 : Below w0.heap.size w0 w') : TellS w0 A0 c0 l Ax cx x w' :=
  ⟨⟨h1⟩, ⟨h2⟩, ⟨h3⟩, Kd.C_string Try.underlying27 Try.underlying5 Try.underlying9 h1, Kd.C_string Try.underlying27 Try.underlying5 Try.underlying9 h2⟩
theorem tells_keep {w0 : World} {A0 : Option Addr} {c0 : Nat} {l : List Int} {Ax : Option Addr} {cx : Nat} {x : List Int} {w1 w2 : World} (h : TellS w0 A0 c0 l Ax cx x w1) (hb : Below w1.heap.size w1 w2) : TellS w0 A0 c0 l Ax cx x w2 :=
  tells_mk (Kd.C_below h.1.out hb) (Kd.C_below h.2.1.out hb) (below_step h.2.2.1.out hb)
theorem sum_rd {l : List Int} {s : Int} (h : crc_Sum.f l = some s) {A0 : Option Addr} {c0 : Nat} {w : World} (h0 : Kd.C (Kd.int .u8) w A0 l.length l) (hc0 : l.length ≤ c0) :
    Calls Try.prog 17 #[.slice A0 l.length c0] w fun e w' => e = .returned (.int .u32 s) ∧ Below w.heap.size w w' := crc_Sum.calls A0 c0 l s w h0 hc0 h
set_option maxHeartbeats 4000000 in
set_option maxRecDepth 100000 in
theorem crcTells_none (A0 : Option Addr) (c0 n0 : Nat) (b : Int) (k : Int) (w : World) (h : n0 = 0 ∨ 300 < n0) :
    Calls Try.prog 7 #[.slice A0 n0 c0, .int .u16 k, .int .u32 b] w fun e w' => e = .returned (.bool true) ∧ Below w.heap.size w w' := by
  by_cases h0 : n0 = 0
  · subst h0
    go_enter Try.func7, Try.ntmps7
    go_wp2_with (go_at_call 16; (with_reducible refine (alive9_rd _).mono ?_); rintro e w' ⟨rfl, hb⟩)
    go_ret
    exact ⟨rfl, hb⟩
  · have t1 : ((n0 : Int) == 0) = false := by simp; omega
    have t2 : decide ((300 : Int) < n0) = true := by simp; omega
    go_enter Try.func7, Try.ntmps7
    go_wp2_with (go_at_call 16; (with_reducible refine (alive9_rd _).mono ?_); rintro e w' ⟨rfl, hb⟩)
    go_ret
    exact ⟨rfl, hb⟩
set_option maxHeartbeats 4000000 in
set_option maxRecDepth 100000 in
theorem crcTells_calls (A0 : Option Addr) (c0 len : Nat) (l x : List Int) (k n b sx sl : Int) (w : World) (hr : Kd.C (Kd.int .u8) w A0 l.length l) (hcb : l.length ≤ c0)
    (h1 : 0 < l.length) (h2 : l.length ≤ 300) (hk0 : 0 ≤ k) (hk1 : k ≤ 65535) (hn : k % (8 * (l.length : Int)) = n) (hn0 : 0 ≤ n) (hn1 : n < 8 * l.length) (hx : x.length = l.length)
    (f1 : crc_Flip.f l n b = some x) (f2 : crc_Flip.f x n b = some l) (fs : crc_Sum.f x = some sx) (ft : crc_Sum.f l = some sl)
    (hq : ((strOfNums x).toList == (strOfNums l).toList) = (sx == sl)) :
    Calls Try.prog 7 #[.slice A0 l.length c0, .int .u16 k, .int .u32 b] w fun e w' => e = .returned (.bool true) ∧ Below w.heap.size w w' := by
  have HB := Aside0.mk (Below.refl w.heap.size w)
  have HCb := Aside0.mk hr; clear hr
  have F1 := Aside0.mk f1; clear f1
  have F2 := Aside0.mk f2; clear f2
  have FS := Aside0.mk fs; clear fs
  have FT := Aside0.mk ft; clear ft
  have t1 : ((l.length : Int) == 0) = false := beq_eq_false_iff_ne.mpr (by omega)
  have t2 : decide ((300 : Int) < l.length) = false := by simp; omega
  have t3 : ((x.length : Int) != (l.length : Int)) = false := by simp [hx]
  have HX := Aside0.mk hx; clear hx
  go_enter Try.func7, Try.ntmps7
  go_wp2_with (first | (go_at_call 22; first | ((with_reducible refine (flip_rd F1.out HCb.out hcb).mono ?_); rintro e w' ⟨Ax, cx, rfl, hcx, hC, hb⟩; have n1 := Aside0.mk hC; clear hC; have n0 := Aside0.mk (Kd.C_below HCb.out hb); clear HCb; have HCb := n0; clear n0; have n0 := Aside0.mk (below_step HB.out hb); clear HB; have HB := n0; clear n0; clear hb; have HCx := n1; clear n1) | ((with_reducible refine (flip_rd F2.out HCx.out hcx).mono ?_); rintro e w' ⟨Ay, cy, rfl, hcy, hC, hb⟩; have n1 := Aside0.mk hC; clear hC; have n0 := Aside0.mk (Kd.C_below HCb.out hb); clear HCb; have HCb := n0; clear n0; have n0 := Aside0.mk (Kd.C_below HCx.out hb); clear HCx; have HCx := n0; clear n0; have n0 := Aside0.mk (below_step HB.out hb); clear HB; have HB := n0; clear n0; clear hb; have HCy := n1; clear n1)) | (go_at_call 21; (with_reducible refine (same_rd HCy.out hcy HCb.out hcb).mono ?_); rintro e w' ⟨rfl, hb⟩; have n0 := Aside0.mk (Kd.C_below HCb.out hb); clear HCb; have HCb := n0; clear n0; have n0 := Aside0.mk (Kd.C_below HCx.out hb); clear HCx; have HCx := n0; clear n0; have n0 := Aside0.mk (below_step HB.out hb); clear HB; have HB := n0; clear n0; clear hb))
  go_region_held3 (TellS w A0 c0 l Ax cx x)
    (first | exact tells_keep (by assumption) hb | exact tells_mk (Kd.C_drew HCb.out) (Kd.C_drew HCx.out) (below_drew1 HB.out))
    (first | (go_at_call 17; refine (sum_rd FT.out (show TellS w A0 c0 l Ax cx x _ by assumption).1.out hcb).mono ?_; rintro e w' ⟨rfl, hb⟩) | (go_at_call 17; refine (sum_rd FS.out (show TellS w A0 c0 l Ax cx x _ by assumption).2.1.out hcx).mono ?_; rintro e w' ⟨rfl, hb⟩) | (go_at_call 16; refine (alive9_rd _).mono ?_; rintro e w' ⟨rfl, hb⟩))
  all_goals go_wp2
  all_goals go_ret
  all_goals refine ⟨?_, (show TellS w A0 c0 l Ax cx x _ by assumption).2.2.1.out⟩
  all_goals simp [hq]
end Go.Proofs.Ytjdnlibgfjlakaa.P
