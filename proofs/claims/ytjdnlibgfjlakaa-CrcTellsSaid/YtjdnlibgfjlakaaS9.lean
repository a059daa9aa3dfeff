import Derived.Test.YtjdnlibgfjlakaaS1
import Derived.Test.YtjdnlibgfjlakaaS3
import Derived.Test.YtjdnlibgfjlakaaS4
import Derived.Test.YtjdnlibgfjlakaaS6
import Derived.Test.YtjdnlibgfjlakaaF21
import Derived.Test.YtjdnlibgfjlakaaF24
import Derived.Test.YtjdnlibgfjlakaaF32
namespace Go.Proofs.Ytjdnlibgfjlakaa.P
open Go.RowKit Go.Proofs.YtjdnlibgfjlakaaW.PrintWords Go.Proofs.YtjdnlibgfjlakaaW.PrintLast Go.Proofs.YtjdnlibgfjlakaaW.PrintMore Go.Proofs.Ytjdnlibgfjlakaa.H
set_option linter.unusedVariables false
set_option linter.unusedSimpArgs false
/-- A returned slice that can be read. -/
def RdPost (r : List Int) (w : World) (e : Ending) (w' : World) : Prop := ∃ A c, e = .returned (.slice A r.length c) ∧ r.length ≤ c ∧ Kd.C (Kd.int .u8) w' A r.length r ∧ Below w.heap.size w w'
def RdPost3 (x : Int) (r : List Int) (y : Int) (w : World) (e : Ending) (w' : World) : Prop := ∃ A c, e = .returned (.tuple #[.int .u64 x, .slice A r.length c, .int .i64 y]) ∧ r.length ≤ c ∧ Kd.C (Kd.int .u8) w' A r.length r ∧ Below w.heap.size w w'
theorem rd_of_V {e : Nat} {w : World} {base : Nat} {ok : Nat → Prop} {v : Value} {r : List Int} (h : Kd.V (Kd.int .u8) e w base ok v r) : ∃ A c, v = .slice A r.length c ∧ r.length ≤ c ∧ Kd.C (Kd.int .u8) w A r.length r := by
  obtain ⟨A, c, rfl⟩ := Kd.V_slice h
  exact ⟨A, c, rfl, (Kd.V_at h).2.1, (Kd.V_reads' h).2.2⟩
theorem rd_of_R {e : Nat} {w : World} {base : Nat} {ok : Nat → Prop} {v : Value} {r : List Int} (h : Kd.R (Kd.int .u8) e w base ok v r) : ∃ A c, v = .slice A r.length c ∧ r.length ≤ c ∧ Kd.C (Kd.int .u8) w A r.length r := by
  obtain ⟨A, c, rfl⟩ := Kd.R_slice h
  exact ⟨A, c, rfl, (Kd.R_reads' h).2.1, (Kd.R_reads' h).2.2⟩
theorem nilC (w : World) : Kd.C (Kd.int .u8) w none 0 [] := ⟨rfl, by decide, fun h => absurd h (by decide)⟩
theorem put_rd {a n : Int} {r : List Int} (h : pack_Put.f [] a n = some r) (w : World) : Calls Try.prog 26 #[.slice none 0 0, .int .u64 a, .int .i64 n] w (RdPost r w) := by
  refine (pack_Put.calls (fun _ => True) none 0 [] a n r w (V_of_C (by simp) (nilC w)) h).mono ?_
  rintro e w' ⟨v, rfl, hV, hB⟩
  obtain ⟨A, c, rfl, hc, hC⟩ := rd_of_V hV
  exact ⟨A, c, rfl, hc, hC, hB⟩
theorem var_rd {a : Int} {r : List Int} (h : pack_Var.f 0 [] a = some r) (w : World) : Calls Try.prog 30 #[.slice none 0 0, .int .u64 a] w (RdPost r w) := by
  refine (pack_Var.calls 0 none 0 [] a r w (nilC w) (by simp) h).mono ?_
  rintro e w' ⟨v, rfl, hV, hB⟩
  obtain ⟨A, c, rfl, hc, hC⟩ := rd_of_R hV
  exact ⟨A, c, rfl, hc, hC, hB⟩
theorem both_rd {l0 l1 r : List Int} (h : tallymanlaw08_both.f l0 l1 = some r) {A0 A1 : Option Addr} {c0 c1 : Nat} {w : World} (h0 : Kd.C (Kd.int .u8) w A0 l0.length l0) (hc0 : l0.length ≤ c0) (h1 : Kd.C (Kd.int .u8) w A1 l1.length l1) (hc1 : l1.length ≤ c1) :
    Calls Try.prog 32 #[.slice A0 l0.length c0, .slice A1 l1.length c1] w (RdPost r w) := by
  refine (tallymanlaw08_both.calls A0 c0 l0 A1 c1 l1 r w h0 hc0 h1 hc1 h).mono ?_
  rintro e w' ⟨v, rfl, hV, hB⟩
  obtain ⟨A, c, rfl, hc, hC⟩ := rd_of_R hV
  exact ⟨A, c, rfl, hc, hC, hB⟩
theorem take_rd {k : Nat} {l0 : List Int} {n x y : Int} {r : List Int} (h : pack_Take.f k l0 n = some (x, r, y)) {A0 : Option Addr} {c0 : Nat} {w : World} (h0 : Kd.C (Kd.int .u8) w A0 l0.length l0) (hc0 : l0.length ≤ c0) :
    Calls Try.prog 24 #[.slice A0 l0.length c0, .int .i64 n] w (RdPost3 x r y w) := by
  refine (pack_Take.calls k (fun _ => True) A0 c0 l0 n x r y w (V_of_C hc0 h0) h).mono ?_
  rintro e w' ⟨v, rfl, hV, hB⟩
  obtain ⟨A, c, rfl, hc, hC⟩ := rd_of_V hV
  exact ⟨A, c, rfl, hc, hC, hB⟩
theorem unvar_rd {l0 : List Int} {x y : Int} {r : List Int} (h : pack_Unvar.f 0 l0 = some (x, r, y)) {A0 : Option Addr} {c0 : Nat} {w : World} (h0 : Kd.C (Kd.int .u8) w A0 l0.length l0) (hc0 : l0.length ≤ c0) :
    Calls Try.prog 28 #[.slice A0 l0.length c0] w (RdPost3 x r y w) := by
  refine (pack_Unvar.calls 0 (fun _ => True) A0 c0 l0 x r y w (V_of_C hc0 h0) h).mono ?_
  rintro e w' ⟨v, rfl, hV, hB⟩
  obtain ⟨A, c, rfl, hc, hC⟩ := rd_of_V hV
  exact ⟨A, c, rfl, hc, hC, hB⟩
theorem same_rd {l : List Int} {A0 A1 : Option Addr} {c0 c1 : Nat} {w : World} (h0 : Kd.C (Kd.int .u8) w A0 l.length l) (hc0 : l.length ≤ c0) (h1 : Kd.C (Kd.int .u8) w A1 l.length l) (hc1 : l.length ≤ c1) :
    Calls Try.prog 21 #[.slice A0 l.length c0, .slice A1 l.length c1] w fun e w' => e = .returned (.bool true) ∧ Below w.heap.size w w' := by
  refine (tallymanref08_Same.calls A0 c0 l A1 c1 l true w h0 hc0 h1 hc1 (by unfold tallymanref08_Same.f; simp)).mono ?_
  rintro e w' ⟨rfl, hb⟩
  exact ⟨rfl, hb.below⟩
theorem alive_rd (w : World) : Calls Try.prog 15 #[] w fun e w' => e = .returned (.bool true) ∧ Below w.heap.size w w' := tallymanlaw08_alive.calls true w rfl
end Go.Proofs.Ytjdnlibgfjlakaa.P
