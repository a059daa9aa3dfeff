/- Several texts of this proof in one: what the law's functions come to, and the lemmas (some as the kit's print.sh printed them, what is not used struck). -/
import Derived.Test.YtajgillnkkkgjaaProg
import Derived.Below
import Derived.Deep.Draws
import Derived.Deep.AppendLies
import Derived.Maps.AppendAt
import Derived.OwnWalk
import Derived.Laws.BytesArg
import Derived.Laws.MakeOwn
import Derived.Laws.OwnMore
import Derived.Deep.OwnRows
import Derived.Tactics
import Derived.Lib.ConvBytes
import Derived.Laws.Slices
import Derived.WalkKit
import Derived.KernelRfl
import Derived.RowKit3
import Derived.Deep.LoopGhost
import Derived.Deep.QuietTactic
import Derived.BigQuiet
import Derived.WideLaws
import Derived.Deep.DeepCutAuto
import Derived.Deep.CutBlock
import Derived.Deep.RegionHeld3
import Derived.Laws.Rows
import Derived.Lib.AppendStr
import Derived.ArgAppend
import Derived.Laws.IdiomCopy
import Derived.OrdersHeld
import Derived.Laws.BitsLemmas
import Derived.RowKit
import Derived.Test.YtajgillnkkkgjaaM1
import Derived.Deep.Upon
import Derived.ScopeJumps
import Derived.Scope
import Derived.Laws.Tables
import Derived.Laws.CopyOwn
import Derived.Lib.SlBytesConst
import Derived.Laws.EntriesVeiled
import Derived.RegionTactic
import Derived.ChangeAlike
import Derived.WalkSpells
import Derived.StillTailTactics
import Derived.Deep.RegionLaw
import Derived.Deep.Slices
import Derived.ChangeArms
section
-- printed by the session's own call of print.py. Not trusted: Lean checks it.
namespace Go.Proofs.Ytajgillnkkkgjaa.P
open Go.RowKit Go.Proofs.YtajgillnkkkgjaaW.PrintWords Go.Proofs.YtajgillnkkkgjaaW.PrintLast Go.Proofs.YtajgillnkkkgjaaW.PrintMore
attribute [local go_sem] max2_int min2_int max_two min_two max_three min_three max_four min_four
set_option linter.unusedVariables false
set_option linter.unusedSimpArgs false
theorem info5 : (Try.prog.info? 5).map (fun i => (i.zero, i.size, i.bytes)) = some (some (.int .u8 0), 1, 1) := by kernel_rfl
-- the values' own types
/-! #### struct type 29 -/
structure S29 where
  f0 : Int
  f1 : Int
/-! #### struct type 32 -/
structure S32 where
  f0 : Int
  f1 : Int
  f2 : Int
  f3 : Int
  f4 : S29
  f5 : S29
  f6 : (List Int)
/-! #### struct type 34 -/
structure S34 where
  f0 : S32
  f1 : Int
  f2 : Int
  f3 : Int
  f4 : Int
  f5 : (List Int)
/-! #### struct type 37 -/
structure S37 where
  f0 : Int
  f1 : Int
  f2 : Bool
/-! #### struct type 55 -/
structure S55 where
  f0 : Int
  f1 : Int
  f2 : (List Int)
def z55 : S55 := ⟨(0 : Int), (0 : Int), ([] : List Int)⟩
def k55 : Kd S55 := Kd.iso (Kd.pair (Kd.int .i64) (Kd.pair (Kd.int .i64) (Kd.slice 5 (Kd.int .u8)))) (fun x : S55 => (x.f0, x.f1, x.f2))
theorem k55_open {w : World} {x : S55} {cs : List Value} (h : k55.K w x cs) : ∃ A2 c2, cs = [.int .i64 x.f0, .int .i64 x.f1, .slice A2 x.f2.length c2] ∧ x.f2.length ≤ c2 ∧ (Kd.int .u8).C w A2 x.f2.length x.f2 := by
  obtain ⟨_, _, rfl, rfl, ⟨_, _, rfl, rfl, ⟨A2, c2, rfl, l2, g2⟩⟩⟩ := h
  exact ⟨A2, c2, rfl, l2, g2⟩
def rd_T55 (xs : List S55) (i : Int) : S55 := xs.getD i.toNat z55
theorem at_T55 {w : World} {A : Option Addr} {n : Nat} {xs : List S55} (h : Kd.C k55 w A n xs) (i : Int) (h0 : 0 ≤ i) (h1 : i < n) : ∃ ad A2 c2, A = some ad ∧ w.cell? (ad.add (i.toNat * 3)) = some (.int .i64 (rd_T55 xs i).f0) ∧ w.cell? ⟨(ad.add (i.toNat * 3)).block, (ad.add (i.toNat * 3)).off + 1, none⟩ = some (.int .i64 (rd_T55 xs i).f1) ∧ w.cell? ⟨(ad.add (i.toNat * 3)).block, (ad.add (i.toNat * 3)).off + 2, none⟩ = some (.slice A2 (rd_T55 xs i).f2.length c2) ∧ (rd_T55 xs i).f2.length ≤ c2 ∧ (Kd.int .u8).C w A2 (rd_T55 xs i).f2.length (rd_T55 xs i).f2 := by
  obtain ⟨ad, c, e, _, hK, hc0⟩ := Kd.C_get h z55 i h0 h1
  have hc : ∀ j u, c[j]? = some u → w.cell? (ad.add (i.toNat * 3 + j)) = some u := hc0
  obtain ⟨A2, c2, rfl, l2, g2⟩ := k55_open hK
  exact ⟨ad, A2, c2, e, hc 0 _ rfl, by rw [← add_field _ _ 1 (by omega)]; exact hc 1 _ rfl, by rw [← add_field _ _ 2 (by omega)]; exact hc 2 _ rfl, l2, g2⟩
/-! #### struct type 84 -/
structure S84 where
  f0 : Int
  f1 : Int
  f2 : Int
  f3 : Int
  f4 : Int
  f5 : Int
  f6 : (List Int)
/-! #### struct type 106 -/
structure S106 where
  f0 : Int
  f1 : Int
  f2 : Int
  f3 : Int
  f4 : Int
  f5 : Int
  f6 : (List Int)
end Go.Proofs.Ytajgillnkkkgjaa.P
end
section
namespace Go.Proofs.Ytajgillnkkkgjaa.P
open Go.RowKit Go.Proofs.YtajgillnkkkgjaaW.PrintWords Go.Proofs.YtajgillnkkkgjaaW.PrintLast Go.Proofs.YtajgillnkkkgjaaW.PrintMore
set_option linter.unusedVariables false
set_option linter.unusedSimpArgs false
-- cells of a row of numbers
theorem add_plain' (g i j : Nat) : (⟨g, i, none⟩ : Addr).add j = ⟨g, i + j, none⟩ := by unfold Addr.add; split <;> simp_all
theorem C_of_cells {k : IntKind} {w : World} {ad : Addr} {l : List Int} (hl : l.length ≤ 9223372036854775807) (h : ∀ j u, (l.map (Value.int k))[j]? = some u → w.cell? (ad.add j) = some u) : Kd.C (Kd.int k) w (some ad) l.length l := by
  refine ⟨rfl, hl, fun _ => ⟨ad, rfl, fun j p hp => ⟨[.int k p], rfl, rfl, fun i u hu => ?_⟩⟩⟩
  cases i with
  | zero =>
    simp only [List.getElem?_cons_zero, Option.some.injEq] at hu
    subst hu
    simp only [Nat.add_zero, show (Kd.int k).sz = 1 from rfl, Nat.mul_one]
    exact h j _ (by rw [List.getElem?_map, hp]; rfl)
  | succ i => simp at hu
end Go.Proofs.Ytajgillnkkkgjaa.P
end
section
namespace Go.Proofs.Ytajgillnkkkgjaa.H
section
variable {P : Program} {a : Act} {w : World} {Q : Exit → Act → World → Prop}
end
end Go.Proofs.Ytajgillnkkkgjaa.H
end
section
namespace Go.Proofs.Ytajgillnkkkgjaa.P
open Go.RowKit Go.Proofs.YtajgillnkkkgjaaW.PrintWords Go.Proofs.YtajgillnkkkgjaaW.PrintLast Go.Proofs.YtajgillnkkkgjaaW.PrintMore Go.Proofs.Ytajgillnkkkgjaa.H
set_option linter.unusedVariables false
set_option linter.unusedSimpArgs false
/-- One turn of the register. -/
def crcStep (x : Int) : Int := bits .xor .u32 (x / 2) (bits .and .u32 3988292384 ((-(bits .and .u32 x 1)) % 4294967296))
def crcSteps : Nat → Int → Int
  | 0, x => x
  | n + 1, x => crcSteps n (crcStep x)
end Go.Proofs.Ytajgillnkkkgjaa.P
end
section
namespace Go.Proofs.Ytajgillnkkkgjaa.P
open Go.RowKit Go.Proofs.YtajgillnkkkgjaaW.PrintWords Go.Proofs.YtajgillnkkkgjaaW.PrintLast Go.Proofs.YtajgillnkkkgjaaW.PrintMore Go.Proofs.Ytajgillnkkkgjaa.H
set_option linter.unusedVariables false
set_option linter.unusedSimpArgs false
def crcByte (w x : Int) : Int := bits .xor .u32 (crcSteps 8 (bits .xor .u8 (w % 256) x)) (w / 256)
def crcInv (x : Int) : Int := bits .xor .u32 IntKind.u32.max x
end Go.Proofs.Ytajgillnkkkgjaa.P
end
section
-- printed by the session's own call of print.py. Not trusted: Lean checks it.
namespace Go.Proofs.Ytajgillnkkkgjaa.P
open Go.RowKit Go.Proofs.YtajgillnkkkgjaaW.PrintWords Go.Proofs.YtajgillnkkkgjaaW.PrintLast Go.Proofs.YtajgillnkkkgjaaW.PrintMore
attribute [local go_sem] max2_int min2_int max_two min_two max_three min_three max_four min_four
set_option linter.unusedVariables false
set_option linter.unusedSimpArgs false
/-! ### crc_Sum: function 110 -/
end Go.Proofs.Ytajgillnkkkgjaa.P
end
section
-- printed by the session's own call of print.py. Not trusted: Lean checks it.
namespace Go.Proofs.Ytajgillnkkkgjaa.P
open Go.RowKit Go.Proofs.YtajgillnkkkgjaaW.PrintWords Go.Proofs.YtajgillnkkkgjaaW.PrintLast Go.Proofs.YtajgillnkkkgjaaW.PrintMore
attribute [local go_sem] max2_int min2_int max_two min_two max_three min_three max_four min_four
set_option linter.unusedVariables false
set_option linter.unusedSimpArgs false
/-! ### frame_sum: function 78 -/
end Go.Proofs.Ytajgillnkkkgjaa.P
end
section
-- printed by the session's own call of print.py. Not trusted: Lean checks it.
namespace Go.Proofs.Ytajgillnkkkgjaa.P
open Go.RowKit Go.Proofs.YtajgillnkkkgjaaW.PrintWords Go.Proofs.YtajgillnkkkgjaaW.PrintLast Go.Proofs.YtajgillnkkkgjaaW.PrintMore
attribute [local go_sem] max2_int min2_int max_two min_two max_three min_three max_four min_four
set_option linter.unusedVariables false
set_option linter.unusedSimpArgs false
/-! ### pack_Take: function 81 -/
mutual
def pack_Take.j0 : Nat → List Int → Int → Bool → Option (Int × List Int × Int)
  | 0, _, _, _ => none
  | k + 1, x0, x1, x10 => if x10 = true then (some (0, ([] : List Int), 1)) else (if (x0.length : Int) < x1 then (some (0, ([] : List Int), 4)) else (if 0 ≤ x1 then (if x1 ≤ (x0.length : Int) then ((some (x0.take (x1 : Int).toNat : List Int)).bind fun y101 => (pack_Take.l0 k x0 x1 0 y101 (y101.length : Int) 0)) else (none)) else (none)))
def pack_Take.l0 : Nat → List Int → Int → Int → List Int → Int → Int → Option (Int × List Int × Int)
  | 0, _, _, _, _, _, _ => none
  | k + 1, x0, x1, x7, x24, x25, x26 => if x26 < x25 then (if 0 ≤ x26 then (if x26 < (x24.length : Int) then (pack_Take.l0 k x0 x1 (Go.bits .or .u64 (IntKind.u64.wrap (x7 * 256)) (IntKind.u64.wrap (rd x24 x26))) x24 x25 (wrap64 (x26 + 1))) else (none)) else (none)) else (if 0 ≤ x1 then (if x1 ≤ (x0.length : Int) then (some (x7, (x0.drop (x1 : Int).toNat), 0)) else (none)) else (none))
end
def pack_Take.f (k : Nat) (l0 : List Int) (a1 : Int) : Option (Int × List Int × Int) := if a1 < 0 then (pack_Take.j0 k l0 a1 true) else (pack_Take.j0 k l0 a1 (decide (a1 > 8)))
theorem pack_Take.mono_l : ∀ k, (∀ y0 y1 y2, LeO (pack_Take.j0 k y0 y1 y2) (pack_Take.j0 (k + 1) y0 y1 y2)) ∧ (∀ y0 y1 y2 y3 y4 y5, LeO (pack_Take.l0 k y0 y1 y2 y3 y4 y5) (pack_Take.l0 (k + 1) y0 y1 y2 y3 y4 y5))
  | 0 => ⟨fun _ _ _ r h => by simp [pack_Take.j0] at h, fun _ _ _ _ _ _ r h => by simp [pack_Take.l0] at h⟩
  | k + 1 => by
    obtain ⟨ih0, ih1⟩ := pack_Take.mono_l k
    refine ⟨?_, ?_⟩
    · intro y0 y1 y2
      unfold pack_Take.j0
      repeat' first
      | (with_reducible exact ih0 _ _ _)
      | (with_reducible exact ih1 _ _ _ _ _ _)
      | (with_reducible exact LeO.refl _)
      | (with_reducible exact LeO.none _)
      | (with_reducible refine LeO.ite ?_ ?_)
      | (with_reducible refine LeO.bind ?_ (fun _ => ?_))
      | exact ih0 _ _ _
      | exact ih1 _ _ _ _ _ _
      | exact LeO.none _
      | refine LeO.ite ?_ ?_
      | refine LeO.bind ?_ (fun _ => ?_)
    · intro y0 y1 y2 y3 y4 y5
      unfold pack_Take.l0
      repeat' first
      | (with_reducible exact ih0 _ _ _)
      | (with_reducible exact ih1 _ _ _ _ _ _)
      | (with_reducible exact LeO.refl _)
      | (with_reducible exact LeO.none _)
      | (with_reducible refine LeO.ite ?_ ?_)
      | (with_reducible refine LeO.bind ?_ (fun _ => ?_))
      | exact ih0 _ _ _
      | exact ih1 _ _ _ _ _ _
      | exact LeO.none _
      | refine LeO.ite ?_ ?_
      | refine LeO.bind ?_ (fun _ => ?_)
theorem pack_Take.mono : ∀ a0 a1 k, LeO (pack_Take.f k a0 a1) (pack_Take.f (k + 1) a0 a1) := by
  intro a0 a1 k
  obtain ⟨ih0, ih1⟩ := pack_Take.mono_l k
  unfold pack_Take.f
  repeat' first
      | (with_reducible exact ih0 _ _ _)
      | (with_reducible exact ih1 _ _ _ _ _ _)
      | (with_reducible exact LeO.refl _)
      | (with_reducible exact LeO.none _)
      | (with_reducible refine LeO.ite ?_ ?_)
      | (with_reducible refine LeO.bind ?_ (fun _ => ?_))
      | exact ih0 _ _ _
      | exact ih1 _ _ _ _ _ _
      | exact LeO.none _
      | refine LeO.ite ?_ ?_
      | refine LeO.bind ?_ (fun _ => ?_)
end Go.Proofs.Ytajgillnkkkgjaa.P
end
section
/- Small facts of blocks and of worlds that lie below one another. -/
namespace Go.Proofs.Ytajgillnkkkgjaa.P
open Go.RowKit Go.Proofs.YtajgillnkkkgjaaW.PrintWords Go.Proofs.YtajgillnkkkgjaaW.PrintLast Go.Proofs.YtajgillnkkkgjaaW.PrintMore
set_option linter.unusedVariables false
set_option linter.unusedSimpArgs false
theorem blk_keep {w w' : World} {g : Nat} {o : Obj} (h : w.heap[g]? = some o) (hb : Below w.heap.size w w') : w'.heap[g]? = some o := (hb.block g (Array.getElem?_eq_some_iff.1 h).1).trans h
theorem alloc_size (w : World) (o : Obj) : (w.alloc o).heap.size = w.heap.size + 1 := by simp
theorem lt_blk {W : World} {g : Nat} {o : Obj} (h : W.heap[g]? = some o) : g < W.heap.size := (Array.getElem?_eq_some_iff.1 h).1
theorem below_dN (W : World) (n : Nat) : Below W.heap.size W (W.drewN n) := ⟨rfl, rfl, rfl, Nat.le_refl _, fun _ _ => rfl⟩
end Go.Proofs.Ytajgillnkkkgjaa.P
end
section
/- slices.Grow of nobody's row, and slices.Concat of rows of bytes. -/
namespace Go.Proofs.Ytajgillnkkkgjaa.P
open Go.RowKit Go.Proofs.YtajgillnkkkgjaaW.PrintWords Go.Proofs.YtajgillnkkkgjaaW.PrintLast Go.Proofs.YtajgillnkkkgjaaW.PrintMore
set_option linter.unusedVariables false
set_option linter.unusedSimpArgs false
/-- A result that reads as a row. -/
def RdPost (l : List Int) (w : World) (e : Ending) (w' : World) : Prop := ∃ A c, e = .returned (.slice A l.length c) ∧ l.length ≤ c ∧ Kd.C (Kd.int .u8) w' A l.length l ∧ Below w.heap.size w w'
/-- A result that is the call's own row. -/
def OwPost (l : List Int) (w : World) (e : Ending) (w' : World) : Prop := ∃ v, e = .returned v ∧ Kd.R (Kd.int .u8) 5 w' w.heap.size (fun _ => True) v l ∧ Below w.heap.size w w'
theorem R_none {w : World} {b : Nat} {l : List Int} {A : Option Addr} {n c : Nat} (h : Kd.R (Kd.int .u8) 5 w b (fun _ => True) (.slice A n c) l) : Kd.R (Kd.int .u8) 5 w b (fun _ => True) (.slice A 0 c) [] := by
  have ho := Kd.own_of_R (enc := Value.int .u8) (h1 := fun _ => rfl) h
  obtain ⟨A', c', e⟩ := own_slice ho
  injection e with e1 e2 e3
  subst e1 e2 e3
  have := own_take ho (Nat.zero_le _)
  rw [Nat.zero_mul, List.take_zero] at this
  exact Kd.R_of_own (enc := Value.int .u8) (h1 := fun _ => rfl) (xs := []) this (fun _ _ => trivial)
set_option maxHeartbeats 1000000 in
set_option maxRecDepth 100000 in
theorem grow_calls (n : Nat) (w : World) (hn : n ≤ 140737488355328) :
    Calls Try.prog 107 #[.slice none 0 0, .int .i64 n] w (OwPost [] w) := by
  have t0 : decide ((n : Int) < 0) = false := by simp
  by_cases h0 : n = 0
  · subst h0
    go_enter Try.func107, Try.ntmps107
    go_wp2
    go_ret
    exact ⟨_, rfl, Kd.R_nil _ _ _ _ _, Below.refl _ _⟩
  · have t1 : decide ((0 : Int) < n) = true := by simp; omega
    have hN : n ≤ 9223372036854775807 := by omega
    obtain ⟨i5, hi5, _⟩ := info_parts info5
    have HI := Aside0.mk hi5; clear hi5
    go_enter Try.func107, Try.ntmps107
    go_wp2_with ((at_builtin; refine Kd.R_append_zeros (Kd.int .u8) (w0 := w) w.heap.size rfl (.tmp 20) (.tmp 21) 51 3 5 (.int .u8 0) 1 rfl Try.underlying51 Try.underlying3 info5 rfl (by decide) (by omega) (.slice none 0 0) [] 0 n (fun _ => True) rfl rfl ?aZ (fun _ _ => trivial) (Kd.R_nil _ _ _ _ _) (by omega) (Below.refl _ _) (Nat.le_refl _) (by simp; omega) ?_; rotate_left; intro v1 w1 hR hB hg hat; obtain ⟨A1, c1, rfl, hc1, _⟩ := Kd.R_reads hR; have hs := cut_to 51 5 .i64 Try.underlying51 HI.out A1 _ c1 0 (by omega) (by omega) hc1 w1; have HR := Aside0.mk hR; have HB := Aside0.mk hB; clear hR hB hg hat))
    case aZ => exact rfl
    go_ret
    exact ⟨_, rfl, R_none HR.out, HB.out⟩
/-- A row of rows: the cell of one, and what it reads. -/
theorem rows_at {w : World} {A : Option Addr} {n : Nat} {ls : List (List Int)} (h : (Kd.slice 5 (Kd.int .u8)).C w A n ls) (i : Nat) (hi : i < ls.length) : ∃ ad B c, A = some ad ∧ w.cell? (ad.add i) = some (.slice B ls[i].length c) ∧ ls[i].length ≤ c ∧ Kd.C (Kd.int .u8) w B ls[i].length ls[i] := by
  have hn := h.1
  obtain ⟨ad, cs, rfl, hl, hK, hc⟩ := Kd.C_get h [] (i : Int) (by omega) (by omega)
  obtain ⟨B, c, rfl, hle, hC⟩ := hK
  have e : ls.getD (i : Int).toNat [] = ls[i] := by rw [Int.toNat_natCast, List.getD_eq_getElem?_getD, List.getElem?_eq_getElem hi]; rfl
  rw [e] at hle hC hc
  refine ⟨ad, B, c, rfl, ?_, hle, hC⟩
  have := hc 0 _ rfl
  rw [Int.toNat_natCast] at this
  simpa [Kd.slice] using this
theorem flat_snoc (ls : List (List Int)) (i : Nat) (h : i < ls.length) : (ls.take (i + 1)).flatten = (ls.take i).flatten ++ ls[i] := by
  rw [List.take_succ_eq_append_getElem h, List.flatten_append, List.flatten_singleton]
theorem flat_le (ls : List (List Int)) (i : Nat) : (ls.take i).flatten.length ≤ ls.flatten.length := by
  conv => rhs; rw [← List.take_append_drop i ls, List.flatten_append, List.length_append]
  omega
set_option maxHeartbeats 1000000 in
set_option maxRecDepth 100000 in
theorem concat_calls (A : Option Addr) (c : Nat) (ls : List (List Int)) (w : World) (hr : (Kd.slice 5 (Kd.int .u8)).C w A ls.length ls) (hb : ls.flatten.length ≤ 140737488355328) :
    Calls Try.prog 73 #[.slice A ls.length c] w (OwPost ls.flatten w) := by
  have hmax := Kd.C_max hr
  have HR := Aside0.mk hr; clear hr
  have HL := Aside0.mk hb; clear hb
  go_enter Try.func73, Try.ntmps73
  go_wp2
  go_loop [3, 11] (fun v3 v11 => ∃ i : Nat, i ≤ ls.length ∧ v11 = .int .i64 i ∧ v3 = .int .i64 ((ls.take i).flatten.length : Nat)) (fun _ v11 => ls.length - (intOf v11).toNat)
  case atStart => exact ⟨0, by omega, rfl, by simp⟩
  case round =>
    obtain ⟨i, hi, rfl, rfl⟩ := hrel
    by_cases hlt : i < ls.length
    · obtain ⟨ad, B, cB, rfl, hcell, hcB, hC⟩ := rows_at HR.out i hlt
      have hf := flat_snoc ls i hlt
      have h1 := flat_le ls (i + 1)
      rw [hf, List.length_append] at h1
      have h2 := HL.out
      have e : (ls.take (i + 1)).flatten.length = (ls.take i).flatten.length + ls[i].length := by rw [hf, List.length_append]
      obtain ⟨k, hk⟩ : ∃ k, (ls.take i).flatten.length = k := ⟨_, rfl⟩
      obtain ⟨m, hm⟩ : ∃ m, ls[i].length = m := ⟨_, rfl⟩
      rw [hk, hm] at h1 e
      rw [hm] at hcell
      rw [hk]
      have t0 : decide (((k : Int) + m) < 0) = false := by simp; omega
      have hkm : k + m ≤ 140737488355328 := by omega
      have HE := Aside0.mk e
      clear e hf hC hk hm h1 h2 hcB
      go_wp2
      go_round
      case rel => exact ⟨i + 1, by omega, by go_num, by rw [HE.out]; go_num⟩
      case measure => simp [intOf]; omega
    · obtain rfl : i = ls.length := by omega
      rw [List.take_length]
      obtain ⟨n, hn⟩ : ∃ n, ls.flatten.length = n := ⟨_, rfl⟩
      have hnm := HL.out
      rw [hn] at hnm ⊢
      clear hn
      go_wp2_with ((go_at_call 107; refine (grow_calls n _ hnm).mono ?_; rintro e w' ⟨v0, rfl, hR0, hB0⟩; have HR0 := Aside0.mk hR0; have HB0 := Aside0.mk hB0; clear hR0 hB0))
      go_loopw [6, 27] (fun v6 v27 wr => ∃ i : Nat, i ≤ ls.length ∧ v27 = .int .i64 i ∧ Aside0 (Kd.R (Kd.int .u8) 5 wr w.heap.size (fun _ => True) v6 (ls.take i).flatten) ∧ Aside0 (Below w.heap.size w wr)) (fun _ v27 _ => ls.length - (intOf v27).toNat)
      case atStart => exact ⟨0, by omega, rfl, ⟨HR0.out⟩, HB0⟩
      case round =>
        obtain ⟨i, hi, rfl, HR1, HB1⟩ := hrel
        by_cases hlt : i < ls.length
        · obtain ⟨ad, B, cB, rfl, hcell, hcB, hC⟩ := rows_at (Kd.C_below HR.out HB1.out) i hlt
          have hf := flat_snoc ls i hlt
          have h1 := flat_le ls (i + 1)
          rw [hf, List.length_append] at h1
          have h2 := HL.out
          have HC := Aside0.mk hC
          have HF := Aside0.mk hf
          have hbs : w.heap.size ≤ wr.heap.size := HB1.out.size
          have HL2 : Aside0 (((ls.take i).flatten.length + ls[i].length) * 1 ≤ 140737488355328) := ⟨by omega⟩
          clear hC hf h1 h2 hcB
          go_wp2_with ((at_builtin; refine Kd.R_append_rows (Kd.int .u8) (w0 := w) w.heap.size rfl (.tmp 31) (.tmp 32) 51 5 (.int .u8 0) 1 rfl Try.underlying51 info5 rfl (by decide) (by omega) u6 (ls.take i).flatten ls[i] _ _ _ (fun _ => True) (fun _ => False) rfl rfl HR1.out HC.out (fun _ _ h => h) (fun _ h => h.elim) (fun _ _ => trivial) HB1.out hbs HL2.out ?_; intro v1 w1 hR hB hg hat; have HR2 := Aside0.mk hR; have HB2 := Aside0.mk hB; clear hR hB hg hat))
          go_roundw
          case rel => exact ⟨i + 1, by omega, by go_num, ⟨by rw [HF.out]; exact HR2.out⟩, HB2⟩
          case measure => simp [intOf]; omega
        · obtain rfl : i = ls.length := by omega
          go_wp2
          go_ret
          have := HR1.out
          rw [List.take_length] at this
          exact ⟨_, rfl, this, HB1.out⟩
end Go.Proofs.Ytajgillnkkkgjaa.P
end
section
/- The bytes of a record: frame.Write; what lies at the front of bytes: frame.Read. -/
namespace Go.Proofs.Ytajgillnkkkgjaa.P
open Go.RowKit Go.Proofs.YtajgillnkkkgjaaW.PrintWords Go.Proofs.YtajgillnkkkgjaaW.PrintLast Go.Proofs.YtajgillnkkkgjaaW.PrintMore Go.Proofs.Ytajgillnkkkgjaa.H
set_option linter.unusedVariables false
set_option linter.unusedSimpArgs false
theorem rd_of_R {e : Nat} {w : World} {base : Nat} {ok : Nat → Prop} {v : Value} {r : List Int} (h : Kd.R (Kd.int .u8) e w base ok v r) : ∃ A c, v = .slice A r.length c ∧ r.length ≤ c ∧ Kd.C (Kd.int .u8) w A r.length r := by
  obtain ⟨A, c, rfl⟩ := Kd.R_slice h
  exact ⟨A, c, rfl, (Kd.R_reads' h).2.1, (Kd.R_reads' h).2.2⟩
theorem nilC (w : World) : Kd.C (Kd.int .u8) w none 0 [] := ⟨rfl, by decide, fun h => absurd h (by decide)⟩
theorem concat_rd (A : Option Addr) (c n : Nat) (ls : List (List Int)) (r : List Int) (w : World) (hn : n = ls.length) (hf : ls.flatten = r) (hr : (Kd.slice 5 (Kd.int .u8)).C w A ls.length ls) (hb : r.length ≤ 140737488355328) :
    Calls Try.prog 73 #[.slice A n c] w (RdPost r w) := by
  subst hn hf
  refine (concat_calls A c ls w hr hb).mono ?_
  rintro e w' ⟨v, rfl, hR, hB⟩
  obtain ⟨A, c, rfl, hc, hC⟩ := rd_of_R hR
  exact ⟨A, c, rfl, hc, hC, hB⟩
/-- The sum of bytes behind a sum. -/
def crcM (a : Int) (l : List Int) : Int := crcInv (l.foldl crcByte (crcInv a))
end Go.Proofs.Ytajgillnkkkgjaa.P
end
section
-- printed by the session's own call of print.py. Not trusted: Lean checks it.
namespace Go.Proofs.Ytajgillnkkkgjaa.P
open Go.RowKit Go.Proofs.YtajgillnkkkgjaaW.PrintWords Go.Proofs.YtajgillnkkkgjaaW.PrintLast Go.Proofs.YtajgillnkkkgjaaW.PrintMore
attribute [local go_sem] max2_int min2_int max_two min_two max_three min_three max_four min_four
set_option linter.unusedVariables false
set_option linter.unusedSimpArgs false
/-! ### tallymanref08_Same: function 37 -/
end Go.Proofs.Ytajgillnkkkgjaa.P
end
section
-- printed by the session's own call of print.py. Not trusted: Lean checks it.
namespace Go.Proofs.Ytajgillnkkkgjaa.P
open Go.RowKit Go.Proofs.YtajgillnkkkgjaaW.PrintWords Go.Proofs.YtajgillnkkkgjaaW.PrintLast Go.Proofs.YtajgillnkkkgjaaW.PrintMore
attribute [local go_sem] max2_int min2_int max_two min_two max_three min_three max_four min_four
set_option linter.unusedVariables false
set_option linter.unusedSimpArgs false
/-! ### tallymanref08_Take: function 82 -/
mutual
def tallymanref08_Take.j0 : Nat → List Int → Int → Bool → Option (Int × List Int × Int)
  | 0, _, _, _ => none
  | k + 1, x0, x1, x14 => if x14 = true then (some (0, ([] : List Int), 1)) else (if (x0.length : Int) < x1 then (some (0, ([] : List Int), 4)) else (tallymanref08_Take.l0 k x0 x1 0 0))
def tallymanref08_Take.l0 : Nat → List Int → Int → Int → Int → Option (Int × List Int × Int)
  | 0, _, _, _, _ => none
  | k + 1, x0, x1, x7, x8 => if x8 < x1 then (if 0 ≤ x8 then (if x8 < (x0.length : Int) then (tallymanref08_Take.l0 k x0 x1 (IntKind.u64.wrap ((IntKind.u64.wrap (x7 * 256)) + (IntKind.u64.wrap (rd x0 x8)))) (wrap64 (x8 + 1))) else (none)) else (none)) else ((some (([] : List Int) : List Int)).bind fun y102 => (if 0 ≤ x1 then (if x1 ≤ (x0.length : Int) then (if y102.length + (x0.drop (x1 : Int).toNat).length < 140737488355328 then (some (x7, (y102 ++ (x0.drop (x1 : Int).toNat)), 0)) else (none)) else (none)) else (none)))
end
def tallymanref08_Take.f (k : Nat) (l0 : List Int) (a1 : Int) : Option (Int × List Int × Int) := if a1 < 0 then (tallymanref08_Take.j0 k l0 a1 true) else (tallymanref08_Take.j0 k l0 a1 (decide (a1 > 8)))
theorem tallymanref08_Take.mono_l : ∀ k, (∀ y0 y1 y2, LeO (tallymanref08_Take.j0 k y0 y1 y2) (tallymanref08_Take.j0 (k + 1) y0 y1 y2)) ∧ (∀ y0 y1 y2 y3, LeO (tallymanref08_Take.l0 k y0 y1 y2 y3) (tallymanref08_Take.l0 (k + 1) y0 y1 y2 y3))
  | 0 => ⟨fun _ _ _ r h => by simp [tallymanref08_Take.j0] at h, fun _ _ _ _ r h => by simp [tallymanref08_Take.l0] at h⟩
  | k + 1 => by
    obtain ⟨ih0, ih1⟩ := tallymanref08_Take.mono_l k
    refine ⟨?_, ?_⟩
    · intro y0 y1 y2
      unfold tallymanref08_Take.j0
      repeat' first
      | (with_reducible exact ih0 _ _ _)
      | (with_reducible exact ih1 _ _ _ _)
      | (with_reducible exact LeO.refl _)
      | (with_reducible exact LeO.none _)
      | (with_reducible refine LeO.ite ?_ ?_)
      | (with_reducible refine LeO.bind ?_ (fun _ => ?_))
      | exact ih0 _ _ _
      | exact ih1 _ _ _ _
      | exact LeO.none _
      | refine LeO.ite ?_ ?_
      | refine LeO.bind ?_ (fun _ => ?_)
    · intro y0 y1 y2 y3
      unfold tallymanref08_Take.l0
      repeat' first
      | (with_reducible exact ih0 _ _ _)
      | (with_reducible exact ih1 _ _ _ _)
      | (with_reducible exact LeO.refl _)
      | (with_reducible exact LeO.none _)
      | (with_reducible refine LeO.ite ?_ ?_)
      | (with_reducible refine LeO.bind ?_ (fun _ => ?_))
      | exact ih0 _ _ _
      | exact ih1 _ _ _ _
      | exact LeO.none _
      | refine LeO.ite ?_ ?_
      | refine LeO.bind ?_ (fun _ => ?_)
theorem tallymanref08_Take.mono : ∀ a0 a1 k, LeO (tallymanref08_Take.f k a0 a1) (tallymanref08_Take.f (k + 1) a0 a1) := by
  intro a0 a1 k
  obtain ⟨ih0, ih1⟩ := tallymanref08_Take.mono_l k
  unfold tallymanref08_Take.f
  repeat' first
      | (with_reducible exact ih0 _ _ _)
      | (with_reducible exact ih1 _ _ _ _)
      | (with_reducible exact LeO.refl _)
      | (with_reducible exact LeO.none _)
      | (with_reducible refine LeO.ite ?_ ?_)
      | (with_reducible refine LeO.bind ?_ (fun _ => ?_))
      | exact ih0 _ _ _
      | exact ih1 _ _ _ _
      | exact LeO.none _
      | refine LeO.ite ?_ ?_
      | refine LeO.bind ?_ (fun _ => ?_)
end Go.Proofs.Ytajgillnkkkgjaa.P
end
section
-- printed by the session's own call of print.py. Not trusted: Lean checks it.
namespace Go.Proofs.Ytajgillnkkkgjaa.P
open Go.RowKit Go.Proofs.YtajgillnkkkgjaaW.PrintWords Go.Proofs.YtajgillnkkkgjaaW.PrintLast Go.Proofs.YtajgillnkkkgjaaW.PrintMore
attribute [local go_sem] max2_int min2_int max_two min_two max_three min_three max_four min_four
set_option linter.unusedVariables false
set_option linter.unusedSimpArgs false
/-! ### tallymanref02_Clip: function 72 -/
def tallymanref02_Clip.f (a0 : Int) (a1 : Int) (a2 : Int) : Option (Int) := if a0 < a1 then (some a1) else (if a0 > a2 then (some a2) else (some a0))
end Go.Proofs.Ytajgillnkkkgjaa.P
end
section
-- printed by the session's own call of print.py. Not trusted: Lean checks it.
namespace Go.Proofs.Ytajgillnkkkgjaa.P
open Go.RowKit Go.Proofs.YtajgillnkkkgjaaW.PrintWords Go.Proofs.YtajgillnkkkgjaaW.PrintLast Go.Proofs.YtajgillnkkkgjaaW.PrintMore
attribute [local go_sem] max2_int min2_int max_two min_two max_three min_three max_four min_four
set_option linter.unusedVariables false
set_option linter.unusedSimpArgs false
/-! ### tallymanref08_Put: function 79 -/
mutual
def tallymanref08_Put.l0 : Nat → Int → List Int → Int → Option (List Int)
  | 0, _, _, _ => none
  | k + 1, x1, x7, x8 => if x8 ≥ 0 then (tallymanref08_Put.l1 k x1 x7 x8 x1 0) else (some x7)
def tallymanref08_Put.l1 : Nat → Int → List Int → Int → Int → Int → Option (List Int)
  | 0, _, _, _, _, _ => none
  | k + 1, x1, x7, x8, x9, x10 => if x10 < x8 then (tallymanref08_Put.l1 k x1 x7 x8 (IntKind.u64.wrap (Int.tdiv x9 256)) (wrap64 (x10 + 1))) else (if x7.length < 140737488355328 then (tallymanref08_Put.l0 k x1 (x7 ++ [(Int.tmod x9 256) % 256]) (wrap64 (x8 - 1))) else (none))
end
def tallymanref08_Put.f (k : Nat) (l0 : List Int) (a1 : Int) (a2 : Int) : Option (List Int) := (some (([] : List Int) : List Int)).bind fun y101 => (if y101.length + l0.length < 140737488355328 then ((tallymanref02_Clip.f a2 0 8).bind fun t107 => (tallymanref08_Put.l0 k a1 (y101 ++ l0) (wrap64 (t107 - 1)))) else (none))
theorem tallymanref08_Put.mono_l : ∀ k, (∀ y0 y1 y2, LeO (tallymanref08_Put.l0 k y0 y1 y2) (tallymanref08_Put.l0 (k + 1) y0 y1 y2)) ∧ (∀ y0 y1 y2 y3 y4, LeO (tallymanref08_Put.l1 k y0 y1 y2 y3 y4) (tallymanref08_Put.l1 (k + 1) y0 y1 y2 y3 y4))
  | 0 => ⟨fun _ _ _ r h => by simp [tallymanref08_Put.l0] at h, fun _ _ _ _ _ r h => by simp [tallymanref08_Put.l1] at h⟩
  | k + 1 => by
    obtain ⟨ih0, ih1⟩ := tallymanref08_Put.mono_l k
    refine ⟨?_, ?_⟩
    · intro y0 y1 y2
      unfold tallymanref08_Put.l0
      repeat' first
      | (with_reducible exact ih0 _ _ _)
      | (with_reducible exact ih1 _ _ _ _ _)
      | (with_reducible exact LeO.refl _)
      | (with_reducible exact LeO.none _)
      | (with_reducible refine LeO.ite ?_ ?_)
      | (with_reducible refine LeO.bind ?_ (fun _ => ?_))
      | exact ih0 _ _ _
      | exact ih1 _ _ _ _ _
      | exact LeO.none _
      | refine LeO.ite ?_ ?_
      | refine LeO.bind ?_ (fun _ => ?_)
    · intro y0 y1 y2 y3 y4
      unfold tallymanref08_Put.l1
      repeat' first
      | (with_reducible exact ih0 _ _ _)
      | (with_reducible exact ih1 _ _ _ _ _)
      | (with_reducible exact LeO.refl _)
      | (with_reducible exact LeO.none _)
      | (with_reducible refine LeO.ite ?_ ?_)
      | (with_reducible refine LeO.bind ?_ (fun _ => ?_))
      | exact ih0 _ _ _
      | exact ih1 _ _ _ _ _
      | exact LeO.none _
      | refine LeO.ite ?_ ?_
      | refine LeO.bind ?_ (fun _ => ?_)
theorem tallymanref08_Put.mono : ∀ a0 a1 a2 k, LeO (tallymanref08_Put.f k a0 a1 a2) (tallymanref08_Put.f (k + 1) a0 a1 a2) := by
  intro a0 a1 a2 k
  obtain ⟨ih0, ih1⟩ := tallymanref08_Put.mono_l k
  unfold tallymanref08_Put.f
  repeat' first
      | (with_reducible exact ih0 _ _ _)
      | (with_reducible exact ih1 _ _ _ _ _)
      | (with_reducible exact LeO.refl _)
      | (with_reducible exact LeO.none _)
      | (with_reducible refine LeO.ite ?_ ?_)
      | (with_reducible refine LeO.bind ?_ (fun _ => ?_))
      | exact ih0 _ _ _
      | exact ih1 _ _ _ _ _
      | exact LeO.none _
      | refine LeO.ite ?_ ?_
      | refine LeO.bind ?_ (fun _ => ?_)
end Go.Proofs.Ytajgillnkkkgjaa.P
end
section
namespace Go.Proofs.Ytajgillnkkkgjaa.B
open Go.RowKit
theorem wrap_i64 (n : Int) : IntKind.i64.wrap n = wrap64 n := by
  simp only [IntKind.wrap, IntKind.bits, IntKind.signed, wrap64, Bool.true_and, ge_iff_le, decide_eq_true_eq]
  by_cases h : (2 : Int) ^ (64 - 1) ≤ n % 2 ^ 64
  · rw [if_pos h]; omega
  · rw [if_neg h]; omega
end Go.Proofs.Ytajgillnkkkgjaa.B
end
section
/- Plain lemmas on the Lean functions of pack: what Put, Take and their references come to. -/
namespace Go.Proofs.Ytajgillnkkkgjaa.Pure
open Go.RowKit Go.Proofs.Ytajgillnkkkgjaa.P Go.Proofs.YtajgillnkkkgjaaW.PrintWords Go.Proofs.YtajgillnkkkgjaaW.PrintLast Go.Proofs.Ytajgillnkkkgjaa.B
def val (l : List Int) (a : Int) : Int := l.foldl (fun w x => w * 256 + x) a
end Go.Proofs.Ytajgillnkkkgjaa.Pure
end
section
/- What lies at the front of bytes: frame.Read. -/
namespace Go.Proofs.Ytajgillnkkkgjaa.P
open Go.RowKit Go.Proofs.YtajgillnkkkgjaaW.PrintWords Go.Proofs.YtajgillnkkkgjaaW.PrintLast Go.Proofs.YtajgillnkkkgjaaW.PrintMore Go.Proofs.Ytajgillnkkkgjaa.H Go.Proofs.Ytajgillnkkkgjaa.Pure
set_option linter.unusedVariables false
set_option linter.unusedSimpArgs false
def be4 (l : List Int) : Int := val (l.take 4) 0
def readP (l : List Int) : List Int × List Int × Int :=
  if l.length < 8 then ([], [], 4) else if 65536 < be4 l then ([], [], 15) else if (l.length : Int) - 8 < be4 l then ([], [], 4)
  else if be4 (l.drop 4) ≠ crcM (crcM 0 (l.take 4)) ((l.drop 8).take (be4 l).toNat) then ([], [], 5) else ((l.drop 8).take (be4 l).toNat, (l.drop 8).drop (be4 l).toNat, 0)
def RdTwo (P : Nat → Prop) (x : List Int × List Int × Int) (w : World) (e : Ending) (w' : World) : Prop := ∃ A c B d, e = .returned (.tuple #[.slice A x.1.length c, .slice B x.2.1.length d, .int .i64 x.2.2]) ∧ x.1.length ≤ c ∧ Kd.F (Kd.int .u8) w' (fun k => P k ∨ w.heap.size ≤ k) A x.1.length x.1 ∧ x.2.1.length ≤ d ∧ Kd.F (Kd.int .u8) w' (fun k => P k ∨ w.heap.size ≤ k) B x.2.1.length x.2.1 ∧ Below w.heap.size w w'
abbrev ReadS (Q : Nat → Prop) (w0 : World) (A0 : Option Addr) (l : List Int) (Ay : Option Addr) (n : Nat) (r : List Int) (An : Option Addr) (q : List Int) (w' : World) : Prop := Aside0 (Kd.C (Kd.int .u8) w' A0 4 l) ∧ Aside0 (Kd.F (Kd.int .u8) w' Q Ay n r) ∧ Aside0 (Below w0.heap.size w0 w') ∧ Aside0 (Kd.F (Kd.int .u8) w' Q An q.length q)
theorem ReadS.keep {Q : Nat → Prop} {w0 : World} {A0 : Option Addr} {l : List Int} {Ay : Option Addr} {n : Nat} {r : List Int} {An : Option Addr} {q : List Int} {w1 w2 : World} (h : ReadS Q w0 A0 l Ay n r An q w1) (hb : Below w1.heap.size w1 w2) : ReadS Q w0 A0 l Ay n r An q w2 := ⟨⟨Kd.C_below h.1.out hb⟩, ⟨Kd.F_below h.2.1.out hb⟩, ⟨below_step h.2.2.1.out hb⟩, ⟨Kd.F_below h.2.2.2.out hb⟩⟩
end Go.Proofs.Ytajgillnkkkgjaa.P
end
section
-- printed by the session's own call of print.py. Not trusted: Lean checks it.
namespace Go.Proofs.Ytajgillnkkkgjaa.P
open Go.RowKit Go.Proofs.YtajgillnkkkgjaaW.PrintWords Go.Proofs.YtajgillnkkkgjaaW.PrintLast Go.Proofs.YtajgillnkkkgjaaW.PrintMore
attribute [local go_sem] max2_int min2_int max_two min_two max_three min_three max_four min_four
set_option linter.unusedVariables false
set_option linter.unusedSimpArgs false
/-! ### tallymanref09_turn: function 119 -/
def tallymanref09_turn.f (a0 : Int) : Option (Int) := some ((4294967295 - a0) % 4294967296)
end Go.Proofs.Ytajgillnkkkgjaa.P
end
section
-- printed by the session's own call of print.py. Not trusted: Lean checks it.
namespace Go.Proofs.Ytajgillnkkkgjaa.P
open Go.RowKit Go.Proofs.YtajgillnkkkgjaaW.PrintWords Go.Proofs.YtajgillnkkkgjaaW.PrintLast Go.Proofs.YtajgillnkkkgjaaW.PrintMore
attribute [local go_sem] max2_int min2_int max_two min_two max_three min_three max_four min_four
set_option linter.unusedVariables false
set_option linter.unusedSimpArgs false
/-! ### tallymanref09_either: function 120 -/
def tallymanref09_either.l0 : Nat → Int → Int → Int → Int → Int → Option (Int)
  | 0, _, _, _, _, _ => none
  | k + 1, x0, x1, x5, x6, x7 => if x7 < 32 then (if (Int.tmod x0 2) = (Int.tmod x1 2) then (tallymanref09_either.l0 k ((Int.tdiv x0 2) % 4294967296) ((Int.tdiv x1 2) % 4294967296) x5 ((x6 * 2) % 4294967296) (wrap64 (x7 + 1))) else (tallymanref09_either.l0 k ((Int.tdiv x0 2) % 4294967296) ((Int.tdiv x1 2) % 4294967296) ((x5 + x6) % 4294967296) ((x6 * 2) % 4294967296) (wrap64 (x7 + 1)))) else (some x5)
def tallymanref09_either.f (k : Nat) (a0 : Int) (a1 : Int) : Option (Int) := tallymanref09_either.l0 k a0 a1 0 1 0
theorem tallymanref09_either.mono_l : ∀ k, (∀ y0 y1 y2 y3 y4, LeO (tallymanref09_either.l0 k y0 y1 y2 y3 y4) (tallymanref09_either.l0 (k + 1) y0 y1 y2 y3 y4))
  | 0 => fun _ _ _ _ _ r h => by simp [tallymanref09_either.l0] at h
  | k + 1 => by
    have ih0 := tallymanref09_either.mono_l k
    · intro y0 y1 y2 y3 y4
      unfold tallymanref09_either.l0
      repeat' first
      | (with_reducible exact ih0 _ _ _ _ _)
      | (with_reducible exact LeO.refl _)
      | (with_reducible exact LeO.none _)
      | (with_reducible refine LeO.ite ?_ ?_)
      | (with_reducible refine LeO.bind ?_ (fun _ => ?_))
      | exact ih0 _ _ _ _ _
      | exact LeO.none _
      | refine LeO.ite ?_ ?_
      | refine LeO.bind ?_ (fun _ => ?_)
theorem tallymanref09_either.mono : ∀ a0 a1 k, LeO (tallymanref09_either.f k a0 a1) (tallymanref09_either.f (k + 1) a0 a1) := by
  intro a0 a1 k
  have ih0 := tallymanref09_either.mono_l k
  unfold tallymanref09_either.f
  repeat' first
      | (with_reducible exact ih0 _ _ _ _ _)
      | (with_reducible exact LeO.refl _)
      | (with_reducible exact LeO.none _)
      | (with_reducible refine LeO.ite ?_ ?_)
      | (with_reducible refine LeO.bind ?_ (fun _ => ?_))
      | exact ih0 _ _ _ _ _
      | exact LeO.none _
      | refine LeO.ite ?_ ?_
      | refine LeO.bind ?_ (fun _ => ?_)
end Go.Proofs.Ytajgillnkkkgjaa.P
end
section
-- printed by the session's own call of print.py. Not trusted: Lean checks it.
namespace Go.Proofs.Ytajgillnkkkgjaa.P
open Go.RowKit Go.Proofs.YtajgillnkkkgjaaW.PrintWords Go.Proofs.YtajgillnkkkgjaaW.PrintLast Go.Proofs.YtajgillnkkkgjaaW.PrintMore
attribute [local go_sem] max2_int min2_int max_two min_two max_three min_three max_four min_four
set_option linter.unusedVariables false
set_option linter.unusedSimpArgs false
/-! ### tallymanref09_More: function 111 -/
mutual
def tallymanref09_More.l0 : Nat → List Int → Int → Int → Option (Int)
  | 0, _, _, _ => none
  | k + 1, x1, x5, x6 => if x6 < (x1.length : Int) then (if 0 ≤ x6 then ((tallymanref09_either.f k x5 ((rd x1 x6) % 4294967296)).bind fun t104 => (tallymanref09_More.l1 k x1 t104 x6 0)) else (none)) else ((tallymanref09_turn.f x5).bind fun t102 => (some t102))
def tallymanref09_More.l1 : Nat → List Int → Int → Int → Int → Option (Int)
  | 0, _, _, _, _ => none
  | k + 1, x1, x5, x6, x7 => if x7 < 8 then (if (Int.tmod x5 2) = 1 then ((tallymanref09_either.f k ((Int.tdiv x5 2) % 4294967296) 3988292384).bind fun t105 => (tallymanref09_More.l1 k x1 t105 x6 (wrap64 (x7 + 1)))) else (tallymanref09_More.l1 k x1 ((Int.tdiv x5 2) % 4294967296) x6 (wrap64 (x7 + 1)))) else (tallymanref09_More.l0 k x1 x5 (wrap64 (x6 + 1)))
end
def tallymanref09_More.f (k : Nat) (a0 : Int) (l1 : List Int) : Option (Int) := (tallymanref09_turn.f a0).bind fun t101 => (tallymanref09_More.l0 k l1 t101 0)
theorem tallymanref09_More.mono_l : ∀ k, (∀ y0 y1 y2, LeO (tallymanref09_More.l0 k y0 y1 y2) (tallymanref09_More.l0 (k + 1) y0 y1 y2)) ∧ (∀ y0 y1 y2 y3, LeO (tallymanref09_More.l1 k y0 y1 y2 y3) (tallymanref09_More.l1 (k + 1) y0 y1 y2 y3))
  | 0 => ⟨fun _ _ _ r h => by simp [tallymanref09_More.l0] at h, fun _ _ _ _ r h => by simp [tallymanref09_More.l1] at h⟩
  | k + 1 => by
    obtain ⟨ih0, ih1⟩ := tallymanref09_More.mono_l k
    refine ⟨?_, ?_⟩
    · intro y0 y1 y2
      unfold tallymanref09_More.l0
      repeat' first
      | (with_reducible exact ih0 _ _ _)
      | (with_reducible exact ih1 _ _ _ _)
      | (with_reducible exact tallymanref09_either.mono _ _ _)
      | (with_reducible exact LeO.refl _)
      | (with_reducible exact LeO.none _)
      | (with_reducible refine LeO.ite ?_ ?_)
      | (with_reducible refine LeO.bind ?_ (fun _ => ?_))
      | exact ih0 _ _ _
      | exact ih1 _ _ _ _
      | exact tallymanref09_either.mono _ _ _
      | exact LeO.none _
      | refine LeO.ite ?_ ?_
      | refine LeO.bind ?_ (fun _ => ?_)
    · intro y0 y1 y2 y3
      unfold tallymanref09_More.l1
      repeat' first
      | (with_reducible exact ih0 _ _ _)
      | (with_reducible exact ih1 _ _ _ _)
      | (with_reducible exact tallymanref09_either.mono _ _ _)
      | (with_reducible exact LeO.refl _)
      | (with_reducible exact LeO.none _)
      | (with_reducible refine LeO.ite ?_ ?_)
      | (with_reducible refine LeO.bind ?_ (fun _ => ?_))
      | exact ih0 _ _ _
      | exact ih1 _ _ _ _
      | exact tallymanref09_either.mono _ _ _
      | exact LeO.none _
      | refine LeO.ite ?_ ?_
      | refine LeO.bind ?_ (fun _ => ?_)
theorem tallymanref09_More.mono : ∀ a0 a1 k, LeO (tallymanref09_More.f k a0 a1) (tallymanref09_More.f (k + 1) a0 a1) := by
  intro a0 a1 k
  obtain ⟨ih0, ih1⟩ := tallymanref09_More.mono_l k
  unfold tallymanref09_More.f
  repeat' first
      | (with_reducible exact ih0 _ _ _)
      | (with_reducible exact ih1 _ _ _ _)
      | (with_reducible exact tallymanref09_either.mono _ _ _)
      | (with_reducible exact LeO.refl _)
      | (with_reducible exact LeO.none _)
      | (with_reducible refine LeO.ite ?_ ?_)
      | (with_reducible refine LeO.bind ?_ (fun _ => ?_))
      | exact ih0 _ _ _
      | exact ih1 _ _ _ _
      | exact tallymanref09_either.mono _ _ _
      | exact LeO.none _
      | refine LeO.ite ?_ ?_
      | refine LeO.bind ?_ (fun _ => ?_)
end Go.Proofs.Ytajgillnkkkgjaa.P
end
section
-- printed by the session's own call of print.py. Not trusted: Lean checks it.
namespace Go.Proofs.Ytajgillnkkkgjaa.P
open Go.RowKit Go.Proofs.YtajgillnkkkgjaaW.PrintWords Go.Proofs.YtajgillnkkkgjaaW.PrintLast Go.Proofs.YtajgillnkkkgjaaW.PrintMore
attribute [local go_sem] max2_int min2_int max_two min_two max_three min_three max_four min_four
set_option linter.unusedVariables false
set_option linter.unusedSimpArgs false
/-! ### tallymanref09_Sum: function 80 -/
def tallymanref09_Sum.f (k : Nat) (l0 : List Int) : Option (Int) := (tallymanref09_More.f k 0 l0).bind fun t101 => (some t101)
theorem tallymanref09_Sum.mono : ∀ a0 k, LeO (tallymanref09_Sum.f k a0) (tallymanref09_Sum.f (k + 1) a0) := by
  intro a0 k
  unfold tallymanref09_Sum.f
  repeat' first
      | (with_reducible exact tallymanref09_More.mono _ _ _)
      | (with_reducible exact LeO.refl _)
      | (with_reducible exact LeO.none _)
      | (with_reducible refine LeO.ite ?_ ?_)
      | (with_reducible refine LeO.bind ?_ (fun _ => ?_))
      | exact tallymanref09_More.mono _ _ _
      | exact LeO.none _
      | refine LeO.ite ?_ ?_
      | refine LeO.bind ?_ (fun _ => ?_)
end Go.Proofs.Ytajgillnkkkgjaa.P
end
section
/- Plain lemmas on crc: what Sum, More and their references come to. -/
namespace Go.Proofs.Ytajgillnkkkgjaa.Pure
open Go.RowKit Go.Proofs.Ytajgillnkkkgjaa.P Go.Proofs.YtajgillnkkkgjaaW.PrintWords Go.Proofs.YtajgillnkkkgjaaW.PrintLast Go.Proofs.Ytajgillnkkkgjaa.B
end Go.Proofs.Ytajgillnkkkgjaa.Pure
end
section
/- The document's Read, and its Rows of equal rows. -/
namespace Go.Proofs.Ytajgillnkkkgjaa.P
open Go.RowKit Go.Proofs.YtajgillnkkkgjaaW.PrintWords Go.Proofs.YtajgillnkkkgjaaW.PrintLast Go.Proofs.YtajgillnkkkgjaaW.PrintMore Go.Proofs.Ytajgillnkkkgjaa.H Go.Proofs.Ytajgillnkkkgjaa.Pure
set_option linter.unusedVariables false
set_option linter.unusedSimpArgs false
theorem R_lit0 (w : World) (base : Nat) (hb : base ≤ w.heap.size) : Kd.R (Kd.int .u8) 5 (w.alloc (.cells #[] 5)) base (fun _ => True) (.slice (some ⟨w.heap.size, 0, none⟩) 0 0) [] := by
  refine Kd.R_of_own (enc := Value.int .u8) (h1 := fun _ => rfl) (xs := []) ?_ (fun _ _ => trivial)
  have h := World.ownsRow_lit (base := base) (e := 5) (size := 1) w #[] 0 hb (by decide) rfl
  exact h
def okB (l : List Int) : Bool := l.all (fun x => decide (0 ≤ x) && decide (x ≤ 255)) && decide (l.length ≤ 1000000)
def tallymanref10_Read.f (k : Nat) (l0 : List Int) : Option (List Int × List Int × Int) := if okB l0 then some (readP l0) else none
theorem tallymanref10_Read.mono : ∀ a0 k, LeO (tallymanref10_Read.f k a0) (tallymanref10_Read.f (k + 1) a0) := fun _ _ => LeO.refl _
end Go.Proofs.Ytajgillnkkkgjaa.P
end
section
/- All records at the front of bytes: frame.All. -/
namespace Go.Proofs.Ytajgillnkkkgjaa.P
open Go.RowKit Go.Proofs.YtajgillnkkkgjaaW.PrintWords Go.Proofs.YtajgillnkkkgjaaW.PrintLast Go.Proofs.YtajgillnkkkgjaaW.PrintMore Go.Proofs.Ytajgillnkkkgjaa.H Go.Proofs.Ytajgillnkkkgjaa.Pure
set_option linter.unusedVariables false
set_option linter.unusedSimpArgs false
abbrev Hdr := Option Addr × Nat × Nat
/-- A row of headers, each of which reads as a row, in blocks of ok. -/
def ReadsAll (ok : Nat → Prop) (w : World) (hs : List Hdr) (ls : List (List Int)) : Prop := hs.length = ls.length ∧ ∀ (j : Nat) (h : Hdr) (l : List Int), hs[j]? = some h → ls[j]? = some l → h.2.1 = l.length ∧ l.length ≤ h.2.2 ∧ Kd.F (Kd.int .u8) w ok h.1 l.length l
theorem ReadsAll.map {ok ok' : Nat → Prop} {w w' : World} {hs : List Hdr} {ls : List (List Int)} (h : ReadsAll ok w hs ls) (hF : ∀ A n l, Kd.F (Kd.int .u8) w ok A n l → Kd.F (Kd.int .u8) w' ok' A n l) : ReadsAll ok' w' hs ls :=
  ⟨h.1, fun j x l h1 h2 => ⟨(h.2 j x l h1 h2).1, (h.2 j x l h1 h2).2.1, hF _ _ _ (h.2 j x l h1 h2).2.2⟩⟩
theorem ReadsAll.below {ok : Nat → Prop} {w w' : World} {hs : List Hdr} {ls : List (List Int)} (h : ReadsAll ok w hs ls) (hb : Below w.heap.size w w') : ReadsAll ok w' hs ls := h.map (fun _ _ _ hf => Kd.F_below hf hb)
theorem ReadsAll.snoc {ok : Nat → Prop} {w : World} {hs : List Hdr} {ls : List (List Int)} (h : ReadsAll ok w hs ls) {A : Option Addr} {c : Nat} {l : List Int} (hc : l.length ≤ c) (hC : Kd.F (Kd.int .u8) w ok A l.length l) : ReadsAll ok w (hs ++ [(A, l.length, c)]) (ls ++ [l]) := by
  refine ⟨by simp [h.1], fun j x y h1 h2 => ?_⟩
  by_cases hj : j < hs.length
  · rw [List.getElem?_append_left hj] at h1
    rw [List.getElem?_append_left (by rw [← h.1]; exact hj)] at h2
    exact h.2 j x y h1 h2
  · have hj2 : j < (hs ++ [(A, l.length, c)]).length := (List.getElem?_eq_some_iff.1 h1).1
    rw [List.length_append] at hj2
    simp only [List.length_singleton] at hj2
    obtain rfl : j = hs.length := by omega
    rw [List.getElem?_append_right (Nat.le_refl _), Nat.sub_self] at h1
    rw [h.1, List.getElem?_append_right (Nat.le_refl _), Nat.sub_self] at h2
    simp only [List.getElem?_cons_zero, Option.some.injEq] at h1 h2
    subst h1 h2
    exact ⟨rfl, hc, hC⟩
end Go.Proofs.Ytajgillnkkkgjaa.P
end
section
-- printed by the session's own call of print.py. Not trusted: Lean checks it.
namespace Go.Proofs.Ytajgillnkkkgjaa.P
open Go.RowKit Go.Proofs.YtajgillnkkkgjaaW.PrintWords Go.Proofs.YtajgillnkkkgjaaW.PrintLast Go.Proofs.YtajgillnkkkgjaaW.PrintMore
attribute [local go_sem] max2_int min2_int max_two min_two max_three min_three max_four min_four
set_option linter.unusedVariables false
set_option linter.unusedSimpArgs false
/-! ### tallymanref10_Size: function 39 -/
end Go.Proofs.Ytajgillnkkkgjaa.P
end
section
/- All records, by the document's All. -/
namespace Go.Proofs.Ytajgillnkkkgjaa.P
open Go.RowKit Go.Proofs.YtajgillnkkkgjaaW.PrintWords Go.Proofs.YtajgillnkkkgjaaW.PrintLast Go.Proofs.YtajgillnkkkgjaaW.PrintMore Go.Proofs.Ytajgillnkkkgjaa.H Go.Proofs.Ytajgillnkkkgjaa.Pure
set_option linter.unusedVariables false
set_option linter.unusedSimpArgs false
end Go.Proofs.Ytajgillnkkkgjaa.P
end
section
-- printed by the session's own call of print.py. Not trusted: Lean checks it.
namespace Go.Proofs.Ytajgillnkkkgjaa.P
open Go.RowKit Go.Proofs.YtajgillnkkkgjaaW.PrintWords Go.Proofs.YtajgillnkkkgjaaW.PrintLast Go.Proofs.YtajgillnkkkgjaaW.PrintMore
attribute [local go_sem] max2_int min2_int max_two min_two max_three min_three max_four min_four
set_option linter.unusedVariables false
set_option linter.unusedSimpArgs false
/-! ### frame_Size: function 38 -/
end Go.Proofs.Ytajgillnkkkgjaa.P
end
section
/- The document's Rows, of rows that are the same. -/
namespace Go.Proofs.Ytajgillnkkkgjaa.P
open Go.RowKit Go.Proofs.YtajgillnkkkgjaaW.PrintWords Go.Proofs.YtajgillnkkkgjaaW.PrintLast Go.Proofs.YtajgillnkkkgjaaW.PrintMore
set_option linter.unusedVariables false
set_option linter.unusedSimpArgs false
abbrev RowsS (w0 : World) (A B : Addr) (i : Nat) (a b : Option Addr) (m c d : Nat) (s : ByteArray) (w' : World) : Prop :=
  Aside0 (Drawn0 w0 w') ∧ w'.cell? (A.add i) = some (.slice a m c) ∧ w'.cell? (B.add i) = some (.slice b m d) ∧ (convert 51 9 (.slice a m c)).run Try.prog w' = Result.ok (Value.string s) w' ∧ (convert 51 9 (.slice b m d)).run Try.prog w' = Result.ok (Value.string s) w'
theorem RowsS.mk {w : World} {A B : Option Addr} {l : List (List Int)} (h0 : (Kd.slice 5 (Kd.int .u8)).C w A l.length l) (h1 : (Kd.slice 5 (Kd.int .u8)).C w B l.length l) (i : Nat) (hi : i < l.length) :
    ∃ ad bd a b m c d s, A = some ad ∧ B = some bd ∧ ∀ W, Drawn0 w W → RowsS w ad bd i a b m c d s W := by
  obtain ⟨ad, a, c, rfl, hc, hl, hC⟩ := rows_at h0 i hi
  obtain ⟨bd, b, d, rfl, hd, hl2, hC2⟩ := rows_at h1 i hi
  refine ⟨ad, bd, a, b, l[i].length, c, d, strOfNums l[i], rfl, rfl, fun W hW => ?_⟩
  have hC' := Kd.C_below hC hW.below
  have hC2' := Kd.C_below hC2 hW.below
  refine ⟨⟨hW⟩, ?_, ?_, Kd.C_string Try.underlying51 Try.underlying5 Try.underlying9 hC', Kd.C_string Try.underlying51 Try.underlying5 Try.underlying9 hC2'⟩
  · obtain ⟨⟨n, rfl⟩⟩ := hW; exact hc
  · obtain ⟨⟨n, rfl⟩⟩ := hW; exact hd
end Go.Proofs.Ytajgillnkkkgjaa.P
end
section
/- What was written is read; 'alive' of chapter 10. -/
namespace Go.Proofs.Ytajgillnkkkgjaa.P
open Go.RowKit Go.Proofs.YtajgillnkkkgjaaW.PrintWords Go.Proofs.YtajgillnkkkgjaaW.PrintLast Go.Proofs.YtajgillnkkkgjaaW.PrintMore Go.Proofs.Ytajgillnkkkgjaa.H Go.Proofs.Ytajgillnkkkgjaa.Pure
set_option linter.unusedVariables false
set_option linter.unusedSimpArgs false
def RdTwoC (x : List Int × List Int × Int) (w : World) (e : Ending) (w' : World) : Prop := ∃ A c B d, e = .returned (.tuple #[.slice A x.1.length c, .slice B x.2.1.length d, .int .i64 x.2.2]) ∧ x.1.length ≤ c ∧ Kd.C (Kd.int .u8) w' A x.1.length x.1 ∧ x.2.1.length ≤ d ∧ Kd.C (Kd.int .u8) w' B x.2.1.length x.2.1 ∧ Below w.heap.size w w'
theorem RdTwo.C {P : Nat → Prop} {x : List Int × List Int × Int} {w w' : World} {e : Ending} (h : RdTwo P x w e w') : RdTwoC x w e w' := by
  obtain ⟨A, c, B, d, h1, h2, h3, h4, h5, h6⟩ := h
  exact ⟨A, c, B, d, h1, h2, Kd.F_now h3, h4, Kd.F_now h5, h6⟩
theorem C_const (w : World) (l : List Int) (hl : l.length ≤ 9223372036854775807) (cs : Array Value) (hcs : cs = (l.map (Value.int .u8)).toArray) (fr : Nat × Nat) : Kd.C (Kd.int .u8) (w.alloc (.cells cs 5 fr)) (some ⟨w.heap.size, 0, none⟩) l.length l := by
  subst hcs
  refine C_of_cells hl ?_
  intro j u hj
  rw [add_plain', cell_of_row _ _ _ _ _ _ (heap_alloc_new w _)]
  simpa using hj
theorem str_eq {xs : List Int} {s : ByteArray} (h : strOfNums xs = s) {P : Program} {w : World} {t A n c} (hc : (convert t 9 (.slice A n c)).run P w = .ok (.string (strOfNums xs)) w) : (convert t 9 (.slice A n c)).run P w = .ok (.string s) w := h ▸ hc
end Go.Proofs.Ytajgillnkkkgjaa.P
end
section
-- printed by the session's own call of print.py. Not trusted: Lean checks it.
namespace Go.Proofs.Ytajgillnkkkgjaa.P
open Go.RowKit Go.Proofs.YtajgillnkkkgjaaW.PrintWords Go.Proofs.YtajgillnkkkgjaaW.PrintLast Go.Proofs.YtajgillnkkkgjaaW.PrintMore
attribute [local go_sem] max2_int min2_int max_two min_two max_three min_three max_four min_four
set_option linter.unusedVariables false
set_option linter.unusedSimpArgs false
/-- A state of type 127 at block g of W; what its slices lead to came in by w0. -/
def IsS127 (w0 W : World) (g : Nat) (f0 : List Int) (f1 : List Int) : Prop := ∃ A0 c0, ∃ A1 c1, W.heap[g]? = some (.cells #[.slice A0 f0.length c0, .slice A1 f1.length c1] 127 (0, 0)) ∧ w0.heap.size ≤ g ∧ Kd.C (Kd.int .u8) w0 A0 f0.length f0 ∧ Kd.C (Kd.int .u8) w0 A1 f1.length f1
theorem IsS127.grown {w0 W : World} {g : Nat} {f0 : List Int} {f1 : List Int} {W1 : World} {row : Option Nat} (h : IsS127 w0 W g f0 f1) (hw : W.grownBy W1 row) (hne : some g ≠ row) : IsS127 w0 W1 g f0 f1 := by
  obtain ⟨A0, c0, A1, c1, hb, hg, hr0, hr1⟩ := h
  exact ⟨A0, c0, A1, c1, blk_grown hb hw hne, hg, hr0, hr1⟩
theorem IsS127.kept {w0 W : World} {g : Nat} {f0 : List Int} {f1 : List Int} {W1 : World} {S : Nat → Prop} (h : IsS127 w0 W g f0 f1) (hk : Kept W W1 S) (hne : ¬ S g) : IsS127 w0 W1 g f0 f1 := by
  obtain ⟨A0, c0, A1, c1, hb, hg, hr0, hr1⟩ := h
  exact ⟨A0, c0, A1, c1, blk_kept hb hk hne, hg, hr0, hr1⟩
theorem IsS127.below {w0 W : World} {g : Nat} {f0 : List Int} {f1 : List Int} {W1 : World} (h : IsS127 w0 W g f0 f1) (hw : Below W.heap.size W W1) : IsS127 w0 W1 g f0 f1 := h.grown (grown_of_below hw none) (by simp)
theorem IsS127.alloc {w0 W : World} {g : Nat} {f0 : List Int} {f1 : List Int} (h : IsS127 w0 W g f0 f1) (o : Obj) : IsS127 w0 (W.alloc o) g f0 f1 := h.below (below_alloc (Below.refl _ _) o)
theorem IsS127.drewN {w0 W : World} {g : Nat} {f0 : List Int} {f1 : List Int} (h : IsS127 w0 W g f0 f1) (m : Nat) : IsS127 w0 (W.drewN m) g f0 f1 := h
theorem IsS127.drew {w0 W : World} {g : Nat} {f0 : List Int} {f1 : List Int} (h : IsS127 w0 W g f0 f1) : IsS127 w0 W.drew g f0 f1 := h
/-! ### tape_New: function 24 -/
end Go.Proofs.Ytajgillnkkkgjaa.P
end
section
/- A tape: its two parts, and what each method does to them. -/
namespace Go.Proofs.Ytajgillnkkkgjaa.P
open Go.RowKit Go.Proofs.YtajgillnkkkgjaaW.PrintWords Go.Proofs.YtajgillnkkkgjaaW.PrintLast Go.Proofs.YtajgillnkkkgjaaW.PrintMore Go.Proofs.Ytajgillnkkkgjaa.H Go.Proofs.Ytajgillnkkkgjaa.Pure
set_option linter.unusedVariables false
set_option linter.unusedSimpArgs false
/-- What is none of a tape's own blocks. -/
def offT (g : Nat) (v1 v2 : Value) (k : Nat) : Prop := k ≠ g ∧ some k ≠ v1.ownBlock ∧ some k ≠ v2.ownBlock
/-- A tape at block g: the sure bytes s, and the loose ones q. -/
def Tp (B g : Nat) (v1 v2 : Value) (s q : List Int) (w : World) : Prop :=
  w.heap[g]? = some (.cells #[v1, v2] 127 (0, 0)) ∧ B ≤ g ∧ Kd.R (Kd.int .u8) 5 w B (fun k => k ≠ g ∧ some k ≠ v2.ownBlock) v1 s ∧ Kd.R (Kd.int .u8) 5 w B (fun k => k ≠ g ∧ some k ≠ v1.ownBlock) v2 q
theorem Tp.below {B g : Nat} {v1 v2 : Value} {s q : List Int} {w w' : World} (h : Tp B g v1 v2 s q w) (hb : Below w.heap.size w w') : Tp B g v1 v2 s q w' :=
  ⟨blk_keep h.1 hb, h.2.1, Kd.R_below h.2.2.1 hb, Kd.R_below h.2.2.2 hb⟩
/-- What a method leaves: another tape at the same block; what is apart stays apart and as it was. -/
def TpPost (B g : Nat) (v1 v2 : Value) (s q : List Int) (w w' : World) : Prop :=
  ∃ u1 u2, Tp B g u1 u2 s q w' ∧ Below B w w' ∧ w.heap.size ≤ w'.heap.size ∧ ∀ k, offT g v1 v2 k → k < w.heap.size → w'.heap[k]? = w.heap[k]? ∧ offT g u1 u2 k
/-- What was read apart stays read. -/
theorem TpPost.F {B g : Nat} {v1 v2 : Value} {s q : List Int} {w w' : World} (h : TpPost B g v1 v2 s q w w') : ∃ u1 u2, Tp B g u1 u2 s q w' ∧ Below B w w' ∧ w.heap.size ≤ w'.heap.size ∧ (∀ k, offT g v1 v2 k → k < w.heap.size → w'.heap[k]? = w.heap[k]? ∧ offT g u1 u2 k) ∧ ∀ (X : Nat → Prop) A n l, Kd.F (Kd.int .u8) w (fun k => offT g v1 v2 k ∧ X k) A n l → Kd.F (Kd.int .u8) w' (fun k => offT g u1 u2 k ∧ X k) A n l := by
  obtain ⟨u1, u2, h1, h2, h3, h4⟩ := h
  refine ⟨u1, u2, h1, h2, h3, h4, fun X A n l hF => ?_⟩
  exact Kd.F_mono (Kd.F_step (Kd.F_bound hF) (fun k hk hlt => (h4 k hk.1.1 hlt).1)) (fun k hk => ⟨(h4 k hk.1.1 hk.2).2, hk.1.2⟩)
theorem off_at' {w : World} {k : Nat} {v u : Value} (hk : some k ≠ v.ownBlock) (hlt : k < w.heap.size) (hat : u.ownBlock = v.ownBlock ∨ ∃ b, u.ownBlock = some b ∧ w.heap.size ≤ b) : some k ≠ u.ownBlock := by
  rcases hat with h | ⟨b, h, hb⟩
  · rw [h]; exact hk
  · rw [h]; intro e; injection e with e; omega
theorem own_fresh {v : Value} {xs : List Int} {w : World} {B : Nat} {ok : Nat → Prop} (h : Kd.R (Kd.int .u8) 5 w B ok v xs) (k : Nat) (hk : w.heap.size ≤ k) : some k ≠ v.ownBlock := fun e => by have := Kd.R_lt h k e.symm; omega
set_option maxHeartbeats 1000000 in
set_option maxRecDepth 100000 in
theorem put0 {B g : Nat} {v1 v2 : Value} {s q : List Int} {w : World} (hT : Tp B g v1 v2 s q w) (A : Option Addr) (c : Nat) (y : List Int) (hy : Kd.C (Kd.int .u8) w A y.length y) (hl : s.length + y.length ≤ 1000000) :
    Calls Try.prog 75 #[.pointer (some ⟨g, 0, none⟩), .slice A y.length c] w fun e w' => e = .returned (.tuple #[]) ∧ TpPost B g v1 v2 (s ++ y) q w w' := by
  obtain ⟨hg, hBg, hR1, hR2⟩ := hT
  obtain ⟨A1, c1, rfl, _, _⟩ := Kd.R_reads hR1
  have hgs := blk_lt hg
  have HG := Aside0.mk hg
  have HR1 := Aside0.mk hR1
  have HR2 := Aside0.mk hR2
  have HY := Aside0.mk hy
  have HL : Aside0 ((s.length + y.length) * 1 ≤ 140737488355328) := ⟨by omega⟩
  have HF : Aside0 (∀ k, w.heap.size ≤ k → (k ≠ g ∧ some k ≠ v2.ownBlock)) := ⟨fun k hk => ⟨by omega, own_fresh hR2 k hk⟩⟩
  have h0 : w.cell? ⟨g, 0, none⟩ = some (.slice A1 s.length c1) := blk_cell hg 0
  have hbs : B ≤ w.heap.size := by omega
  clear hg hR1 hR2 hy hl
  go_enter Try.func75, Try.ntmps75
  go_wp2_with ((at_builtin; refine Kd.R_append_rows (Kd.int .u8) (w0 := w) B rfl (.tmp 8) (.tmp 9) 51 5 (.int .u8 0) 1 rfl Try.underlying51 info5 rfl (by decide) (by omega) _ s y _ _ _ (fun k => k ≠ g ∧ some k ≠ v2.ownBlock) (fun _ => False) rfl rfl HR1.out HY.out (fun _ _ h => h) (fun _ h => h.elim) HF.out (Below.refl _ _) hbs HL.out ?_; intro u1 w1 hR hB hg hat; obtain ⟨A2, c2, rfl, _, _⟩ := Kd.R_reads hR; have hG1 := blk_grown HG.out hg (fun e => (HR1.out.1 g e.symm).1 rfl); have hz0 : w1.frozen? ⟨g, 0, none⟩ = false := blk_frozen hG1 0; have hc0 : w1.cell? ⟨g, 0, none⟩ = some (.slice A1 s.length c1) := blk_cell hG1 0; have HRN := Aside0.mk hR; have HBN := Aside0.mk hB; have HGN := Aside0.mk hg; have HAT := Aside0.mk hat; have HG1 := Aside0.mk hG1; clear hR hB hg hat hG1))
  go_end0
  have hRN := HRN.out
  have hAT := HAT.out
  rw [List.length_append] at hRN hAT
  refine ⟨rfl, .slice A2 (s.length + y.length) c2, v2, ⟨?_, hBg, ?_, ?_⟩, ?_, ?_, ?_⟩
  · exact blk_set HG1.out 0 _
  · exact Kd.R_far hRN (fun k hk => hk.1) _
  · have hR2' := Kd.R_after (v := .slice A1 s.length c1) (ok := fun k => k ≠ g) HR2.out HGN.out hAT
    exact Kd.R_far hR2' (fun k hk => hk.1) _
  · exact HBN.out.setCell hBg _
  · have := HBN.out.size; simpa using HGN.out.size
  · intro k hk hlt
    exact ⟨(Below.heap_setCell _ _ _ k hk.1).trans (HGN.out.block k hlt hk.2.1), hk.1, off_at' hk.2.1 hlt hAT, hk.2.2⟩
set_option maxHeartbeats 1000000 in
set_option maxRecDepth 100000 in
theorem put1 {B g : Nat} {v1 v2 : Value} {s q : List Int} {w : World} (hT : Tp B g v1 v2 s q w) (A : Option Addr) (c : Nat) (y : List Int) (hy : Kd.C (Kd.int .u8) w A y.length y) (hl : q.length + y.length ≤ 1000000) :
    Calls Try.prog 75 #[.pointer (some ⟨g, 1, none⟩), .slice A y.length c] w fun e w' => e = .returned (.tuple #[]) ∧ TpPost B g v1 v2 s (q ++ y) w w' := by
  obtain ⟨hg, hBg, hR1, hR2⟩ := hT
  obtain ⟨A1, c1, rfl, _, _⟩ := Kd.R_reads hR2
  have hgs := blk_lt hg
  have HG := Aside0.mk hg
  have HR1 := Aside0.mk hR1
  have HR2 := Aside0.mk hR2
  have HY := Aside0.mk hy
  have HL : Aside0 ((q.length + y.length) * 1 ≤ 140737488355328) := ⟨by omega⟩
  have HF : Aside0 (∀ k, w.heap.size ≤ k → (k ≠ g ∧ some k ≠ v1.ownBlock)) := ⟨fun k hk => ⟨by omega, own_fresh hR1 k hk⟩⟩
  have h0 : w.cell? ⟨g, 1, none⟩ = some (.slice A1 q.length c1) := blk_cell hg 1
  have hbs : B ≤ w.heap.size := by omega
  clear hg hR1 hR2 hy hl
  go_enter Try.func75, Try.ntmps75
  go_wp2_with ((at_builtin; refine Kd.R_append_rows (Kd.int .u8) (w0 := w) B rfl (.tmp 8) (.tmp 9) 51 5 (.int .u8 0) 1 rfl Try.underlying51 info5 rfl (by decide) (by omega) _ q y _ _ _ (fun k => k ≠ g ∧ some k ≠ v1.ownBlock) (fun _ => False) rfl rfl HR2.out HY.out (fun _ _ h => h) (fun _ h => h.elim) HF.out (Below.refl _ _) hbs HL.out ?_; intro u1 w1 hR hB hg hat; obtain ⟨A2, c2, rfl, _, _⟩ := Kd.R_reads hR; have hG1 := blk_grown HG.out hg (fun e => (HR2.out.1 g e.symm).1 rfl); have hz0 : w1.frozen? ⟨g, 1, none⟩ = false := blk_frozen hG1 1; have hc0 : w1.cell? ⟨g, 1, none⟩ = some (.slice A1 q.length c1) := blk_cell hG1 1; have HRN := Aside0.mk hR; have HBN := Aside0.mk hB; have HGN := Aside0.mk hg; have HAT := Aside0.mk hat; have HG1 := Aside0.mk hG1; clear hR hB hg hat hG1))
  go_end0
  have hRN := HRN.out
  have hAT := HAT.out
  rw [List.length_append] at hRN hAT
  refine ⟨rfl, v1, .slice A2 (q.length + y.length) c2, ⟨?_, hBg, ?_, ?_⟩, ?_, ?_, ?_⟩
  · exact blk_set HG1.out 1 _
  · have hR1' := Kd.R_after (v := .slice A1 q.length c1) (ok := fun k => k ≠ g) HR1.out HGN.out hAT
    exact Kd.R_far hR1' (fun k hk => hk.1) _
  · exact Kd.R_far hRN (fun k hk => hk.1) _
  · exact HBN.out.setCell hBg _
  · have := HBN.out.size; simpa using HGN.out.size
  · intro k hk hlt
    exact ⟨(Below.heap_setCell _ _ _ k hk.1).trans (HGN.out.block k hlt hk.2.2), hk.1, hk.2.1, off_at' hk.2.2 hlt hAT⟩
end Go.Proofs.Ytajgillnkkkgjaa.P
end
section
/- A tape's methods. -/
namespace Go.Proofs.Ytajgillnkkkgjaa.P
open Go.RowKit Go.Proofs.YtajgillnkkkgjaaW.PrintWords Go.Proofs.YtajgillnkkkgjaaW.PrintLast Go.Proofs.YtajgillnkkkgjaaW.PrintMore Go.Proofs.Ytajgillnkkkgjaa.H Go.Proofs.Ytajgillnkkkgjaa.Pure
set_option linter.unusedVariables false
set_option linter.unusedSimpArgs false
theorem C_rows' {w : World} {g : Nat} (xs : List (Option Addr × Nat × List Int)) (hl : xs.length ≤ 1000) (h : ∀ x ∈ xs, x.2.2.length ≤ x.2.1 ∧ Kd.C (Kd.int .u8) w x.1 x.2.2.length x.2.2) (cs : Array Value) (hcs : cs = (xs.map fun x => Value.slice x.1 x.2.2.length x.2.1).toArray) (hn : w.heap[g]? = some (.cells cs 51 (0, 0))) :
    (Kd.slice 5 (Kd.int .u8)).C w (some ⟨g, 0, none⟩) (xs.map (·.2.2)).length (xs.map (·.2.2)) := by
  subst hcs
  refine ⟨rfl, by simp; omega, fun _ => ⟨_, rfl, fun j p hp => ?_⟩⟩
  rw [List.getElem?_map] at hp
  obtain ⟨x, hx, rfl⟩ := Option.map_eq_some_iff.1 hp
  obtain ⟨h1, h2⟩ := h x (List.mem_of_getElem? hx)
  refine ⟨[.slice x.1 x.2.2.length x.2.1], rfl, ⟨x.1, x.2.1, rfl, h1, h2⟩, fun i u hu => ?_⟩
  cases i with
  | zero =>
    simp only [List.getElem?_cons_zero, Option.some.injEq] at hu
    subst hu
    rw [add_plain', blk_cell hn]
    simp [Kd.slice, hx]
  | succ i => simp at hu
/-- A part's size. -/
theorem size74 (g o : Nat) (A : Option Addr) (n c : Nat) (w : World) (h : w.cell? ⟨g, o, none⟩ = some (.slice A n c)) : Calls Try.prog 74 #[.pointer (some ⟨g, o, none⟩)] w fun e w' => e = .returned (.int .i64 n) ∧ w = w' := by
  go_enter Try.func74, Try.ntmps74
  go_wp2
  go_ret
  exact ⟨rfl, rfl⟩
theorem sure_rd {B g : Nat} {v1 v2 : Value} {s q : List Int} {w : World} (hT : Tp B g v1 v2 s q w) : Calls Try.prog 29 #[.pointer (some ⟨g, 0, none⟩)] w fun e w' => e = .returned (.int .i64 s.length) ∧ w = w' := by
  obtain ⟨hg, hBg, hR1, hR2⟩ := hT
  obtain ⟨A1, c1, rfl, _, _⟩ := Kd.R_reads hR1
  have h0 : w.cell? ⟨g, 0, none⟩ = some (.slice A1 s.length c1) := blk_cell hg 0
  have H := Aside0.mk (size74 g 0 A1 s.length c1 w h0)
  clear hg hR1 hR2
  go_enter Try.func29, Try.ntmps29
  go_wp2_with (go_at_call 74; (with_reducible refine H.out.mono ?_); rintro e w' ⟨rfl, rfl⟩)
  go_ret
  exact ⟨rfl, rfl⟩
theorem sure_none (w : World) : Calls Try.prog 29 #[.pointer none] w fun e w' => e = .returned (.int .i64 0) ∧ w = w' := by
  go_enter Try.func29, Try.ntmps29
  go_wp2
  go_ret
  exact ⟨rfl, rfl⟩
theorem write_rd' {B g : Nat} {v1 v2 : Value} {s q : List Int} {w : World} (hT : Tp B g v1 v2 s q w) (A : Option Addr) (c : Nat) (y : List Int) (hy : Kd.C (Kd.int .u8) w A y.length y) (hl : q.length + y.length ≤ 1000000) :
    Calls Try.prog 31 #[.pointer (some ⟨g, 0, none⟩), .slice A y.length c] w fun e w' => e = .returned (.tuple #[]) ∧ TpPost B g v1 v2 s (q ++ y) w w' := by
  have H := Aside0.mk (put1 hT A c y hy hl)
  clear hT hy
  go_enter Try.func31, Try.ntmps31
  go_wp2_with (go_at_call 75; (with_reducible refine H.out.mono ?_); rintro e w' ⟨rfl, hP⟩; have HP := Aside0.mk hP; clear hP)
  go_end0
  exact ⟨rfl, HP.out⟩
theorem write_none (w : World) (v : Value) : Calls Try.prog 31 #[.pointer none, v] w fun e w' => e = .returned (.tuple #[]) ∧ w = w' := by
  go_enter Try.func31, Try.ntmps31
  go_wp2
  go_end0
  exact ⟨rfl, rfl⟩
abbrev BytS (w0 : World) (g : Nat) (A1 A2 : Option Addr) (c1 c2 : Nat) (s q : List Int) (w' : World) : Prop := Aside0 (Kd.C (Kd.int .u8) w' A1 s.length s) ∧ Aside0 (Kd.C (Kd.int .u8) w' A2 q.length q) ∧ Aside0 (Below w0.heap.size w0 w') ∧ w'.cell? ⟨g, 0, none⟩ = some (.slice A1 s.length c1) ∧ w'.cell? ⟨g, 1, none⟩ = some (.slice A2 q.length c2)
theorem BytS.keep {w0 : World} {g : Nat} {A1 A2 : Option Addr} {c1 c2 : Nat} {s q : List Int} {w1 w2 : World} (h : BytS w0 g A1 A2 c1 c2 s q w1) (hb : Below w1.heap.size w1 w2) : BytS w0 g A1 A2 c1 c2 s q w2 :=
  ⟨⟨Kd.C_below h.1.out hb⟩, ⟨Kd.C_below h.2.1.out hb⟩, ⟨below_step h.2.2.1.out hb⟩, pw_cell_below hb h.2.2.2.1, pw_cell_below hb h.2.2.2.2⟩
theorem BytS.al {w0 : World} {g : Nat} {A1 A2 : Option Addr} {c1 c2 : Nat} {s q : List Int} {w1 : World} (h : BytS w0 g A1 A2 c1 c2 s q w1) (o : Obj) : BytS w0 g A1 A2 c1 c2 s q (w1.alloc o) := h.keep (below_alloc (Below.refl _ _) _)
theorem bytes_arm {w0 : World} {g b : Nat} {A1 A2 : Option Addr} {c1 c2 : Nat} {s q : List Int} {W : World} (hS : BytS w0 g A1 A2 c1 c2 s q W) (h1 : s.length ≤ c1) (h2 : q.length ≤ c2) {r : List Int} (hr : s ++ q = r) (hl : r.length ≤ 140737488355328)
    (hn : W.heap[b]? = some (.cells #[.slice A1 s.length c1, .slice A2 q.length c2] 51 (0, 0))) : Calls Try.prog 73 #[.slice (some ⟨b, 0, none⟩) 2 2] W (RdPost r W) := by
  have hC := C_rows' [(A1, c1, s), (A2, c2, q)] (by simp) (by
    intro x hx
    simp only [List.mem_cons, List.not_mem_nil, or_false] at hx
    rcases hx with rfl | rfl
    · exact ⟨h1, hS.1.out⟩
    · exact ⟨h2, hS.2.1.out⟩) _ rfl hn
  exact concat_rd _ _ 2 [s, q] r _ rfl (by simpa using hr) hC hl
set_option maxHeartbeats 1000000 in
set_option maxRecDepth 100000 in
theorem bytes_rd {B g : Nat} {v1 v2 : Value} {s q : List Int} {w : World} (hT : Tp B g v1 v2 s q w) (hl : s.length + q.length ≤ 1000000) :
    Calls Try.prog 27 #[.pointer (some ⟨g, 0, none⟩)] w (RdPost (s ++ q) w) := by
  obtain ⟨hg, hBg, hR1, hR2⟩ := hT
  obtain ⟨A1, c1, rfl, hc1, hC1⟩ := Kd.R_reads hR1
  obtain ⟨A2, c2, rfl, hc2, hC2⟩ := Kd.R_reads hR2
  have hS : BytS w g A1 A2 c1 c2 s q w := ⟨⟨hC1⟩, ⟨hC2⟩, ⟨Below.refl _ _⟩, blk_cell hg 0, blk_cell hg 1⟩
  have HL : Aside0 ((s ++ q).length ≤ 140737488355328) := ⟨by rw [List.length_append]; omega⟩
  have HC1 := Aside0.mk hc1; have HC2 := Aside0.mk hc2
  obtain ⟨r, hr⟩ : ∃ r, s ++ q = r := ⟨_, rfl⟩
  rw [hr] at HL ⊢
  have HF := Aside0.mk hr
  clear hg hR1 hR2 hC1 hC2 hc1 hc2 hr hl
  go_enter Try.func27, Try.ntmps27
  go_wp2
  go_region_held3 (BytS w g A1 A2 c1 c2 s q) (first | exact BytS.keep (by assumption) hb | exact BytS.keep hS (below_dN _ 1) | exact BytS.al (by assumption) _)
    (first | (go_at_call 73; refine (bytes_arm (by assumption) HC1.out HC2.out HF.out HL.out (blk_drew (blk_new _ _))).mono ?_; rintro e w4 ⟨Az, cz, rfl, hcz, hC, hb⟩))
  all_goals go_wp2
  all_goals go_ret
  exact ⟨Az, cz, rfl, hcz, hC, (show BytS w g A1 A2 c1 c2 s q _ by assumption).2.2.1.out⟩
theorem bytes_none (w : World) : Calls Try.prog 27 #[.pointer none] w (RdPost [] w) := by
  go_enter Try.func27, Try.ntmps27
  go_wp2
  go_ret
  exact ⟨none, 0, rfl, Nat.le_refl _, nilC _, Below.refl _ _⟩
theorem len_rd {B g : Nat} {v1 v2 : Value} {s q : List Int} {w : World} (hT : Tp B g v1 v2 s q w) (hl : s.length + q.length ≤ 1000000) :
    Calls Try.prog 28 #[.pointer (some ⟨g, 0, none⟩)] w fun e w' => e = .returned (.int .i64 ((s.length + q.length : Nat) : Int)) ∧ Below w.heap.size w w' := by
  have H := Aside0.mk (bytes_rd hT hl)
  have e : (s ++ q).length = s.length + q.length := List.length_append
  obtain ⟨r, hr⟩ : ∃ r, s ++ q = r := ⟨_, rfl⟩
  rw [hr] at H e
  have HE := Aside0.mk e
  clear e hT
  go_enter Try.func28, Try.ntmps28
  go_wp2_with (go_at_call 27; (with_reducible refine H.out.mono ?_); rintro e w' ⟨A, c, rfl, hc, hC, hB⟩; have HB := Aside0.mk hB; clear hc hC hB)
  go_ret
  exact ⟨by rw [← HE.out]; rfl, HB.out⟩
theorem len_none (w : World) : Calls Try.prog 28 #[.pointer none] w fun e w' => e = .returned (.int .i64 0) ∧ Below w.heap.size w w' := by
  go_enter Try.func28, Try.ntmps28
  go_wp2_with (go_at_call 27; (with_reducible refine (bytes_none _).mono ?_); rintro e w' ⟨A, c, rfl, hc, hC, hB⟩; have HB := Aside0.mk hB; clear hc hC hB)
  go_ret
  exact ⟨rfl, HB.out⟩
theorem Tp.drew {B g : Nat} {v1 v2 : Value} {s q : List Int} {w : World} (h : Tp B g v1 v2 s q w) : Tp B g v1 v2 s q w.drew := h.below (below_dN w 1)
theorem TpPost.of_drew {B g : Nat} {v1 v2 : Value} {s q : List Int} {w w' : World} (h : TpPost B g v1 v2 s q w.drew w') : TpPost B g v1 v2 s q w w' := by
  obtain ⟨u1, u2, h1, h2, h3, h4⟩ := h
  refine ⟨u1, u2, h1, ?_, h3, h4⟩
  exact ⟨h2.os, h2.tape, h2.output, h2.size, h2.block⟩
/-- The loose part thrown away. -/
theorem TpPost.cut {B g : Nat} {v1 v2 : Value} {s q : List Int} {w w' : World} (h : TpPost B g v1 v2 s q w w') : TpPost B g v1 v2 s [] w (w'.setCell ⟨g, 1, none⟩ (.slice none 0 0)) := by
  obtain ⟨u1, u2, ⟨t1, t2, t3, t4⟩, h2, h3, h4⟩ := h
  refine ⟨u1, .slice none 0 0, ⟨?_, t2, ?_, Kd.R_nil _ _ _ _ _⟩, h2.setCell t2 _, by simpa using h3, fun k hk hlt => ?_⟩
  · exact blk_set t1 1 _
  · exact Kd.R_mono (Kd.R_far t3 (fun k hk => hk.1) _) (fun k hk => ⟨hk.1, by simp [Value.ownBlock]⟩)
  · exact ⟨(Below.heap_setCell _ _ _ k hk.1).trans (h4 k hk hlt).1, hk.1, (h4 k hk hlt).2.2.1, by simp [Value.ownBlock]⟩
def clipK (k : Int) (n : Nat) : Nat := (max (min k n) 0).toNat
section
attribute [local go_sem] max2_int min2_int max_two min_two
set_option maxHeartbeats 1000000 in
set_option maxRecDepth 100000 in
theorem crash_rd {B g : Nat} {v1 v2 : Value} {s q : List Int} {w : World} (hT : Tp B g v1 v2 s q w) (k : Int) (hl : s.length + q.length ≤ 1000000) :
    Calls Try.prog 30 #[.pointer (some ⟨g, 0, none⟩), .int .i64 k] w fun e w' => e = .returned (.tuple #[]) ∧ TpPost B g v1 v2 (s ++ q.take (clipK k q.length)) [] w w' := by
  have hT2 := hT
  obtain ⟨hg, hBg, hR1, hR2⟩ := hT
  obtain ⟨A1, c1, rfl, hc1, hC1⟩ := Kd.R_reads hR1
  obtain ⟨A2, c2, rfl, hc2, hC2⟩ := Kd.R_reads hR2
  have h0 : w.cell? ⟨g, 0, none⟩ = some (.slice A1 s.length c1) := blk_cell hg 0
  have h1 : w.cell? ⟨g, 1, none⟩ = some (.slice A2 q.length c2) := blk_cell hg 1
  obtain ⟨i5, hi5, _⟩ := info_parts info5
  have hk1 : clipK k q.length ≤ q.length := by unfold clipK; omega
  obtain ⟨x, hx⟩ : ∃ x, (if (q.length : Int) < k then (q.length : Int) else k) = x := ⟨_, rfl⟩
  have hkk : (if x < 0 then 0 else x) = (clipK k q.length : Int) := by rw [← hx]; unfold clipK; omega
  have cs := cut_to 51 5 .i64 Try.underlying51 hi5 A2 q.length c2 (clipK k q.length) (by omega) (by omega) hc2
  rw [Int.toNat_natCast] at cs
  have hk2 : (q.take (clipK k q.length)).length = clipK k q.length := by rw [List.length_take]; omega
  have hP := put0 hT2.drew A2 c2 (q.take (clipK k q.length)) (Kd.C_drew (Kd.C_take hC2 hk1)) (by rw [hk2]; omega)
  rw [hk2] at hP
  have HP := Aside0.mk hP
  generalize clipK k q.length = m at hkk cs HP
  clear hg hR1 hR2 hC1 hC2 hc1 hc2 hi5 hP hT2 hk1 hk2 hl
  have HS := Aside0.mk (size74 g 1 A2 q.length c2 w h1)
  go_enter Try.func30, Try.ntmps30
  go_wp2
  go_region_with (first | (go_at_call 74; refine (size74 g 1 A2 q.length c2 _ (by go_simp)).mono ?_; rintro e w' ⟨rfl, rfl⟩) | (go_at_call 75; refine HP.out.mono ?_; rintro e w' ⟨rfl, hP⟩))
  all_goals
    have HPP := Aside0.mk hP.of_drew.cut
    obtain ⟨u1, u2, ⟨t1, _⟩, _⟩ := hP
    have e1 : _ = some u2 := blk_cell t1 1
    have f1 := blk_frozen t1 1
    clear t1
    go_wp2
    go_end0
    exact ⟨rfl, HPP.out⟩
end
end Go.Proofs.Ytajgillnkkkgjaa.P
end
section
/- A tape's Sync and Cut. -/
namespace Go.Proofs.Ytajgillnkkkgjaa.P
open Go.RowKit Go.Proofs.YtajgillnkkkgjaaW.PrintWords Go.Proofs.YtajgillnkkkgjaaW.PrintLast Go.Proofs.YtajgillnkkkgjaaW.PrintMore Go.Proofs.Ytajgillnkkkgjaa.H Go.Proofs.Ytajgillnkkkgjaa.Pure
set_option linter.unusedVariables false
set_option linter.unusedSimpArgs false
theorem crash_none (w : World) (k : Int) : Calls Try.prog 30 #[.pointer none, .int .i64 k] w fun e w' => e = .returned (.tuple #[]) ∧ w = w' := by
  go_enter Try.func30, Try.ntmps30
  go_wp2
  exact bodyPost_ret (v := .tuple #[]) (by simp [results, Try.results30, go_sem]) rfl ⟨rfl, rfl⟩
theorem TpPost.before {B g : Nat} {v1 v2 : Value} {s q : List Int} {w w1 w' : World} (hb : Below w.heap.size w w1) (hB : B ≤ w.heap.size) (h : TpPost B g v1 v2 s q w1 w') : TpPost B g v1 v2 s q w w' := by
  obtain ⟨u1, u2, h1, h2, h3, h4⟩ := h
  refine ⟨u1, u2, h1, (hb.mono hB).trans h2, Nat.le_trans hb.size h3, fun k hk hlt => ⟨(h4 k hk (Nat.lt_of_lt_of_le hlt hb.size)).1.trans (hb.block k hlt), (h4 k hk (Nat.lt_of_lt_of_le hlt hb.size)).2⟩⟩
theorem sync_rd {B g : Nat} {v1 v2 : Value} {s q : List Int} {w : World} (hT : Tp B g v1 v2 s q w) (hl : s.length + q.length ≤ 1000000) :
    Calls Try.prog 32 #[.pointer (some ⟨g, 0, none⟩)] w fun e w' => e = .returned (.tuple #[]) ∧ TpPost B g v1 v2 (s ++ q) [] w w' := by
  have hB : B ≤ w.heap.size := Nat.le_trans hT.2.1 (Nat.le_of_lt (blk_lt hT.1))
  have H := Aside0.mk (len_rd hT hl)
  have HT := Aside0.mk hT
  have hk : clipK ((s.length + q.length : Nat) : Int) q.length = q.length := by unfold clipK; omega
  have HK : Aside0 (q.take (clipK ((s.length + q.length : Nat) : Int) q.length) = q) := ⟨by rw [hk, List.take_length]⟩
  obtain ⟨n, hn⟩ : ∃ n, s.length + q.length = n := ⟨_, rfl⟩
  rw [hn] at H HK
  clear hT hk hn
  go_enter Try.func32, Try.ntmps32
  go_wp2_with (first
    | (go_at_call 28; (with_reducible refine H.out.mono ?_); rintro e w1 ⟨rfl, hb⟩; have HB := Aside0.mk hb; clear hb)
    | (go_at_call 30; (with_reducible refine (crash_rd (HT.out.below HB.out) n hl).mono ?_); rintro e w2 ⟨rfl, hP⟩; rw [HK.out] at hP; have HP := Aside0.mk (TpPost.before HB.out hB hP); clear hP))
  go_end0
  exact ⟨rfl, HP.out⟩
theorem sync_none (w : World) : Calls Try.prog 32 #[.pointer none] w fun e w' => e = .returned (.tuple #[]) ∧ Below w.heap.size w w' := by
  go_enter Try.func32, Try.ntmps32
  go_wp2_with (first
    | (go_at_call 28; (with_reducible refine (len_none _).mono ?_); rintro e w1 ⟨rfl, hb⟩; have HB := Aside0.mk hb; clear hb)
    | (go_at_call 30; (with_reducible refine (crash_none _ _).mono ?_); rintro e w2 ⟨rfl, rfl⟩))
  go_end0
  exact ⟨rfl, HB.out⟩
set_option maxHeartbeats 1000000 in
set_option maxRecDepth 100000 in
theorem clone_rd (a : Addr) (c : Nat) (l : List Int) (w : World) (h0 : Kd.C (Kd.int .u8) w (some a) l.length l) (hl : l.length ≤ 1000000) :
    Calls Try.prog 76 #[.slice (some a) l.length c] w (OwPost l w) := by
  have H0 := Aside0.mk h0; clear h0
  have HL : Aside0 ((([] : List Int).length + l.length) * 1 ≤ 140737488355328) := ⟨by simp; omega⟩
  have hnil := fun (W : World) => Lib.run_eql_slice_nil (P := Try.prog) W 51 5 (some a) l.length c 0 0 Try.underlying51
  go_enter Try.func76, Try.ntmps76
  go_wp2_with ((at_builtin; refine Kd.R_append_rows (Kd.int .u8) (w0 := w) w.heap.size rfl (.tmp 5) (.tmp 6) 51 5 (.int .u8 0) 1 rfl Try.underlying51 info5 rfl (by decide) (by omega) _ [] l _ _ _ (fun _ => True) (fun _ => False) rfl rfl (R_lit0 w _ (Nat.le_refl _)) (Kd.C_alloc H0.out _) (fun _ _ h => h) (fun _ h => h.elim) (fun _ _ => trivial) (below_alloc (Below.refl _ _) _) (below_size (below_alloc (Below.refl _ _) _)) HL.out ?_; intro v2 w2 hR hB hg hat; rw [List.nil_append] at hR; have HR2 := Aside0.mk hR; have HB2 := Aside0.mk hB; clear hR hB hg hat))
  go_ret
  exact ⟨_, rfl, HR2.out, HB2.out⟩
/-- Bytes taken away from the front. -/
theorem TpPost.front {B g : Nat} {v1 v2 u : Value} {s q r : List Int} {w w1 : World} (h : Tp B g v1 v2 s q w) (hb : Below w.heap.size w w1) (hu : Kd.R (Kd.int .u8) 5 w1 w.heap.size (fun _ => True) u r) : TpPost B g v1 v2 r q w (w1.setCell ⟨g, 0, none⟩ u) := by
  obtain ⟨t1, t2, t3, t4⟩ := h
  have hg := blk_lt t1
  have hB : B ≤ w.heap.size := by omega
  refine ⟨u, v2, ⟨?_, t2, ?_, ?_⟩, (hb.mono hB).setCell t2 _, by simpa using hb.size, fun k hk hlt => ?_⟩
  · exact blk_set (blk_keep t1 hb) 0 _
  · have h1 := Kd.R_lower (Kd.R_bound hu) hB
    refine Kd.R_far (Kd.R_mono h1 (fun k hk => ⟨?_, fun e => ?_⟩)) (fun k hk => hk.1) _
    · have := hk.2.1; omega
    · have h2 := Kd.R_lt t4 k e.symm
      have := hk.2.1
      omega
  · have h1 := Kd.R_bound (Kd.R_below t4 hb)
    have h5 := Kd.R_bound t4
    refine Kd.R_far (Kd.R_mono (Kd.R_below h5 hb) (fun k hk => ⟨hk.1.1, fun e => ?_⟩)) (fun k hk => hk.1) _
    have h2 := Kd.R_base hu k e.symm
    have := hk.2.2.1
    omega
  · refine ⟨(Below.heap_setCell _ _ _ k hk.1).trans (hb.block k hlt), hk.1, fun e => ?_, hk.2.2⟩
    have h2 := Kd.R_base hu k e.symm
    omega
def CutPost (B g : Nat) (v1 v2 : Value) (s q : List Int) (y : Int) (w : World) (e : Ending) (w' : World) : Prop := e = .returned (.int .i64 y) ∧ TpPost B g v1 v2 s q w w'
theorem TpPost.same {B g : Nat} {v1 v2 : Value} {s q : List Int} {w w' : World} (h : Tp B g v1 v2 s q w) (hb : Below w.heap.size w w') : TpPost B g v1 v2 s q w w' :=
  ⟨v1, v2, h.below hb, hb.mono (Nat.le_trans h.2.1 (Nat.le_of_lt (blk_lt h.1))), hb.size, fun k hk hlt => ⟨hb.block k hlt, hk⟩⟩
/-- What Cut leaves, and answers. -/
def cutS (s : List Int) (n : Int) : List Int × Int := if n < 0 then (s, 1) else if (s.length : Int) < n then (s, 12) else (s.drop n.toNat, 0)
set_option maxHeartbeats 1000000 in
set_option maxRecDepth 100000 in
theorem cut_rd {B g : Nat} {v1 v2 : Value} {s q : List Int} {w : World} (hT : Tp B g v1 v2 s q w) (n : Int) (hl : s.length + q.length ≤ 1000000) :
    Calls Try.prog 33 #[.pointer (some ⟨g, 0, none⟩), .int .i64 n] w (CutPost B g v1 v2 (cutS s n).1 q (cutS s n).2 w) := by
  have HS := Aside0.mk (TpPost.same hT (Below.refl _ _))
  have H29 := Aside0.mk (sure_rd hT)
  unfold cutS
  by_cases h0 : n < 0
  · have t0 : decide (n < 0) = true := by simpa using h0
    rw [if_pos h0]
    clear hT h0
    go_enter Try.func33, Try.ntmps33
    go_wp2
    go_ret
    exact ⟨rfl, HS.out⟩
  have t0 : decide (n < 0) = false := by simpa using h0
  rw [if_neg h0]
  by_cases h1 : (s.length : Int) < n
  · have t1 : decide ((s.length : Int) < n) = true := by simpa using h1
    rw [if_pos h1]
    clear hT h0 h1
    go_enter Try.func33, Try.ntmps33
    go_wp2_with (go_at_call 29; (with_reducible refine H29.out.mono ?_); rintro e w1 ⟨rfl, rfl⟩)
    go_ret
    exact ⟨rfl, HS.out⟩
  have t1 : decide ((s.length : Int) < n) = false := by simpa using h1
  rw [if_neg h1]
  by_cases h2 : 0 < n
  · have t2 : decide (0 < n) = true := by simpa using h2
    have hT2 := hT
    obtain ⟨hg, hBg, hR1, hR2⟩ := hT
    obtain ⟨A1, c1, rfl, hc1, hC1⟩ := Kd.R_reads hR1
    have hc0 : w.cell? ⟨g, 0, none⟩ = some (.slice A1 s.length c1) := blk_cell hg 0
    obtain ⟨a, rfl⟩ : ∃ a, A1 = some a := by
      obtain ⟨ad, e, _⟩ := hC1.2.2 (by omega)
      exact ⟨ad, e⟩
    obtain ⟨m, rfl⟩ := Int.eq_ofNat_of_zero_le (show 0 ≤ n by omega)
    rw [Int.toNat_natCast]
    have t1n : decide (s.length < m) = false := by simp; omega
    have t2n : decide (0 < m) = true := by simp; omega
    obtain ⟨i5, hi5, _, hsz5, _⟩ := info_parts info5
    obtain ⟨a', cf, hC⟩ : ∃ a' : Addr, (∀ W : World, (Instr.slice 51 (.slice (some a) s.length c1) (some (.int .i64 m)) none none).run Try.prog W = .ok (.slice (some a') (s.length - m) (c1 - m)) W) ∧ Kd.C (Kd.int .u8) w (some a') (s.drop m).length (s.drop m) := by
      have e1 := cut_from 51 5 .i64 Try.underlying51 hi5 1 hsz5 (some a) s.length c1 m (by omega) (by omega)
      have e2 := Kd.C_drop hC1 (m := m) (by omega) hc1
      by_cases hcm : c1 = m
      · rw [Int.toNat_natCast, if_pos hcm] at e1
        rw [if_pos hcm] at e2
        exact ⟨a, e1, e2⟩
      · rw [Int.toNat_natCast, if_neg hcm] at e1
        rw [if_neg hcm] at e2
        exact ⟨_, e1, e2⟩
    have hlen : (s.drop m).length = s.length - m := List.length_drop
    have HCL := clone_rd a' (c1 - m) (s.drop m) w hC (by omega)
    rw [hlen] at HCL
    have HCL := Aside0.mk HCL
    have HG := Aside0.mk hg
    have HT := Aside0.mk hT2
    clear hg hR1 hR2 hC1 hC hT2 hi5 hsz5 hlen hc1 h0 h1 h2
    go_enter Try.func33, Try.ntmps33
    go_wp2_with (first
      | (go_at_call 29; (with_reducible refine H29.out.mono ?_); rintro e w1 ⟨rfl, rfl⟩)
      | (go_at_call 76; (with_reducible refine HCL.out.mono ?_); rintro e w1 ⟨u, rfl, hR, hb⟩; obtain ⟨Au, cu, rfl, _, _⟩ := Kd.R_reads hR; have hG1 := blk_keep HG.out hb; have hz0 : w1.frozen? ⟨g, 0, none⟩ = false := blk_frozen hG1 0; have hcc0 : w1.cell? ⟨g, 0, none⟩ = some (.slice (some a) s.length c1) := blk_cell hG1 0; have HP := Aside0.mk (TpPost.front HT.out hb hR); rw [List.length_drop] at HP; clear hR hb hG1))
    go_ret
    exact ⟨rfl, HP.out⟩
  · have t2 : decide (0 < n) = false := by simpa using h2
    obtain rfl : n = 0 := by omega
    rw [show (0 : Int).toNat = 0 from rfl, List.drop_zero]
    clear hT h0 h1 h2
    go_enter Try.func33, Try.ntmps33
    go_wp2_with (go_at_call 29; (with_reducible refine H29.out.mono ?_); rintro e w1 ⟨rfl, rfl⟩)
    go_ret
    exact ⟨rfl, HS.out⟩
theorem cut_none (w : World) (n : Int) : Calls Try.prog 33 #[.pointer none, .int .i64 n] w fun e w' => e = .returned (.int .i64 (if n < 0 then 1 else if 0 < n then 12 else 0)) ∧ w = w' := by
  by_cases h0 : n < 0
  · have t0 : decide (n < 0) = true := by simpa using h0
    rw [if_pos h0]
    clear h0
    go_enter Try.func33, Try.ntmps33
    go_wp2
    go_ret
    exact ⟨rfl, rfl⟩
  have t0 : decide (n < 0) = false := by simpa using h0
  rw [if_neg h0]
  by_cases h1 : 0 < n
  · have t1 : decide (0 < n) = true := by simpa using h1
    rw [if_pos h1]
    clear h0 h1
    go_enter Try.func33, Try.ntmps33
    go_wp2_with (go_at_call 29; (with_reducible refine (sure_none _).mono ?_); rintro e w1 ⟨rfl, rfl⟩)
    go_ret
    exact ⟨rfl, rfl⟩
  · have t1 : decide (0 < n) = false := by simpa using h1
    rw [if_neg h1]
    clear h0 h1
    go_enter Try.func33, Try.ntmps33
    go_wp2_with (go_at_call 29; (with_reducible refine (sure_none _).mono ?_); rintro e w1 ⟨rfl, rfl⟩)
    go_ret
    exact ⟨rfl, rfl⟩
end Go.Proofs.Ytajgillnkkkgjaa.P
end
section
/- The document's Do. -/
namespace Go.Proofs.Ytajgillnkkkgjaa.P
open Go.RowKit Go.Proofs.YtajgillnkkkgjaaW.PrintWords Go.Proofs.YtajgillnkkkgjaaW.PrintLast Go.Proofs.YtajgillnkkkgjaaW.PrintMore Go.Proofs.Ytajgillnkkkgjaa.H Go.Proofs.Ytajgillnkkkgjaa.Pure
set_option linter.unusedVariables false
set_option linter.unusedSimpArgs false
theorem blk3 (w : World) (a b c : Obj) : (((w.alloc a).alloc b).alloc c).heap[w.heap.size + 1 + 1]? = some c := by
  have h := blk_new ((w.alloc a).alloc b) c
  rw [alloc_size, alloc_size] at h
  exact h
def DoPost (P : Nat → Prop) (r : List Int) (m : Nat) (y : Int) (w : World) (e : Ending) (w' : World) : Prop :=
  ∃ A c, e = .returned (.tuple #[.agg #[.slice A r.length c, .int .i64 m], .int .i64 y]) ∧ r.length ≤ c ∧ Kd.F (Kd.int .u8) w' (fun k => P k ∨ w.heap.size ≤ k) A r.length r ∧ Below w.heap.size w w'
/-- Of a row of the call's own: what it reads, in blocks of its own. -/
theorem F_own {w : World} {b0 : Nat} {ok P : Nat → Prop} {A : Option Addr} {n c : Nat} {xs : List Int} (h : Kd.R (Kd.int .u8) 5 w b0 ok (.slice A n c) xs) (hb : ∀ k, b0 ≤ k → P k) : n = xs.length ∧ xs.length ≤ c ∧ Kd.F (Kd.int .u8) w P A xs.length xs := by
  have hV := Kd.R_V (base' := b0) (Kd.R_bound h)
  obtain ⟨h1, h2, h3⟩ := Kd.V_at hV
  exact ⟨h1, by omega, Kd.F_mono h3 (fun k hk => hb k hk.2.1)⟩
theorem size3 (w : World) (a b c : Obj) : (((w.alloc a).alloc b).alloc c).heap.size = w.heap.size + 1 + 1 + 1 := by rw [alloc_size, alloc_size, alloc_size]
/-- Blocks below the boxes' end stay. -/
theorem keep3 {w w1 : World} {a b c : Obj} (h : Below (w.heap.size + 1 + 1 + 1) (((w.alloc a).alloc b).alloc c) w1) {g : Nat} {o : Obj} (hg : (((w.alloc a).alloc b).alloc c).heap[g]? = some o) : w1.heap[g]? = some o := (h.block g (by have := lt_blk hg; rwa [size3] at this)).trans hg
theorem blkA (w : World) (a b c : Obj) : (((w.alloc a).alloc b).alloc c).heap[w.heap.size]? = some a := blk_alloc (blk_alloc (blk_new _ _) _) _
theorem blkB (w : World) (a b c : Obj) : (((w.alloc a).alloc b).alloc c).heap[w.heap.size + 1]? = some b := by
  have h := blk_new (w.alloc a) b
  rw [alloc_size] at h
  exact blk_alloc h _
/-- The boxes as they stand, and the call's own row. -/
def Fn (w W : World) (A : Option Addr) (r : List Int) (u0 u1 x0 x1 : Value) : Prop :=
  W.heap[w.heap.size]? = some (.cells #[u0, u1] 53 (0, 0)) ∧ W.heap[w.heap.size + 1 + 1]? = some (.cells #[x0, x1] 53 (0, 0)) ∧ Kd.F (Kd.int .u8) W (fun k => w.heap.size + 1 + 1 + 1 ≤ k) A r.length r ∧ Below w.heap.size w W
theorem Fn.mk {w w1 : World} {u0 u1 a0 a1 a2 : Value} {A : Option Addr} {c : Nat} {r : List Int} (hB : Below (w.heap.size + 1 + 1 + 1) (((w.alloc (.cells #[u0, u1] 53)).alloc (.cells #[a0, a1, a2] 55)).alloc (.cells #[.slice none 0 0, .int .i64 0] 53)) w1)
    (hR : Kd.R (Kd.int .u8) 5 w1 (w.heap.size + 1 + 1 + 1) (fun _ => True) (.slice A r.length c) r) : Fn w w1 A r u0 u1 (.slice none 0 0) (.int .i64 0) ∧ w1.heap[w.heap.size + 1]? = some (.cells #[a0, a1, a2] 55 (0, 0)) ∧ r.length ≤ c :=
  ⟨⟨keep3 hB (blkA _ _ _ _), keep3 hB (blk3 _ _ _ _), (F_own hR (fun k hk => hk)).2.2, (below_alloc (below_alloc (below_alloc (Below.refl _ _) _) _) _).trans (hB.mono (by omega))⟩, keep3 hB (blkB _ _ _ _), (F_own hR (P := fun _ => True) (fun _ _ => trivial)).2.1⟩
theorem Fn.post {P : Nat → Prop} {w W : World} {A : Option Addr} {c m : Nat} {r : List Int} {u0 u1 : Value} {y : Int} (h : Fn w W A r u0 u1 (.slice A r.length c) (.int .i64 m)) (hc : r.length ≤ c) : DoPost P r m y w (.returned (.tuple #[.agg #[.slice A r.length c, .int .i64 m], .int .i64 y])) W :=
  ⟨A, c, rfl, hc, Kd.F_mono h.2.2.1 (fun k hk => .inr (by omega)), h.2.2.2⟩
end Go.Proofs.Ytajgillnkkkgjaa.P
end
section
/- The document's Do: a crash, and what is written. -/
namespace Go.Proofs.Ytajgillnkkkgjaa.P
open Go.RowKit Go.Proofs.YtajgillnkkkgjaaW.PrintWords Go.Proofs.YtajgillnkkkgjaaW.PrintLast Go.Proofs.YtajgillnkkkgjaaW.PrintMore Go.Proofs.Ytajgillnkkkgjaa.H Go.Proofs.Ytajgillnkkkgjaa.Pure
set_option linter.unusedVariables false
set_option linter.unusedSimpArgs false
abbrev DoS (w0 : World) (A : Option Addr) (L c m : Nat) (kk n : Int) (Ax : Option Addr) (lx cx : Nat) (w' : World) : Prop :=
  Aside0 (w'.heap[w0.heap.size]? = some (.cells #[.slice A L c, .int .i64 m] 53 (0, 0))) ∧ Aside0 (w'.heap[w0.heap.size + 1]? = some (.cells #[.int .i64 kk, .int .i64 n, .slice Ax lx cx] 55 (0, 0))) ∧ Aside0 (w'.heap[w0.heap.size + 1 + 1]? = some (.cells #[.slice none 0 0, .int .i64 0] 53 (0, 0))) ∧ Aside0 (Below w0.heap.size w0 w') ∧ w'.cell? ⟨w0.heap.size, 0, none⟩ = some (.slice A L c) ∧ w'.cell? ⟨w0.heap.size, 1, none⟩ = some (.int .i64 m) ∧ w'.cell? ⟨w0.heap.size + 1, 0, none⟩ = some (.int .i64 kk) ∧ w'.cell? ⟨w0.heap.size + 1, 1, none⟩ = some (.int .i64 n) ∧ w'.cell? ⟨w0.heap.size + 1, 2, none⟩ = some (.slice Ax lx cx) ∧ w'.cell? ⟨w0.heap.size + 1 + 1, 0, none⟩ = some (.slice none 0 0) ∧ w'.cell? ⟨w0.heap.size + 1 + 1, 1, none⟩ = some (.int .i64 0) ∧ w'.frozen? ⟨w0.heap.size, 0, none⟩ = false ∧ w'.frozen? ⟨w0.heap.size, 1, none⟩ = false
theorem DoS.mk {w0 : World} {A : Option Addr} {L c m : Nat} {kk n : Int} {Ax : Option Addr} {lx cx : Nat} {w' : World} (h0 : w'.heap[w0.heap.size]? = some (.cells #[.slice A L c, .int .i64 m] 53 (0, 0))) (h1 : w'.heap[w0.heap.size + 1]? = some (.cells #[.int .i64 kk, .int .i64 n, .slice Ax lx cx] 55 (0, 0))) (h2 : w'.heap[w0.heap.size + 1 + 1]? = some (.cells #[.slice none 0 0, .int .i64 0] 53 (0, 0))) (hB : Below w0.heap.size w0 w') : DoS w0 A L c m kk n Ax lx cx w' :=
  ⟨⟨h0⟩, ⟨h1⟩, ⟨h2⟩, ⟨hB⟩, blk_cell h0 0, blk_cell h0 1, blk_cell h1 0, blk_cell h1 1, blk_cell h1 2, blk_cell h2 0, blk_cell h2 1, blk_frozen h0 0, blk_frozen h0 1⟩
theorem DoS.keep {w0 : World} {A : Option Addr} {L c m : Nat} {kk n : Int} {Ax : Option Addr} {lx cx : Nat} {w1 w2 : World} (h : DoS w0 A L c m kk n Ax lx cx w1) (hb : Below w1.heap.size w1 w2) : DoS w0 A L c m kk n Ax lx cx w2 :=
  DoS.mk (blk_keep h.1.out hb) (blk_keep h.2.1.out hb) (blk_keep h.2.2.1.out hb) (below_step h.2.2.2.1.out hb)
theorem DoS.drew {w0 : World} {A : Option Addr} {L c m : Nat} {kk n : Int} {Ax : Option Addr} {lx cx : Nat} {w1 : World} (h : DoS w0 A L c m kk n Ax lx cx w1) : DoS w0 A L c m kk n Ax lx cx w1.drew :=
  DoS.mk h.1.out h.2.1.out h.2.2.1.out (below_drew h.2.2.2.1.out)
end Go.Proofs.Ytajgillnkkkgjaa.P
end
section
/- What an act does to a tape, and that the document tells the same. -/
namespace Go.Proofs.Ytajgillnkkkgjaa.P
open Go.RowKit Go.Proofs.YtajgillnkkkgjaaW.PrintWords Go.Proofs.YtajgillnkkkgjaaW.PrintLast Go.Proofs.YtajgillnkkkgjaaW.PrintMore Go.Proofs.Ytajgillnkkkgjaa.H Go.Proofs.Ytajgillnkkkgjaa.Pure
set_option linter.unusedVariables false
set_option linter.unusedSimpArgs false
/-- A tape behind an act, and what Cut answers. -/
def actS (s q : List Int) (k n : Int) (b : List Int) : List Int × List Int × Int :=
  if k = 1 then (s, q ++ b, 0) else if k = 2 then (s ++ q, [], 0) else if k = 3 then (s ++ q.take (clipK n q.length), [], 0) else if k = 4 then ((cutS s n).1, q, (cutS s n).2) else (s, q, 0)
theorem act_len (s q : List Int) (k n : Int) (b : List Int) : (actS s q k n b).1.length + (actS s q k n b).2.1.length ≤ s.length + q.length + b.length := by
  unfold actS cutS
  repeat' split
  all_goals simp only [List.length_append, List.length_take, List.length_drop, List.length_nil]
  all_goals omega
set_option maxHeartbeats 2000000 in
set_option maxRecDepth 100000 in
theorem do_rd {B g : Nat} {v1 v2 : Value} {s q : List Int} {w : World} (hT : Tp B g v1 v2 s q w) (k n : Int) (A : Option Addr) (c : Nat) (b : List Int) (hb : Kd.C (Kd.int .u8) w A b.length b) (hl : s.length + q.length + b.length ≤ 1000000) :
    Calls Try.prog 25 #[.pointer (some ⟨g, 0, none⟩), .agg #[.int .i64 k, .int .i64 n, .slice A b.length c]] w (CutPost B g v1 v2 (actS s q k n b).1 (actS s q k n b).2.1 (actS s q k n b).2.2 w) := by
  have hB : B ≤ w.heap.size := Nat.le_trans hT.2.1 (Nat.le_of_lt (blk_lt hT.1))
  have hb1 : Below w.heap.size w (w.alloc (.cells #[.int .i64 k, .int .i64 n, .slice A b.length c] 55)) := below_alloc (Below.refl _ _) _
  have HT := Aside0.mk (hT.below hb1)
  have HS := Aside0.mk (TpPost.same hT hb1)
  have HBB := Aside0.mk (Kd.C_below hb hb1)
  have HB1 := Aside0.mk hb1
  clear hT hb hb1
  unfold actS
  by_cases h1 : k = 1
  · subst h1
    have t1 : ((1 : Int) == 1) = true := rfl
    rw [if_pos rfl]
    go_enter Try.func25, Try.ntmps25
    go_wp2_with (go_at_call 31; (with_reducible refine (write_rd' HT.out A c b HBB.out (by omega)).mono ?_); rintro e w1 ⟨rfl, hP⟩; have HP := Aside0.mk (TpPost.before HB1.out hB hP); clear hP)
    go_ret
    exact ⟨rfl, HP.out⟩
  have t1 : (k == 1) = false := by simpa using h1
  rw [if_neg h1]
  by_cases h2 : k = 2
  · subst h2
    have t2 : ((2 : Int) == 2) = true := rfl
    rw [if_pos rfl]
    clear h1
    go_enter Try.func25, Try.ntmps25
    go_wp2_with (go_at_call 32; (with_reducible refine (sync_rd HT.out (by omega)).mono ?_); rintro e w1 ⟨rfl, hP⟩; have HP := Aside0.mk (TpPost.before HB1.out hB hP); clear hP)
    go_ret
    exact ⟨rfl, HP.out⟩
  have t2 : (k == 2) = false := by simpa using h2
  rw [if_neg h2]
  by_cases h3 : k = 3
  · subst h3
    have t3 : ((3 : Int) == 3) = true := rfl
    rw [if_pos rfl]
    clear h1 h2
    go_enter Try.func25, Try.ntmps25
    go_wp2_with (go_at_call 30; (with_reducible refine (crash_rd HT.out n (by omega)).mono ?_); rintro e w1 ⟨rfl, hP⟩; have HP := Aside0.mk (TpPost.before HB1.out hB hP); clear hP)
    go_ret
    exact ⟨rfl, HP.out⟩
  have t3 : (k == 3) = false := by simpa using h3
  rw [if_neg h3]
  by_cases h4 : k = 4
  · subst h4
    have t4 : ((4 : Int) == 4) = true := rfl
    rw [if_pos rfl]
    clear h1 h2 h3
    go_enter Try.func25, Try.ntmps25
    go_wp2_with (go_at_call 33; (with_reducible refine (cut_rd HT.out n (by omega)).mono ?_); rintro e w1 ⟨rfl, hP⟩; have HP := Aside0.mk (TpPost.before HB1.out hB hP); clear hP)
    go_ret
    exact ⟨rfl, HP.out⟩
  · have t4 : (k == 4) = false := by simpa using h4
    rw [if_neg h4]
    clear h1 h2 h3 h4
    go_enter Try.func25, Try.ntmps25
    go_wp2
    go_ret
    exact ⟨rfl, HS.out⟩
end Go.Proofs.Ytajgillnkkkgjaa.P
end
section
-- printed by the session's own call of print.py. Not trusted: Lean checks it.
namespace Go.Proofs.Ytajgillnkkkgjaa.P
open Go.RowKit Go.Proofs.YtajgillnkkkgjaaW.PrintWords Go.Proofs.YtajgillnkkkgjaaW.PrintLast Go.Proofs.YtajgillnkkkgjaaW.PrintMore
attribute [local go_sem] max2_int min2_int max_two min_two max_three min_three max_four min_four
set_option linter.unusedVariables false
set_option linter.unusedSimpArgs false
/-! ### tallymanref11_Few: function 22 -/
def tallymanref11_Few.l0 : Nat → List (S55) → Int → Option (Bool)
  | 0, _, _ => none
  | k + 1, x0, x5 => if x5 < (x0.length : Int) then (if 0 ≤ x5 then (if (((rd_T55 x0 x5).f2).length : Int) > 60 then (some false) else (tallymanref11_Few.l0 k x0 (wrap64 (x5 + 1)))) else (none)) else (some true)
def tallymanref11_Few.f (k : Nat) (l0 : List (S55)) (a1 : Int) : Option (Bool) := if (l0.length : Int) > a1 then (some false) else (tallymanref11_Few.l0 k l0 0)
theorem tallymanref11_Few.mono_l : ∀ k, (∀ y0 y1, LeO (tallymanref11_Few.l0 k y0 y1) (tallymanref11_Few.l0 (k + 1) y0 y1))
  | 0 => fun _ _ r h => by simp [tallymanref11_Few.l0] at h
  | k + 1 => by
    have ih0 := tallymanref11_Few.mono_l k
    · intro y0 y1
      unfold tallymanref11_Few.l0
      repeat' first
      | (with_reducible exact ih0 _ _)
      | (with_reducible exact LeO.refl _)
      | (with_reducible exact LeO.none _)
      | (with_reducible refine LeO.ite ?_ ?_)
      | (with_reducible refine LeO.bind ?_ (fun _ => ?_))
      | exact ih0 _ _
      | exact LeO.none _
      | refine LeO.ite ?_ ?_
      | refine LeO.bind ?_ (fun _ => ?_)
theorem tallymanref11_Few.mono : ∀ a0 a1 k, LeO (tallymanref11_Few.f k a0 a1) (tallymanref11_Few.f (k + 1) a0 a1) := by
  intro a0 a1 k
  have ih0 := tallymanref11_Few.mono_l k
  unfold tallymanref11_Few.f
  repeat' first
      | (with_reducible exact ih0 _ _)
      | (with_reducible exact LeO.refl _)
      | (with_reducible exact LeO.none _)
      | (with_reducible refine LeO.ite ?_ ?_)
      | (with_reducible refine LeO.bind ?_ (fun _ => ?_))
      | exact ih0 _ _
      | exact LeO.none _
      | refine LeO.ite ?_ ?_
      | refine LeO.bind ?_ (fun _ => ?_)
set_option maxHeartbeats 8000000 in
set_option maxRecDepth 100000 in
theorem tallymanref11_Few.calls (k : Nat) (A0 : Option Addr) (c0 : Nat) (l0 : List (S55)) (a1 : Int) (r : Bool) (w : World) (hr0 : Kd.C k55 w A0 l0.length l0) (hc0 : l0.length ≤ c0) (h : tallymanref11_Few.f k l0 a1 = some r) :
    Calls Try.prog 22 #[.slice A0 l0.length c0, .int .i64 a1] w fun e w' => e = .returned (.bool r) ∧ Drawn0 w w' := by
  have HR0 := Aside0.mk hr0
  have HC0 := Aside0.mk hc0
  clear hr0 hc0
  have H : (if (l0.length : Int) > a1 then (some false) else (tallymanref11_Few.l0 k l0 0)) = some r := h
  clear h
  by_cases c3 : (l0.length : Int) > a1
  · rw [if_pos c3] at H
    have c3b0 : decide (a1 < (l0.length : Int)) = true := decide_eq_true c3
    clear c3
    obtain rfl := Option.some.inj H
    go_enter Try.func22, Try.ntmps22
    go_wp2
    go_ret
    exact ⟨by first | rfl | ((repeat first | rw [Int.tdiv_eq_ediv_of_nonneg (by omega)] | rw [Int.tmod_eq_emod_of_nonneg (by omega)]); rfl) | (simp; done) | (simp [*]; done), by repeat (first | exact Drawn0.refl _ | apply Drawn0.step)⟩
  · rw [if_neg c3] at H
    have c3b0 : decide (a1 < (l0.length : Int)) = false := decide_eq_false c3
    clear c3
    have H' := Aside0.mk H
    clear H
    go_enter Try.func22, Try.ntmps22
    go_wp2
    go_loopg [5] k (fun kq v5 w' => ∃ (x5_1 : Int), v5 = .int .i64 x5_1 ∧ Aside0 (tallymanref11_Few.l0 kq l0 x5_1 = some r) ∧ Aside0 (kq ≤ k) ∧ Drawn0 w w')
    case atStart => exact ⟨(0), (by first | rfl | (simp; done) | (simp [*]; done)), H', ⟨Nat.le_refl _⟩, by repeat (first | exact Drawn0.refl _ | apply Drawn0.step)⟩
    case round =>
      clear H'
      try clear c2
      try clear p2
      try clear c3
      try clear c3b0
      obtain ⟨x5_1, rfl, HA, HK1, ⟨m1, rfl⟩⟩ := hrel
      cases gk with
      | zero => exact absurd HA.out (by simp [tallymanref11_Few.l0])
      | succ k1 =>
        have H := HA.out
        clear HA
        simp only [tallymanref11_Few.l0] at H
        by_cases c4 : x5_1 < (l0.length : Int)
        · rw [if_pos c4] at H
          have c4b0 : decide (x5_1 < (l0.length : Int)) = true := decide_eq_true c4
          clear c4
          by_cases c5 : 0 ≤ x5_1
          · rw [if_pos c5] at H
            have c5b0 : decide (0 ≤ x5_1) = true := decide_eq_true c5
            clear c5
            by_cases c6 : (((rd_T55 l0 x5_1).f2).length : Int) > 60
            · rw [if_pos c6] at H
              have c6b0 : decide (60 < (((rd_T55 l0 x5_1).f2).length : Int)) = true := decide_eq_true c6
              have c6b1 : decide (60 < ((rd_T55 l0 x5_1).f2).length) = true := decide_eq_true (by omega)
              clear c6
              obtain rfl := Option.some.inj H
              have p101 : 0 ≤ (x5_1 : Int) := of_decide_eq_true (by first | (with_reducible assumption) | assumption)
              have q101 : x5_1 < (l0.length : Int) := of_decide_eq_true (by first | (with_reducible assumption) | assumption)
              obtain ⟨ad101, A101_2, c101_2, e101, hx101_0, hx101_1, hx101_2, hl101_2, hi101_2⟩ := at_T55 HR0.out x5_1 p101 q101
              cases e101
              have HR101_2 := Aside0.mk hi101_2
              have HC101_2 := Aside0.mk hl101_2
              clear hi101_2 hl101_2
              replace p101 := eq_true p101
              replace q101 := eq_true q101
              go_wp2
              go_ret
              exact ⟨by first | rfl | ((repeat first | rw [Int.tdiv_eq_ediv_of_nonneg (by omega)] | rw [Int.tmod_eq_emod_of_nonneg (by omega)]); rfl) | (simp; done) | (simp [*]; done), by repeat (first | exact Drawn0.refl _ | apply Drawn0.step)⟩
            · rw [if_neg c6] at H
              have c6b0 : decide (60 < (((rd_T55 l0 x5_1).f2).length : Int)) = false := decide_eq_false c6
              have c6b1 : decide (60 < ((rd_T55 l0 x5_1).f2).length) = false := decide_eq_false (by omega)
              clear c6
              have H' := Aside0.mk H
              clear H
              have p101 : 0 ≤ (x5_1 : Int) := of_decide_eq_true (by first | (with_reducible assumption) | assumption)
              have q101 : x5_1 < (l0.length : Int) := of_decide_eq_true (by first | (with_reducible assumption) | assumption)
              obtain ⟨ad101, A101_2, c101_2, e101, hx101_0, hx101_1, hx101_2, hl101_2, hi101_2⟩ := at_T55 HR0.out x5_1 p101 q101
              cases e101
              have HR101_2 := Aside0.mk hi101_2
              have HC101_2 := Aside0.mk hl101_2
              clear hi101_2 hl101_2
              replace p101 := eq_true p101
              replace q101 := eq_true q101
              go_wp2
              go_roundg k1
              case measure => have := HK1.out; omega
              case rel => exact ⟨(wrap64 (x5_1 + 1)), (by first | rfl | (simp; done) | (simp [*]; done)), H', ⟨by have := HK1.out; omega⟩, by repeat (first | exact Drawn0.refl _ | apply Drawn0.step)⟩
          · rw [if_neg c5] at H
            exact absurd H (by simp)
        · rw [if_neg c4] at H
          have c4b0 : decide (x5_1 < (l0.length : Int)) = false := decide_eq_false c4
          clear c4
          obtain rfl := Option.some.inj H
          go_wp2
          go_ret
          exact ⟨by first | rfl | ((repeat first | rw [Int.tdiv_eq_ediv_of_nonneg (by omega)] | rw [Int.tmod_eq_emod_of_nonneg (by omega)]); rfl) | (simp; done) | (simp [*]; done), by repeat (first | exact Drawn0.refl _ | apply Drawn0.step)⟩
end Go.Proofs.Ytajgillnkkkgjaa.P
end
section
/- What a tape and the document's stand for, round by round. -/
namespace Go.Proofs.Ytajgillnkkkgjaa.P
open Go.RowKit Go.Proofs.YtajgillnkkkgjaaW.PrintWords Go.Proofs.YtajgillnkkkgjaaW.PrintLast Go.Proofs.YtajgillnkkkgjaaW.PrintMore Go.Proofs.Ytajgillnkkkgjaa.H Go.Proofs.Ytajgillnkkkgjaa.Pure
set_option linter.unusedVariables false
set_option linter.unusedSimpArgs false
theorem new_rd (w : World) : Calls Try.prog 24 #[] w fun e w' => ∃ g, e = .returned (.pointer (some ⟨g, 0, none⟩)) ∧ Tp w.heap.size g (.slice none 0 0) (.slice none 0 0) [] [] w' ∧ Below w.heap.size w w' := by
  go_enter Try.func24, Try.ntmps24
  go_wp2
  go_ret
  exact ⟨w.heap.size, rfl, ⟨blk_new _ _, Nat.le_refl _, Kd.R_nil _ _ _ _ _, Kd.R_nil _ _ _ _ _⟩, below_alloc (Below.refl _ _) _⟩
theorem Tp.lower {B B' g : Nat} {v1 v2 : Value} {s q : List Int} {w : World} (h : Tp B g v1 v2 s q w) (hb : B' ≤ B) : Tp B' g v1 v2 s q w := ⟨h.1, Nat.le_trans hb h.2.1, Kd.R_lower h.2.2.1 hb, Kd.R_lower h.2.2.2 hb⟩
/-- A block of another type is apart. -/
theorem Tp.off {B g k t : Nat} {v1 v2 : Value} {s q : List Int} {w : World} {cs : Array Value} (h : Tp B g v1 v2 s q w) (hb : w.heap[k]? = some (.cells cs t (0, 0))) (h1 : t ≠ 127) (h5 : 5 ≠ t) : offT g v1 v2 k :=
  ⟨blk_ne hb h.1 h1, Kd.R_ne h.2.2.1 hb h5, Kd.R_ne h.2.2.2 hb h5⟩
theorem bytes_r {B g : Nat} {v1 v2 : Value} {s q r : List Int} {w : World} (hT : Tp B g v1 v2 s q w) (hr : s ++ q = r) (hl : s.length + q.length ≤ 1000000) :
    Calls Try.prog 27 #[.pointer (some ⟨g, 0, none⟩)] w (RdPost r w) := hr ▸ bytes_rd hT hl
theorem len_r {B g L : Nat} {v1 v2 : Value} {s q : List Int} {w : World} (hT : Tp B g v1 v2 s q w) (hr : s.length + q.length = L) (hl : s.length + q.length ≤ 1000000) :
    Calls Try.prog 28 #[.pointer (some ⟨g, 0, none⟩)] w fun e w' => e = .returned (.int .i64 (L : Int)) ∧ Below w.heap.size w w' := hr ▸ len_rd hT hl
theorem sure_r {B g L : Nat} {v1 v2 : Value} {s q : List Int} {w : World} (hT : Tp B g v1 v2 s q w) (hr : s.length = L) :
    Calls Try.prog 29 #[.pointer (some ⟨g, 0, none⟩)] w fun e w' => e = .returned (.int .i64 (L : Int)) ∧ Below w.heap.size w w' := (sure_rd hT).mono (fun e w' h => ⟨by rw [h.1, hr], by rw [h.2]; exact Below.refl _ _⟩)
theorem rdT55 (l : List S55) (i : Nat) (h : i < l.length) : rd_T55 l (i : Int) = l[i] := by
  rw [rd_T55, List.getD_eq_getElem?_getD, Int.toNat_natCast, List.getElem?_eq_getElem h]; rfl
theorem few11_loop (l : List S55) (hl : l.length ≤ 60) : ∀ (d i : Nat), i + d = l.length → Ev (fun k => tallymanref11_Few.l0 k l i) ((l.drop i).all fun x => decide (x.f2.length ≤ 60)) := by
  intro d
  induction d with
  | zero =>
    intro i hi
    rw [List.drop_of_length_le (by omega)]
    exact Ev.step (fun k => by rw [tallymanref11_Few.l0, if_neg (by omega)]; rfl) (Ev.now _)
  | succ d ih =>
    intro i hi
    have hlt : i < l.length := by omega
    have e := rdT55 l i hlt
    rw [List.drop_eq_getElem_cons hlt, List.all_cons]
    by_cases h : l[i].f2.length ≤ 60
    · rw [decide_eq_true h, Bool.true_and]
      refine Ev.step (fun k => by rw [tallymanref11_Few.l0, if_pos (by omega), if_pos (by omega), e, if_neg (by omega), show wrap64 ((i : Int) + 1) = ((i + 1 : Nat) : Int) by unfold wrap64; omega]) ?_
      exact ih (i + 1) (by omega)
    · rw [decide_eq_false h, Bool.false_and]
      refine Ev.step (fun k => by rw [tallymanref11_Few.l0, if_pos (by omega), if_pos (by omega), e, if_pos (by omega)]) (Ev.now _)
theorem few11 (l : List S55) : ∃ k, tallymanref11_Few.f k l 60 = some (decide (l.length ≤ 60) && l.all fun x => decide (x.f2.length ≤ 60)) := by
  by_cases h : l.length ≤ 60
  · obtain ⟨k, hk⟩ := Ev.rounds (few11_loop l h l.length 0 (by omega))
    refine ⟨k, ?_⟩
    unfold tallymanref11_Few.f
    rw [if_neg (by omega), decide_eq_true h, Bool.true_and]
    rw [List.drop_zero] at hk
    exact hk
  · refine ⟨0, ?_⟩
    unfold tallymanref11_Few.f
    rw [if_pos (by omega), decide_eq_false h, Bool.false_and]
theorem write_lit {B g : Nat} {v1 v2 : Value} {s q : List Int} {w : World} (hT : Tp B g v1 v2 s q w) (cs : Array Value) (fr : Nat × Nat) (y : List Int) (n : Nat) (r : List Int) (hn : y.length = n) (hcs : cs = (y.map (Value.int .u8)).toArray) (hr : q ++ y = r) (hl : q.length + y.length ≤ 1000000) :
    Calls Try.prog 31 #[.pointer (some ⟨g, 0, none⟩), .slice (some ⟨w.heap.size, 0, none⟩) n n] (w.alloc (.cells cs 5 fr)) fun e w' => e = .returned (.tuple #[]) ∧ ∃ u1 u2, Tp B g u1 u2 s r w' ∧ Below B w w' := by
  subst hn hr
  refine (write_rd' (hT.below (below_alloc (Below.refl _ _) _)) _ _ y (C_const _ y (by omega) _ hcs _) hl).mono ?_
  rintro e w' ⟨rfl, u1, u2, h1, h2, _⟩
  exact ⟨rfl, u1, u2, h1, ((below_alloc (Below.refl _ _) _ : Below w.heap.size w _).mono (Nat.le_trans hT.2.1 (Nat.le_of_lt (blk_lt hT.1)))).trans h2⟩
def tallymanlaw11_alive.f : Option Bool := some true
set_option maxHeartbeats 1000000 in
set_option maxRecDepth 100000 in
theorem tallymanlaw11_alive.calls (r : Bool) (w : World) (h : tallymanlaw11_alive.f = some r) :
    Calls Try.prog 23 #[] w fun e w' => e = .returned (.bool r) ∧ Below w.heap.size w w' := by
  obtain rfl : true = r := Option.some.inj h
  clear h
  have cv1 : ∀ (W : World) (n c : Nat), (convert 51 51 (.slice (some ⟨W.heap.size, 0, none⟩) n c)).run Try.prog (W.alloc (.cells #[.int .u8 97, .int .u8 98] 5)) = .ok (.slice (some ⟨W.heap.size, 0, none⟩) n c) (W.alloc (.cells #[.int .u8 97, .int .u8 98] 5 (2, 3))) :=
    fun W n c => Go.Lib.run_convert_bytes_const (P := Try.prog) W 51 5 _ n c Try.underlying51 Try.underlying5
  have cv2 : ∀ (W : World) (n c : Nat), (convert 51 51 (.slice (some ⟨W.heap.size, 0, none⟩) n c)).run Try.prog (W.alloc (.cells #[.int .u8 99, .int .u8 100] 5)) = .ok (.slice (some ⟨W.heap.size, 0, none⟩) n c) (W.alloc (.cells #[.int .u8 99, .int .u8 100] 5 (2, 3))) :=
    fun W n c => Go.Lib.run_convert_bytes_const (P := Try.prog) W 51 5 _ n c Try.underlying51 Try.underlying5
  go_enter Try.func23, Try.ntmps23
  go_wp2_with (first
    | (go_at_call 24; (with_reducible refine (new_rd _).mono ?_); rintro e w1 ⟨g, rfl, hT, hb⟩; have HT := Aside0.mk hT; have HB := Aside0.mk hb; clear hT hb)
    | (go_at_call 31; first
        | (refine (write_lit HT.out _ _ [97, 98] 2 [97, 98] rfl rfl rfl (by decide)).mono ?_; rintro e w2 ⟨rfl, u1, u2, hT, hb⟩; have HT2 := Aside0.mk hT; have HB2 := Aside0.mk (HB.out.trans hb); clear hT hb HT HB)
        | (refine (write_lit HT3.out _ _ [99, 100] 2 [99, 100] rfl rfl rfl (by decide)).mono ?_; rintro e w4 ⟨rfl, u1, u2, hT, hb⟩; have HT4 := Aside0.mk hT; have HB4 := Aside0.mk (HB3.out.trans hb); clear hT hb))
    | (go_at_call 32; (with_reducible refine (sync_rd HT2.out (by decide)).mono ?_); rintro e w3 ⟨rfl, hP⟩; obtain ⟨u1, u2, hT, hb, hs, _⟩ := hP; have HT3 := Aside0.mk hT; have HB3 := Aside0.mk (HB2.out.trans hb); clear hT hb hs)
    | (go_at_call 30; (with_reducible refine (crash_rd HT4.out 1 (by decide)).mono ?_); rintro e w5 ⟨rfl, hP⟩; obtain ⟨u1, u2, hT, hb, hs, _⟩ := hP; have HT5 : Aside0 (Tp w.heap.size g u1 u2 [97, 98, 99] [] w5) := ⟨hT⟩; have HB5 := Aside0.mk (HB4.out.trans hb); clear hT hb hs)
    | (go_at_call 27; (with_reducible refine (bytes_r (r := [97, 98, 99]) HT5.out rfl (by decide)).mono ?_); rintro e w6 ⟨Az, cz, rfl, hcz, hC, hB⟩; have hcv := str_eq (s := ⟨#[97, 98, 99]⟩) (by rfl) (Kd.C_string (P := Try.prog) (n := 3) (c := cz) Try.underlying51 Try.underlying5 Try.underlying9 hC); have HT6 := Aside0.mk (HT5.out.below hB); have HB6 := Aside0.mk (below_step HB5.out hB); clear hB hC hcz)
    | (go_at_call 29; (with_reducible refine (sure_r (L := 3) HT6.out rfl).mono ?_); rintro e w7 ⟨rfl, hB⟩; have HT7 := Aside0.mk (HT6.out.below hB); have HB7 := Aside0.mk (below_step HB6.out hB); clear hB)
    | (go_at_call 28; (with_reducible refine (len_r (L := 3) HT7.out rfl (by decide)).mono ?_); rintro e w8 ⟨rfl, hB⟩; have HT8 := Aside0.mk (HT7.out.below hB); have HB8 := Aside0.mk (below_step HB7.out hB); clear hB)
    | (go_at_call 33; (with_reducible refine (cut_rd HT8.out 4 (by decide)).mono ?_); rintro e w9 ⟨he, hP⟩; obtain rfl : e = .returned (.int .i64 12) := he; obtain ⟨u1, u2, hT, hb, hs, _⟩ := hP; have HB9 := Aside0.mk (HB8.out.trans hb); clear hT hb hs))
  go_ret
  exact ⟨rfl, HB9.out⟩
end Go.Proofs.Ytajgillnkkkgjaa.P
end
section
/- What came in, of any type that is made of numbers, texts, slices and structs: its value, and how it reads. -/
namespace Go.Proofs.Ytajgillnkkkgjaa.TR
open Go.RowKit Go.ChangeShapes Go.WideShapes Go.Deep Go.Proofs.YtajgillnkkkgjaaW.PrintWords Go.Proofs.YtajgillnkkkgjaaW.PrintLast Go.Proofs.YtajgillnkkkgjaaW.PrintMore
set_option linter.unusedVariables false
set_option linter.unusedSimpArgs false
/-- What the cells of type t hold, where they are well formed, is of the kind d. -/
def Tr {α : Type} (P : Program) (t : TypeId) (d : Kd α) (Wf : α → Prop) : Prop :=
  ∀ (H : Type) (enc : TypeId × Value → H) (w : World) (n : Nat) (cs : List Value) (x : DataW H × List MemPlace), DataW.trod enc P w 0 (fun _ => true) true n t cs = some x → ∃ a, d.K w a cs ∧ Wf a
theorem Tr_int {P : Program} {t : TypeId} {k : IntKind} (ht : P.underlying t = some (.int k)) : Tr P t (Kd.int k) (fun z => (Lit.int k z).wf = true) := by
  intro H enc w n cs x h
  obtain ⟨z, rfl, _, hw⟩ := DataW.trod_int ht h
  exact ⟨z, rfl, hw⟩
theorem Tr_iso {α β : Type} {P : Program} {t : TypeId} {d : Kd α} {Wf : α → Prop} (f : β → α) (g : α → β) (hg : ∀ a, f (g a) = a) (h : Tr P t d Wf) : Tr P t (Kd.iso d f) (fun b => Wf (f b)) := by
  intro H enc w n cs x hx
  obtain ⟨a, hK, hW⟩ := h H enc w n cs x hx
  exact ⟨g a, by show d.K w (f (g a)) cs; rw [hg]; exact hK, by show Wf (f (g a)); rw [hg]; exact hW⟩
theorem build {α : Type} (p : Nat → α → Prop) : ∀ n, (∀ i, i < n → ∃ a, p i a) → ∃ l : List α, l.length = n ∧ ∀ j a, l[j]? = some a → p j a := by
  intro n
  induction n with
  | zero => intro _; exact ⟨[], rfl, fun j a h => by simp at h⟩
  | succ n ih =>
    intro h
    obtain ⟨l, hl, hp⟩ := ih (fun i hi => h i (by omega))
    obtain ⟨a, ha⟩ := h n (by omega)
    refine ⟨l ++ [a], by simp [hl], fun j b hb => ?_⟩
    by_cases hj : j < l.length
    · rw [List.getElem?_append_left hj] at hb
      exact hp j b hb
    · rw [List.getElem?_append_right (by omega)] at hb
      have : j - l.length = 0 := by
        have := (List.getElem?_eq_some_iff.1 hb).1
        simp at this
        omega
      rw [this] at hb
      simp only [List.getElem?_cons_zero, Option.some.injEq] at hb
      subst hb
      rw [show j = n by omega]
      exact ha
theorem Tr_slice {α : Type} {P : Program} {t e : TypeId} {d : Kd α} {Wf : α → Prop} (ht : P.underlying t = some (.slice e)) (hc : P.cellsOf e = d.sz) (h : Tr P e d Wf) : Tr P t (Kd.slice e d) (fun l => ∀ a ∈ l, Wf a) := by
  intro H enc w n cs x hx
  rcases open_slice ht hx with ⟨rfl, _⟩ | ⟨a, len, cap, m, n', D, Pl, rfl, _, hle, hm, hmm, _, hel⟩
  · exact ⟨[], ⟨none, 0, rfl, Nat.le_refl _, Kd.C_nil d w⟩, fun a ha => by simp at ha⟩
  · have hmc : m = cap := by simpa using hmm
    obtain ⟨l, hl, hp⟩ := build (fun i (b : α) => (∃ cs', cs'.length = d.sz ∧ d.K w b cs' ∧ ∀ j u, cs'[j]? = some u → w.cell? (a.add (i * d.sz + j)) = some u) ∧ Wf b) len (fun i hi => by
      obtain ⟨cs', h1, h2⟩ := hel i (by omega)
      obtain ⟨_, h3, h4⟩ := World.cells?_some h1
      obtain ⟨b, hK, hW⟩ := h H enc w n' cs' _ h2
      refine ⟨b, ⟨cs', by rw [h3, hc], hK, fun j u hu => ?_⟩, hW⟩
      have hj := (List.getElem?_eq_some_iff.1 hu).1
      rw [← hc, ← Go.Deep.add_add, h4 j (by omega), hu])
    refine ⟨l, ⟨some a, cap, by rw [hl], by omega, ⟨rfl, ?_, fun _ => ⟨a, rfl, fun j b hb => (hp j b hb).1⟩⟩⟩, fun b hb => ?_⟩
    · unfold maxLen at hm; omega
    · obtain ⟨j, hj⟩ := List.getElem?_of_mem hb
      exact (hp j b hj).2
/-- The fields from one on, one behind the other. -/
theorem seg (cs : List Value) (o a b : Nat) : (cs.drop o).take (a + b) = (cs.drop o).take a ++ (cs.drop (o + a)).take b := by
  rw [List.take_add, List.drop_drop]
theorem pair_K {α β : Type} {d : Kd α} {e : Kd β} {w : World} {cs : List Value} {o : Nat} {a : α} {b : β} {s r : Nat} (h1 : d.K w a ((cs.drop o).take s)) (h2 : e.K w b ((cs.drop (o + s)).take r)) : (Kd.pair d e).K w (a, b) ((cs.drop o).take (s + r)) :=
  ⟨_, _, seg cs o s r, h1, h2⟩
/-- A struct's fields from one offset on, of the kinds of a pair of pairs. -/
def Fs {α : Type} (P : Program) (fs : List Field) (o : Nat) (d : Kd α) (Wf : α → Prop) (sz : Nat) : Prop :=
  ∀ (H : Type) (enc : TypeId × Value → H) (w : World) (n : Nat) (cs : List Value), (∀ f ∈ fs, ∃ y, DataW.trod enc P w 0 (fun _ => true) true n f.type ((cs.drop f.offset).take (P.cellsOf f.type)) = some y) → ∃ a, d.K w a ((cs.drop o).take sz) ∧ Wf a
theorem Fs_one {α : Type} {P : Program} {f : Field} {d : Kd α} {Wf : α → Prop} {o s : Nat} (ho : f.offset = o) (hs : P.cellsOf f.type = s) (h : Tr P f.type d Wf) : Fs P [f] o d Wf s := by
  intro H enc w n cs hf
  obtain ⟨y, hy⟩ := hf f (by simp)
  rw [ho, hs] at hy
  exact h H enc w n _ y hy
theorem Fs_cons {α β : Type} {P : Program} {f : Field} {fs : List Field} {d : Kd α} {e : Kd β} {Wf : α → Prop} {Wg : β → Prop} {o s r : Nat} (ho : f.offset = o) (hs : P.cellsOf f.type = s) (h : Tr P f.type d Wf) (hr : Fs P fs (o + s) e Wg r) : Fs P (f :: fs) o (Kd.pair d e) (fun x => Wf x.1 ∧ Wg x.2) (s + r) := by
  intro H enc w n cs hf
  obtain ⟨y, hy⟩ := hf f (by simp)
  rw [ho, hs] at hy
  obtain ⟨a, ha, hwa⟩ := h H enc w n _ y hy
  obtain ⟨b, hb, hwb⟩ := hr H enc w n cs (fun g hg => hf g (by simp [hg]))
  exact ⟨(a, b), pair_K ha hb, hwa, hwb⟩
theorem Tr_struct {α : Type} {P : Program} {t : TypeId} {fs : List Field} {d : Kd α} {Wf : α → Prop} {s : Nat} (ht : P.underlying t = some (.struct fs.toArray)) (hs : P.cellsOf t = s) (h : Fs P fs 0 d Wf s) : Tr P t d Wf := by
  intro H enc w n cs x hx
  obtain ⟨xs, n', _, _, hl, hlen, hf⟩ := DataW.trod_struct ht hx
  obtain ⟨a, hK, hW⟩ := h H enc w n' cs (fun f hfm => by
    obtain ⟨i, hi⟩ := List.getElem?_of_mem hfm
    have h1 := hf i f (by simpa using hi)
    have hil : i < fs.length := (List.getElem?_eq_some_iff.1 hi).1
    have h2 : i < xs.length := by rw [hlen]; simpa using hil
    exact ⟨xs[i], by rw [h1]; exact List.getElem?_eq_getElem h2⟩)
  rw [List.drop_zero, List.take_of_length_le (by omega)] at hK
  exact ⟨a, hK, hW⟩
end Go.Proofs.Ytajgillnkkkgjaa.TR
end
section
/- The law TapeSure, walked. -/
namespace Go.Proofs.Ytajgillnkkkgjaa.P
open Go.RowKit Go.Proofs.YtajgillnkkkgjaaW.PrintWords Go.Proofs.YtajgillnkkkgjaaW.PrintLast Go.Proofs.YtajgillnkkkgjaaW.PrintMore Go.Proofs.Ytajgillnkkkgjaa.H Go.Proofs.Ytajgillnkkkgjaa.Pure Go.Proofs.Ytajgillnkkkgjaa.B
set_option linter.unusedVariables false
set_option linter.unusedSimpArgs false
theorem alive11s (w : World) : Calls Try.prog 23 #[] w fun e w' => e = .returned (.bool true) ∧ Below w.heap.size w w' := tallymanlaw11_alive.calls true w rfl
/-- At a round's head: the tape at g. -/
def D6 (w : World) (g i : Nat) (wr : World) : Prop :=
  ∃ v1 v2 s q, Tp w.heap.size g v1 v2 s q wr ∧ s.length + q.length ≤ 60 * i ∧ Below w.heap.size w wr
theorem str_size (l : List Int) : (strOfNums l).size = l.length := by simp [strOfNums, ByteArray.size]
theorem str_front (a b : List Int) : (strOfNums (a ++ b)).extract 0 a.length = strOfNums a := by
  apply ByteArray.ext
  simp [strOfNums, ByteArray.data_extract]
theorem sl_of {b1 b2 : ByteArray} (hle : b2.size ≤ b1.size) (he : b1.extract 0 b2.size = b2) (W : World) : (Instr.slice 9 (.string b1) none (some (.int .i64 (b2.size : Int))) none).run Try.prog W = .ok (.string b2) W := by
  rw [run_slice_string_h (ht := Try.underlying9) (h0 := by omega) (h2 := by omega), Int.toNat_natCast, he]
attribute [local go_sem] max2_int min2_int max_two min_two
set_option maxHeartbeats 4000000 in
set_option maxRecDepth 100000 in
theorem sure_path (kf : Nat) (A0 : Option Addr) (c0 : Nat) (l : List S55) (keep : Int) (w : World) (h0 : Kd.C k55 w A0 l.length l) (hc0 : l.length ≤ c0) (h60 : l.length ≤ 60) (hf : ∀ x ∈ l, x.f2.length ≤ 60)
    (hfew : tallymanref11_Few.f kf l 60 = some true) :
    Calls Try.prog 6 #[.slice A0 l.length c0, .int .i64 keep] w fun e w' => e = .returned (.bool true) ∧ Below w.heap.size w w' := by
  have H0 := Aside0.mk h0; clear h0
  have HF60 := Aside0.mk hf; clear hf
  have HFEW := Aside0.mk hfew; clear hfew
  go_enter Try.func6, Try.ntmps6
  go_wp2_with (first
    | (go_at_call 22; (with_reducible refine (tallymanref11_Few.calls kf A0 c0 l 60 true _ H0.out hc0 HFEW.out).mono ?_); rintro e w0 ⟨rfl, hd⟩; have HB0 := Aside0.mk hd.below; clear hd)
    | (go_at_call 24; (with_reducible refine (new_rd _).mono ?_); rintro e w1 ⟨g, rfl, hT, hb⟩; have HT := Aside0.mk (hT.lower HB0.out.size); have HB := Aside0.mk (below_step HB0.out hb); clear hT hb))
  have hD : D6 w g 0 w1 := ⟨_, _, [], [], HT.out, by simp, HB.out⟩
  have HD := Aside0.mk hD
  clear hD HT HB HB0
  go_loopw [19] (fun v19 wr => ∃ i : Nat, i ≤ l.length ∧ v19 = .int .i64 i ∧ Aside0 (D6 w g i wr)) (fun v19 _ => l.length - (intOf v19).toNat)
  case atStart => exact ⟨0, by omega, rfl, HD⟩
  case round =>
    obtain ⟨i, hi, rfl, HR⟩ := hrel
    obtain ⟨v1, v2, s, q, hT, hsz, hB⟩ := HR.out
    clear HR
    by_cases hlt : i < l.length
    · obtain ⟨ad, A2, c2, rfl, x0, x1, x2, hc2, hC2⟩ := at_T55 H0.out (i : Int) (by omega) (by omega)
      rw [Int.toNat_natCast] at x0 x1 x2
      have hX := rdT55 l i hlt
      obtain ⟨⟨f0, f1, f2⟩, hXX⟩ : ∃ X, rd_T55 l (i : Int) = X := ⟨_, rfl⟩
      rw [hXX] at x0 x1 x2 hc2 hC2 hX
      simp only at x0 x1 x2 hc2 hC2
      have h60 : f2.length ≤ 60 := by have := HF60.out _ (List.getElem_mem hlt); rw [← hX] at this; exact this
      have x0 := pw_cell_below (hB.mono (Nat.le_refl _)) x0
      have x1 := pw_cell_below (hB.mono (Nat.le_refl _)) x1
      have x2 := pw_cell_below (hB.mono (Nat.le_refl _)) x2
      have hC2r := Kd.C_below hC2 hB
      obtain ⟨bx, hbx⟩ : ∃ bx : Obj, Obj.cells #[.int .i64 f0, .int .i64 f1, .slice A2 f2.length c2] 55 (0, 0) = bx := ⟨_, rfl⟩
      have hb1 : Below wr.heap.size wr (wr.alloc bx) := below_alloc (Below.refl _ _) _
      have hlen' := act_len s q f0 f1 f2
      have hDo := do_rd (hT.below hb1) f0 f1 A2 c2 f2 (Kd.C_below hC2r hb1) (by omega)
      generalize actS s q f0 f1 f2 = a3 at hDo hlen'
      obtain ⟨s', q', y⟩ := a3
      simp only at hDo hlen'
      have HDO := Aside0.mk hDo
      have HB := Aside0.mk (below_step hB hb1)
      have HLEN : Aside0 (s'.length + q'.length ≤ 60 * (i + 1)) := ⟨by omega⟩
      subst hbx
      clear hT hsz hB hC2 hC2r hb1 hDo hlen' hX hXX h60 hc2
      go_wp2_with (go_at_call 25; (with_reducible refine HDO.out.mono ?_); rintro e w3 ⟨rfl, hP⟩; obtain ⟨u1, u2, hT3, hB3, _⟩ := hP.F; have HT3 := Aside0.mk hT3; have HB3 := Aside0.mk (HB.out.trans hB3); clear hP hT3 hB3)
      go_roundw
      case rel => exact ⟨i + 1, by omega, by go_num, ⟨⟨u1, u2, s', q', HT3.out, HLEN.out, HB3.out⟩⟩⟩
      case measure => simp [intOf]; omega
    · obtain rfl : i = l.length := by omega
      obtain ⟨r, hr⟩ : ∃ r, s ++ q = r := ⟨_, rfl⟩
      have hl : s.length + q.length ≤ 1000000 := by omega
      have HT := Aside0.mk hT
      have HR := Aside0.mk hr
      have HL := Aside0.mk hl
      have HB := Aside0.mk hB
      clear hT hB hsz
      go_wp2
      go_cut [8, 9] (fun s8 s9 wx => s8 = .string (strOfNums r) ∧ s9 = .int .i64 s.length ∧ Aside0 (Tp w.heap.size g v1 v2 s q wx ∧ Below w.heap.size w wx))
      case first =>
        go_region_with (first | (go_at_call 27; (with_reducible refine (bytes_r HT.out.drew HR.out HL.out).mono ?_); rintro e w6 ⟨Az, cz, rfl, hcz, hC, hb⟩; have hcv := Kd.C_string (P := Try.prog) (c := cz) Try.underlying51 Try.underlying5 Try.underlying9 hC; have HT6 := Aside0.mk (HT.out.drew.below hb); have HB6 := Aside0.mk (below_step (HB.out.drew) hb); clear hC hcz hb) | (go_at_call 29; (with_reducible refine (sure_rd HT6.out).mono ?_); rintro e w7 ⟨rfl, rfl⟩))
        all_goals (go_wp2_with fail)
        all_goals (go_meet; exact ⟨rfl, rfl, ⟨HT6.out, HB6.out⟩⟩)
      case rest =>
        obtain ⟨rfl, rfl, hF⟩ := hcut
        have HT := Aside0.mk hF.out.1
        have HB := Aside0.mk hF.out.2
        clear hF
        obtain ⟨m, hm⟩ : ∃ m, clipK keep q.length = m := ⟨_, rfl⟩
        have hmq : m ≤ q.length := by rw [← hm]; unfold clipK; omega
        obtain ⟨r2, hr2⟩ : ∃ r2, s ++ q.take m = r2 := ⟨_, rfl⟩
        have hl2 : r2.length = s.length + m := by rw [← hr2, List.length_append, List.length_take]; omega
        have hL : r.length = s.length + q.length := by rw [← hr, List.length_append]
        have e3 : (strOfNums r).extract 0 r2.length = strOfNums r2 := by
          rw [← hr, ← List.take_append_drop m q, ← List.append_assoc, hr2]; exact str_front _ _
        have hC := fun (W : World) (h : Tp w.heap.size g v1 v2 s q W) => crash_rd h keep hl
        rw [hm, hr2] at hC
        have HC := Aside0.mk hC
        have e1 := str_size r
        have e2 := str_size r2
        obtain ⟨b1, hb1⟩ : ∃ b, strOfNums r = b := ⟨_, rfl⟩
        obtain ⟨b2, hb2⟩ : ∃ b, strOfNums r2 = b := ⟨_, rfl⟩
        have HB2 := Aside0.mk hb2
        have HR2 : Aside0 (r2 ++ [] = r2) := ⟨List.append_nil _⟩
        have HL2 : Aside0 (r2.length + ([] : List Int).length ≤ 1000000) := ⟨by simp; omega⟩
        rw [hb1] at e1 e3 ⊢
        rw [hb2] at e2 e3
        obtain ⟨n, hn⟩ : ∃ n, s.length = n := ⟨_, rfl⟩
        obtain ⟨Q, hQ⟩ : ∃ Q, q.length = Q := ⟨_, rfl⟩
        obtain ⟨L2, hL2⟩ : ∃ L2, r2.length = L2 := ⟨_, rfl⟩
        have HLL := Aside0.mk hL2
        rw [hn] at hl2 hL hl
        rw [hn]
        rw [hQ] at hL hmq hl hm
        rw [hL2] at hl2 e2 e3
        have hq1 : b1.size = n + Q := by omega
        have HLL : Aside0 (r2.length = b2.size) := ⟨by rw [hL2, e2]⟩
        rw [← e2] at e3 hl2
        have hle : b2.size ≤ b1.size := by omega
        have t1 : decide ((n : Int) < 0) = false := decide_eq_false (by omega)
        have t2 : decide (b1.size < n) = false := decide_eq_false (by omega)
        have t2' : decide ((b1.size : Int) < (n : Int)) = false := decide_eq_false (by omega)
        obtain ⟨x, hx⟩ : ∃ x, (if keep < 0 then 0 else keep) = x := ⟨_, rfl⟩
        have hxm : (if (Q : Int) < x then (Q : Int) else x) = (m : Int) := by rw [← hx, ← hm]; unfold clipK; omega
        have ws' : wrap64 ((b1.size : Int) - (n : Int)) = (Q : Int) := by unfold wrap64; omega
        have ws : IntKind.i64.wrap ((b1.size : Int) - (n : Int)) = (Q : Int) := by rw [i64_w]; exact ws'
        have wa' : wrap64 ((n : Int) + (m : Int)) = (b2.size : Int) := by unfold wrap64; omega
        have wa : IntKind.i64.wrap ((n : Int) + (m : Int)) = (b2.size : Int) := by rw [i64_w]; exact wa'
        have tn : (b2.size != b2.size) = false := by simp
        have tn' : ((b2.size : Int) != (b2.size : Int)) = false := by simp
        have tb : (b2.toList != b2.toList) = false := by simp
        have sl := sl_of hle e3
        have cv1 : ∀ (W : World) (n c : Nat), (convert 51 51 (.slice (some ⟨W.heap.size, 0, none⟩) n c)).run Try.prog (W.alloc (.cells #[.int .u8 97] 5)) = .ok (.slice (some ⟨W.heap.size, 0, none⟩) n c) (W.alloc (.cells #[.int .u8 97] 5 (1, 2))) :=
          fun W n c => Go.Lib.run_convert_bytes_const (P := Try.prog) W 51 5 _ n c Try.underlying51 Try.underlying5
        clear hr hm hmq hr2 hL hC hb1 hb2 hn hQ hL2 hl h60 hi hlt e1 e2 hl2 hq1 hle e3
        go_wp2_with (first
          | (go_at_call 30; first
              | ((with_reducible refine (HC.out _ HT.out).mono ?_); rintro e w5 ⟨rfl, hP⟩; obtain ⟨u1, u2, hT, hb, hs, _⟩ := hP; have HT5 : Aside0 (Tp w.heap.size g u1 u2 r2 [] w5) := ⟨hT⟩; have HB := Aside0.mk (HB.out.trans hb); clear hT hb hs)
              | ((with_reducible refine (crash_none _ _).mono ?_); rintro e w9 ⟨rfl, rfl⟩))
          | (go_at_call 27; first
              | ((with_reducible refine (bytes_r HT5.out HR2.out HL2.out).mono ?_); rintro e w6 ⟨Az, cz, rfl, hcz, hC, hb⟩; have hcv := Kd.C_string (P := Try.prog) (c := cz) Try.underlying51 Try.underlying5 Try.underlying9 hC; rw [HLL.out, HB2.out] at hcv; rw [HLL.out]; have HT6 := Aside0.mk (HT5.out.below hb); have HB := Aside0.mk (below_step HB.out hb); clear hC hcz hb)
              | ((with_reducible refine (bytes_none _).mono ?_); rintro e w9 ⟨Az, cz, rfl, hcz, hC, hb⟩; have HB := Aside0.mk (below_step HB.out hb); clear hcz hC hb))
          | (go_at_call 29; first
              | ((with_reducible refine (sure_r HT6.out HLL.out).mono ?_); rintro e w7 ⟨rfl, hb⟩; have HB := Aside0.mk (below_step HB.out hb); clear hb)
              | ((with_reducible refine (sure_none _).mono ?_); rintro e w9 ⟨rfl, rfl⟩))
          | (go_at_call 31; (with_reducible refine (write_none _ _).mono ?_); rintro e w8 ⟨rfl, rfl⟩)
          | (go_at_call 32; (with_reducible refine (sync_none _).mono ?_); rintro e w8 ⟨rfl, hb⟩; have HB := Aside0.mk (below_step (below_alloc HB.out _) hb); clear hb)
          | (go_at_call 28; (with_reducible refine (len_none _).mono ?_); rintro e w8 ⟨rfl, hb⟩; have HB := Aside0.mk (below_step HB.out hb); clear hb)
          | (go_at_call 33; (with_reducible refine (cut_none _ _).mono ?_); rintro e w8 ⟨rfl, rfl⟩)
          | (go_at_call 23; (with_reducible refine (alive11s _).mono ?_); rintro e w6 ⟨rfl, hb⟩; have HB := Aside0.mk (below_step HB.out hb); clear hb))
        go_ret
        exact ⟨rfl, HB.out⟩
end Go.Proofs.Ytajgillnkkkgjaa.P
end
section
/- The law TapeSure: what it gives for each argument. -/
namespace Go.Proofs.Ytajgillnkkkgjaa.P
open Go.RowKit Go.Proofs.YtajgillnkkkgjaaW.PrintWords Go.Proofs.YtajgillnkkkgjaaW.PrintLast Go.Proofs.YtajgillnkkkgjaaW.PrintMore Go.Proofs.Ytajgillnkkkgjaa.H Go.Proofs.Ytajgillnkkkgjaa.Pure Go.Proofs.Ytajgillnkkkgjaa.B
set_option linter.unusedVariables false
set_option linter.unusedSimpArgs false
set_option maxHeartbeats 1000000 in
set_option maxRecDepth 100000 in
theorem sure_out (kf : Nat) (A0 : Option Addr) (c0 : Nat) (l : List S55) (keep : Int) (w : World) (h0 : Kd.C k55 w A0 l.length l) (hc0 : l.length ≤ c0) (hfew : tallymanref11_Few.f kf l 60 = some false) :
    Calls Try.prog 6 #[.slice A0 l.length c0, .int .i64 keep] w fun e w' => e = .returned (.bool true) ∧ Below w.heap.size w w' := by
  have H0 := Aside0.mk h0; clear h0
  have HFEW := Aside0.mk hfew; clear hfew
  go_enter Try.func6, Try.ntmps6
  go_wp2_with (first
    | (go_at_call 22; (with_reducible refine (tallymanref11_Few.calls kf A0 c0 l 60 false _ H0.out hc0 HFEW.out).mono ?_); rintro e w0 ⟨rfl, hd⟩; have HB0 := Aside0.mk hd.below; clear hd)
    | (go_at_call 23; (with_reducible refine (alive11s _).mono ?_); rintro e w6 ⟨rfl, hb⟩; have HB6 := Aside0.mk (below_step HB0.out hb); clear hb))
  go_ret
  exact ⟨rfl, HB6.out⟩
set_option maxRecDepth 100000 in
theorem Tr55s : ∃ Wf, TR.Tr Try.prog 47 (Kd.slice 55 k55) Wf := ⟨_, TR.Tr_slice Try.underlying47 (by kernel_rfl) (TR.Tr_iso (fun x : S55 => (x.f0, x.f1, x.f2)) (fun p => ⟨p.1, p.2.1, p.2.2⟩) (fun _ => rfl) (TR.Tr_struct (s := 3) Try.underlying55 (by kernel_rfl) (TR.Fs_cons (s := 1) rfl (by kernel_rfl) (TR.Tr_int Try.underlying3) (TR.Fs_cons (s := 1) rfl (by kernel_rfl) (TR.Tr_int Try.underlying3) (TR.Fs_one (s := 1) rfl (by kernel_rfl) (TR.Tr_slice Try.underlying51 (by kernel_rfl) (TR.Tr_int Try.underlying5)))))))⟩
def tallymanlaw11_TapeSure.Pure : Prop := True
theorem tallymanlaw11_TapeSure.walk (P : tallymanlaw11_TapeSure.Pure) (a0 : Option Addr) (len0 cap0 : Nat) (a1 : Int) (w : World) {H : Type} {enc : TypeId × Value → H} {d : DataW H} {p : List MemPlace} (h0 : DataW.Trod enc Try.prog w 0 (fun _ => true) true 47 (.slice a0 len0 cap0) d p) (w1 : (Lit.int .i64 a1).wf = true) :
    Calls Try.prog 6 #[.slice a0 len0 cap0, .int .i64 a1] w fun e w' => e = .returned (.bool true) ∧ Below w.heap.size w w' := by
  obtain ⟨fuel, hf⟩ := h0
  obtain ⟨Wf, hT⟩ := Tr55s
  obtain ⟨l, ⟨A, c, e, hc, hC⟩, hw⟩ := hT _ _ _ _ _ _ hf
  simp [Value.cells] at e
  obtain ⟨rfl, rfl, rfl⟩ := e
  obtain ⟨k, hk⟩ := few11 l
  by_cases h8 : l.length ≤ 60
  · by_cases h60 : ∀ x ∈ l, x.f2.length ≤ 60
    · rw [decide_eq_true h8, show (l.all fun x => decide (x.f2.length ≤ 60)) = true by simpa using h60] at hk
      exact sure_path k _ _ l a1 w hC hc h8 h60 hk
    · rw [show (l.all fun x => decide (x.f2.length ≤ 60)) = false by rw [← Bool.not_eq_true]; simpa using h60, Bool.and_false] at hk
      exact sure_out k _ _ l a1 w hC hc hk
  · rw [decide_eq_false h8, Bool.false_and] at hk
    exact sure_out k _ _ l a1 w hC hc hk
end Go.Proofs.Ytajgillnkkkgjaa.P
end
section
namespace Go.Proofs.Ytajgillnkkkgjaa.Pure
open Go.RowKit Go.Proofs.Ytajgillnkkkgjaa.P Go.Proofs.YtajgillnkkkgjaaW.PrintWords Go.Proofs.YtajgillnkkkgjaaW.PrintLast
/-- The walk needs nothing else. -/
theorem TapeSure : tallymanlaw11_TapeSure.Pure := trivial
end Go.Proofs.Ytajgillnkkkgjaa.Pure
end
