/- Stub: the law's 'alive' is true. -/
import Derived.Test.YtjdnlibgfjlakaaS5
import Derived.Test.YtjdnlibgfjlakaaF17
import Derived.Lib.SlBytesConst
namespace Go.Proofs.Ytjdnlibgfjlakaa.P
open Go.RowKit Go.Proofs.YtjdnlibgfjlakaaW.PrintWords Go.Proofs.YtjdnlibgfjlakaaW.PrintLast Go.Proofs.YtjdnlibgfjlakaaW.PrintMore
set_option linter.unusedVariables false
set_option linter.unusedSimpArgs false
theorem str_eq9 {xs : List Int} {s : ByteArray} (h : strOfNums xs = s) {P : Program} {w : World} {t A n c} (hc : (convert t 9 (.slice A n c)).run P w = .ok (.string (strOfNums xs)) w) : (convert t 9 (.slice A n c)).run P w = .ok (.string s) w := h ▸ hc
theorem C_const9 (w : World) (l : List Int) (hl : l.length ≤ 9223372036854775807) (cs : Array Value) (hcs : cs = (l.map (Value.int .u8)).toArray) (fr : Nat × Nat) : Kd.C (Kd.int .u8) (w.alloc (.cells cs 5 fr)) (some ⟨w.heap.size, 0, none⟩) l.length l := by
  subst hcs
  refine C_of_cells hl ?_
  intro j u hj
  rw [add_plain', cell_of_row _ _ _ _ _ _ (heap_alloc_new w _)]
  simpa using hj
def tallymanlaw09_alive.f : Option Bool := some true
set_option maxHeartbeats 1000000 in
theorem tallymanlaw09_alive.calls (r : Bool) (w : World) (h : tallymanlaw09_alive.f = some r) :
    Calls Try.prog 16 #[] w fun e w' => e = .returned (.bool r) ∧ Below w.heap.size w w' := by
  obtain rfl : true = r := Option.some.inj h
  clear h
  have hc1 : ∀ (W : World) (n c : Nat), (convert 27 27 (.slice (some ⟨W.heap.size, 0, none⟩) n c)).run Try.prog (W.alloc (.cells #[.int .u8 49, .int .u8 50, .int .u8 51, .int .u8 52, .int .u8 53, .int .u8 54, .int .u8 55, .int .u8 56, .int .u8 57] 5)) = .ok (.slice (some ⟨W.heap.size, 0, none⟩) n c) (W.alloc (.cells #[.int .u8 49, .int .u8 50, .int .u8 51, .int .u8 52, .int .u8 53, .int .u8 54, .int .u8 55, .int .u8 56, .int .u8 57] 5 (9, 10))) :=
    fun W n c => Go.Lib.run_convert_bytes_const (P := Try.prog) W 27 5 _ n c Try.underlying27 Try.underlying5
  have hc2 : ∀ (W : World) (n c : Nat), (convert 27 27 (.slice (some ⟨W.heap.size, 0, none⟩) n c)).run Try.prog (W.alloc (.cells #[.int .u8 97] 5)) = .ok (.slice (some ⟨W.heap.size, 0, none⟩) n c) (W.alloc (.cells #[.int .u8 97] 5 (1, 2))) :=
    fun W n c => Go.Lib.run_convert_bytes_const (P := Try.prog) W 27 5 _ n c Try.underlying27 Try.underlying5
  have s1 : crc_Sum.f [49, 50, 51, 52, 53, 54, 55, 56, 57] = some 3421780262 := by decide +kernel
  have s2 : crc_Sum.f [] = some 0 := by decide +kernel
  have s3 : crc_Flip.f [97] 1 1 = some [99] := by decide +kernel
  have k1 : ∀ W : World, Calls Try.prog 17 #[.slice (some ⟨W.heap.size, 0, none⟩) 9 9] (W.alloc (.cells #[.int .u8 49, .int .u8 50, .int .u8 51, .int .u8 52, .int .u8 53, .int .u8 54, .int .u8 55, .int .u8 56, .int .u8 57] 5 (9, 10))) (fun e w' => e = .returned (.int .u32 3421780262) ∧ Below (W.alloc (.cells #[.int .u8 49, .int .u8 50, .int .u8 51, .int .u8 52, .int .u8 53, .int .u8 54, .int .u8 55, .int .u8 56, .int .u8 57] 5 (9, 10))).heap.size (W.alloc (.cells #[.int .u8 49, .int .u8 50, .int .u8 51, .int .u8 52, .int .u8 53, .int .u8 54, .int .u8 55, .int .u8 56, .int .u8 57] 5 (9, 10))) w') :=
    fun W => crc_Sum.calls _ 9 [49, 50, 51, 52, 53, 54, 55, 56, 57] 3421780262 _ (C_const9 W [49, 50, 51, 52, 53, 54, 55, 56, 57] (by decide) _ rfl _) (by decide) s1
  have k2 : ∀ W : World, Calls Try.prog 17 #[.slice none 0 0] W (fun e w' => e = .returned (.int .u32 0) ∧ Below W.heap.size W w') := fun W => crc_Sum.calls none 0 [] 0 W (Kd.C_nil _ _) (Nat.le_refl _) s2
  have k3 : ∀ W : World, Calls Try.prog 22 #[.slice (some ⟨W.heap.size, 0, none⟩) 1 1, .int .i64 1, .int .u32 1] (W.alloc (.cells #[.int .u8 97] 5 (1, 2))) (fun e w' => ∃ v0_ : Value, e = .returned (v0_) ∧ Kd.R (Kd.int .u8) 5 w' (W.alloc (.cells #[.int .u8 97] 5 (1, 2))).heap.size (fun _ => True) v0_ [99] ∧ Below (W.alloc (.cells #[.int .u8 97] 5 (1, 2))).heap.size (W.alloc (.cells #[.int .u8 97] 5 (1, 2))) w') :=
    fun W => crc_Flip.calls _ 1 [97] 1 1 [99] _ (C_const9 W [97] (by decide) _ rfl _) (by decide) s3
  clear s1 s2 s3
  have K1 := Aside0.mk k1; clear k1
  have K2 := Aside0.mk k2; clear k2
  have K3 := Aside0.mk k3; clear k3
  go_enter Try.func16, Try.ntmps16
  go_wp2_with (first
    | (go_at_call 17; (first | (with_reducible refine (K1.out _).mono ?_) | (with_reducible refine (K2.out _).mono ?_)); rintro e w1 ⟨rfl, hB⟩; first | (have HB1 := Aside0.mk (below_step (below_alloc (Below.refl w.heap.size w) _) hB)) | (have HB2 := Aside0.mk (below_step HB1.out hB); clear HB1); clear hB)
    | (go_at_call 22; (with_reducible refine (K3.out _).mono ?_); rintro e w4 ⟨v, rfl, hR, hB4⟩; have HB4 := Aside0.mk hB4; clear hB4; obtain ⟨A4, c4, rfl⟩ := Kd.R_slice hR;
       have hcv4 := str_eq9 (s := ⟨#[99]⟩) (by rfl) (Kd.C_string (P := Try.prog) (n := 1) (c := c4) Try.underlying27 Try.underlying5 Try.underlying9 (Kd.R_reads' hR).2.2); clear hR))
  go_ret
  exact ⟨rfl, below_step (below_alloc HB2.out _) HB4.out⟩
end Go.Proofs.Ytjdnlibgfjlakaa.P
