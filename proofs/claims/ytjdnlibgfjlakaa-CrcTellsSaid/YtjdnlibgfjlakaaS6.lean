/- Stub: the law's 'alive' is true. -/
import Derived.Test.YtjdnlibgfjlakaaS1
import Derived.Test.YtjdnlibgfjlakaaS4
import Derived.Test.YtjdnlibgfjlakaaF11
import Derived.Test.YtjdnlibgfjlakaaF13
import Derived.Lib.SlBytesConst
namespace Go.Proofs.Ytjdnlibgfjlakaa.P
open Go.RowKit Go.Proofs.YtjdnlibgfjlakaaW.PrintWords Go.Proofs.YtjdnlibgfjlakaaW.PrintLast Go.Proofs.YtjdnlibgfjlakaaW.PrintMore
set_option linter.unusedVariables false
set_option linter.unusedSimpArgs false
theorem str_eq {xs : List Int} {s : ByteArray} (h : strOfNums xs = s) {P : Program} {w : World} {t A n c} (hc : (convert t 9 (.slice A n c)).run P w = .ok (.string (strOfNums xs)) w) : (convert t 9 (.slice A n c)).run P w = .ok (.string s) w := h ▸ hc
theorem C_const (w : World) (x : Int) : Kd.C (Kd.int .u8) (w.alloc (.cells #[.int .u8 x] 5 (1, 2))) (some ⟨w.heap.size, 0, none⟩) 1 [x] := by
  refine C_of_cells (l := [x]) (by simp) ?_
  intro j u hj
  rw [add_plain', cell_of_row _ _ _ _ _ _ (heap_alloc_new w _)]
  simpa using hj
theorem V_of_C {w : World} {A : Option Addr} {c : Nat} {l : List Int} (hc : l.length ≤ c) (h : Kd.C (Kd.int .u8) w A l.length l) : Kd.V (Kd.int .u8) 5 w w.heap.size (fun _ => True) (.slice A l.length c) l :=
  ⟨_, _, rfl, hc, fun W_ hW_ => (Kd.heap_int _).C (fun k_ hk_ => hW_ k_ trivial hk_) h⟩
def tallymanlaw08_alive.f : Option Bool := some true
set_option maxHeartbeats 1000000 in
theorem tallymanlaw08_alive.calls (r : Bool) (w : World) (h : tallymanlaw08_alive.f = some r) :
    Calls Try.prog 15 #[] w fun e w' => e = .returned (.bool r) ∧ Below w.heap.size w w' := by
  obtain rfl : true = r := Option.some.inj h
  clear h
  have hconst := fun (W : World) (n c : Nat) => Go.Lib.run_convert_bytes_const (P := Try.prog) W 27 5 #[.int .u8 97] n c Try.underlying27 Try.underlying5
  have hconst2 : ∀ (W : World) (m n c : Nat), (convert 27 27 (.slice (some ⟨W.heap.size, 0, none⟩) n c)).run Try.prog ((W.drewN m).alloc (.cells #[.int .u8 97] 5)) = .ok (.slice (some ⟨W.heap.size, 0, none⟩) n c) ((W.drewN m).alloc (.cells #[.int .u8 97] 5 (1, 2))) := fun W m n c => Go.Lib.run_convert_bytes_const (P := Try.prog) (W.drewN m) 27 5 #[.int .u8 97] n c Try.underlying27 Try.underlying5
  clear hconst
  go_enter Try.func15, Try.ntmps15
  go_wp2_with (first
    | (go_at_call 30; (refine (pack_Var.calls 0 none 0 [] 300 [172, 2] _ (Kd.C_nil _ _) (Nat.le_refl _) (by decide +kernel)).mono ?_); rintro e w1 ⟨v, rfl, hR, hB⟩; obtain ⟨A1, c1, rfl⟩ := Kd.R_slice hR;
       have hcv := str_eq (s := ⟨#[172, 2]⟩) (by rfl) (Kd.C_string (P := Try.prog) (n := 2) (c := c1) Try.underlying27 Try.underlying5 Try.underlying9 (Kd.R_reads' hR).2.2); clear hR)
    | (go_at_call 11; refine (pack_Zig.calls (-3) 5 _ (by decide +kernel)).mono ?_; rintro e w2 ⟨rfl, ⟨n2, rfl⟩⟩)
    | (go_at_call 13; refine (pack_Unzig.calls 6 3 _ (by decide +kernel)).mono ?_; rintro e w3 ⟨rfl, ⟨n3, rfl⟩⟩)
    | (go_at_call 26; go_loud (refine (pack_Put.calls (fun _ => True) _ 1 [97] 515 2 [97, 2, 3] _ (V_of_C (l := [97]) (by simp) (C_const _ _)) (by decide +kernel)).mono ?_); rintro e w4 ⟨v, rfl, hR, hB4⟩; obtain ⟨A4, c4, rfl⟩ := Kd.V_slice hR;
       have hcv4 := str_eq (s := ⟨#[97, 2, 3]⟩) (by rfl) (Kd.C_string (P := Try.prog) (n := 3) (c := c4) Try.underlying27 Try.underlying5 Try.underlying9 (Kd.V_reads' hR).2.2); clear hR))
  go_ret
  exact ⟨rfl, below_step (below_alloc (pw_below_drewN hB _) _) hB4⟩
end Go.Proofs.Ytjdnlibgfjlakaa.P
