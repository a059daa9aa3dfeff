import Derived.Test.YtjdnlibgfjlakaaS2
namespace Go.Proofs.Ytjdnlibgfjlakaa.P
open Go.RowKit Go.Proofs.YtjdnlibgfjlakaaW.PrintWords Go.Proofs.YtjdnlibgfjlakaaW.PrintLast Go.Proofs.YtjdnlibgfjlakaaW.PrintMore Go.Proofs.Ytjdnlibgfjlakaa.H
set_option linter.unusedVariables false
set_option linter.unusedSimpArgs false
def crcByte (w x : Int) : Int := bits .xor .u32 (crcSteps 8 (bits .xor .u8 (w % 256) x)) (w / 256)
def crcInv (x : Int) : Int := bits .xor .u32 IntKind.u32.max x
def crc_More.f (a0 : Int) (l1 : List Int) : Option (Int) := if 0 ≤ a0 ∧ a0 ≤ 4294967295 then some (crcInv (l1.foldl crcByte (crcInv a0))) else none
theorem byte_range (w x : Int) : 0 ≤ bits .xor .u8 (w % 256) x ∧ bits .xor .u8 (w % 256) x < 256 := by
  simp only [bits, IntKind.wrap, IntKind.signed, Bool.false_and, Bool.false_eq_true, if_false, IntKind.bits]
  omega
theorem fold_snoc (l : List Int) (i : Nat) (h : i < l.length) (a : Int) : (l.take (i + 1)).foldl crcByte a = crcByte ((l.take i).foldl crcByte a) (rd l i) := by
  rw [List.take_succ_eq_append_getElem h, List.foldl_append]
  have : rd l (i : Int) = l[i] := by rw [rd, List.getD_eq_getElem?_getD, Int.toNat_natCast, List.getElem?_eq_getElem h]; rfl
  rw [this]; rfl
set_option maxHeartbeats 1000000 in
set_option maxRecDepth 100000 in
theorem crc_More.calls (a0 : Int) (A1 : Option Addr) (c1 : Nat) (l1 : List Int) (r : Int) (w : World) (hr1 : Kd.C (Kd.int .u8) w A1 l1.length l1) (hc1 : l1.length ≤ c1) (h : crc_More.f a0 l1 = some r) :
    Calls Try.prog 19 #[.int .u32 a0, .slice A1 l1.length c1] w fun e w' => e = .returned (.int .u32 r) ∧ Below w.heap.size w w' := by
  unfold crc_More.f at h
  split at h
  case isFalse => cases h
  rename_i hb
  obtain ⟨hb0, hb1⟩ := hb
  have hr := Option.some.inj h
  have HF := Aside0.mk hr; clear h hr
  have HR := Aside0.mk hr1; clear hr1
  have hlen := HR.out.2.1
  have hz := zero49
  have hc := cells49
  have hsz : (Try.prog.info? 49).map (·.size) = some 256 := by kernel_rfl
  have hl : (tabL 256).toArray.size = 256 := by simp [tabL_len]
  have Hsz := Aside0.mk hsz; clear hsz
  have Hl := Aside0.mk hl; clear hl
  have hsg : IntKind.u32.signed = false := rfl
  go_enter Try.func19, Try.ntmps19
  go_wp2_with (first | (go_at_call 33; refine (table_calls _).mono ?_; rintro e w1 ⟨rfl, hB1⟩; have HB1 := Aside0.mk hB1; clear hB1) | (refine wpList_store_row rfl 49 (.tmp 5) (.tmp 9) rfl w1.heap.size (tabL 256).toArray rfl rfl 49 zArr (blk_new _ _) (by rw [Hl.out]; exact Hsz.out) (by rw [Hl.out]; simp [zArr]) (by simp [tabL, Array.all_eq_true]; intros; rfl) ?_))
  have HT0 := setRow_heap (w1.alloc (.cells zArr 49)) w1.heap.size zArr (tabL 256).toArray 49 (0, 0) (blk_new _ _)
  have HB0 := below_setRow (below_alloc HB1.out (.cells zArr 49)) HB1.out.size (tabL 256).toArray
  generalize hW : (w1.alloc (.cells zArr 49)).setRow w1.heap.size (tabL 256).toArray = W2 at HT0 HB0 ⊢
  clear hW
  have HT := Aside0.mk HT0; clear HT0
  have HB := Aside0.mk HB0; clear HB0 HB1
  have HR2 := Aside0.mk (Kd.C_below HR.out HB.out)
  go_loop [6, 14] (fun v6 v14 => ∃ i : Nat, i ≤ l1.length ∧ v14 = .int .i64 i ∧ v6 = .int .u32 ((l1.take i).foldl crcByte (crcInv a0))) (fun _ v14 => l1.length - (intOf v14).toNat)
  case atStart => exact ⟨0, by omega, rfl, rfl⟩
  case round =>
    obtain ⟨i, hi, rfl, rfl⟩ := hrel
    by_cases hlt : i < l1.length
    · obtain ⟨ad, hA, hcell⟩ := Kd.at_int HR2.out i (by omega) (by omega)
      subst hA
      rw [Int.toNat_natCast] at hcell
      obtain ⟨x, hx⟩ : ∃ x, x = rd l1 i := ⟨_, rfl⟩
      have hsn := fold_snoc l1 i hlt (crcInv a0)
      rw [← hx] at hcell hsn
      have HX := Aside0.mk hx; clear hx
      have HS := Aside0.mk hsn; clear hsn
      obtain ⟨v, hv⟩ : ∃ v, v = (l1.take i).foldl crcByte (crcInv a0) := ⟨_, rfl⟩
      rw [← hv] at HS ⊢
      have HV := Aside0.mk hv; clear hv
      obtain ⟨hr0, hr1⟩ := byte_range v x
      obtain ⟨q, hq⟩ : ∃ q : Nat, bits .xor .u8 (v % 256) x = (q : Int) := ⟨_, (Int.toNat_of_nonneg hr0).symm⟩
      have hq256 : q < 256 := by omega
      have hcell2 : W2.cell? ⟨w1.heap.size, q, none⟩ = some (.int .u32 (crcSteps 8 q)) := by
        rw [blk_cell HT.out]
        simp [tabL, hq256]
      clear hr0 hr1
      go_wp2
      go_round
      case rel => exact ⟨i + 1, by omega, by go_num, by rw [HS.out, crcByte, hq]⟩
      case measure => simp [intOf]; omega
    · obtain rfl : i = l1.length := by omega
      go_wp2
      go_ret
      refine ⟨?_, HB.out⟩
      rw [← HF.out]
      simp [crcInv]
end Go.Proofs.Ytjdnlibgfjlakaa.P
