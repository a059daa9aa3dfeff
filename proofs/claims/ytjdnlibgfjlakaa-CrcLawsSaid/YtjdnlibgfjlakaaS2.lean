import Derived.Test.YtjdnlibgfjlakaaS1
import Derived.Test.YtjdnlibgfjlakaaH
import Derived.Scope
import Derived.Laws.Tables
import Derived.Laws.CopyOwn
namespace Go.Proofs.Ytjdnlibgfjlakaa.P
open Go.RowKit Go.Proofs.YtjdnlibgfjlakaaW.PrintWords Go.Proofs.YtjdnlibgfjlakaaW.PrintLast Go.Proofs.YtjdnlibgfjlakaaW.PrintMore Go.Proofs.Ytjdnlibgfjlakaa.H
set_option linter.unusedVariables false
set_option linter.unusedSimpArgs false
def zArr : Array Value := Array.replicate 256 (.int .u32 0)
theorem info49 : (Try.prog.info? 49).map (fun i => (i.zero, i.size, i.bytes)) = some (some (.agg zArr), 256, 1024) := by kernel_rfl
theorem zero49 (w : World) : (zeroValue 49).run Try.prog w = .ok (.agg zArr) w := by
  obtain ⟨i, hi, hz, hs, hb⟩ := info_parts info49
  simp [zeroValue, typeInfo, hi, hz]
theorem cells49 : (Value.agg zArr).cells = zArr := rfl
/-- One turn of the register. -/
def crcStep (x : Int) : Int := bits .xor .u32 (x / 2) (bits .and .u32 3988292384 ((-(bits .and .u32 x 1)) % 4294967296))
def crcSteps : Nat → Int → Int
  | 0, x => x
  | n + 1, x => crcSteps n (crcStep x)
def tabL (j : Nat) : List Value := (List.range 256).map fun i => Value.int .u32 (if i < j then crcSteps 8 i else 0)
theorem tabL_len (j : Nat) : (tabL j).length = 256 := by simp [tabL]
theorem tabL_zero : (tabL 0).toArray = zArr := by
  unfold tabL zArr
  apply Array.ext (by simp)
  intro i h1 h2
  simp
theorem tabL_set (j : Nat) (h : j < 256) : (tabL j).set j (Value.int .u32 (crcSteps 8 j)) = tabL (j + 1) := by
  apply List.ext_getElem (by simp [tabL_len])
  intro i h1 h2
  simp only [tabL_len] at h2
  rw [List.getElem_set]
  simp only [tabL, List.getElem_map, List.getElem_range]
  by_cases e : j = i
  · subst e; rw [if_pos rfl, if_pos (by omega)]
  · rw [if_neg e]
    by_cases h3 : i < j
    · rw [if_pos h3, if_pos (by omega)]
    · rw [if_neg h3, if_neg (by omega)]
set_option maxHeartbeats 1000000 in
set_option maxRecDepth 100000 in
theorem table_calls (w : World) : Calls Try.prog 33 #[] w fun e w' => e = .returned (.agg (tabL 256).toArray) ∧ Below w.heap.size w w' := by
  have hz := zero49
  have hc := cells49
  go_enter Try.func33, Try.ntmps33
  go_wp2
  go_loopw [5] (fun v5 wr => ∃ j : Nat, j ≤ 256 ∧ v5 = .int .i64 j ∧ Aside0 (wr.heap[w.heap.size + 1]? = some (.cells (tabL j).toArray 49 (0, 0))) ∧ Aside0 (wr.heap[w.heap.size]? = some (.cells zArr 49 (0, 0))) ∧ Aside0 (Below w.heap.size w wr)) (fun v5 _ => 256 - (intOf v5).toNat)
  case atStart =>
    refine ⟨0, by omega, rfl, ⟨?_⟩, ⟨?_⟩, ⟨below_alloc (below_alloc (Below.refl _ _) _) _⟩⟩
    · rw [tabL_zero]
      have := blk_new (w.alloc (.cells zArr 49)) (.cells zArr 49)
      simpa using this
    · exact blk_alloc (blk_new _ _) _
  case round =>
    obtain ⟨j, hj, rfl, HC, HZ, HB⟩ := hrel
    by_cases hlt : j < 256
    · have hcell : wr.cell? ⟨w.heap.size + 1, j, none⟩ = some ((tabL j).getD j undef) := by
        rw [blk_cell HC.out]
        have : j < (tabL j).length := by rw [tabL_len]; omega
        simp [this]
      have hfr := blk_frozen HC.out j
      go_wp2
      refine wp_scope_enter 0 rfl ?_
      go_wp2
      go_step3
      simp only [Exit.then]
      rename_i hk
      refine hk _ _ ?_
      clear hk
      refine wp_label_slots 0 (by rfl) ([3, 4, 10, 11, 12, 13, 14, 15, 16, 17, 18, 19, 20, 21, 22, 23] : List Nat) (fun n us wx => ∃ (m : Nat) (x : Int), 1 ≤ m ∧ m ≤ 8 ∧ Aside0 (n = m) ∧ us.getD 0 undef = .int .u32 x ∧ us.getD 1 undef = .int .i64 m ∧ Aside0 (crcSteps m x = crcSteps 8 j) ∧ wr = wx) 8 ?_ ?_
      · exact ⟨8, j, by omega, by omega, ⟨rfl⟩, rfl, rfl, ⟨rfl⟩, rfl⟩
      · rintro n us wx hl ⟨m, x, hm1, hm8, HN, h5, h6, HU, rfl⟩ J K hJ hK
        simp only [List.length_cons, List.length_nil] at hl
        match us, hl with
        | u3 :: u4 :: u10 :: u11 :: u12 :: u13 :: u14 :: u15 :: u16 :: u17 :: u18 :: u19 :: u20 :: u21 :: u22 :: u23 :: [], _ =>
        rename_i hx; clear hx
        simp only [List.getD_cons_succ, List.getD_cons_zero] at h5 h6
        subst h5 h6
        simp only [putS, Act.put, List.setIfInBounds_toArray, List.set_cons_zero, List.set_cons_succ]
        have hJ2 := fun (k : Nat) (v3 v4 v10 v11 v12 v13 v14 v15 v16 v17 v18 v19 v20 v21 v22 v23 : Value) (w' : World) => hJ k (v3 :: v4 :: v10 :: v11 :: v12 :: v13 :: v14 :: v15 :: v16 :: v17 :: v18 :: v19 :: v20 :: v21 :: v22 :: v23 :: []) _ w' rfl rfl
        clear hJ
        simp only [putS, Act.put, List.setIfInBounds_toArray, List.set_cons_zero, List.set_cons_succ] at hJ2
        have HJ := Aside0.mk hJ2; clear hJ2
        have HK := Aside0.mk hK; clear hK
        by_cases h1 : m = 1
        · subst h1
          go_wp2
          simp only [Exit.jump]
          go_wp2
          go_roundw
          case rel =>
            refine ⟨j + 1, by omega, by go_num, ⟨?_⟩, ⟨?_⟩, ⟨below_set HB.out (by omega)⟩⟩
            · refine blk_put HC.out _ _ ?_
              rw [List.setIfInBounds_toArray, ← tabL_set j hlt, ← HU.out]
              rfl
            · exact blk_far HZ.out (by simp) _
          case measure => simp [intOf]; omega
        · have h2 : 2 ≤ m := by omega
          clear h1
          obtain ⟨m', hm'⟩ : ∃ m', m = m' + 1 := ⟨m - 1, by omega⟩
          subst hm'
          have e1 : (((m' + 1 : Nat) : Int) - 1) = (m' : Int) := by omega
          go_wp2
          go_step3
          refine ⟨rfl, HK.out _ _ (Handed.intro m' ?_ (HJ.out _ _ _ _ _ _ _ _ _ _ _ _ _ _ _ _ _ _ ⟨m', crcStep x, by omega, by omega, ⟨rfl⟩, rfl, by rw [← e1]; rfl, ⟨HU.out⟩, rfl⟩))⟩
          have := HN.out; omega
    · obtain rfl : j = 256 := by omega
      have hu : (Try.prog.underlying 49) = some (.array 256 28) := by kernel_rfl
      have hsz : (Try.prog.info? 49).map (·.size) = some 256 := by kernel_rfl
      have hlen : (tabL 256).toArray.size = 256 := by simp [tabL_len]
      have Hu := Aside0.mk hu; clear hu
      have Hsz := Aside0.mk hsz; clear hsz
      have Hl := Aside0.mk hlen; clear hlen
      go_wp2_with (first | (refine wpList_store_row rfl 49 (.tmp 0) (.tmp 25) rfl w.heap.size (tabL 256).toArray rfl rfl 49 zArr HZ.out (by rw [Hl.out]; exact Hsz.out) (by rw [Hl.out]; simp [zArr]) (by simp [tabL, Array.all_eq_true]; intros; rfl) ?_) | (refine wpList_load_row rfl 49 (.tmp 1) rfl (w.heap.size + 1) rfl 49 (tabL 256).toArray (0, 0) _ HC.out Hu.out rfl (by rw [Hl.out]; exact Hsz.out) ?_))
      have hg := setRow_heap wr w.heap.size zArr (tabL 256).toArray 49 (0, 0) HZ.out
      (try simp only [Act.put, List.setIfInBounds_toArray, List.set_cons_zero, List.set_cons_succ])
      refine bodyPost_ret (v := .agg (tabL 256).toArray) ?hr rfl ⟨rfl, below_setRow HB.out (Nat.le_refl _) _⟩
      exact results_cell_row (P := Try.prog) rfl _ _ w.heap.size 49 (tabL 256).toArray (0, 0) _ rfl hg Hu.out rfl (by rw [Hl.out]; exact Hsz.out)
end Go.Proofs.Ytjdnlibgfjlakaa.P
