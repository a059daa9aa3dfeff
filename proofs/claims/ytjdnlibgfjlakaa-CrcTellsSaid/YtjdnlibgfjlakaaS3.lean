import Derived.Test.YtjdnlibgfjlakaaS1
import Derived.Test.YtjdnlibgfjlakaaH
import Derived.Scope
namespace Go.Proofs.Ytjdnlibgfjlakaa.P
open Go.RowKit Go.Proofs.YtjdnlibgfjlakaaW.PrintWords Go.Proofs.YtjdnlibgfjlakaaW.PrintLast Go.Proofs.YtjdnlibgfjlakaaW.PrintMore Go.Proofs.Ytjdnlibgfjlakaa.H
set_option linter.unusedVariables false
set_option linter.unusedSimpArgs false
/-- The short form behind index i, as the code reads it. -/
def vacc (W b : Int) (i : Nat) : Int := bits .or .u64 W (IntKind.u64.wrap (IntKind.u64.wrap (bits .and .u8 b 127) * 2 ^ (7 * i)))
def unv : List Int → Nat → Int → Int × List Int × Int
  | [], _, _ => (0, [], 4)
  | b :: l, i, W => if (i = 9 ∧ 1 < b) ∨ (0 < i ∧ b = 0) then (0, [], 3) else
      if b < 128 then (vacc W b i, l, 0) else unv l (i + 1) (vacc W b i)
def pack_Unvar.f (k : Nat) (l0 : List Int) : Option (Int × List Int × Int) := if (∀ x ∈ l0, 0 ≤ x ∧ x ≤ 255) then some (unv l0 0 0) else none
theorem pack_Unvar.mono : ∀ a0 k, LeO (pack_Unvar.f k a0) (pack_Unvar.f (k + 1) a0) := fun _ _ _ h => h
def UnvarPost (P0_ : Nat → Prop) (w : World) (r1 : Int) (r2 : List Int) (r3 : Int) (e : Ending) (w' : World) : Prop := ∃ v1_ : Value, e = .returned (.tuple #[.int .u64 r1, v1_, .int .i64 r3]) ∧ Kd.V (Kd.int .u8) 5 w' w.heap.size (fun k_ => (P0_ k_ ∨ w.heap.size ≤ k_)) v1_ r2 ∧ Below w.heap.size w w'
theorem unvar_post {P0_ : Nat → Prop} {w : World} {ad : Addr} {l0 : List Int} {c0 i nq n' c' : Nat} {x : Int} {A' : Option Addr} (hs : Kd.V (Kd.int .u8) 5 w w.heap.size (fun k_ => P0_ k_) (.slice (some ad) l0.length c0) l0) (hi : i < l0.length)
    (hA : A' = if c0 = i + 1 then some ad else some (ad.add (i + 1))) (hn : n' = l0.length - (i + 1)) (hcc : c' = c0 - (i + 1)) : UnvarPost P0_ w x (l0.drop (i + 1)) 0 (.returned (.tuple #[.int .u64 x,   .slice A' n' c', .int .i64 0])) (w.drewN nq) := by
  have hc := (Kd.V_at hs).2.1
  have hF := Kd.F_cut (m := i + 1) (c := c0) (Kd.V_F (Kd.V_mono (ok' := fun k_ => (P0_ k_ ∨ w.heap.size ≤ k_)) (Kd.V_drewN hs nq) (fun _ h => Or.inl h))) (by omega) hc
  refine ⟨_, rfl, ⟨A', c0 - (i + 1), by rw [List.length_drop, hn, hcc], by rw [List.length_drop]; omega, ?_⟩, pw_below_drewN (Below.refl _ _) _⟩
  rw [hA]
  simp only [show (Kd.int IntKind.u8).sz = 1 from rfl, Nat.mul_one, Option.map_some] at hF
  exact hF
set_option maxHeartbeats 1000000 in
set_option maxRecDepth 100000 in
theorem pack_Unvar.calls (k : Nat) (P0_ : Nat → Prop) (A0 : Option Addr) (c0 : Nat) (l0 : List Int) (r1 : Int) (r2 : List Int) (r3 : Int) (w : World) (hs0 : Kd.V (Kd.int .u8) 5 w w.heap.size (fun k_ => P0_ k_) (.slice A0 l0.length c0) l0) (h : pack_Unvar.f k l0 = some (r1, r2, r3)) :
    Calls Try.prog 28 #[.slice A0 l0.length c0] w (UnvarPost P0_ w r1 r2 r3) := by
  have HS := Aside0.mk hs0; clear hs0
  have H := Aside0.mk h; clear h
  go_enter Try.func28, Try.ntmps28
  go_wp2
  refine wp_scope_enter 0 rfl ?_
  go_wp2
  go_step3
  simp only [Exit.then]
  rename_i hk
  refine hk _ _ ?_
  clear hk
  refine wp_label_slots 0 (by rfl) (List.range' 2 52) (fun n us wr => ∃ (i : Nat) (W : Int), i ≤ 9 ∧ i ≤ l0.length ∧ Aside0 (n = l0.length - i) ∧ us.getD 3 undef = .int .u64 W ∧ us.getD 4 undef = .int .i64 i ∧ Aside0 (unv (l0.drop i) i W = (r1, r2, r3)) ∧ w = wr) l0.length ?_ ?_
  · have hf : unv l0 0 0 = (r1, r2, r3) := by
      have h := H.out
      unfold pack_Unvar.f at h
      split at h
      · exact Option.some.inj h
      · cases h
    exact ⟨0, 0, by omega, by omega, ⟨rfl⟩, rfl, rfl, ⟨hf⟩, rfl⟩
  · rintro n us wr hl ⟨i, W, hi, hil, HN, h5, h6, HU, rfl⟩ J K hJ hK
    simp only [List.length_range'] at hl
    match us, hl with
    | u2 :: u3 :: u4 :: u5 :: u6 :: u7 :: u8 :: u9 :: u10 :: u11 :: u12 :: u13 :: u14 :: u15 :: u16 :: u17 :: u18 :: u19 :: u20 :: u21 :: u22 :: u23 :: u24 :: u25 :: u26 :: u27 :: u28 :: u29 :: u30 :: u31 :: u32 :: u33 :: u34 :: u35 :: u36 :: u37 :: u38 :: u39 :: u40 :: u41 :: u42 :: u43 :: u44 :: u45 :: u46 :: u47 :: u48 :: u49 :: u50 :: u51 :: u52 :: u53 :: [], _ =>
    simp only [List.getD_cons_succ, List.getD_cons_zero] at h5 h6
    subst h5 h6
    simp only [List.range', putS, Act.put, List.setIfInBounds_toArray, List.set_cons_zero, List.set_cons_succ]
    rename_i hx
    clear hx
    have hJ2 := fun (k : Nat) (v2 v3 v4 v5 v6 v7 v8 v9 v10 v11 v12 v13 v14 v15 v16 v17 v18 v19 v20 v21 v22 v23 v24 v25 v26 v27 v28 v29 v30 v31 v32 v33 v34 v35 v36 v37 v38 v39 v40 v41 v42 v43 v44 v45 v46 v47 v48 v49 v50 v51 v52 v53 : Value) (w' : World) => hJ k (v2 :: v3 :: v4 :: v5 :: v6 :: v7 :: v8 :: v9 :: v10 :: v11 :: v12 :: v13 :: v14 :: v15 :: v16 :: v17 :: v18 :: v19 :: v20 :: v21 :: v22 :: v23 :: v24 :: v25 :: v26 :: v27 :: v28 :: v29 :: v30 :: v31 :: v32 :: v33 :: v34 :: v35 :: v36 :: v37 :: v38 :: v39 :: v40 :: v41 :: v42 :: v43 :: v44 :: v45 :: v46 :: v47 :: v48 :: v49 :: v50 :: v51 :: v52 :: v53 :: []) _ w' rfl rfl
    clear hJ
    simp only [List.range', putS, Act.put, List.setIfInBounds_toArray, List.set_cons_zero, List.set_cons_succ] at hJ2
    have HJ := Aside0.mk hJ2; clear hJ2
    have HK := Aside0.mk hK; clear hK
    by_cases he : i = l0.length
    · have hb : ((i : Int) == (l0.length : Int)) = true := by rw [he]; simp
      have hfin : (r1, r2, r3) = (0, [], 4) := by rw [← HU.out, he, List.drop_length]; rfl
      have HF := Aside0.mk hfin; clear hfin
      clear he
      go_wp2
      simp only [Exit.jump]
      go_ret3
      have hF := HF.out
      simp only [Prod.mk.injEq] at hF
      obtain ⟨rfl, rfl, rfl⟩ := hF
      exact ⟨_, rfl, Kd.V_nil _ _ _ _ _, Below.refl _ _⟩
    · have hlt : i < l0.length := by omega
      have hb : ((i : Int) == (l0.length : Int)) = false := by simp; omega
      clear he
      obtain ⟨b, Hb⟩ : ∃ b, Aside0 (b = rd l0 i) := ⟨_, ⟨rfl⟩⟩
      have hC := (Kd.V_reads' HS.out).2.2
      obtain ⟨ad, hA, hcell⟩ := Kd.at_int hC i (by omega) (by omega)
      have hc0 := (Kd.V_at HS.out).2.1
      subst hA
      rw [Int.toNat_natCast, ← Hb.out] at hcell
      have hall : ∀ x ∈ l0, 0 ≤ x ∧ x ≤ 255 := by
        have h := H.out
        unfold pack_Unvar.f at h
        split at h
        · assumption
        · cases h
      have hdrop : l0.drop i = b :: l0.drop (i + 1) := by
        rw [Hb.out, List.drop_eq_getElem_cons hlt]
        simp [rd, hlt]
      have hbr : 0 ≤ b ∧ b ≤ 255 := hall b (by rw [Hb.out]; simp [rd, hlt])
      obtain ⟨hb0, hb1⟩ := hbr
      have hU := HU.out
      rw [hdrop, unv] at hU
      clear hall hC HU
      have HD := Aside0.mk hdrop; clear hdrop
      have c9f : i = 9 → ((i : Int) == 9) = true := fun h => by simp [h]
      have c9n : i ≠ 9 → ((i : Int) == 9) = false := fun h => by simp; omega
      by_cases ce : (i = 9 ∧ 1 < b) ∨ (0 < i ∧ b = 0)
      · rw [if_pos ce] at hU
        have hU := Aside0.mk hU
        by_cases c9 : i = 9
        · have g1 := c9f c9
          by_cases c1 : 1 < b
          · have g2 : decide (1 < b) = true := by simp [c1]
            clear ce c9f c9n c9
            go_wp2
            simp only [Exit.jump]
            go_ret3
            have hF := hU.out
            simp only [Prod.mk.injEq] at hF
            obtain ⟨rfl, rfl, rfl⟩ := hF
            exact ⟨_, rfl, Kd.V_nil _ _ _ _ _, Below.refl _ _⟩
          · have g2 : decide (1 < b) = false := by simp [c1]
            have g3 : decide (0 < i) = true := by simp; omega
            have g4 : (b == 0) = true := by simp; omega
            clear ce c9f c9n c9 c1
            go_wp2
            simp only [Exit.jump]
            go_ret3
            have hF := hU.out
            simp only [Prod.mk.injEq] at hF
            obtain ⟨rfl, rfl, rfl⟩ := hF
            exact ⟨_, rfl, Kd.V_nil _ _ _ _ _, Below.refl _ _⟩
        · have g1 := c9n c9
          have g3 : decide (0 < i) = true := by simp; omega
          have g4 : (b == 0) = true := by simp; omega
          clear ce c9f c9n c9
          go_wp2
          simp only [Exit.jump]
          go_ret3
          have hF := hU.out
          simp only [Prod.mk.injEq] at hF
          obtain ⟨rfl, rfl, rfl⟩ := hF
          exact ⟨_, rfl, Kd.V_nil _ _ _ _ _, Below.refl _ _⟩
      · rw [if_neg ce] at hU
        by_cases c128 : b < 128
        · rw [if_pos c128] at hU
          have hU := Aside0.mk hU
          have g6 : decide (b < 128) = true := by simp; omega
          by_cases c9 : i = 9
          · have g1 := c9f c9
            have g2 : decide (1 < b) = false := by simp; omega
            have g3 : decide (0 < i) = true := by simp; omega
            have g4 : (b == 0) = false := by simp; omega
            clear ce c9f c9n c9
            have g5 : (i : Int) + 1 ≤ (c0 : Int) := by omega
            obtain ⟨j0, hj0, hjz, hjs, hjb⟩ := info_parts info5
            have hsl := cut_from (P := Try.prog) 27 5 .i64 Try.underlying27 hj0 1 hjs (some ad) l0.length c0 ((i : Int) + 1) (by omega) (by omega)
            have HJ0 := Aside0.mk hj0; clear hj0
            have HJS := Aside0.mk hjs; clear hjs hjz hjb
            go_wp2
            go_quiet (fail)
            go_wp2
            all_goals
              simp only [Exit.jump]
              go_ret3
              have hF := hU.out
              simp only [Prod.mk.injEq] at hF
              obtain ⟨rfl, rfl, rfl⟩ := hF
              refine unvar_post HS.out hlt ?_ ?_ ?_
              · simp [*, Addr.add]
              · omega
              · omega
          · have g1 := c9n c9
            by_cases cz : i = 0
            · have g3 : decide (0 < i) = false := by simp; omega
              clear ce c9f c9n c9 cz
              have g5 : (i : Int) + 1 ≤ (c0 : Int) := by omega
              obtain ⟨j0, hj0, hjz, hjs, hjb⟩ := info_parts info5
              have hsl := cut_from (P := Try.prog) 27 5 .i64 Try.underlying27 hj0 1 hjs (some ad) l0.length c0 ((i : Int) + 1) (by omega) (by omega)
              have HJ0 := Aside0.mk hj0; clear hj0
              have HJS := Aside0.mk hjs; clear hjs hjz hjb
              go_wp2
              go_quiet (fail)
              go_wp2
              all_goals
                simp only [Exit.jump]
                go_ret3
                have hF := hU.out
                simp only [Prod.mk.injEq] at hF
                obtain ⟨rfl, rfl, rfl⟩ := hF
                refine unvar_post HS.out hlt ?_ ?_ ?_
                · simp [*, Addr.add]
                · omega
                · omega
            · have g3 : decide (0 < i) = true := by simp; omega
              have g4 : (b == 0) = false := by simp; omega
              clear ce c9f c9n c9 cz
              have g5 : (i : Int) + 1 ≤ (c0 : Int) := by omega
              obtain ⟨j0, hj0, hjz, hjs, hjb⟩ := info_parts info5
              have hsl := cut_from (P := Try.prog) 27 5 .i64 Try.underlying27 hj0 1 hjs (some ad) l0.length c0 ((i : Int) + 1) (by omega) (by omega)
              have HJ0 := Aside0.mk hj0; clear hj0
              have HJS := Aside0.mk hjs; clear hjs hjz hjb
              go_wp2
              go_quiet (fail)
              go_wp2
              all_goals
                simp only [Exit.jump]
                go_ret3
                have hF := hU.out
                simp only [Prod.mk.injEq] at hF
                obtain ⟨rfl, rfl, rfl⟩ := hF
                refine unvar_post HS.out hlt ?_ ?_ ?_
                · simp [*, Addr.add]
                · omega
                · omega
        · rw [if_neg c128] at hU
          have hU := Aside0.mk hU
          have g6 : decide (b < 128) = false := by simp; omega
          have hn9 : i ≠ 9 := by omega
          have g1 := c9n hn9
          by_cases cz : i = 0
          · have g3 : decide (0 < i) = false := by simp; omega
            clear ce c9f c9n cz
            go_wp2
            go_step3
            refine ⟨rfl, HK.out _ _ (Handed.intro (l0.length - (i + 1)) ?_ (HJ.out _ _ _ _ _ _ _ _ _ _ _ _ _ _ _ _ _ _ _ _ _ _ _ _ _ _ _ _ _ _ _ _ _ _ _ _ _ _ _ _ _ _ _ _ _ _ _ _ _ _ _ _ _ _ ⟨i + 1, vacc W b i, by omega, by omega, ⟨rfl⟩, rfl, by simp, ⟨hU.out⟩, rfl⟩))⟩
            have := HN.out; omega
          · have g3 : decide (0 < i) = true := by simp; omega
            have g4 : (b == 0) = false := by simp; omega
            clear ce c9f c9n cz
            go_wp2
            go_step3
            refine ⟨rfl, HK.out _ _ (Handed.intro (l0.length - (i + 1)) ?_ (HJ.out _ _ _ _ _ _ _ _ _ _ _ _ _ _ _ _ _ _ _ _ _ _ _ _ _ _ _ _ _ _ _ _ _ _ _ _ _ _ _ _ _ _ _ _ _ _ _ _ _ _ _ _ _ _ ⟨i + 1, vacc W b i, by omega, by omega, ⟨rfl⟩, rfl, by simp, ⟨hU.out⟩, rfl⟩))⟩
            have := HN.out; omega
end Go.Proofs.Ytjdnlibgfjlakaa.P
