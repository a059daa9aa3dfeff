/- Several texts of this proof in one: what the law's functions come to, and the lemmas (some as the kit's print.sh printed them, what is not used struck). -/
import Derived.Test.YtopblnecdabcgaaM4
section
/- The law HeapDoes: its walk. -/
namespace Go.Proofs.Ytopblnecdabcgaa.P
open Go.RowKit Go.Proofs.YtopblnecdabcgaaW.PrintWords Go.Proofs.YtopblnecdabcgaaW.PrintLast Go.Proofs.YtopblnecdabcgaaW.PrintMore Go.Proofs.Ytopblnecdabcgaa.H Go.Proofs.Ytopblnecdabcgaa.MP Go.Proofs.Ytopblnecdabcgaa.RP
set_option linter.unusedVariables false
set_option linter.unusedSimpArgs false
theorem hasV_is (l : List Th) (id : Int) : ∃ p k s b, hasV l id = .tuple #[.int .i64 k, .int .i64 s, .bool b] ∧ findV (findH l id) = (p, k, s, b) := by
  unfold hasV
  cases findH l id with
  | none => exact ⟨0, 0, 0, false, rfl, rfl⟩
  | some x => exact ⟨x.f0, x.f1, x.f2, true, rfl, rfl⟩
theorem drop_len (l : List Th) (id : Int) : (dropH l id).length ≤ l.length := List.length_filter_le _ _
theorem ex_cons {l : List Th} (h : l ≠ []) : ∃ y t, l = y :: t := by
  cases l with
  | nil => exact absurd rfl h
  | cons y t => exact ⟨y, t, rfl⟩
set_option maxHeartbeats 8000000 in
set_option maxRecDepth 100000 in
theorem does_calls (A0 : Option Addr) (c0 : Nat) (l : List Acth) (w : World) (hC : kAct.C w A0 l.length l) (hw : ∀ p ∈ l, wfI p.1 ∧ wfT p.2) :
    Calls Try.prog 6 #[.slice A0 l.length c0] w fun e w' => e = .returned (.bool true) ∧ Below w.heap.size w w' := by
  by_cases hl : l.length > 60
  · have t0 : decide (60 < l.length) = true := by simp; exact hl
    go_enter Try.func6, Try.ntmps6
    go_wp2_with (first | (go_at_call 20; (with_reducible refine (alive13_calls _).mono ?_); rintro e w1 ⟨rfl, hb1⟩; have HB1 := Aside0.mk hb1; clear hb1))
    go_ret
    exact ⟨rfl, HB1.out⟩
  have t0 : decide (60 < l.length) = false := by simp; omega
  have HC := Aside0.mk hC
  have HW := Aside0.mk hw
  have HL : Aside0 (l.length ≤ 60) := ⟨by omega⟩
  clear hC hw
  go_enter Try.func6, Try.ntmps6
  go_wp2_with (first | (go_at_call 21; (with_reducible refine (new_calls _).mono ?_); rintro e w1 ⟨xb, rfl, hp1, hb1⟩; have HST := Aside0.mk (show HdH w xb [] [] none 0 0 w1 from ⟨⟨_, 0, hp1, fun k hk => hk.1, Kd.F_nil _ _ _, Nat.le_refl _⟩, Nat.le_refl _, hb1⟩); clear hp1 hb1))
  go_loopw [4, 27] (fun v4 v27 wr => ∃ (i : Nat) (L : List Th) (A : Option Addr) (c : Nat), i ≤ l.length ∧ v27 = .int .i64 i ∧ v4 = .slice A L.length c ∧ L.length ≤ i ∧ Aside0 (HdH w xb L L A c (i * 3000) wr)) (fun _ v27 _ => l.length - (intOf v27).toNat)
  case atStart => exact ⟨0, [], none, 0, Nat.zero_le _, rfl, rfl, Nat.le_refl _, HST⟩
  case round =>
    obtain ⟨i, L, A, c, hi, rfl, rfl, hLi, HH⟩ := hrel
    by_cases hlt : i < l.length
    · obtain ⟨ad, hA, x0, x1, x2, x3⟩ := at_act (Kd.C_below HC.out HH.out.below) i hlt
      subst hA
      have hwl := HW.out l[i] (List.getElem_mem hlt)
      have lp : (i : Int) < (l.length : Int) := by omega
      obtain ⟨⟨k, x⟩, hX⟩ : ∃ X, l[i] = X := ⟨_, rfl⟩
      rw [hX] at x0 x1 x2 x3 hwl
      simp only [] at x0 x1 x2 x3
      have HWX : Aside0 (wfI x.f0) := ⟨hwl.2.1⟩
      have HSZ : Aside0 (L.length ≤ 60 ∧ i * 3000 ≤ 1000000 ∧ i < 60 ∧ L.length ≤ i) := ⟨by have := HL.out; omega⟩
      have HB := Aside0.mk (hd_box HH.out (.cells #[.int .i64 k, .int .i64 x.f0, .int .i64 x.f1, .int .i64 x.f2] 39))
      have b1 := blk_cell HB.out.box 1; have b2 := blk_cell HB.out.box 2; have b3 := blk_cell HB.out.box 3
      clear hwl hX HH HST
      by_cases k1 : k = 1
      · subst k1
        have u1 : ((1 : Int) == 1) = true := rfl
        have HLB : Aside0 ((putH L x).length ≤ 1000 ∧ (putH L x).length ≤ i + 1) := ⟨by have h1 := HSZ.out; have h2 := row_len (l := L) (x := x) (by omega); omega⟩
        obtain ⟨p, kk, ss, bb, hv1, hv2⟩ := hasV_is (putH L x) x.f0
        have HV := Aside0.mk (And.intro hv1 hv2)
        clear hv1 hv2
        by_cases he : (putH L x) = []
        · obtain ⟨f1, f2, f3⟩ := some_nil he
          clear he
          go_wp2_with (first
            | (go_at_call 22; (with_reducible refine (hd_put HB.out x HWX.out (by have := HSZ.out; omega) (by have := HSZ.out; omega)).mono ?_); rintro e w2 ⟨rfl, h2⟩; have H2 := Aside0.mk h2; clear h2 b1 b2 b3; have b1 := blk_cell H2.out.box 1; have b2 := blk_cell H2.out.box 2; have b3 := blk_cell H2.out.box 3)
            | (go_at_call 23; (with_reducible refine (hd_rput H2.out x (by have := HSZ.out; omega)).mono ?_); rintro e w3 ⟨A3, c3, rfl, h3⟩; have H3 := Aside0.mk h3; clear h3 b1 b2 b3; have b1 := blk_cell H3.out.box 1; have b2 := blk_cell H3.out.box 2; have b3 := blk_cell H3.out.box 3)
            | (go_at_call 27; (with_reducible refine (hd_first H3.out).mono ?_); rintro e w11 ⟨rfl, h11⟩; have G1 := Aside0.mk h11; clear h11 b1 b2 b3; have b1 := blk_cell G1.out.box 1; have b2 := blk_cell G1.out.box 2; have b3 := blk_cell G1.out.box 3)
            | (go_at_call 28; (with_reducible refine (hd_has G1.out x.f0 HWX.out HV.out.1).mono ?_); rintro e w12 ⟨rfl, h12⟩; have G2 := Aside0.mk h12; clear h12 b1 b2 b3; have b1 := blk_cell G2.out.box 1; have b2 := blk_cell G2.out.box 2; have b3 := blk_cell G2.out.box 3)
            | (go_at_call 29; (with_reducible refine (hd_rfind G2.out x.f0 HLB.out.1 HV.out.2).mono ?_); rintro e w13 ⟨rfl, h13⟩; have G3 := Aside0.mk h13; clear h13 b1 b2 b3)
            | (go_at_call 30; (with_reducible refine (hd_lenc (hd_below G3.out (below_alloc (Below.refl _ _) _))).mono ?_); rintro e w14 ⟨rfl, h14⟩; have G4 := Aside0.mk h14; clear h14)
            | (go_at_call 32; (with_reducible refine (hd_all G4.out HLB.out.1).mono ?_); rintro e w15 ⟨A5, c5, rfl, hc5, hC5, h15⟩; have G5 := Aside0.mk h15; have C5 := Aside0.mk hC5; have D5 := Aside0.mk hc5; clear h15 hC5 hc5)
            | (go_at_call 33; (with_reducible refine (hd_rids G5.out HLB.out.1).mono ?_); rintro e w16 ⟨A6, c6, rfl, hc6, hC6, h16, hb6⟩; have G6 := Aside0.mk h16; have C6 := Aside0.mk hC6; have D6 := Aside0.mk hc6; have C5' := Aside0.mk (Kd.C_below C5.out hb6); clear h16 hC6 hc6 hb6)
            | (go_at_call 31; (with_reducible refine (hd_ints G6.out (List.length_map ..) HLB.out.1 C5'.out D5.out C6.out D6.out).mono ?_); rintro e w17 ⟨rfl, h17⟩; have G7 := Aside0.mk h17; clear h17))
          go_roundw
          case rel => exact ⟨i + 1, (putH L x), _, c3, by omega, by go_num, by first | rfl | simp, HLB.out.2, ⟨hd_fin G7.out (by have := HSZ.out; omega)⟩⟩
          case measure => simp [intOf]; omega
        · obtain ⟨y, t, hy⟩ : ∃ y t, (putH L x) = y :: t := ex_cons he
          obtain ⟨f1, f2, f3, f4, f5⟩ := some_cons hy
          have HY := Aside0.mk hy
          clear hy he f5
          go_wp2_with (first
            | (go_at_call 22; (with_reducible refine (hd_put HB.out x HWX.out (by have := HSZ.out; omega) (by have := HSZ.out; omega)).mono ?_); rintro e w2 ⟨rfl, h2⟩; have H2 := Aside0.mk h2; clear h2 b1 b2 b3; have b1 := blk_cell H2.out.box 1; have b2 := blk_cell H2.out.box 2; have b3 := blk_cell H2.out.box 3)
            | (go_at_call 23; (with_reducible refine (hd_rput H2.out x (by have := HSZ.out; omega)).mono ?_); rintro e w3 ⟨A3, c3, rfl, h3⟩; have H3 := Aside0.mk h3; clear h3 b1 b2 b3; have b1 := blk_cell H3.out.box 1; have b2 := blk_cell H3.out.box 2; have b3 := blk_cell H3.out.box 3; obtain ⟨ad2, hA2, _⟩ := hd_head H3.out HY.out; subst hA2)
            | (go_at_call 27; (with_reducible refine (hd_first H3.out).mono ?_); rintro e w11 ⟨rfl, h11⟩; have G1 := Aside0.mk h11; clear h11 b1 b2 b3; have b1 := blk_cell G1.out.box 1; have b2 := blk_cell G1.out.box 2; have b3 := blk_cell G1.out.box 3)
            | (go_at_call 28; (with_reducible refine (hd_has G1.out x.f0 HWX.out HV.out.1).mono ?_); rintro e w12 ⟨rfl, h12⟩; have G2 := Aside0.mk h12; clear h12 b1 b2 b3; have b1 := blk_cell G2.out.box 1; have b2 := blk_cell G2.out.box 2; have b3 := blk_cell G2.out.box 3)
            | (go_at_call 29; (with_reducible refine (hd_rfind G2.out x.f0 HLB.out.1 HV.out.2).mono ?_); rintro e w13 ⟨rfl, h13⟩; have G3 := Aside0.mk h13; clear h13 b1 b2 b3; have hc13 := hd_head2 G3.out HY.out)
            | (go_at_call 30; (with_reducible refine (hd_lenc (hd_below G3.out (below_alloc (Below.refl _ _) _))).mono ?_); rintro e w14 ⟨rfl, h14⟩; have G4 := Aside0.mk h14; clear h14)
            | (go_at_call 32; (with_reducible refine (hd_all G4.out HLB.out.1).mono ?_); rintro e w15 ⟨A5, c5, rfl, hc5, hC5, h15⟩; have G5 := Aside0.mk h15; have C5 := Aside0.mk hC5; have D5 := Aside0.mk hc5; clear h15 hC5 hc5)
            | (go_at_call 33; (with_reducible refine (hd_rids G5.out HLB.out.1).mono ?_); rintro e w16 ⟨A6, c6, rfl, hc6, hC6, h16, hb6⟩; have G6 := Aside0.mk h16; have C6 := Aside0.mk hC6; have D6 := Aside0.mk hc6; have C5' := Aside0.mk (Kd.C_below C5.out hb6); clear h16 hC6 hc6 hb6)
            | (go_at_call 31; (with_reducible refine (hd_ints G6.out (List.length_map ..) HLB.out.1 C5'.out D5.out C6.out D6.out).mono ?_); rintro e w17 ⟨rfl, h17⟩; have G7 := Aside0.mk h17; clear h17))
          go_roundw
          case rel => exact ⟨i + 1, (putH L x), _, c3, by omega, by go_num, by first | rfl | simp, HLB.out.2, ⟨hd_fin G7.out (by have := HSZ.out; omega)⟩⟩
          case measure => simp [intOf]; omega
      · have u1 : (k == 1) = false := by simpa using k1
        by_cases k2 : k = 2
        · subst k2
          have HLB : Aside0 ((dropH L x.f0).length ≤ 1000 ∧ (dropH L x.f0).length ≤ i + 1) := ⟨by have h1 := HSZ.out; have h2 := drop_len L x.f0; omega⟩
          obtain ⟨p, kk, ss, bb, hv1, hv2⟩ := hasV_is (dropH L x.f0) x.f0
          have HV := Aside0.mk (And.intro hv1 hv2)
          clear hv1 hv2
          by_cases he : (dropH L x.f0) = []
          · obtain ⟨f1, f2, f3⟩ := some_nil he
            clear he
            go_wp2_with (first
              | (go_at_call 24; (with_reducible refine (hd_drop HB.out x.f0 HWX.out (by have := HSZ.out; omega) (by have := HSZ.out; omega)).mono ?_); rintro e w2 ⟨rfl, h2⟩; have H2 := Aside0.mk h2; clear h2 b1 b2 b3; have b1 := blk_cell H2.out.box 1; have b2 := blk_cell H2.out.box 2; have b3 := blk_cell H2.out.box 3)
              | (go_at_call 25; (with_reducible refine (hd_rdrop H2.out x.f0 (by have := HSZ.out; omega)).mono ?_); rintro e w3 ⟨A3, c3, rfl, h3⟩; have H3 := Aside0.mk h3; clear h3 b1 b2 b3; have b1 := blk_cell H3.out.box 1; have b2 := blk_cell H3.out.box 2; have b3 := blk_cell H3.out.box 3)
              | (go_at_call 27; (with_reducible refine (hd_first H3.out).mono ?_); rintro e w11 ⟨rfl, h11⟩; have G1 := Aside0.mk h11; clear h11 b1 b2 b3; have b1 := blk_cell G1.out.box 1; have b2 := blk_cell G1.out.box 2; have b3 := blk_cell G1.out.box 3)
              | (go_at_call 28; (with_reducible refine (hd_has G1.out x.f0 HWX.out HV.out.1).mono ?_); rintro e w12 ⟨rfl, h12⟩; have G2 := Aside0.mk h12; clear h12 b1 b2 b3; have b1 := blk_cell G2.out.box 1; have b2 := blk_cell G2.out.box 2; have b3 := blk_cell G2.out.box 3)
              | (go_at_call 29; (with_reducible refine (hd_rfind G2.out x.f0 HLB.out.1 HV.out.2).mono ?_); rintro e w13 ⟨rfl, h13⟩; have G3 := Aside0.mk h13; clear h13 b1 b2 b3)
              | (go_at_call 30; (with_reducible refine (hd_lenc (hd_below G3.out (below_alloc (Below.refl _ _) _))).mono ?_); rintro e w14 ⟨rfl, h14⟩; have G4 := Aside0.mk h14; clear h14)
              | (go_at_call 32; (with_reducible refine (hd_all G4.out HLB.out.1).mono ?_); rintro e w15 ⟨A5, c5, rfl, hc5, hC5, h15⟩; have G5 := Aside0.mk h15; have C5 := Aside0.mk hC5; have D5 := Aside0.mk hc5; clear h15 hC5 hc5)
              | (go_at_call 33; (with_reducible refine (hd_rids G5.out HLB.out.1).mono ?_); rintro e w16 ⟨A6, c6, rfl, hc6, hC6, h16, hb6⟩; have G6 := Aside0.mk h16; have C6 := Aside0.mk hC6; have D6 := Aside0.mk hc6; have C5' := Aside0.mk (Kd.C_below C5.out hb6); clear h16 hC6 hc6 hb6)
              | (go_at_call 31; (with_reducible refine (hd_ints G6.out (List.length_map ..) HLB.out.1 C5'.out D5.out C6.out D6.out).mono ?_); rintro e w17 ⟨rfl, h17⟩; have G7 := Aside0.mk h17; clear h17))
            go_roundw
            case rel => exact ⟨i + 1, (dropH L x.f0), _, c3, by omega, by go_num, by first | rfl | simp, HLB.out.2, ⟨hd_fin G7.out (by have := HSZ.out; omega)⟩⟩
            case measure => simp [intOf]; omega
          · obtain ⟨y, t, hy⟩ : ∃ y t, (dropH L x.f0) = y :: t := ex_cons he
            obtain ⟨f1, f2, f3, f4, f5⟩ := some_cons hy
            have HY := Aside0.mk hy
            clear hy he f5
            go_wp2_with (first
              | (go_at_call 24; (with_reducible refine (hd_drop HB.out x.f0 HWX.out (by have := HSZ.out; omega) (by have := HSZ.out; omega)).mono ?_); rintro e w2 ⟨rfl, h2⟩; have H2 := Aside0.mk h2; clear h2 b1 b2 b3; have b1 := blk_cell H2.out.box 1; have b2 := blk_cell H2.out.box 2; have b3 := blk_cell H2.out.box 3)
              | (go_at_call 25; (with_reducible refine (hd_rdrop H2.out x.f0 (by have := HSZ.out; omega)).mono ?_); rintro e w3 ⟨A3, c3, rfl, h3⟩; have H3 := Aside0.mk h3; clear h3 b1 b2 b3; have b1 := blk_cell H3.out.box 1; have b2 := blk_cell H3.out.box 2; have b3 := blk_cell H3.out.box 3; obtain ⟨ad2, hA2, _⟩ := hd_head H3.out HY.out; subst hA2)
              | (go_at_call 27; (with_reducible refine (hd_first H3.out).mono ?_); rintro e w11 ⟨rfl, h11⟩; have G1 := Aside0.mk h11; clear h11 b1 b2 b3; have b1 := blk_cell G1.out.box 1; have b2 := blk_cell G1.out.box 2; have b3 := blk_cell G1.out.box 3)
              | (go_at_call 28; (with_reducible refine (hd_has G1.out x.f0 HWX.out HV.out.1).mono ?_); rintro e w12 ⟨rfl, h12⟩; have G2 := Aside0.mk h12; clear h12 b1 b2 b3; have b1 := blk_cell G2.out.box 1; have b2 := blk_cell G2.out.box 2; have b3 := blk_cell G2.out.box 3)
              | (go_at_call 29; (with_reducible refine (hd_rfind G2.out x.f0 HLB.out.1 HV.out.2).mono ?_); rintro e w13 ⟨rfl, h13⟩; have G3 := Aside0.mk h13; clear h13 b1 b2 b3; have hc13 := hd_head2 G3.out HY.out)
              | (go_at_call 30; (with_reducible refine (hd_lenc (hd_below G3.out (below_alloc (Below.refl _ _) _))).mono ?_); rintro e w14 ⟨rfl, h14⟩; have G4 := Aside0.mk h14; clear h14)
              | (go_at_call 32; (with_reducible refine (hd_all G4.out HLB.out.1).mono ?_); rintro e w15 ⟨A5, c5, rfl, hc5, hC5, h15⟩; have G5 := Aside0.mk h15; have C5 := Aside0.mk hC5; have D5 := Aside0.mk hc5; clear h15 hC5 hc5)
              | (go_at_call 33; (with_reducible refine (hd_rids G5.out HLB.out.1).mono ?_); rintro e w16 ⟨A6, c6, rfl, hc6, hC6, h16, hb6⟩; have G6 := Aside0.mk h16; have C6 := Aside0.mk hC6; have D6 := Aside0.mk hc6; have C5' := Aside0.mk (Kd.C_below C5.out hb6); clear h16 hC6 hc6 hb6)
              | (go_at_call 31; (with_reducible refine (hd_ints G6.out (List.length_map ..) HLB.out.1 C5'.out D5.out C6.out D6.out).mono ?_); rintro e w17 ⟨rfl, h17⟩; have G7 := Aside0.mk h17; clear h17))
            go_roundw
            case rel => exact ⟨i + 1, (dropH L x.f0), _, c3, by omega, by go_num, by first | rfl | simp, HLB.out.2, ⟨hd_fin G7.out (by have := HSZ.out; omega)⟩⟩
            case measure => simp [intOf]; omega
        · have u2 : (k == 2) = false := by simpa using k2
          by_cases k3 : k = 3
          · subst k3
            by_cases he : L = []
            · have HN : Aside0 (L.tail = L) := ⟨by rw [he]; rfl⟩
              have HLB : Aside0 (L.length ≤ 1000 ∧ L.length ≤ i + 1) := ⟨by have h1 := HSZ.out; have h2 := Nat.le_refl L.length; omega⟩
              obtain ⟨p, kk, ss, bb, hv1, hv2⟩ := hasV_is L x.f0
              have HV := Aside0.mk (And.intro hv1 hv2)
              clear hv1 hv2
              obtain ⟨f1, f2, f3⟩ := some_nil he
              clear he
              go_wp2_with (first
                | (go_at_call 26; (with_reducible refine (hd_pop HB.out (by have := HSZ.out; omega) (by have := HSZ.out; omega)).mono ?_); rintro e w2 ⟨rfl, h2⟩; have H3 := Aside0.mk (hd_eq h2 HN.out rfl); clear h2 b1 b2 b3; have b1 := blk_cell H3.out.box 1; have b2 := blk_cell H3.out.box 2; have b3 := blk_cell H3.out.box 3)
                | (go_at_call 27; (with_reducible refine (hd_first H3.out).mono ?_); rintro e w11 ⟨rfl, h11⟩; have G1 := Aside0.mk h11; clear h11 b1 b2 b3; have b1 := blk_cell G1.out.box 1; have b2 := blk_cell G1.out.box 2; have b3 := blk_cell G1.out.box 3)
                | (go_at_call 28; (with_reducible refine (hd_has G1.out x.f0 HWX.out HV.out.1).mono ?_); rintro e w12 ⟨rfl, h12⟩; have G2 := Aside0.mk h12; clear h12 b1 b2 b3; have b1 := blk_cell G2.out.box 1; have b2 := blk_cell G2.out.box 2; have b3 := blk_cell G2.out.box 3)
                | (go_at_call 29; (with_reducible refine (hd_rfind G2.out x.f0 HLB.out.1 HV.out.2).mono ?_); rintro e w13 ⟨rfl, h13⟩; have G3 := Aside0.mk h13; clear h13 b1 b2 b3)
                | (go_at_call 30; (with_reducible refine (hd_lenc (hd_below G3.out (below_alloc (Below.refl _ _) _))).mono ?_); rintro e w14 ⟨rfl, h14⟩; have G4 := Aside0.mk h14; clear h14)
                | (go_at_call 32; (with_reducible refine (hd_all G4.out HLB.out.1).mono ?_); rintro e w15 ⟨A5, c5, rfl, hc5, hC5, h15⟩; have G5 := Aside0.mk h15; have C5 := Aside0.mk hC5; have D5 := Aside0.mk hc5; clear h15 hC5 hc5)
                | (go_at_call 33; (with_reducible refine (hd_rids G5.out HLB.out.1).mono ?_); rintro e w16 ⟨A6, c6, rfl, hc6, hC6, h16, hb6⟩; have G6 := Aside0.mk h16; have C6 := Aside0.mk hC6; have D6 := Aside0.mk hc6; have C5' := Aside0.mk (Kd.C_below C5.out hb6); clear h16 hC6 hc6 hb6)
                | (go_at_call 31; (with_reducible refine (hd_ints G6.out (List.length_map ..) HLB.out.1 C5'.out D5.out C6.out D6.out).mono ?_); rintro e w17 ⟨rfl, h17⟩; have G7 := Aside0.mk h17; clear h17))
              go_roundw
              case rel => exact ⟨i + 1, L, _, c, by omega, by go_num, by first | rfl | simp, HLB.out.2, ⟨hd_fin G7.out (by have := HSZ.out; omega)⟩⟩
              case measure => simp [intOf]; omega
            · obtain ⟨y0, t0', hy0⟩ : ∃ y t, L = y :: t := ex_cons he
              obtain ⟨s1, s2, s3, s4, s5⟩ := some_cons hy0
              obtain ⟨ad0, hA0, _⟩ := hd_head HB.out hy0
              subst hA0
              obtain ⟨A9, hcut⟩ := cut_run (some ad0) t0'.length c (by have h := HB.out.cap; omega)
              rw [← s5] at hcut
              have HY0 := Aside0.mk hy0
              have HCUT := Aside0.mk (fun (B : Nat) (W : World) (h : HdB w xb wr.heap.size (.cells #[.int .i64 3, .int .i64 x.f0, .int .i64 x.f1, .int .i64 x.f2] 39) L.tail L (some ad0) c B W) => hcut.2 (x := y0) rfl (hd_eq h (show L.tail = t0' by rw [hy0]; rfl) hy0))
              have hcut1 := hcut.1
              have s5' : t0'.length ≤ L.length := by omega
              clear hy0 he s5 hcut
              have HLB : Aside0 (t0'.length ≤ 1000 ∧ t0'.length ≤ i + 1) := ⟨by have h1 := HSZ.out; have h2 := s5'; omega⟩
              obtain ⟨p, kk, ss, bb, hv1, hv2⟩ := hasV_is t0' x.f0
              have HV := Aside0.mk (And.intro hv1 hv2)
              clear hv1 hv2
              by_cases he : t0' = []
              · obtain ⟨f1, f2, f3⟩ := some_nil he
                clear he
                go_wp2_with (first
                  | (go_at_call 26; (with_reducible refine (hd_pop HB.out (by have := HSZ.out; omega) (by have := HSZ.out; omega)).mono ?_); rintro e w2 ⟨rfl, h2⟩; have hc2 := hd_head3 h2 HY0.out; have H3 := Aside0.mk (HCUT.out _ _ h2); clear h2 b1 b2 b3; have b1 := blk_cell H3.out.box 1; have b2 := blk_cell H3.out.box 2; have b3 := blk_cell H3.out.box 3)
                  | (go_at_call 27; (with_reducible refine (hd_first H3.out).mono ?_); rintro e w11 ⟨rfl, h11⟩; have G1 := Aside0.mk h11; clear h11 b1 b2 b3; have b1 := blk_cell G1.out.box 1; have b2 := blk_cell G1.out.box 2; have b3 := blk_cell G1.out.box 3)
                  | (go_at_call 28; (with_reducible refine (hd_has G1.out x.f0 HWX.out HV.out.1).mono ?_); rintro e w12 ⟨rfl, h12⟩; have G2 := Aside0.mk h12; clear h12 b1 b2 b3; have b1 := blk_cell G2.out.box 1; have b2 := blk_cell G2.out.box 2; have b3 := blk_cell G2.out.box 3)
                  | (go_at_call 29; (with_reducible refine (hd_rfind G2.out x.f0 HLB.out.1 HV.out.2).mono ?_); rintro e w13 ⟨rfl, h13⟩; have G3 := Aside0.mk h13; clear h13 b1 b2 b3)
                  | (go_at_call 30; (with_reducible refine (hd_lenc (hd_below G3.out (below_alloc (Below.refl _ _) _))).mono ?_); rintro e w14 ⟨rfl, h14⟩; have G4 := Aside0.mk h14; clear h14)
                  | (go_at_call 32; (with_reducible refine (hd_all G4.out HLB.out.1).mono ?_); rintro e w15 ⟨A5, c5, rfl, hc5, hC5, h15⟩; have G5 := Aside0.mk h15; have C5 := Aside0.mk hC5; have D5 := Aside0.mk hc5; clear h15 hC5 hc5)
                  | (go_at_call 33; (with_reducible refine (hd_rids G5.out HLB.out.1).mono ?_); rintro e w16 ⟨A6, c6, rfl, hc6, hC6, h16, hb6⟩; have G6 := Aside0.mk h16; have C6 := Aside0.mk hC6; have D6 := Aside0.mk hc6; have C5' := Aside0.mk (Kd.C_below C5.out hb6); clear h16 hC6 hc6 hb6)
                  | (go_at_call 31; (with_reducible refine (hd_ints G6.out (List.length_map ..) HLB.out.1 C5'.out D5.out C6.out D6.out).mono ?_); rintro e w17 ⟨rfl, h17⟩; have G7 := Aside0.mk h17; clear h17))
                go_roundw
                case rel => exact ⟨i + 1, t0', _, (c - 1), by omega, by go_num, by first | rfl | simp, HLB.out.2, ⟨hd_fin G7.out (by have := HSZ.out; omega)⟩⟩
                case measure => simp [intOf]; omega
              · obtain ⟨y, t, hy⟩ : ∃ y t, t0' = y :: t := ex_cons he
                obtain ⟨f1, f2, f3, f4, f5⟩ := some_cons hy
                have HY := Aside0.mk hy
                clear hy he f5
                go_wp2_with (first
                  | (go_at_call 26; (with_reducible refine (hd_pop HB.out (by have := HSZ.out; omega) (by have := HSZ.out; omega)).mono ?_); rintro e w2 ⟨rfl, h2⟩; have hc2 := hd_head3 h2 HY0.out; have H3 := Aside0.mk (HCUT.out _ _ h2); clear h2 b1 b2 b3; have b1 := blk_cell H3.out.box 1; have b2 := blk_cell H3.out.box 2; have b3 := blk_cell H3.out.box 3; obtain ⟨ad2, hA2, _⟩ := hd_head H3.out HY.out; subst hA2)
                  | (go_at_call 27; (with_reducible refine (hd_first H3.out).mono ?_); rintro e w11 ⟨rfl, h11⟩; have G1 := Aside0.mk h11; clear h11 b1 b2 b3; have b1 := blk_cell G1.out.box 1; have b2 := blk_cell G1.out.box 2; have b3 := blk_cell G1.out.box 3)
                  | (go_at_call 28; (with_reducible refine (hd_has G1.out x.f0 HWX.out HV.out.1).mono ?_); rintro e w12 ⟨rfl, h12⟩; have G2 := Aside0.mk h12; clear h12 b1 b2 b3; have b1 := blk_cell G2.out.box 1; have b2 := blk_cell G2.out.box 2; have b3 := blk_cell G2.out.box 3)
                  | (go_at_call 29; (with_reducible refine (hd_rfind G2.out x.f0 HLB.out.1 HV.out.2).mono ?_); rintro e w13 ⟨rfl, h13⟩; have G3 := Aside0.mk h13; clear h13 b1 b2 b3; have hc13 := hd_head2 G3.out HY.out)
                  | (go_at_call 30; (with_reducible refine (hd_lenc (hd_below G3.out (below_alloc (Below.refl _ _) _))).mono ?_); rintro e w14 ⟨rfl, h14⟩; have G4 := Aside0.mk h14; clear h14)
                  | (go_at_call 32; (with_reducible refine (hd_all G4.out HLB.out.1).mono ?_); rintro e w15 ⟨A5, c5, rfl, hc5, hC5, h15⟩; have G5 := Aside0.mk h15; have C5 := Aside0.mk hC5; have D5 := Aside0.mk hc5; clear h15 hC5 hc5)
                  | (go_at_call 33; (with_reducible refine (hd_rids G5.out HLB.out.1).mono ?_); rintro e w16 ⟨A6, c6, rfl, hc6, hC6, h16, hb6⟩; have G6 := Aside0.mk h16; have C6 := Aside0.mk hC6; have D6 := Aside0.mk hc6; have C5' := Aside0.mk (Kd.C_below C5.out hb6); clear h16 hC6 hc6 hb6)
                  | (go_at_call 31; (with_reducible refine (hd_ints G6.out (List.length_map ..) HLB.out.1 C5'.out D5.out C6.out D6.out).mono ?_); rintro e w17 ⟨rfl, h17⟩; have G7 := Aside0.mk h17; clear h17))
                go_roundw
                case rel => exact ⟨i + 1, t0', _, (c - 1), by omega, by go_num, by first | rfl | simp, HLB.out.2, ⟨hd_fin G7.out (by have := HSZ.out; omega)⟩⟩
                case measure => simp [intOf]; omega
          · have u3 : (k == 3) = false := by simpa using k3
            have HLB : Aside0 (L.length ≤ 1000 ∧ L.length ≤ i + 1) := ⟨by have h1 := HSZ.out; have h2 := Nat.le_refl L.length; omega⟩
            obtain ⟨p, kk, ss, bb, hv1, hv2⟩ := hasV_is L x.f0
            have HV := Aside0.mk (And.intro hv1 hv2)
            clear hv1 hv2
            by_cases he : L = []
            · obtain ⟨f1, f2, f3⟩ := some_nil he
              clear he
              go_wp2_with (first
                | (go_at_call 27; (with_reducible refine (hd_first HB.out).mono ?_); rintro e w11 ⟨rfl, h11⟩; have G1 := Aside0.mk h11; clear h11 b1 b2 b3; have b1 := blk_cell G1.out.box 1; have b2 := blk_cell G1.out.box 2; have b3 := blk_cell G1.out.box 3)
                | (go_at_call 28; (with_reducible refine (hd_has G1.out x.f0 HWX.out HV.out.1).mono ?_); rintro e w12 ⟨rfl, h12⟩; have G2 := Aside0.mk h12; clear h12 b1 b2 b3; have b1 := blk_cell G2.out.box 1; have b2 := blk_cell G2.out.box 2; have b3 := blk_cell G2.out.box 3)
                | (go_at_call 29; (with_reducible refine (hd_rfind G2.out x.f0 HLB.out.1 HV.out.2).mono ?_); rintro e w13 ⟨rfl, h13⟩; have G3 := Aside0.mk h13; clear h13 b1 b2 b3)
                | (go_at_call 30; (with_reducible refine (hd_lenc (hd_below G3.out (below_alloc (Below.refl _ _) _))).mono ?_); rintro e w14 ⟨rfl, h14⟩; have G4 := Aside0.mk h14; clear h14)
                | (go_at_call 32; (with_reducible refine (hd_all G4.out HLB.out.1).mono ?_); rintro e w15 ⟨A5, c5, rfl, hc5, hC5, h15⟩; have G5 := Aside0.mk h15; have C5 := Aside0.mk hC5; have D5 := Aside0.mk hc5; clear h15 hC5 hc5)
                | (go_at_call 33; (with_reducible refine (hd_rids G5.out HLB.out.1).mono ?_); rintro e w16 ⟨A6, c6, rfl, hc6, hC6, h16, hb6⟩; have G6 := Aside0.mk h16; have C6 := Aside0.mk hC6; have D6 := Aside0.mk hc6; have C5' := Aside0.mk (Kd.C_below C5.out hb6); clear h16 hC6 hc6 hb6)
                | (go_at_call 31; (with_reducible refine (hd_ints G6.out (List.length_map ..) HLB.out.1 C5'.out D5.out C6.out D6.out).mono ?_); rintro e w17 ⟨rfl, h17⟩; have G7 := Aside0.mk h17; clear h17))
              go_roundw
              case rel => exact ⟨i + 1, L, _, c, by omega, by go_num, by first | rfl | simp, HLB.out.2, ⟨hd_fin G7.out (by have := HSZ.out; omega)⟩⟩
              case measure => simp [intOf]; omega
            · obtain ⟨y, t, hy⟩ : ∃ y t, L = y :: t := ex_cons he
              obtain ⟨f1, f2, f3, f4, f5⟩ := some_cons hy
              have HY := Aside0.mk hy
              obtain ⟨ad2, hA2, _⟩ := hd_head HB.out HY.out
              subst hA2
              clear hy he f5
              go_wp2_with (first
                | (go_at_call 27; (with_reducible refine (hd_first HB.out).mono ?_); rintro e w11 ⟨rfl, h11⟩; have G1 := Aside0.mk h11; clear h11 b1 b2 b3; have b1 := blk_cell G1.out.box 1; have b2 := blk_cell G1.out.box 2; have b3 := blk_cell G1.out.box 3)
                | (go_at_call 28; (with_reducible refine (hd_has G1.out x.f0 HWX.out HV.out.1).mono ?_); rintro e w12 ⟨rfl, h12⟩; have G2 := Aside0.mk h12; clear h12 b1 b2 b3; have b1 := blk_cell G2.out.box 1; have b2 := blk_cell G2.out.box 2; have b3 := blk_cell G2.out.box 3)
                | (go_at_call 29; (with_reducible refine (hd_rfind G2.out x.f0 HLB.out.1 HV.out.2).mono ?_); rintro e w13 ⟨rfl, h13⟩; have G3 := Aside0.mk h13; clear h13 b1 b2 b3; have hc13 := hd_head2 G3.out HY.out)
                | (go_at_call 30; (with_reducible refine (hd_lenc (hd_below G3.out (below_alloc (Below.refl _ _) _))).mono ?_); rintro e w14 ⟨rfl, h14⟩; have G4 := Aside0.mk h14; clear h14)
                | (go_at_call 32; (with_reducible refine (hd_all G4.out HLB.out.1).mono ?_); rintro e w15 ⟨A5, c5, rfl, hc5, hC5, h15⟩; have G5 := Aside0.mk h15; have C5 := Aside0.mk hC5; have D5 := Aside0.mk hc5; clear h15 hC5 hc5)
                | (go_at_call 33; (with_reducible refine (hd_rids G5.out HLB.out.1).mono ?_); rintro e w16 ⟨A6, c6, rfl, hc6, hC6, h16, hb6⟩; have G6 := Aside0.mk h16; have C6 := Aside0.mk hC6; have D6 := Aside0.mk hc6; have C5' := Aside0.mk (Kd.C_below C5.out hb6); clear h16 hC6 hc6 hb6)
                | (go_at_call 31; (with_reducible refine (hd_ints G6.out (List.length_map ..) HLB.out.1 C5'.out D5.out C6.out D6.out).mono ?_); rintro e w17 ⟨rfl, h17⟩; have G7 := Aside0.mk h17; clear h17))
              go_roundw
              case rel => exact ⟨i + 1, L, _, c, by omega, by go_num, by first | rfl | simp, HLB.out.2, ⟨hd_fin G7.out (by have := HSZ.out; omega)⟩⟩
              case measure => simp [intOf]; omega
    · obtain rfl : i = l.length := by omega
      go_wp2_with (first | (go_at_call 20; (with_reducible refine (alive13_calls _).mono ?_); rintro e w1 ⟨rfl, hb1⟩; have HB1 := Aside0.mk (below_step HH.out.below hb1); clear hb1))
      go_ret
      exact ⟨rfl, HB1.out⟩
end Go.Proofs.Ytopblnecdabcgaa.P
end
section
/- The law HeapDoes. -/
namespace Go.Proofs.Ytopblnecdabcgaa.P
open Go.RowKit Go.Proofs.YtopblnecdabcgaaW.PrintWords Go.Proofs.YtopblnecdabcgaaW.PrintLast Go.Proofs.YtopblnecdabcgaaW.PrintMore
set_option linter.unusedVariables false
set_option linter.unusedSimpArgs false
def tallymanlaw13_HeapDoes.Pure : Prop := True
theorem tallymanlaw13_HeapDoes.walk (P : tallymanlaw13_HeapDoes.Pure) (a0 : Option Addr) (len0 cap0 : Nat) (w : World) {H : Type} {enc : TypeId × Value → H} {d : DataW H} {p : List MemPlace} (h0 : DataW.Trod enc Try.prog w 0 (fun _ => true) true 32 (.slice a0 len0 cap0) d p) :
    Calls Try.prog 6 #[.slice a0 len0 cap0] w fun e w' => e = .returned (.bool true) ∧ Below w.heap.size w w' := by
  obtain ⟨fuel, hf⟩ := h0
  obtain ⟨l, ⟨A, c, e, hc, hC⟩, hw⟩ := Tr32 _ _ _ _ _ _ hf
  simp [Value.cells] at e
  obtain ⟨rfl, rfl, rfl⟩ := e
  exact does_calls _ _ l w hC hw
end Go.Proofs.Ytopblnecdabcgaa.P
end
section
/- HeapDoes: nothing is left to show. -/
namespace Go.Proofs.Ytopblnecdabcgaa.Pure
theorem HeapDoes : P.tallymanlaw13_HeapDoes.Pure := trivial
end Go.Proofs.Ytopblnecdabcgaa.Pure
end
