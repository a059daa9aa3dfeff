import Derived.Test.YtjdnlibgfjlakaaS1
import Derived.Test.YtjdnlibgfjlakaaS8
import Derived.Test.YtjdnlibgfjlakaaF17
import Derived.Test.YtjdnlibgfjlakaaH
import Derived.Deep.RegionHeld3
import Derived.Test.YtjdnlibgfjlakaaK
import Derived.Laws.CopyOwn
import Derived.RegionTactic
import Derived.ChangeAlike
namespace Go.Proofs.Ytjdnlibgfjlakaa.P
open Go.RowKit Go.Proofs.YtjdnlibgfjlakaaW.PrintWords Go.Proofs.YtjdnlibgfjlakaaW.PrintLast Go.Proofs.YtjdnlibgfjlakaaW.PrintMore Go.Proofs.Ytjdnlibgfjlakaa.H
set_option linter.unusedVariables false
set_option linter.unusedSimpArgs false
def layv (l p q : List Int) (i : Nat) : Int := bits .xor .u8 (rd l i) (bits .xor .u8 (rd p i) (rd q i))
def layTo (l p q : List Int) (i : Nat) : List Int := (List.range l.length).map fun j => if j < i then layv l p q j else rd l j
theorem alive9_rd (w : World) : Calls Try.prog 16 #[] w fun e w' => e = .returned (.bool true) ∧ Below w.heap.size w w' := tallymanlaw09_alive.calls true w rfl
theorem sum_rd {l : List Int} {s : Int} (h : crc_Sum.f l = some s) {A0 : Option Addr} {c0 : Nat} {w : World} (h0 : Kd.C (Kd.int .u8) w A0 l.length l) (hc0 : l.length ≤ c0) :
    Calls Try.prog 17 #[.slice A0 l.length c0] w fun e w' => e = .returned (.int .u32 s) ∧ Below w.heap.size w w' := crc_Sum.calls A0 c0 l s w h0 hc0 h
theorem lay_len (l p q : List Int) (i : Nat) : (layTo l p q i).length = l.length := by simp [layTo]
theorem lay_zero (l p q : List Int) : layTo l p q 0 = l := by
  apply List.ext_getElem (by simp [layTo])
  intro j h1 h2
  simp [layTo, rd, h2]
theorem lay_get (l p q : List Int) (i : Nat) (hi : i < l.length) : rd (layTo l p q i) i = rd l i := by
  simp [rd, layTo, hi]
theorem lay_succ (l p q : List Int) (i : Nat) (hi : i < l.length) : (layTo l p q i).set i (layv l p q i) = layTo l p q (i + 1) := by
  apply List.ext_getElem (by simp [layTo])
  intro j h1 h2
  simp only [List.length_set, lay_len] at h1
  rw [List.getElem_set]
  simp only [layTo, List.getElem_map, List.getElem_range]
  by_cases e : i = j
  · subst e; rw [if_pos rfl, if_pos (by omega)]
  · rw [if_neg e]
    by_cases h3 : j < i
    · rw [if_pos h3, if_pos (by omega)]
    · rw [if_neg h3, if_neg (by omega)]
theorem wpList_append_fresh {P : Program} (w : World) {ops : Array Oper} {rest : List Oper} {o : Oper} {a : Act} {Q : Exit → Act → World → Prop}
    (hg : o.guard = none) (s x : Operand) (t : TypeId) (hop : o.op = Op.call { callee := Callee.builtin Builtin.append, args := #[s, x], argTypes := #[t, t] })
    (e : TypeId) (i : TypeInfo) (h1 : P.underlying t = some (.slice e)) (h2 : P.info? e = some i) (h3 : i.zero = some (.int .u8 0)) (h4 : i.size = 1) (h5 : i.bytes = 1)
    (g0 : Nat) (hs : a.eval s = .slice (some ⟨g0, 0, none⟩) 0 0) (hg0 : w.heap[g0]? = some (.cells #[] e (0, 0))) (base : Nat) (hb0 : base ≤ g0) (hb1 : base ≤ w.heap.size)
    (A : Option Addr) (c : Nat) (l : List Int) (hx : a.eval x = .slice A l.length c) (hr : Kd.C (Kd.int .u8) w A l.length l) (hl : l.length ≤ 1000000)
    (hK : ∀ g cap rs w', base ≤ g → w'.heap[g]? = some (.cells (l.map (Value.int .u8) ++ rs).toArray e (0, 0)) → l.length ≤ cap → Below w.heap.size w w' → wpList P ops Q rest (a.put o.dst (.slice (some ⟨g, 0, none⟩) l.length cap)) w') :
    wpList P ops Q (o :: rest) a w := by
  by_cases hz : l = []
  · subst hz
    refine wpList_append_nothing w hg s x t hop e i h1 h2 (some ⟨g0, 0, none⟩) 0 0 (Nat.le_refl _) hs (.slice A 0 c) hx ?_ ?_
    · cases A with
      | none => exact Src.ofNil (w := w) h1 c
      | some a => exact Src.ofSlice (w := w) h1 a 0 c [] (by simp) (by simp) (by simp)
    · exact hK g0 0 [] w hb0 (by simpa using hg0) (Nat.le_refl _) (Below.refl _ _)
  · cases A with
    | none => exact absurd (C_none hr) hz
    | some a1 =>
      refine wpList_append_grows w hg s x t hop e i (.int .u8 0) 1 1 h1 h2 h3 h4 h5 rfl (by decide) (some ⟨g0, 0, none⟩) 0 0 [] hs (by simp) (by simp) (by simp) a1 l.length c (l.map (Value.int .u8)) hx (by simp) (C_cells hr) ?_ ?_ ?_ ?_ ?_
      · intro u hu; obtain ⟨x, _, rfl⟩ := List.mem_map.1 hu; rfl
      · have := List.length_pos_iff.2 hz; omega
      · unfold maxLen; omega
      · omega
      · intro v' w' ho hgr
        obtain ⟨h6, h7 | ⟨g, cap, cur, rfl, hgb, hcur, hn, hm, hsz, htk⟩⟩ := ho
        · exact absurd (List.eq_nil_of_length_eq_zero (by omega)) hz
        · have hcat := List.take_append_drop ((0 + l.length) * 1) cur.toList
          rw [htk] at hcat
          rw [Nat.zero_add] at hn ⊢
          refine hK g cap (cur.toList.drop ((0 + l.length) * 1)) w' (Nat.le_trans hb1 hgb) ?_ hn (grown_below hgr)
          rw [hcur, show (l.map (Value.int .u8) ++ cur.toList.drop ((0 + l.length) * 1)) = cur.toList from by simpa using hcat]
theorem C_blk {w : World} {g e : Nat} {L : List Int} {rs : List Value} (hl : L.length ≤ 1000000) (h : w.heap[g]? = some (.cells (L.map (Value.int .u8) ++ rs).toArray e (0, 0))) : Kd.C (Kd.int .u8) w (some ⟨g, 0, none⟩) L.length L := by
  refine C_of_cells (by omega) fun j u hu => ?_
  rw [add_plain', blk_cell h, Nat.zero_add]
  have hj := (List.getElem?_eq_some_iff.1 hu).1
  show (List.map (Value.int IntKind.u8) L ++ rs).toArray[j]? = _
  rw [List.getElem?_toArray, List.getElem?_append_left hj, hu]
def crcLayPost (w : World) (e : Ending) (w' : World) : Prop := e = .returned (.bool true) ∧ Below w.heap.size w w'
abbrev LayS (w0 : World) (Am A0 A1 A2 A3 : Option Addr) (m l p q t : List Int) (w' : World) : Prop :=
  Aside0 (Kd.C (Kd.int .u8) w' Am m.length m) ∧ Aside0 (Kd.C (Kd.int .u8) w' A0 l.length l) ∧ Aside0 (Kd.C (Kd.int .u8) w' A1 p.length p) ∧ Aside0 (Kd.C (Kd.int .u8) w' A2 q.length q) ∧ Aside0 (Kd.C (Kd.int .u8) w' A3 t.length t) ∧ Aside0 (Below w0.heap.size w0 w')
theorem lay_mk {w0 : World} {Am A0 A1 A2 A3 : Option Addr} {m l p q t : List Int} {w' : World} (h1 : Kd.C (Kd.int .u8) w' Am m.length m) (h2 : Kd.C (Kd.int .u8) w' A0 l.length l) (h3 : Kd.C (Kd.int .u8) w' A1 p.length p) (h4 : Kd.C (Kd.int .u8) w' A2 q.length q) (h5 : Kd.C (Kd.int .u8) w' A3 t.length t) (h6 : Below w0.heap.size w0 w') : LayS w0 Am A0 A1 A2 A3 m l p q t w' := ⟨⟨h1⟩, ⟨h2⟩, ⟨h3⟩, ⟨h4⟩, ⟨h5⟩, ⟨h6⟩⟩
theorem lay_keep {w0 : World} {Am A0 A1 A2 A3 : Option Addr} {m l p q t : List Int} {w1 w2 : World} (h : LayS w0 Am A0 A1 A2 A3 m l p q t w1) (hb : Below w1.heap.size w1 w2) : LayS w0 Am A0 A1 A2 A3 m l p q t w2 :=
  lay_mk (Kd.C_below h.1.out hb) (Kd.C_below h.2.1.out hb) (Kd.C_below h.2.2.1.out hb) (Kd.C_below h.2.2.2.1.out hb) (Kd.C_below h.2.2.2.2.1.out hb) (below_step h.2.2.2.2.2.out hb)
theorem more_rd {l : List Int} {a s : Int} (h : crc_More.f a l = some s) {A0 : Option Addr} {c0 : Nat} {w : World} (h0 : Kd.C (Kd.int .u8) w A0 l.length l) (hc0 : l.length ≤ c0) :
    Calls Try.prog 19 #[.int .u32 a, .slice A0 l.length c0] w fun e w' => e = .returned (.int .u32 s) ∧ Below w.heap.size w w' := crc_More.calls a A0 c0 l s w h0 hc0 h
theorem sum_rdn {l : List Int} {s : Int} {n : Nat} (hn : l.length = n) (h : crc_Sum.f l = some s) {A0 : Option Addr} {c0 : Nat} {w : World} (h0 : Kd.C (Kd.int .u8) w A0 l.length l) (hc0 : n ≤ c0) :
    Calls Try.prog 17 #[.slice A0 n c0] w fun e w' => e = .returned (.int .u32 s) ∧ Below w.heap.size w w' := by subst hn; exact crc_Sum.calls A0 c0 l s w h0 hc0 h
set_option maxHeartbeats 8000000 in
set_option maxRecDepth 100000 in
theorem crcLaws_calls (A0 A1 A2 A3 : Option Addr) (c0 c1 c2 n1 n2 n3 c3 : Nat) (l b c p q v t m : List Int) (k x t1 sm s0 s1 s2 : Int) (w : World)
    (hr0 : Kd.C (Kd.int .u8) w A0 l.length l) (hr1 : Kd.C (Kd.int .u8) w A1 b.length b) (hr2 : Kd.C (Kd.int .u8) w A2 c.length c) (hrp : Kd.C (Kd.int .u8) w A1 p.length p) (hrq : Kd.C (Kd.int .u8) w A2 q.length q)
    (hrt : Kd.C (Kd.int .u8) w A3 t.length t)
    (hc0 : l.length ≤ c0) (hcp : p.length ≤ c1) (hcq : q.length ≤ c2) (hcv : v.length ≤ c0) (hct : t.length ≤ c3)
    (h300 : l.length ≤ 300) (hb : l.length ≤ b.length) (hc : l.length ≤ c.length) (hm : layTo l b c l.length = m)
    (e1 : ∀ W : World, (Instr.slice 27 (.slice A1 b.length c1) none (some (.int .i64 (l.length : Int))) none).run Try.prog W = .ok (.slice A1 p.length c1) W)
    (e2 : ∀ W : World, (Instr.slice 27 (.slice A2 c.length c2) none (some (.int .i64 (l.length : Int))) none).run Try.prog W = .ok (.slice A2 q.length c2) W)
    (e3 : ∀ W : World, (Instr.slice 27 (.slice A0 l.length c0) none (some (.int .i64 k)) none).run Try.prog W = .ok (.slice A0 v.length c0) W)
    (e4 : ∀ W : World, (Instr.slice 27 (.slice A0 l.length c0) (some (.int .i64 k)) none none).run Try.prog W = .ok (.slice A3 t.length c3) W)
    (f : crc_Sum.f m = some sm) (f0 : crc_Sum.f l = some s0) (f1 : crc_Sum.f p = some s1) (f2 : crc_Sum.f q = some s2) (f3 : crc_Sum.f v = some t1) (f4 : crc_More.f t1 t = some s0)
    (hx : bits .xor .u32 (bits .xor .u32 s0 s1) s2 = sm)
    (hV : ∀ w', Kd.C (Kd.int .u8) w' A0 l.length l → Kd.C (Kd.int .u8) w' A0 v.length v)
    (hk : (k = 0 ∧ (0 < l.length) = False) ∨ ((0 < l.length) = True ∧ rd l 0 = x ∧ 0 ≤ x ∧ x ≤ 255 ∧ x % ((l.length : Int) + 1) = k ∧ 0 ≤ k)) :
    Calls Try.prog 6 #[.slice A0 l.length c0, .slice A1 b.length c1, .slice A2 c.length c2] w (crcLayPost w) := by
  have HR0 := Aside0.mk hr0; clear hr0
  have HR1 := Aside0.mk hr1; clear hr1
  have HR2 := Aside0.mk hr2; clear hr2
  have HRP := Aside0.mk hrp; clear hrp
  have HRQ := Aside0.mk hrq; clear hrq
  have HRT := Aside0.mk hrt; clear hrt
  have F := Aside0.mk f; clear f
  have F0 := Aside0.mk f0; clear f0
  have F1 := Aside0.mk f1; clear f1
  have F2 := Aside0.mk f2; clear f2
  have F3 := Aside0.mk f3; clear f3
  have HV' := Aside0.mk hV; clear hV
  have F4 := Aside0.mk f4; clear f4
  have HX := Aside0.mk hx; clear hx
  have HM := Aside0.mk hm; clear hm
  have HK := Aside0.mk hk; clear hk
  have HB_ := Aside0.mk hb; clear hb
  have HC_ := Aside0.mk hc; clear hc
  have g1 : decide ((300 : Int) < l.length) = false := by simp; omega
  have g2 : (b.length < l.length) = False := by have := HB_.out; simp; omega
  have g3 : (c.length < l.length) = False := by have := HC_.out; simp; omega
  obtain ⟨i, hi, hz, hs, hby⟩ := info_parts info5
  have Hz := Aside0.mk hz; clear hz
  have Hs := Aside0.mk hs; clear hs
  have Hby := Aside0.mk hby; clear hby
  have Hi := Aside0.mk hi; clear hi
  go_enter Try.func6, Try.ntmps6
  go_wp2_with (first | (at_builtin; refine wpList_append_fresh _ rfl _ _ 27 rfl 5 i Try.underlying27 Hi.out Hz.out Hs.out Hby.out w.heap.size rfl (blk_new w _) w.heap.size (Nat.le_refl _) ((below_alloc (Below.refl _ _) _).size) A0 c0 l rfl (Kd.C_below HR0.out (below_alloc (Below.refl _ _) _)) (by omega) ?_; intro g cap rs w' hg hcur hcap hb; have HG := Aside0.mk hg; clear hg; have HCUR := Aside0.mk hcur; clear hcur; have HBB := Aside0.mk (below_step (below_alloc (Below.refl w.heap.size w) _) hb); clear hb))
  go_loopw [34] (fun v34 wr => ∃ j : Nat, j ≤ l.length ∧ v34 = .int .i64 j ∧ Aside0 (wr.heap[g]? = some (.cells ((layTo l b c j).map (Value.int .u8) ++ rs).toArray 5 (0, 0))) ∧ Aside0 (Below w.heap.size w wr)) (fun v34 _ => l.length - (intOf v34).toNat)
  case atStart => exact ⟨0, by omega, rfl, ⟨by rw [lay_zero]; exact HCUR.out⟩, HBB⟩
  case round =>
    obtain ⟨j, hj, rfl, HCU, HB2⟩ := hrel
    clear HBB HCUR
    by_cases hlt : j < l.length
    · have j1 : j < b.length := by have := HB_.out; omega
      have j2 : j < c.length := by have := HC_.out; omega
      obtain ⟨ad1, rfl, hcl1⟩ := C_pos (Kd.C_below HR1.out HB2.out) (by omega)
      obtain ⟨ad2, rfl, hcl2⟩ := C_pos (Kd.C_below HR2.out HB2.out) (by omega)
      have hs := lay_succ l b c j hlt
      unfold layv at hs
      obtain ⟨x0, hx0⟩ : ∃ x0, rd l j = x0 := ⟨_, rfl⟩
      obtain ⟨x1, hx1⟩ : ∃ x1, rd b j = x1 := ⟨_, rfl⟩
      obtain ⟨x2, hx2⟩ : ∃ x2, rd c j = x2 := ⟨_, rfl⟩
      rw [hx0, hx1, hx2] at hs
      have q1 : wr.cell? (ad1.add j) = some (.int .u8 x1) := hcl1 j _ (by rw [List.getElem?_map, ← hx1, rd, List.getElem?_eq_getElem j1]; simp [j1])
      have q2 : wr.cell? (ad2.add j) = some (.int .u8 x2) := hcl2 j _ (by rw [List.getElem?_map, ← hx2, rd, List.getElem?_eq_getElem j2]; simp [j2])
      have q0 : wr.cell? ⟨g, j, none⟩ = some (.int .u8 x0) := by
        rw [blk_cell HCU.out, ← hx0, ← lay_get l b c j hlt, rd]
        have : j < (layTo l b c j).length := by rw [lay_len]; omega
        have h9 : (List.map (Value.int IntKind.u8) (layTo l b c j) ++ rs)[j]? = some (Value.int IntKind.u8 (layTo l b c j)[j]) := by
          rw [List.getElem?_append_left (by rw [List.length_map]; exact this), List.getElem?_map, List.getElem?_eq_getElem this]; rfl
        simp [h9, this]
      have hfr := blk_frozen HCU.out j
      have HS := Aside0.mk hs; clear hs
      clear hcl1 hcl2 hx0 hx1 hx2
      go_wp2
      go_region
      all_goals go_wp2
      all_goals
        go_roundw
        case rel =>
          refine ⟨j + 1, by omega, by go_num, ⟨?_⟩, ⟨below_drew (below_set HB2.out HG.out)⟩⟩
          refine blk_put HCU.out _ _ ?_
          rw [← HS.out, List.setIfInBounds_toArray, List.set_append_left _ _ (by rw [List.length_map, lay_len]; exact hlt), List.map_set]
        case measure => simp [intOf]; omega
    · obtain rfl : j = l.length := by omega
      have HS := lay_mk (w0 := w) (Am := some ⟨g, 0, none⟩) (m := m) (w' := wr) (by have e := C_blk (by rw [lay_len]; omega) HCU.out; rw [HM.out] at e; exact e) (Kd.C_below HR0.out HB2.out) (Kd.C_below HRP.out HB2.out) (Kd.C_below HRQ.out HB2.out) (Kd.C_below HRT.out HB2.out) HB2.out
      have hml : m.length = l.length := by rw [← HM.out, lay_len]
      have hcm : m.length ≤ cap := by omega
      have HML := Aside0.mk hml
      clear HCU HB2 HR0 HRP HRQ HRT
      clear hml
      go_wp2
      go_region_held3 (LayS w (some ⟨g, 0, none⟩) A0 A1 A2 A3 m l p q t)
        (first | exact lay_keep (by assumption) hb | exact lay_mk (Kd.C_drew HS.1.out) (Kd.C_drew HS.2.1.out) (Kd.C_drew HS.2.2.1.out) (Kd.C_drew HS.2.2.2.1.out) (Kd.C_drew HS.2.2.2.2.1.out) (below_drew1 HS.2.2.2.2.2.out))
        (first | (go_at_call 17; with_reducible refine (sum_rd F0.out (show LayS _ _ _ _ _ _ _ _ _ _ _ _ by assumption).2.1.out hc0).mono ?_; rintro e w' ⟨rfl, hb⟩) | (go_at_call 17; with_reducible refine (sum_rd F1.out (show LayS _ _ _ _ _ _ _ _ _ _ _ _ by assumption).2.2.1.out hcp).mono ?_; rintro e w' ⟨rfl, hb⟩) | (go_at_call 17; with_reducible refine (sum_rd F2.out (show LayS _ _ _ _ _ _ _ _ _ _ _ _ by assumption).2.2.2.1.out hcq).mono ?_; rintro e w' ⟨rfl, hb⟩) | (go_at_call 17; with_reducible refine (sum_rdn HML.out F.out (show LayS _ _ _ _ _ _ _ _ _ _ _ _ by assumption).1.out hcap).mono ?_; rintro e w' ⟨rfl, hb⟩))
      rename_i hHeld
      clear HS
      have HS := hHeld
      clear hHeld
      have hx := HX.out
      have g5 : (sm != bits .xor .u32 (bits .xor .u32 s0 s1) s2) = false := by rw [hx]; simp
      clear hx HX
      obtain hk := HK.out
      rcases hk with ⟨rfl, hz0⟩ | ⟨hz0, hz1, hz2, hz3, hz4, hz5⟩
      · go_wp2
        clear HK
        go_region_held3 (LayS w (some { block := g, off := 0 }) A0 A1 A2 A3 m l p q t)
          (first | exact lay_keep (by assumption) hb | exact lay_mk (Kd.C_drew HS.1.out) (Kd.C_drew HS.2.1.out) (Kd.C_drew HS.2.2.1.out) (Kd.C_drew HS.2.2.2.1.out) (Kd.C_drew HS.2.2.2.2.1.out) (below_drew1 HS.2.2.2.2.2.out))
          (first | (go_at_call 17; with_reducible refine (sum_rd F3.out (HV'.out _ (show LayS _ _ _ _ _ _ _ _ _ _ _ _ by assumption).2.1.out) hcv).mono ?_; rintro e w' ⟨rfl, hb⟩) | (go_at_call 19; with_reducible refine (more_rd F4.out (show LayS _ _ _ _ _ _ _ _ _ _ _ _ by assumption).2.2.2.2.1.out hct).mono ?_; rintro e w' ⟨rfl, hb⟩) | (go_at_call 17; with_reducible refine (sum_rd F0.out (show LayS _ _ _ _ _ _ _ _ _ _ _ _ by assumption).2.1.out hc0).mono ?_; rintro e w' ⟨rfl, hb⟩) | (go_at_call 16; with_reducible refine (alive9_rd _).mono ?_; rintro e w' ⟨rfl, hb⟩))
        all_goals go_wp2
        all_goals go_ret
        all_goals refine ⟨?_, (show LayS _ _ _ _ _ _ _ _ _ _ _ _ by assumption).2.2.2.2.2.out⟩
        all_goals simp
      · obtain ⟨ad0, rfl, hcl0⟩ := C_pos HS.2.1.out (by simpa using hz0)
        have q0 := hcl0 0 (.int .u8 x) (by rw [List.getElem?_map, ← hz1, rd]; have : 0 < l.length := by simpa using hz0
                                           simp [this])
        rw [show ad0.add 0 = ad0 from by simp [Addr.add]] at q0
        clear hcl0 hz1 HK
        go_wp2
        go_region_held3 (LayS w (some { block := g, off := 0 }) (some ad0) A1 A2 A3 m l p q t)
          (first | exact lay_keep (by assumption) hb | exact lay_mk (Kd.C_drew HS.1.out) (Kd.C_drew HS.2.1.out) (Kd.C_drew HS.2.2.1.out) (Kd.C_drew HS.2.2.2.1.out) (Kd.C_drew HS.2.2.2.2.1.out) (below_drew1 HS.2.2.2.2.2.out))
          (first | (go_at_call 17; with_reducible refine (sum_rd F3.out (HV'.out _ (show LayS _ _ _ _ _ _ _ _ _ _ _ _ by assumption).2.1.out) hcv).mono ?_; rintro e w' ⟨rfl, hb⟩) | (go_at_call 19; with_reducible refine (more_rd F4.out (show LayS _ _ _ _ _ _ _ _ _ _ _ _ by assumption).2.2.2.2.1.out hct).mono ?_; rintro e w' ⟨rfl, hb⟩) | (go_at_call 17; with_reducible refine (sum_rd F0.out (show LayS _ _ _ _ _ _ _ _ _ _ _ _ by assumption).2.1.out hc0).mono ?_; rintro e w' ⟨rfl, hb⟩) | (go_at_call 16; with_reducible refine (alive9_rd _).mono ?_; rintro e w' ⟨rfl, hb⟩))
        all_goals go_wp2
        all_goals go_ret
        all_goals refine ⟨?_, (show LayS _ _ _ _ _ _ _ _ _ _ _ _ by assumption).2.2.2.2.2.out⟩
        all_goals simp
end Go.Proofs.Ytjdnlibgfjlakaa.P
