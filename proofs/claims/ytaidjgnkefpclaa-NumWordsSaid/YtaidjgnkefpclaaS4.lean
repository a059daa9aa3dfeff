/- The words of a line: what stands between blanks. -/
import Derived.Test.YtaidjgnkefpclaaSh
import Derived.Test.YtaidjgnkefpclaaS2
import Derived.Test.YtaidjgnkefpclaaH
namespace Go.Proofs.Ytaidjgnkefpclaa.P
open Go.Proofs.Ytaidjgnkefpclaa.B Go.RowKit Go.Proofs.YtaidjgnkefpclaaW.PrintWords Go.Proofs.YtaidjgnkefpclaaW.PrintLast Go.Proofs.YtaidjgnkefpclaaW.PrintMore
set_option linter.unusedVariables false
set_option linter.unusedSimpArgs false
def spl : List UInt8 → List (List UInt8)
  | [] => [[]]
  | c :: l => if c = 32 then [] :: spl l else match spl l with
    | [] => [[c]]
    | w :: ws => (c :: w) :: ws
theorem spl_ne (l : List UInt8) : spl l ≠ [] := by
  cases l with
  | nil => simp [spl]
  | cons c l => rw [spl]; split; simp; split <;> simp
theorem ib_cases (l : List UInt8) : (Lib.indexByte l 32 = -1 ∧ spl l = [l]) ∨ ∃ i : Nat, Lib.indexByte l 32 = i ∧ i < l.length ∧ spl l = l.take i :: spl (l.drop (i + 1)) := by
  induction l with
  | nil => exact .inl ⟨rfl, rfl⟩
  | cons c l ih =>
    rw [Lib.indexByte, spl]
    by_cases hc : c = 32
    · rw [if_pos (by simp [hc]), if_pos hc]
      exact .inr ⟨0, rfl, by simp, by simp⟩
    · rw [if_neg (by simp [hc]), if_neg hc]
      rcases ih with ⟨h1, h2⟩ | ⟨i, h1, h2, h3⟩
      · rw [h1, h2]
        exact .inl ⟨by simp, rfl⟩
      · rw [h1, h3]
        refine .inr ⟨i + 1, ?_, by simpa using h2, by simp⟩
        rw [if_neg (by simp)]; rfl
/-- A text's bytes as a string. -/
abbrev str (l : List UInt8) : ByteArray := ⟨l.toArray⟩
theorem str_size (l : List UInt8) : (str l).size = l.length := by simp [ByteArray.size]
theorem str_extract (l : List UInt8) (a b : Nat) : (str l).extract a b = str ((l.drop a).take (b - a)) := by apply ByteArray.ext; simp [ByteArray.data_extract]
def CutPost (w : World) (a b : List UInt8) (m : Bool) (e : Ending) (w' : World) : Prop := e = .returned (.tuple #[.string (str a), .string (str b), .bool m]) ∧ Below w.heap.size w w'
set_option maxHeartbeats 1000000 in
set_option maxRecDepth 100000 in
theorem cutIn_calls (l : List UInt8) (w : World) (hl : l.length ≤ 1000000) : ∃ a b m, ((m = false ∧ b = [] ∧ spl l = [a]) ∨ (m = true ∧ spl l = a :: spl b ∧ b.length < l.length)) ∧ Calls Try.prog 35 #[.string (str l), .string ⟨#[32]⟩] w (CutPost w a b m) := by
  have HI := Try.stringslite_Index_one (str l) 32 w
  rw [show (str l).data.toList = l from rfl] at HI
  rcases ib_cases l with ⟨h1, h2⟩ | ⟨i, h1, h2, h3⟩
  · refine ⟨l, [], false, .inl ⟨rfl, rfl, h2⟩, ?_⟩
    rw [h1] at HI
    go_enter Try.func35, Try.ntmps35
    go_wp2_with (go_at_call 38; refine HI.mono ?_; rintro e w' ⟨rfl, rfl⟩)
    go_ret3
    exact ⟨rfl, Below.refl _ _⟩
  · refine ⟨l.take i, l.drop (i + 1), true, .inr ⟨rfl, h3, by rw [List.length_drop]; omega⟩, ?_⟩
    rw [h1] at HI
    have hz : (str l).size = l.length := str_size l
    have e1 : (str l).extract 0 i = str (l.take i) := by rw [str_extract]; simp
    have e2 : (str l).extract (i + 1) l.length = str (l.drop (i + 1)) := by rw [str_extract, List.take_of_length_le (by rw [List.length_drop]; omega)]
    have H2 := Aside0.mk h2; clear h2
    have HI2 := Aside0.mk HI; clear HI
    obtain ⟨s, hs⟩ : ∃ s, str l = s := ⟨_, rfl⟩
    rw [hs] at HI2 hz e1 e2 ⊢
    have HS := Aside0.mk hs; clear hs
    have h2 := H2.out
    go_enter Try.func35, Try.ntmps35
    go_wp2_with (go_at_call 38; refine HI2.out.mono ?_; rintro e w' ⟨rfl, rfl⟩)
    go_region
    all_goals go_wp2
    all_goals go_ret3
    all_goals
      refine ⟨?_, below_drew (Below.refl _ _)⟩
      simp [e1, e2, hz]
theorem cut_calls (l : List UInt8) (w : World) (hl : l.length ≤ 1000000) : ∃ a b m, ((m = false ∧ b = [] ∧ spl l = [a]) ∨ (m = true ∧ spl l = a :: spl b ∧ b.length < l.length)) ∧ Calls Try.prog 30 #[.string (str l), .string ⟨#[32]⟩] w (CutPost w a b m) := by
  obtain ⟨a, b, m, h1, h2⟩ := cutIn_calls l w hl
  refine ⟨a, b, m, h1, ?_⟩
  go_enter Try.func30, Try.ntmps30
  go_wp2_with (go_at_call 35; refine h2.mono ?_; rintro e w' ⟨rfl, hb⟩)
  go_ret3
  exact ⟨rfl, hb⟩
/-- The captured row of words: one cell that holds an owned row. -/
def Out (w0 w : World) (p : Nat) (xs : List ByteArray) : Prop := ∃ v, w.heap[p]? = some (.cells #[v] 32 (0, 0)) ∧ w0.heap.size ≤ p ∧ Kd.R Kd.string 9 w w0.heap.size (fun k => k ≠ p) v xs ∧ Below w0.heap.size w0 w
def SeePost (w0 : World) (p : Nat) (xs : List ByteArray) (b : Bool) (e : Ending) (w' : World) : Prop := e = .returned (.bool b) ∧ Out w0 w' p xs
theorem cell_of_block {w : World} {p : Nat} {v : Value} (h : w.heap[p]? = some (.cells #[v] 32 (0, 0))) : w.cell? ⟨p, 0, none⟩ = some v := by rw [blk_cell h]; rfl
set_option maxHeartbeats 1000000 in
set_option maxRecDepth 100000 in
theorem see_calls (w0 w : World) (p : Nat) (xs : List ByteArray) (a : List UInt8) (ho : Out w0 w p xs) (hl : xs.length ≤ 1000000) : Calls Try.prog 25 #[.string (str a), .pointer (some ⟨p, 0, none⟩)] w (SeePost w0 p (xs ++ [str a]) (!a.isEmpty)) := by
  obtain ⟨v, hv, hp, hR, hB⟩ := ho
  have hlt : p < w.heap.size := (Array.getElem?_eq_some_iff.1 hv).1
  have HR := Aside0.mk hR; clear hR
  have HB := Aside0.mk hB; clear hB
  have hcell := cell_of_block hv
  have HV := Aside0.mk hv; clear hv
  have HL := Aside0.mk hlt; clear hlt
  obtain ⟨s, hs⟩ : ∃ s, str a = s := ⟨_, rfl⟩
  have hne : (s.toList == []) = a.isEmpty := by rw [← hs, toList_data]; cases a <;> rfl
  rw [hs]
  clear hs
  go_enter Try.func25, Try.ntmps25
  go_wp2_with (at_builtin; refine Kd.R_append Kd.string (w0 := w0) w0.heap.size rfl (.tmp 4) (.tmp 6) 32 9 (.string ⟨#[]⟩) 16 rfl Try.underlying32 info9 rfl (by decide) (by omega) v xs s [.string s] (fun k => k ≠ p) (fun _ => False) rfl rfl ?aP (fun _ hk => hk.elim) ?aF ?aO ?aB ?aS ?aL ?_; (case aP => exact rfl); (case aB => exact HB.out); (case aF => exact (fun k hk => by have := HL.out; omega)); (case aO => exact HR.out); (case aS => exact below_size HB.out); (case aL => omega); intro v1 w1 ho hb hg hat; obtain ⟨A1, c1, rfl⟩ := Kd.R_slice ho; have HO1 := Aside0.mk ho; have HB1 := Aside0.mk hb; have hg1 : w1.heap[p]? = some (.cells #[v] 32 (0, 0)) := (hg.block p HL.out (fun e => HR.out.1 p e.symm rfl)).trans HV.out; have hc1 := cell_of_block hg1; have hf1 := blk_frozen hg1 0; have HG1 := Aside0.mk hg1; clear ho hb hg hat hg1 hcell)
  all_goals go_ret
  all_goals exact ⟨rfl, _, blk_put HG1.out 0 _ rfl, hp, (by have h := Kd.R_far HO1.out (p := ⟨p, 0, none⟩) (fun k hk => hk) (.slice A1 (xs.length + 1) c1); simp only [List.length_append, List.length_singleton] at h; exact h), below_set HB1.out hp⟩
theorem out_below {w0 w w' : World} {p : Nat} {xs : List ByteArray} (h : Out w0 w p xs) (hb : Below w.heap.size w w') : Out w0 w' p xs := by
  obtain ⟨v, hv, hp, hR, hB⟩ := h
  exact ⟨v, (hb.block p (Array.getElem?_eq_some_iff.1 hv).1).trans hv, hp, Kd.R_below hR hb, below_step hB hb⟩
theorem spl_len (l : List UInt8) : (spl l).length ≤ l.length + 1 := by
  induction l with
  | nil => simp [spl]
  | cons c l ih =>
    rw [spl]
    split
    · simp; omega
    · split
      · simp
      · rename_i h; rw [h] at ih; simp at ih ⊢; omega
open Classical in
noncomputable def EachPost (w0 : World) (p : Nat) (l0 : List UInt8) (e : Ending) (w' : World) : Prop := if ∀ a ∈ spl l0, a ≠ [] then e = .returned (.bool true) ∧ Out w0 w' p ((spl l0).map str) else e = .returned (.bool false) ∧ Below w0.heap.size w0 w'
set_option maxHeartbeats 1000000 in
set_option maxRecDepth 100000 in
theorem each_calls (w0 w : World) (p : Nat) (l0 : List UInt8) (ho : Out w0 w p []) (hl : l0.length ≤ 100000) : Calls Try.prog 24 #[.string (str l0), .func (.func 25) #[] #[.pointer (some ⟨p, 0, none⟩)]] w (EachPost w0 p l0) := by
  have HO := Aside0.mk ho; clear ho
  obtain ⟨s0, hs0⟩ : ∃ s, str l0 = s := ⟨_, rfl⟩
  rw [hs0]
  have HS0 := Aside0.mk hs0; clear hs0
  have hbig : (spl l0).length ≤ 1000000 := by have := spl_len l0; omega
  have HBIG := Aside0.mk hbig; clear hbig
  go_enter Try.func24, Try.ntmps24
  go_wp2
  go_loopw [0, 5] (fun v0 v5 wr => ∃ (l : List UInt8) (done : List (List UInt8)) (m : Bool), v0 = .string (str l) ∧ v5 = .bool m ∧ l.length ≤ 100000 ∧ Aside0 (Out w0 wr p (done.map str)) ∧ Aside0 (∀ a ∈ done, a ≠ []) ∧ Aside0 (if m = true then spl l0 = done ++ spl l else spl l0 = done)) (fun v0 v5 _ => match v0, v5 with | .string s, .bool true => s.size + 1 | _, _ => 0)
  case atStart => exact ⟨l0, [], true, by rw [HS0.out], rfl, hl, HO, ⟨by simp⟩, ⟨rfl⟩⟩
  case round =>
    obtain ⟨l, done, m, rfl, rfl, hll, HO2, HD, HM⟩ := hrel
    clear HO HS0
    cases m with
    | false =>
      go_wp2
      go_ret
      have hm := HM.out
      rw [if_neg Bool.false_ne_true] at hm
      unfold EachPost
      rw [hm, if_pos HD.out]
      exact ⟨rfl, HO2.out⟩
    | true =>
      have hm := HM.out
      rw [if_pos rfl] at hm
      obtain ⟨a, b, m, hc, HC⟩ := cut_calls l wr (by omega)
      have hlen : (done.map str).length ≤ 1000000 := by
        have h1 := congrArg List.length hm
        have := HBIG.out
        rw [List.length_append] at h1
        rw [List.length_map]; omega
      have HSEE : ∀ w', Below wr.heap.size wr w' → Calls Try.prog 25 #[.string (str a), .pointer (some ⟨p, 0, none⟩)] w' (SeePost w0 p (done.map str ++ [str a]) (!a.isEmpty)) := fun w' hb => see_calls w0 w' p (done.map str) a (out_below HO2.out hb) hlen
      have HSEE2 := Aside0.mk HSEE; clear HSEE
      have HCC := Aside0.mk HC; clear HC
      have HC2 := Aside0.mk hc; clear hc
      have HM2 := Aside0.mk hm; clear hm HM hlen
      cases ha : a.isEmpty with
      | true =>
        rw [ha] at HSEE2
        go_wp2_with (first | (go_at_call 30; refine HCC.out.mono ?_; rintro e w' ⟨rfl, hb⟩; have HB := Aside0.mk hb; clear hb) | (go_at_call 25; refine (HSEE2.out _ HB.out).mono ?_; rintro e w'' ⟨rfl, ho⟩; have HO3 := Aside0.mk ho; clear ho))
        go_ret
        unfold EachPost
        have hmem : a ∈ spl l0 := by
          rw [HM2.out]
          rcases HC2.out with ⟨_, _, h⟩ | ⟨_, h, _⟩ <;> rw [h] <;> simp
        have hnil : a = [] := by simpa using ha
        rw [if_neg (fun h => h a hmem hnil)]
        obtain ⟨_, _, _, _, hb⟩ := HO3.out
        exact ⟨rfl, hb⟩
      | false =>
        rw [ha] at HSEE2
        go_wp2_with (first | (go_at_call 30; refine HCC.out.mono ?_; rintro e w' ⟨rfl, hb⟩; have HB := Aside0.mk hb; clear hb) | (go_at_call 25; refine (HSEE2.out _ HB.out).mono ?_; rintro e w'' ⟨rfl, ho⟩; have HO3 := Aside0.mk ho; clear ho))
        have hne : a ≠ [] := by rintro rfl; simp at ha
        go_roundw
        case rel =>
          refine ⟨b, done ++ [a], m, rfl, rfl, ?_, ⟨by rw [List.map_append]; exact HO3.out⟩, ⟨?_⟩, ⟨?_⟩⟩
          · rcases HC2.out with ⟨_, rfl, _⟩ | ⟨_, _, h⟩
            · simp
            · omega
          · intro x hx
            rcases List.mem_append.1 hx with hx | hx
            · exact HD.out x hx
            · rw [List.mem_singleton.1 hx]; exact hne
          · rcases HC2.out with ⟨rfl, rfl, h⟩ | ⟨rfl, h, _⟩
            · rw [if_neg Bool.false_ne_true, HM2.out, h]
            · rw [if_pos rfl, HM2.out, h, List.append_assoc]; rfl
        case measure =>
          rcases HC2.out with ⟨rfl, rfl, h⟩ | ⟨rfl, _, h⟩
          · simp
          · simp only [str_size]; omega
def WordsPost (w : World) (l : List UInt8) (e : Ending) (w' : World) : Prop :=
  (¬ (l = [] ∨ ∀ a ∈ spl l, a ≠ []) ∧ e = .returned (.tuple #[.slice none 0 0, .bool false]) ∧ Below w.heap.size w w') ∨ (l = [] ∧ e = .returned (.tuple #[.slice none 0 0, .bool true]) ∧ Below w.heap.size w w') ∨
    ((∀ a ∈ spl l, a ≠ []) ∧ l ≠ [] ∧ ∃ g c, e = .returned (.tuple #[.slice (some ⟨g, 0, none⟩) (spl l).length c, .bool true]) ∧ (spl l).length ≤ c ∧ w.heap.size ≤ g ∧ g < w'.heap.size ∧ Kd.C Kd.string w' (some ⟨g, 0, none⟩) (spl l).length ((spl l).map str) ∧ Below w.heap.size w w')
set_option maxHeartbeats 1000000 in
set_option maxRecDepth 100000 in
theorem words_calls (l : List UInt8) (w : World) (hl : l.length ≤ 100000) : Calls Try.prog 16 #[.string (str l)] w (WordsPost w l) := by
  by_cases h0 : l = []
  · subst h0
    go_enter Try.func16, Try.ntmps16
    go_wp2
    go_ret2
    exact .inr (.inl ⟨rfl, rfl, Below.refl _ _⟩)
  · have hmf : ∀ (fn : Fn) (first cap : Array Value) (w : World), (Instr.makeFunc fn first cap).run Try.prog w = .ok (.func fn first cap) w := fun _ _ _ _ => rfl
    have hne : ¬ (str l).toList = [] := by rw [toList_data]; exact h0
    have hne2 : (str l).toList.isEmpty = false := by cases h : (str l).toList with
      | nil => exact absurd h hne
      | cons a l => rfl
    have e1 := eq_false hne
    clear hne
    have HE := each_calls w (w.alloc (.cells #[.slice none 0 0] 32)) w.heap.size l ⟨_, blk_new w _, Nat.le_refl _, Kd.R_nil _ _ _ _ _, below_alloc (Below.refl _ _) _⟩ hl
    have HE2 := Aside0.mk HE; clear HE
    have H0 := Aside0.mk h0; clear h0
    obtain ⟨s, hs⟩ : ∃ s, str l = s := ⟨_, rfl⟩
    rw [hs] at HE2 e1 hne2 ⊢
    have HS := Aside0.mk hs; clear hs
    unfold EachPost at HE2
    by_cases hc : ∀ a ∈ spl l, a ≠ []
    · simp only [if_pos hc] at HE2
      go_enter Try.func16, Try.ntmps16
      go_wp2_with (go_at_call 24; refine HE2.out.mono ?_; rintro e w' ⟨rfl, ho⟩; have HO := Aside0.mk ho; obtain ⟨v, hv, _, _, _⟩ := ho; have hcell := cell_of_block hv)
      go_ret2
      obtain ⟨u, hu, _, hR, hB⟩ := HO.out
      have huv : u = v := by
        have := (cell_of_block hu).symm.trans hcell
        injection this
      subst huv
      have hpos : 0 < ((spl l).map str).length := by rw [List.length_map]; exact List.length_pos_iff.2 (spl_ne l)
      obtain ⟨g, c, rfl, hg1, hg2, _⟩ := Kd.R_form hR hpos
      have h3 := Kd.R_reads' hR
      simp only [List.length_map] at h3 ⊢
      exact .inr (.inr ⟨hc, H0.out, g, c, rfl, h3.2.1, hg1, hg2, h3.2.2, hB⟩)
    · simp only [if_neg hc] at HE2
      go_enter Try.func16, Try.ntmps16
      go_wp2_with (go_at_call 24; refine HE2.out.mono ?_; rintro e w' ⟨rfl, hb⟩)
      go_ret2
      exact .inl ⟨fun h => h.elim H0.out hc, rfl, hb⟩
end Go.Proofs.Ytaidjgnkefpclaa.P
