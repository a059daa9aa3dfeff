/- NumWords: the words of any text, and any texts with blanks between. -/
import Derived.Test.YtaidjgnkefpclaaNW
import Derived.Test.YtaidjgnkefpclaaS3
import Derived.Test.YtaidjgnkefpclaaK
import Derived.Test.YtaidjgnkefpclaaS4
set_option linter.unusedVariables false
set_option linter.unusedSimpArgs false
namespace Go.Proofs.Ytaidjgnkefpclaa.P
open Go.Proofs.Ytaidjgnkefpclaa.B Go.RowKit Go.Proofs.Ytaidjgnkefpclaa.Pure Go.Proofs.YtaidjgnkefpclaaW.PrintWords Go.Proofs.YtaidjgnkefpclaaW.PrintLast Go.Proofs.YtaidjgnkefpclaaW.PrintMore
theorem str_cell {w : World} {A : Option Addr} {n : Nat} {l : List ByteArray} (hn : l.length = n) (hC : Kd.C Kd.string w A n l) {j : Nat} {x : ByteArray} (hx : l[j]? = some x) : ∃ g o, A = some ⟨g, o, none⟩ ∧ w.cell? ⟨g, o + j, none⟩ = some (.string x) ∧ g < w.heap.size := by
  subst hn
  have hj : j < l.length := (List.getElem?_eq_some_iff.1 hx).1
  obtain ⟨_, _, h3⟩ := hC
  obtain ⟨ad, rfl, hp⟩ := h3 (by omega)
  have rd : ∀ (j : Nat) (x : ByteArray), l[j]? = some x → w.cell? (ad.add j) = some (.string x) := by
    intro j x hx
    obtain ⟨cs, _, h2, hcs⟩ := hp j x hx
    obtain rfl : cs = [.string x] := h2
    have h3 := hcs 0 (.string x) rfl
    simpa [show Kd.string.sz = 1 from rfl] using h3
  have h0 := rd 0 l[0] (List.getElem?_eq_getElem (by omega))
  have e0 : ad.add 0 = ad := by simp [Addr.add]
  rw [e0] at h0
  obtain ⟨g, o, s⟩ := ad
  have hs : s = none := by
    cases s with
    | none => rfl
    | some k =>
      unfold World.cell? at h0
      split at h0
      · simp at h0
      · simp at h0
  subst hs
  have hg : g < w.heap.size := by
    unfold World.cell? at h0
    split at h0
    · rename_i h; exact (Array.getElem?_eq_some_iff.1 h).1
    · simp at h0
  refine ⟨g, o, rfl, ?_, hg⟩
  have := rd j x hx
  rw [add_plain'] at this
  exact this
theorem join_any (A : Option Addr) (c n : Nat) (l : List ByteArray) (w : World) (hn : l.length = n) (hC : Kd.C Kd.string w A n l) (hcap : n ≤ c) (r : ByteArray) (hl : l.length ≤ 1000000)
    (hlen : (Lib.join (l.map (·.data.toList)) [32]).length ≤ 140737488355328) (hr : (⟨(Lib.join (l.map (·.data.toList)) [32]).toArray⟩ : ByteArray) = r) :
    Calls Try.prog 19 #[.slice A n c] w fun e w' => e = .returned (.string r) ∧ Below w.heap.size w w' := by
  subst hr hn
  by_cases h0 : l = []
  · subst h0
    go_enter Try.func19, Try.ntmps19
    go_wp2_with (go_at_call 26; refine (Try.strings_Join_none A c ⟨#[32]⟩ _).mono ?_; rintro e w' ⟨rfl, rfl⟩)
    go_ret
    exact ⟨rfl, Below.refl _ _⟩
  · have hp : 0 < l.length := List.length_pos_iff.2 h0
    obtain ⟨g, o, rfl, _, hg⟩ := str_cell rfl hC (List.getElem?_eq_getElem hp)
    have hc : ∀ (j : Nat) x, l[j]? = some x → w.cell? ⟨g, o + j, none⟩ = some (.string x) := by
      intro j x hx
      obtain ⟨g', o', e, h, _⟩ := str_cell rfl hC hx
      injection e with e
      injection e with e1 e2
      subst e1 e2
      exact h
    have HC := Aside0.mk hc; clear hc
    go_enter Try.func19, Try.ntmps19
    go_wp2_with (go_at_call 26; refine (Try.strings_Join g o c l ⟨#[32]⟩ _ HC.out hg (by omega) hcap hlen).mono ?_; rintro e w' ⟨rfl, hb⟩)
    go_ret
    exact ⟨rfl, hb⟩
theorem nilS (w : World) : Kd.C Kd.string w none 0 [] := ⟨rfl, by decide, fun h => absurd h (by decide)⟩
def WRd (w : World) (xs : List ByteArray) (b : Bool) (e : Ending) (w' : World) : Prop := ∃ A c, e = .returned (.tuple #[.slice A xs.length c, .bool b]) ∧ xs.length ≤ c ∧ Kd.C Kd.string w' A xs.length xs ∧ Below w.heap.size w w'
theorem words_rd (l : List UInt8) (w : World) (hl : l.length ≤ 100000) (xs : List ByteArray) (b : Bool) (h : wordsS l = (xs, b)) : Calls Try.prog 16 #[.string (str l)] w (WRd w xs b) := by
  unfold wordsS at h
  refine (words_calls l w hl).mono ?_
  rintro e w' (⟨h1, rfl, hb⟩ | ⟨h1, rfl, hb⟩ | ⟨h1, h2, g, c, rfl, h3, _, _, h5, h6⟩)
  · rw [if_neg (fun e => h1 (.inl e)), if_neg (fun e => h1 (.inr e))] at h
    obtain ⟨rfl, rfl⟩ := Prod.mk.inj h
    exact ⟨none, 0, rfl, Nat.le_refl _, nilS _, hb⟩
  · rw [if_pos h1] at h
    obtain ⟨rfl, rfl⟩ := Prod.mk.inj h
    exact ⟨none, 0, rfl, Nat.le_refl _, nilS _, hb⟩
  · rw [if_neg h2, if_pos h1] at h
    obtain ⟨rfl, rfl⟩ := Prod.mk.inj h
    have hlen : ((spl l).map str).length = (spl l).length := List.length_map _
    refine ⟨some ⟨g, 0, none⟩, c, by rw [hlen], by rw [hlen]; exact h3, by rw [hlen]; exact h5, h6⟩
theorem refw_rd {k : Nat} {s : ByteArray} {xs : List ByteArray} {b : Bool} (h : tallymanref01_Words.f k s = some (xs, b)) (w : World) : Calls Try.prog 17 #[.string s] w (WRd w xs b) := by
  refine (tallymanref01_Words.calls k s xs b w h).mono ?_
  rintro e w' ⟨v, rfl, hR, hB⟩
  obtain ⟨A, c, rfl⟩ := Kd.R_slice hR
  exact ⟨A, c, rfl, (Kd.R_reads' hR).2.1, (Kd.R_reads' hR).2.2, hB⟩
theorem texts_rd {k : Nat} {l : List ByteArray} (h : tallymanref01_Texts.f k l l = some true) {A0 A1 : Option Addr} {c0 c1 : Nat} {w : World} (h0 : Kd.C Kd.string w A0 l.length l) (hc0 : l.length ≤ c0) (h1 : Kd.C Kd.string w A1 l.length l) (hc1 : l.length ≤ c1) : Calls Try.prog 18 #[.slice A0 l.length c0, .slice A1 l.length c1] w fun e w' => e = .returned (.bool true) ∧ Below w.heap.size w w' :=
  (tallymanref01_Texts.calls k A0 c0 l A1 c1 l true w h0 hc0 h1 hc1 h).mono fun e w' ⟨h1, h2⟩ => ⟨h1, h2.below⟩
theorem refj_rd {k : Nat} {l : List ByteArray} {j : ByteArray} (h : tallymanref01_Join.f k l = some j) {A0 : Option Addr} {c0 : Nat} {w : World} (h0 : Kd.C Kd.string w A0 l.length l) (hc0 : l.length ≤ c0) : Calls Try.prog 20 #[.slice A0 l.length c0] w fun e w' => e = .returned (.string j) ∧ Below w.heap.size w w' :=
  (tallymanref01_Join.calls k A0 c0 l j w h0 hc0 h).mono fun e w' ⟨h1, h2⟩ => ⟨h1, h2.below⟩
set_option maxHeartbeats 4000000 in
set_option maxRecDepth 100000 in
theorem numWords_calls (A : Option Addr) (c0 : Nat) (l : List ByteArray) (s : ByteArray) (w : World) (hr : Kd.C Kd.string w A l.length l) (hc0 : l.length ≤ c0) (xs : List ByteArray) (b : Bool) (j : ByteArray) (k1 k2 k3 : Nat)
    (hs : s.size ≤ 300) (hl : l.length ≤ 50) (hw : ∀ w, Calls Try.prog 16 #[.string s] w (WRd w xs b)) (f1 : tallymanref01_Words.f k1 s = some (xs, b)) (f2 : tallymanref01_Texts.f k2 xs xs = some true)
    (hj : (∀ x ∈ l, x.size ≤ 300) → (tallymanref01_Join.f k3 l = some j) ∧ ∀ w, Kd.C Kd.string w A l.length l → Calls Try.prog 19 #[.slice A l.length c0] w fun e w' => e = .returned (.string j) ∧ Below w.heap.size w w') :
    Calls Try.prog 5 #[.string s, .slice A l.length c0] w fun e w' => e = .returned (.bool true) ∧ Below w.heap.size w w' := by
  have HR := Aside0.mk hr; clear hr
  have HW := Aside0.mk hw; clear hw
  have F1 := Aside0.mk f1; clear f1
  have F2 := Aside0.mk f2; clear f2
  have HJ := Aside0.mk hj; clear hj
  have g1 : decide ((300 : Int) < s.size) = false := by simp; omega
  have g2 : decide ((50 : Int) < l.length) = false := by simp; omega
  go_enter Try.func5, Try.ntmps5
  go_wp2_with fail
  go_loopw [5, 23] (fun v5 v23 wr => ∃ (i n : Nat), i ≤ l.length ∧ n ≤ 1300 ∧ v5 = .int .i64 n ∧ v23 = .int .i64 i ∧ Aside0 (∀ x ∈ l.take i, x.size ≤ 300) ∧ wr = w) (fun v5 v23 _ => l.length - (intOf v23).toNat)
  case atStart => exact ⟨0, 0, by omega, by omega, rfl, rfl, ⟨by simp⟩, rfl⟩
  case round =>
    obtain ⟨i, n, hi, hn, rfl, rfl, HS, rfl⟩ := hrel
    by_cases hlt : i < l.length
    · obtain ⟨x, hx⟩ : ∃ x, l[i]? = some x := ⟨_, List.getElem?_eq_getElem hlt⟩
      obtain ⟨g, o, rfl, hcell, hg⟩ := str_cell rfl HR.out hx
      have e1 : (⟨g, o, none⟩ : Addr).add i = ⟨g, o + i, none⟩ := add_plain' g o i
      have hcell' : wr.cell? ((⟨g, o, none⟩ : Addr).add i) = some (.string x) := by rw [e1]; exact hcell
      have HX := Aside0.mk hx; clear hx
      by_cases hb1 : 300 < x.size
      · go_wp2_with (go_at_call 7; (with_reducible refine (tallymanlaw01_alive.calls true _ rfl).mono ?_); rintro e w' ⟨rfl, hb⟩)
        go_ret
        exact ⟨rfl, hb⟩
      · by_cases hb2 : 1000 < n
        · go_wp2_with (go_at_call 7; (with_reducible refine (tallymanlaw01_alive.calls true _ rfl).mono ?_); rintro e w' ⟨rfl, hb⟩)
          go_ret
          exact ⟨rfl, hb⟩
        · go_wp2
          go_roundw
          case rel =>
            refine ⟨i + 1, n + x.size, by omega, by omega, by go_num, by go_num, ⟨?_⟩, trivial⟩
            intro y hy
            rw [List.take_add_one, HX.out] at hy
            rcases List.mem_append.1 hy with hy | hy
            · exact HS.out y hy
            · simp at hy; subst hy; omega
          case measure => simp [intOf]; omega
    · obtain rfl : i = l.length := by omega
      have hs2 := HS.out
      rw [List.take_length] at hs2
      obtain ⟨f3, hj2⟩ := HJ.out hs2
      have F3 := Aside0.mk f3; clear f3
      have HJ2 := Aside0.mk hj2; clear hj2 hs2 HJ HS
      have HB := Aside0.mk (Below.refl wr.heap.size wr)
      go_wp2_with (first | (go_at_call 16; (with_reducible refine (HW.out _).mono ?_); rintro e w' ⟨Aa, ca, rfl, hc, hC, hb⟩; have HCa := Aside0.mk hc; have HXa := Aside0.mk hC; clear hc hC; have n0 := Aside0.mk (Kd.C_below HR.out hb); clear HR; have HR := n0; clear n0; have n0 := Aside0.mk (below_step HB.out hb); clear HB; have HB := n0; clear n0 hb) | (go_at_call 17; (with_reducible refine (refw_rd F1.out _).mono ?_); rintro e w' ⟨Ab, cb, rfl, hc, hC, hb⟩; have HCb := Aside0.mk hc; have HXb := Aside0.mk hC; clear hc hC; have n0 := Aside0.mk (Kd.C_below HR.out hb); clear HR; have HR := n0; clear n0; have n0 := Aside0.mk (Kd.C_below HXa.out hb); clear HXa; have HXa := n0; clear n0; have n0 := Aside0.mk (below_step HB.out hb); clear HB; have HB := n0; clear n0 hb) | (go_at_call 18; (with_reducible refine (texts_rd F2.out HXa.out HCa.out HXb.out HCb.out).mono ?_); rintro e w' ⟨rfl, hb⟩; have n0 := Aside0.mk (Kd.C_below HR.out hb); clear HR; have HR := n0; clear n0; have n0 := Aside0.mk (below_step HB.out hb); clear HB; have HB := n0; clear n0 hb) | (go_at_call 19; (with_reducible refine (HJ2.out _ HR.out).mono ?_); rintro e w' ⟨rfl, hb⟩; have n0 := Aside0.mk (Kd.C_below HR.out hb); clear HR; have HR := n0; clear n0; have n0 := Aside0.mk (below_step HB.out hb); clear HB; have HB := n0; clear n0 hb) | (go_at_call 20; (with_reducible refine (refj_rd F3.out HR.out hc0).mono ?_); rintro e w' ⟨rfl, hb⟩; have n0 := Aside0.mk (Kd.C_below HR.out hb); clear HR; have HR := n0; clear n0; have n0 := Aside0.mk (below_step HB.out hb); clear HB; have HB := n0; clear n0 hb) | (go_at_call 7; (with_reducible refine (tallymanlaw01_alive.calls true _ rfl).mono ?_); rintro e w' ⟨rfl, hb⟩; have n0 := Aside0.mk (Kd.C_below HR.out hb); clear HR; have HR := n0; clear n0; have n0 := Aside0.mk (below_step HB.out hb); clear HB; have HB := n0; clear n0 hb))
      all_goals go_ret
      all_goals exact ⟨by first | rfl | simp [*], HB.out⟩
theorem numWords_none (A : Option Addr) (n0 c0 : Nat) (s : ByteArray) (w : World) (h : 300 < s.size ∨ 50 < n0) : Calls Try.prog 5 #[.string s, .slice A n0 c0] w fun e w' => e = .returned (.bool true) ∧ Below w.heap.size w w' := by
  go_enter Try.func5, Try.ntmps5
  go_wp2_with (go_at_call 7; (with_reducible refine (tallymanlaw01_alive.calls true _ rfl).mono ?_); rintro e w' ⟨rfl, hb⟩)
  all_goals first | (exfalso; omega) | (go_ret; exact ⟨rfl, hb⟩) | skip
theorem C_of_strs {w : World} {a : Option Addr} {len cap : Nat} {zs : List ByteArray} (h : (a = none ∧ len = 0 ∧ cap = 0 ∧ zs = []) ∨ ∃ x, a = some x ∧ len ≤ cap ∧ cap ≤ maxLen ∧ zs.length = cap ∧ ∀ i, i < zs.length → w.cell? (x.add i) = some (.string (zs.getD i ByteArray.empty))) :
    ∃ l : List ByteArray, l.length = len ∧ len ≤ cap ∧ Kd.C Kd.string w a len l := by
  rcases h with ⟨rfl, rfl, rfl, rfl⟩ | ⟨x, rfl, h1, h2, h3, h4⟩
  · exact ⟨[], rfl, Nat.le_refl _, nilS w⟩
  · have hl : (zs.take len).length = len := by rw [List.length_take]; omega
    unfold maxLen at h2
    refine ⟨zs.take len, hl, h1, ⟨hl, by omega, fun _ => ⟨x, rfl, fun j p hp => ⟨[.string p], rfl, rfl, fun i u hu => ?_⟩⟩⟩⟩
    cases i with
    | zero =>
      simp only [List.getElem?_cons_zero, Option.some.injEq] at hu
      subst hu
      have hj : j < (zs.take len).length := (List.getElem?_eq_some_iff.1 hp).1
      rw [List.getElem?_take_of_lt (by omega)] at hp
      have := h4 j (by omega)
      rw [List.getD_eq_getElem?_getD, hp] at this
      simpa [show Kd.string.sz = 1 from rfl] using this
    | succ i => simp at hu
def tallymanlaw01_NumWords.Pure : Prop := True
theorem tallymanlaw01_NumWords.walk (P : tallymanlaw01_NumWords.Pure) (a0 : ByteArray) (a1 : Option Addr) (len1 cap1 : Nat) (z1 : List ByteArray) (w : World) (w0 : a0.size ≤ 140737488351232) (w1 : (a1 = none ∧ len1 = 0 ∧ cap1 = 0 ∧ z1 = []) ∨ ∃ x, a1 = some x ∧ len1 ≤ cap1 ∧ cap1 ≤ maxLen ∧ z1.length = cap1 ∧ ∀ i, i < z1.length → w.cell? (x.add i) = some (.string (z1.getD i ByteArray.empty))) :
    Calls Try.prog 5 #[.string a0, .slice a1 len1 cap1] w fun e w' => e = .returned (.bool true) ∧ Below w.heap.size w w' := by
  obtain ⟨l, hll, hcap, hC⟩ := C_of_strs w1
  obtain ⟨s, rfl⟩ := bytes_list a0
  subst hll
  by_cases hg : 300 < (⟨s.toArray⟩ : ByteArray).size ∨ 50 < l.length
  · exact numWords_none a1 l.length cap1 _ w hg
  · have h1 : s.length ≤ 300 := by rw [size_l] at hg; omega
    have h2 : l.length ≤ 50 := by omega
    obtain ⟨xs, b, hw⟩ : ∃ xs b, wordsS s = (xs, b) := ⟨_, _, rfl⟩
    have hr := words_ref s (by omega)
    rw [hw] at hr
    obtain ⟨k1, f1⟩ := Ev.rounds hr
    have hxs : xs.length ≤ 1000000 := by
      unfold wordsS at hw
      have := spl_len s
      split at hw
      · obtain ⟨rfl, rfl⟩ := Prod.mk.inj hw; simp
      · split at hw
        · obtain ⟨rfl, rfl⟩ := Prod.mk.inj hw; rw [List.length_map]; omega
        · obtain ⟨rfl, rfl⟩ := Prod.mk.inj hw; simp
    obtain ⟨k2, f2⟩ := Ev.rounds (texts_same xs hxs)
    by_cases hs : ∀ x ∈ l, x.size ≤ 300
    · obtain ⟨k3, f3⟩ := Ev.rounds (join_ref l (by omega) (fun x hx => by have := hs x hx; omega))
      refine numWords_calls a1 cap1 l _ w hC hcap xs b _ k1 k2 k3 (by rw [size_l]; omega) h2 (fun w => words_rd s w (by omega) xs b hw) f1 f2 (fun _ => ⟨f3, fun w hC => join_any a1 cap1 l.length l w rfl hC hcap _ (by omega) ?_ rfl⟩)
      have hb : ∀ (l : List ByteArray), (∀ x ∈ l, x.size ≤ 300) → (Lib.join (l.map (·.data.toList)) [32]).length ≤ 301 * l.length := by
        intro l hl
        cases l with
        | nil => simp [Lib.join_nil]
        | cons x r =>
          rw [List.map_cons, Lib.join_length, List.length_map]
          have : ∀ (m : List ByteArray), (∀ x ∈ m, x.size ≤ 300) → Lib.lens (m.map (·.data.toList)) ≤ 300 * m.length := by
            intro m hm
            induction m with
            | nil => simp [Lib.lens]
            | cons y m ih =>
              have h1 := hm y (by simp)
              have h2 := ih (fun x hx => hm x (by simp [hx]))
              have h3 : y.data.toList.length = y.size := Array.length_toList
              simp only [Lib.lens, List.map_cons, List.sum_cons, List.length_cons] at h2 ⊢
              omega
          have h := this (x :: r) hl
          simp only [List.map_cons, List.length_cons] at h ⊢
          simp
          omega
      have := hb l hs
      omega
    · exact numWords_calls a1 cap1 l _ w hC hcap xs b ByteArray.empty k1 k2 0 (by rw [size_l]; omega) h2 (fun w => words_rd s w (by omega) xs b hw) f1 f2 (fun h => absurd h hs)
end Go.Proofs.Ytaidjgnkefpclaa.P
