/- Plain lemmas: the document's Words, Texts and Join. -/
import Derived.Test.YtaidjgnkefpclaaF17
import Derived.Test.YtaidjgnkefpclaaF18
import Derived.Test.YtaidjgnkefpclaaF20
import Derived.Test.YtaidjgnkefpclaaNL
import Derived.Test.YtaidjgnkefpclaaS4
namespace Go.Proofs.Ytaidjgnkefpclaa.Pure
open Go.Proofs.Ytaidjgnkefpclaa.B Go.RowKit Go.Proofs.Ytaidjgnkefpclaa.P Go.Proofs.YtaidjgnkefpclaaW.PrintWords Go.Proofs.YtaidjgnkefpclaaW.PrintLast
set_option linter.unusedVariables false
set_option linter.unusedSimpArgs false
def wl (out : List (List UInt8)) (p : List UInt8) : List UInt8 → List (List UInt8) × Bool
  | [] => if p = [] then ([], false) else (out ++ [p], true)
  | c :: r => if c = 32 then (if p = [] then ([], false) else wl (out ++ [p]) [] r) else wl out (p ++ [c]) r
def spl2 (p : List UInt8) (r : List UInt8) : List (List UInt8) := match spl r with
  | [] => []
  | w :: ws => (p ++ w) :: ws
theorem spl2_nil (r : List UInt8) : spl2 [] r = spl r := by unfold spl2; split <;> simp_all
open Classical in
theorem wl_is : ∀ (r : List UInt8) (out : List (List UInt8)) (p : List UInt8), wl out p r = if ∀ a ∈ spl2 p r, a ≠ [] then (out ++ spl2 p r, true) else ([], false) := by
  intro r
  induction r with
  | nil => intro out p; simp only [wl, spl2, spl, List.append_nil]; by_cases h : p = [] <;> simp [h]
  | cons c r ih =>
    intro out p
    rw [wl]
    by_cases hc : c = 32
    · rw [if_pos hc]
      have e : spl2 p (c :: r) = p :: spl r := by simp [spl2, spl, hc]
      rw [e]
      by_cases hp : p = []
      · rw [if_pos hp, if_neg (by simp [hp])]
      · rw [if_neg hp, ih, spl2_nil]
        by_cases ha : ∀ a ∈ spl r, a ≠ []
        · rw [if_pos ha, if_pos (by intro a h; rcases List.mem_cons.1 h with rfl | h; exact hp; exact ha a h), List.append_assoc]; rfl
        · rw [if_neg ha, if_neg (fun h => ha fun a h2 => h a (by simp [h2]))]
    · rw [if_neg hc, ih]
      have e : spl2 (p ++ [c]) r = spl2 p (c :: r) := by
        simp only [spl2, spl, if_neg hc]
        cases h : spl r with
        | nil => exact absurd h (spl_ne r)
        | cons w ws => simp
      rw [e]
def mapStr (x : List (List UInt8) × Bool) : List ByteArray × Bool := (x.1.map str, x.2)
theorem take_snoc (l : List UInt8) (f i : Nat) (hf : f ≤ i) (hi : i < l.length) : (l.drop f).take (i + 1 - f) = (l.drop f).take (i - f) ++ [l[i]] := by
  rw [show i + 1 - f = (i - f) + 1 from by omega, List.take_add_one]
  congr 1
  rw [List.getElem?_drop, show f + (i - f) = i from by omega, List.getElem?_eq_getElem hi]; rfl
theorem take_nil_iff (l : List UInt8) (f i : Nat) (hf : f ≤ i) (hi : i ≤ l.length) : (l.drop f).take (i - f) = [] ↔ i = f := by
  constructor
  · intro h
    have := congrArg List.length h
    rw [List.length_take, List.length_drop] at this
    simp at this
    omega
  · rintro rfl; simp
theorem w64i {x : Int} (h0 : -9223372036854775808 ≤ x) (h1 : x ≤ 9223372036854775807) : wrap64 x = x := by unfold wrap64; omega
theorem words_loop (l : List UInt8) (hl : l.length ≤ 100000) : ∀ (d i f : Nat) (out : List (List UInt8)), i + d = l.length → f ≤ i → out.length ≤ i →
    Ev (fun k => tallymanref01_Words.l0 k ⟨l.toArray⟩ (out.map str) (f : Int) (i : Int)) (mapStr (wl out ((l.drop f).take (i - f)) (l.drop i))) := by
  intro d
  induction d with
  | zero =>
    intro i f out hi hf ho
    have hdn : l.drop i = [] := List.drop_eq_nil_of_le (by omega)
    rw [hdn, wl]
    refine Ev.step (fun k => by rw [tallymanref01_Words.l0, size_l, if_pos (by omega), if_neg (by omega)]) ?_
    by_cases hp : i = f
    · rw [if_pos ((take_nil_iff l f i hf (by omega)).2 hp)]
      refine Ev.step (fun k => by rw [tallymanref01_Words.j1, if_neg Bool.false_ne_true, if_pos (by omega)]; rfl) (Ev.now _)
    · rw [if_neg (fun h => hp ((take_nil_iff l f i hf (by omega)).1 h))]
      refine Ev.step (fun k => by rw [tallymanref01_Words.j1, if_neg Bool.false_ne_true, if_neg (by omega), if_pos (by omega), if_pos (by omega), size_l, if_pos (by omega), if_pos (by rw [List.length_map]; omega), w64i (by omega) (by omega)]) (Ev.step (fun k => ?_) (Ev.now _))
      rw [tallymanref01_Words.l0, size_l, if_neg (by omega), extract_l, Int.toNat_natCast, Int.toNat_natCast]
      simp [mapStr]
  | succ d ih =>
    intro i f out hi hf ho
    have hlt : i < l.length := by omega
    have hb : bt ⟨l.toArray⟩ (i : Int) = (l[i].toNat : Int) := bt_l l i hlt
    rw [show l.drop i = l[i] :: l.drop (i + 1) from List.drop_eq_getElem_cons hlt, wl]
    refine Ev.step (fun k => by rw [tallymanref01_Words.l0, size_l, if_pos (by omega), if_pos (by omega), if_pos (by omega), hb]) ?_
    by_cases hc : l[i] = 32
    · rw [show (((l[i].toNat : Int)) != 32) = false from by rw [hc]; rfl, if_pos hc]
      by_cases hp : i = f
      · rw [if_pos ((take_nil_iff l f i hf (by omega)).2 hp)]
        refine Ev.step (fun k => by rw [tallymanref01_Words.j1, if_neg Bool.false_ne_true, if_pos (by omega)]; rfl) (Ev.now _)
      · rw [if_neg (fun h => hp ((take_nil_iff l f i hf (by omega)).1 h))]
        have := ih (i + 1) (i + 1) (out ++ [(l.drop f).take (i - f)]) (by omega) (Nat.le_refl _) (by simp; omega)
        rw [Nat.sub_self, List.take_zero] at this
        refine Ev.step (fun k => ?_) this
        rw [tallymanref01_Words.j1, if_neg Bool.false_ne_true, if_neg (by omega), if_pos (by omega), if_pos (by omega), size_l, if_pos (by omega), if_pos (by rw [List.length_map]; omega), w64i (by omega) (by omega), extract_l, Int.toNat_natCast, Int.toNat_natCast, List.map_append, show (i : Int) + 1 = ((i + 1 : Nat) : Int) from by omega]
        rfl
    · have hne : l[i].toNat ≠ 32 := fun h => hc (by rw [← UInt8.toNat_inj]; exact h)
      rw [show (((l[i].toNat : Int)) != 32) = true from by simp; omega, if_neg hc, ← take_snoc l f i hf hlt]
      refine Ev.step (fun k => ?_) (ih (i + 1) f out (by omega) (by omega) (by omega))
      rw [tallymanref01_Words.j1, if_pos rfl, w64i (by omega) (by omega), show (i : Int) + 1 = ((i + 1 : Nat) : Int) from by omega]
open Classical in
noncomputable def wordsS (l : List UInt8) : List ByteArray × Bool := if l = [] then ([], true) else if ∀ a ∈ spl l, a ≠ [] then ((spl l).map str, true) else ([], false)
theorem words_ref (l : List UInt8) (hl : l.length ≤ 100000) : Ev (fun k => tallymanref01_Words.f k ⟨l.toArray⟩) (wordsS l) := by
  unfold tallymanref01_Words.f wordsS
  rw [toList_l]
  by_cases h0 : l = []
  · rw [if_pos h0]; exact Ev.congr (fun k => if_pos h0) (Ev.now _)
  · rw [if_neg h0]
    refine Ev.congr (fun k => if_neg h0) ?_
    have h := words_loop l hl l.length 0 0 [] (by omega) (by omega) (by simp)
    rw [List.drop_zero, Nat.sub_self, List.take_zero, wl_is, spl2_nil] at h
    by_cases ha : ∀ a ∈ spl l, a ≠ []
    · rw [if_pos ha]; rw [if_pos ha] at h; exact h
    · rw [if_neg ha]; rw [if_neg ha] at h; exact h
theorem texts_same (l : List ByteArray) (hl : l.length ≤ 1000000) : Ev (fun k => tallymanref01_Texts.f k l l) true := by
  unfold tallymanref01_Texts.f
  refine Ev.congr (fun k => if_pos rfl) ?_
  have : ∀ (d i : Nat), i + d = l.length → Ev (fun k => tallymanref01_Texts.l0 k l l (i : Int)) true := by
    intro d
    induction d with
    | zero => intro i hi; exact Ev.step (fun k => by rw [tallymanref01_Texts.l0, if_neg (by omega)]) (Ev.now _)
    | succ d ih =>
      intro i hi
      refine Ev.step (fun k => ?_) (ih (i + 1) (by omega))
      rw [tallymanref01_Texts.l0, if_pos (by omega), if_pos (by omega), if_pos (by omega), if_pos rfl, w64i (by omega) (by omega), show (i : Int) + 1 = ((i + 1 : Nat) : Int) from by omega]
  exact this l.length 0 (by omega)
def sizes (l : List ByteArray) : Nat := (l.map (·.size)).sum
theorem join_ref (l : List ByteArray) (hn : l.length ≤ 1000) (hs : ∀ s ∈ l, s.size ≤ 1000) : Ev (fun k => tallymanref01_Join.f k l) ⟨(Lib.join (l.map (·.data.toList)) [32]).toArray⟩ := by
  unfold tallymanref01_Join.f
  have key : ∀ (d i : Nat) (acc : List UInt8), i + d = l.length → acc.length ≤ 2000 * i → Ev (fun k => tallymanref01_Join.l0 k l ⟨acc.toArray⟩ (i : Int)) ⟨(acc ++ (if i = 0 then Lib.join (l.map (·.data.toList)) [32] else Lib.joinTail [32] ((l.drop i).map (·.data.toList)))).toArray⟩ := by
    intro d
    induction d with
    | zero =>
      intro i acc hi ha
      refine Ev.step (fun k => by rw [tallymanref01_Join.l0, if_neg (by omega)]) ?_
      have : (acc ++ (if i = 0 then Lib.join (l.map (·.data.toList)) [32] else Lib.joinTail [32] ((l.drop i).map (·.data.toList)))) = acc := by
        by_cases h0 : i = 0
        · have : l = [] := List.eq_nil_of_length_eq_zero (by omega)
          subst this
          rw [if_pos h0]; exact List.append_nil acc
        · rw [if_neg h0, List.drop_eq_nil_of_le (by omega)]; exact List.append_nil acc
      rw [this]
      exact Ev.now _
    | succ d ih =>
      intro i acc hi ha
      have hlt : i < l.length := by omega
      obtain ⟨x, hx⟩ := bytes_list (l[i])
      have hr : rdOf ByteArray.empty l (i : Int) = ⟨x.toArray⟩ := by rw [← hx]; simp [rdOf, hlt]
      have hxs : x.length ≤ 1000 := by have := hs l[i] (List.getElem_mem hlt); rw [hx, size_l] at this; exact this
      have hd : l.drop i = l[i] :: l.drop (i + 1) := List.drop_eq_getElem_cons hlt
      by_cases h0 : i = 0
      · subst h0
        refine Ev.step (fun k => ?_) (Ev.congr (f := fun k => tallymanref01_Join.l0 k l ⟨(acc ++ x).toArray⟩ ((1 : Nat) : Int)) (fun k => rfl) ?_)
        · rw [tallymanref01_Join.l0, if_pos (by omega), if_neg (by omega), if_pos (by omega), hr, size_l, size_l, if_pos (by omega), append_l, w64i (by omega) (by omega)]; rfl
        · have := ih 1 (acc ++ x) (by omega) (by simp; omega)
          rw [if_neg (by omega), List.append_assoc] at this
          rw [if_pos rfl]
          rw [List.drop_zero] at hd
          have e : Lib.join (l.map (·.data.toList)) [32] = x ++ Lib.joinTail [32] ((l.drop 1).map (·.data.toList)) := by
            rw [hd, List.map_cons, Lib.join_cons]
            rw [hx]; rfl
          rw [e]; exact this
      · refine Ev.step (fun k => ?_) (Ev.congr (f := fun k => tallymanref01_Join.l0 k l ⟨(acc ++ [32] ++ x).toArray⟩ ((i + 1 : Nat) : Int)) (fun k => rfl) ?_)
        · have e32 : (⟨acc.toArray⟩ : ByteArray) ++ (⟨#[32]⟩ : ByteArray) = ⟨(acc ++ [32]).toArray⟩ := append_l acc [32]
          rw [tallymanref01_Join.l0, if_pos (by omega), if_pos (by omega), size_l, if_pos (by omega), if_pos (by omega), hr, e32, size_l, size_l, if_pos (by simp; omega), append_l, w64i (by omega) (by omega), show (i : Int) + 1 = ((i + 1 : Nat) : Int) from by omega]
        · have := ih (i + 1) (acc ++ [32] ++ x) (by omega) (by simp; omega)
          rw [if_neg (by omega)] at this
          rw [if_neg h0, hd, List.map_cons]
          have e : Lib.joinTail [32] ((l[i]).data.toList :: (l.drop (i + 1)).map (·.data.toList)) = [32] ++ x ++ Lib.joinTail [32] ((l.drop (i + 1)).map (·.data.toList)) := by
            rw [hx]; simp [Lib.joinTail]
          rw [e]
          simpa [List.append_assoc] using this
  have := key l.length 0 [] (by omega) (by simp)
  rw [if_pos rfl, List.nil_append] at this
  exact this
end Go.Proofs.Ytaidjgnkefpclaa.Pure
