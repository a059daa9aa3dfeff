/- GaussTexts: points as texts are the document's, and come back. -/
import Derived.Test.YtbkcdfiokjhcjaaGP
import Derived.Test.YtbkcdfiokjhcjaaNB
import Derived.Test.YtbkcdfiokjhcjaaF11
set_option linter.unusedVariables false
set_option linter.unusedSimpArgs false
namespace Go.Proofs.Ytbkcdfiokjhcjaa.Pure
open Go.Proofs.Ytbkcdfiokjhcjaa.B Go.RowKit Go.Proofs.Ytbkcdfiokjhcjaa.P Go.Proofs.YtbkcdfiokjhcjaaW.PrintWords Go.Proofs.YtbkcdfiokjhcjaaW.PrintLast Go.Proofs.YtbkcdfiokjhcjaaW.PrintMore
def pairOf (a b : List UInt8) (m : Bool) : Int × Int × Bool := if m = true then (if (parseS a).2 = true then (if (parseS b).2 = true then ((parseS a).1, (parseS b).1, true) else (0, 0, false)) else (0, 0, false)) else (0, 0, false)
theorem cut_len (c : UInt8) (l : List UInt8) : (cutL c l).1.length ≤ l.length ∧ (cutL c l).2.1.length ≤ l.length := by
  rcases ib_cut c l with ⟨_, h⟩ | ⟨i, _, _, h⟩ <;> rw [h] <;> simp <;> omega
theorem parseG (l : List UInt8) (hl : l.length ≤ 1000000) : gauss_Parse.f ⟨l.toArray⟩ = some (pairOf (cutL 44 l).1 (cutL 44 l).2.1 (cutL 44 l).2.2) := by
  have h1 := cut_len 44 l
  have hc : strings_Cut.f ⟨l.toArray⟩ (⟨#[44]⟩ : ByteArray) = some (⟨(cutL 44 l).1.toArray⟩, ⟨(cutL 44 l).2.1.toArray⟩, (cutL 44 l).2.2) := by
    unfold strings_Cut.f
    simp only []
    rw [if_pos (by rw [size_l]; exact hl)]
  unfold gauss_Parse.f pairOf
  rw [hc, Option.bind_some]
  simp only []
  rw [parse_code _ (by omega), parse_code _ (by omega), Option.bind_some, Option.bind_some]
  split
  · split
    · split <;> rfl
    · rfl
  · rfl
theorem refG_loop (l : List UInt8) (hl : l.length ≤ 100000) : ∀ (d i : Nat), i + d = l.length → Ev (fun k => tallymanref03_Parse.l0 k ⟨l.toArray⟩ (i : Int)) (pairOf (l.take i ++ (cutL 44 (l.drop i)).1) (cutL 44 (l.drop i)).2.1 (cutL 44 (l.drop i)).2.2) := by
  intro d
  induction d with
  | zero =>
    intro i hi
    have hn : l.drop i = [] := List.drop_eq_nil_of_le (by omega)
    rw [hn, cutL, pairOf, if_neg Bool.false_ne_true]
    exact Ev.step (fun k => by rw [tallymanref03_Parse.l0, size_l, if_neg (by omega)]) (Ev.now _)
  | succ d ih =>
    intro i hi
    have hlt : i < l.length := by omega
    have hb : bt ⟨l.toArray⟩ (i : Int) = (l[i].toNat : Int) := bt_l l i hlt
    rw [show l.drop i = l[i] :: l.drop (i + 1) from List.drop_eq_getElem_cons hlt, cutL]
    by_cases hc : l[i] = 44
    · rw [if_pos hc, List.append_nil, pairOf, if_pos rfl]
      have hb2 : bt ⟨l.toArray⟩ (i : Int) = 44 := by rw [hb, hc]; rfl
      refine Ev.step (fun k => by rw [tallymanref03_Parse.l0, size_l, if_pos (by omega), if_pos (by omega), if_pos hb2, if_pos (by omega), w64 (by omega) (by omega)]) ?_
      rw [extract_l, extract_l, Int.toNat_natCast, List.drop_zero, Nat.sub_zero, show ((i : Int) + 1).toNat = i + 1 from by omega, List.take_of_length_le (l := l.drop (i + 1)) (by rw [List.length_drop]; omega)]
      refine Ev.bind (parse_ref (l.take i) (by rw [List.length_take]; omega)) (Ev.congr (fun k => (if_pos (by omega)).trans (if_pos (by omega))) ?_)
      refine Ev.bind (parse_ref (l.drop (i + 1)) (by rw [List.length_drop]; omega)) ?_
      refine Ev.congr (fun k => ?_) (Ev.now _)
      simp only []
      by_cases q1 : (parseS (l.take i)).2 = true
      · rw [if_pos q1, if_pos q1]
        by_cases q2 : (parseS (l.drop (i + 1))).2 = true
        · rw [if_pos q2, if_pos q2]
        · rw [if_neg q2, if_neg q2]
      · rw [if_neg q1, if_neg q1]
    · have hne : l[i].toNat ≠ 44 := fun h => hc (by rw [← UInt8.toNat_inj]; exact h)
      rw [if_neg hc]
      have h2 := ih (i + 1) (by omega)
      rw [List.take_add_one, List.getElem?_eq_getElem hlt] at h2
      simp only [Option.toList_some, List.append_assoc, List.singleton_append] at h2
      refine Ev.step (fun k => ?_) h2
      rw [tallymanref03_Parse.l0, size_l, if_pos (by omega), if_pos (by omega), hb, if_neg (by omega), w64 (by omega) (by omega)]; rfl
theorem refG (l : List UInt8) (hl : l.length ≤ 100000) : Ev (fun k => tallymanref03_Parse.f k ⟨l.toArray⟩) (pairOf (cutL 44 l).1 (cutL 44 l).2.1 (cutL 44 l).2.2) := by
  have h := refG_loop l hl l.length 0 (by omega)
  rw [List.take_zero, List.nil_append, List.drop_zero] at h
  exact h
theorem printS_len (n : Int) : (printS n).length ≤ 65 := by
  unfold printS
  have := toD_len 10 64 n.natAbs
  split
  · simp; omega
  · omega
theorem text_code (x y : Int) (hx : -9223372036854775808 ≤ x ∧ x ≤ 9223372036854775807) (hy : -9223372036854775808 ≤ y ∧ y ≤ 9223372036854775807) : gauss_Text.f x y = some ⟨(printS x ++ 44 :: printS y).toArray⟩ := by
  have l1 := printS_len x
  have l2 := printS_len y
  have e44 : (⟨(printS x).toArray⟩ : ByteArray) ++ (⟨#[44]⟩ : ByteArray) = ⟨(printS x ++ [44]).toArray⟩ := append_l (printS x) [44]
  unfold gauss_Text.f
  rw [print_code x hx.1 hx.2, print_code y hy.1 hy.2, Option.bind_some, size_l, if_pos (by omega), Option.bind_some, e44, size_l, size_l, if_pos (by simp; omega), append_l, List.append_assoc]; rfl
theorem text_ref (x y : Int) (hx : -9223372036854775808 ≤ x ∧ x ≤ 9223372036854775807) (hy : -9223372036854775808 ≤ y ∧ y ≤ 9223372036854775807) : Ev (fun k => tallymanref03_Text.f k x y) ⟨(printS x ++ 44 :: printS y).toArray⟩ := by
  have l1 := printS_len x
  have l2 := printS_len y
  have e44 : (⟨(printS x).toArray⟩ : ByteArray) ++ (⟨#[44]⟩ : ByteArray) = ⟨(printS x ++ [44]).toArray⟩ := append_l (printS x) [44]
  refine Ev.bind (print_ref x hx.1 hx.2) (Ev.congr (fun k => if_pos (by rw [size_l]; omega)) (Ev.bind (print_ref y hy.1 hy.2) (Ev.congr (fun k => if_pos (by rw [e44, size_l, size_l]; simp; omega)) ?_)))
  rw [e44, append_l, List.append_assoc]
  exact Ev.now _
theorem dig_44 : ∀ d : Nat, d < 16 → digB d ≠ 44 := by
  have : ∀ d : Fin 16, digB d.1 ≠ 44 := by decide
  exact fun d h => this ⟨d, h⟩
theorem toD_44 (b : Nat) (hb : 1 ≤ b) (hb16 : b ≤ 16) : ∀ (k w : Nat), ∀ c ∈ toD b k w, c ≠ 44 := by
  intro k
  induction k with
  | zero => intro w c hc; simp [toD] at hc
  | succ k ih =>
    intro w c hc
    have hm : w % b < b := Nat.mod_lt _ (by omega)
    rw [toD] at hc
    split at hc
    · rw [List.mem_singleton.1 hc]; exact dig_44 _ (by omega)
    · rcases List.mem_append.1 hc with h | h
      · exact ih _ c h
      · rw [List.mem_singleton.1 h]; exact dig_44 _ (by omega)
theorem printS_44 (n : Int) : ∀ c ∈ printS n, c ≠ 44 := by
  unfold printS
  split
  · intro c hc
    rcases List.mem_cons.1 hc with rfl | hc
    · decide
    · exact toD_44 10 (by decide) (by decide) _ _ c hc
  · exact toD_44 10 (by decide) (by decide) _ _
theorem cut_app (a b : List UInt8) (h : ∀ c ∈ a, c ≠ 44) : cutL 44 (a ++ 44 :: b) = (a, b, true) := by
  induction a with
  | nil => rw [List.nil_append, cutL, if_pos rfl]
  | cons x a ih =>
    rw [List.cons_append, cutL, if_neg (h x (by simp)), ih (fun c hc => h c (by simp [hc]))]
theorem texts_true (x y : Int) (l : List UInt8) (hx : -9223372036854775808 ≤ x ∧ x ≤ 9223372036854775807) (hy : -9223372036854775808 ≤ y ∧ y ≤ 9223372036854775807) : ∃ k, tallymanlaw03_GaussTexts.f k x y ⟨l.toArray⟩ = some true := by
  refine Ev.rounds ?_
  unfold tallymanlaw03_GaussTexts.f
  rw [size_l]
  by_cases hg : (l.length : Int) > 100
  · refine Ev.congr (fun k => if_pos hg) ?_
    rw [alive3]; exact Ev.now _
  · refine Ev.congr (fun k => if_neg hg) ?_
    have l1 := printS_len x
    have l2 := printS_len y
    have hb : gauss_Parse.f ⟨(printS x ++ 44 :: printS y).toArray⟩ = some (x, y, true) := by
      rw [parseG _ (by simp; omega), cut_app _ _ (printS_44 x)]
      unfold pairOf
      simp only []
      rw [parse_print x hx.1 hx.2, parse_print y hy.1 hy.2]; rfl
    rw [parseG l (by omega), text_code x y hx hy, alive3]
    refine Ev.congr (fun k => Option.bind_some _ _) (Ev.bind (refG l (by omega)) ?_)
    refine Ev.congr (fun k => Option.bind_some _ _) ?_
    rw [hb]
    refine Ev.congr (fun k => (Option.bind_some _ _).trans (Option.bind_some _ _)) (Ev.bind (text_ref x y hx hy) ?_)
    refine Ev.congr (fun k => (if_pos rfl).trans ((if_pos (by simp)).trans ((if_pos (by simp)).trans ((if_pos (by simp)).trans (if_pos rfl))))) (Ev.now _)
end Go.Proofs.Ytbkcdfiokjhcjaa.Pure
namespace Go.Proofs.Ytbkcdfiokjhcjaa.P
open Go.Proofs.Ytbkcdfiokjhcjaa.B Go.RowKit Go.Proofs.Ytbkcdfiokjhcjaa.Pure Go.Proofs.YtbkcdfiokjhcjaaW.PrintWords Go.Proofs.YtbkcdfiokjhcjaaW.PrintLast Go.Proofs.YtbkcdfiokjhcjaaW.PrintMore
def tallymanlaw03_GaussTexts.Pure : Prop := True
theorem tallymanlaw03_GaussTexts.walk (P : tallymanlaw03_GaussTexts.Pure) (a0_0 a0_1 : Int) (a1 : ByteArray) (w : World) (w0_0 : (Lit.int .i64 a0_0).wf = true) (w0_1 : (Lit.int .i64 a0_1).wf = true) (w1 : a1.size ≤ 140737488351232) :
    Calls Try.prog 11 #[.agg #[.int .i64 a0_0, .int .i64 a0_1], .string a1] w fun e w' => e = .returned (.bool true) ∧ Below w.heap.size w w' := by
  obtain ⟨l, rfl⟩ := bytes_list a1
  obtain ⟨k, h⟩ := texts_true a0_0 a0_1 l (wf_i64 w0_0) (wf_i64 w0_1)
  exact tallymanlaw03_GaussTexts.calls k a0_0 a0_1 _ true w h
end Go.Proofs.Ytbkcdfiokjhcjaa.P
