/- Several texts of this proof in one: what the law's functions come to, and the lemmas (some as the kit's print.sh printed them, what is not used struck). -/
import Derived.Test.YtpoghhcpoimepaaM5
import Derived.Test.YtpoghhcpoimepaaM6
section
/- The law WalkLeast. -/
namespace Go.Proofs.Ytpoghhcpoimepaa.P
open Go.Proofs.Ytpoghhcpoimepaa.B Go.RowKit Go.Proofs.YtpoghhcpoimepaaW.PrintWords Go.Proofs.YtpoghhcpoimepaaW.PrintLast Go.Proofs.YtpoghhcpoimepaaW.PrintMore
set_option linter.unusedVariables false
set_option linter.unusedSimpArgs false
theorem both_code (a b : List S56) (ha : a.length ≤ 1000) (hb : b.length ≤ 1000) : tallymanlaw05_both.f a b = some (a ++ b) := by
  unfold tallymanlaw05_both.f
  rw [Option.bind_some, if_pos (by simp only [List.length_nil]; omega), Option.bind_some, List.nil_append, if_pos (by omega)]
theorem least_j0 (l : List S56) : Ev (fun k => tallymanlaw05_WalkLeast.j0 k l true) true :=
  Ev.step (fun k => by rw [tallymanlaw05_WalkLeast.j0, if_pos rfl]) (Ev.bind alive05 (Ev.now _))
theorem least_l0 (s : List S56) (hs : s.length ≤ 1000) (ht : ∀ m ∈ s, tellable m) (hk : ∀ (i : Nat) (h : i + 1 < s.length), ¬ (s[i].f0 ≤ 2 ↔ s[i + 1].f0 ≤ 2)) : ∀ (d i : Nat), s.length ≤ i + d → 1 ≤ i → Ev (fun k => tallymanlaw05_WalkLeast.l0 k s (i : Int)) true := by
  have fin : Ev (fun k => (walk_Text.f s).bind fun t130 => ((walk_Parse.f t130).bind fun bt131 => (if bt131.2.1 = 0 then ((tallymanref05_Same.f k bt131.1 s).bind fun t136 => (if t136 = true then ((tallymanlaw05_alive.f k).bind fun t137 => (some t137)) else (some false))) else (some false)))) true := by
    have h1 : walk_Text.f s = some ⟨(textS s).toArray⟩ := if_pos (by omega)
    have hl := textS_len s
    have h2 : walk_Parse.f ⟨(textS s).toArray⟩ = some (s, 0, 0) := by
      unfold walk_Parse.f
      rw [if_pos (by rw [size_l]; omega)]
      congr 1
      have := prs_text s ht 0 []
      rw [List.nil_append] at this
      exact this
    rw [h1]
    refine Ev.congr (fun k => Option.bind_some _ _) ?_
    rw [h2]
    exact Ev.congr (fun k => Option.bind_some _ _) (Ev.congr (fun k => if_pos rfl) (Ev.bind (same_ev s (by omega)) (Ev.congr (fun k => if_pos rfl) (Ev.bind alive05 (Ev.now _)))))
  intro d
  induction d with
  | zero =>
    intro i hi h1
    exact Ev.step (fun k => by rw [tallymanlaw05_WalkLeast.l0, if_neg (by omega)]) fin
  | succ d ih =>
    intro i hi h1
    by_cases hlt0 : s.length ≤ i
    · exact Ev.step (fun k => by rw [tallymanlaw05_WalkLeast.l0, if_neg (by omega)]) fin
    obtain ⟨j, rfl⟩ : ∃ j, i = j + 1 := ⟨i - 1, by omega⟩
    have hlt : j + 1 < s.length := by omega
    have e1 : wrap64 (((j + 1 : Nat) : Int) - 1) = (j : Int) := by rw [w64_id (by omega) (by omega)]; omega
    have w1 : wrap64 (((j + 1 : Nat) : Int) + 1) = ((j + 1 + 1 : Nat) : Int) := by rw [w64_id (by omega) (by omega)]; rfl
    have r1 := rd56 s (j + 1) hlt
    have r2 := rd56 s j (by omega)
    have hkj := hk j hlt
    refine Ev.step (fun k => by rw [tallymanlaw05_WalkLeast.l0, if_pos (by omega), if_pos (by omega), e1, if_pos (by omega), if_pos (by omega), r1, r2, w1]) ?_
    refine Ev.congr (fun k => if_neg ?_) (ih (j + 1 + 1) (by omega) (by omega))
    rw [beq_iff_eq, decide_eq_decide]
    exact fun h => hkj h.symm
theorem least_near (l : List S56) (hl : l.length ≤ 40) (ht : tot (plainL l) ≤ 250) : Ev (fun k => tallymanlaw05_WalkLeast.j0 k l false) true := by
  have hpl : (plainL l).length = l.length := by unfold plainL; rw [List.length_map]
  have hz := zq_plain l
  obtain ⟨n, hn⟩ : ∃ n, itr l.length (plainL l) = n := ⟨_, rfl⟩
  have hnone := itr_none l.length (plainL l) (by omega)
  have hzq := (itr_nfl l.length (plainL l) hz).2
  have hip := itr_props l.length (plainL l)
  have hfo := foldP_itr l.length (plainL l) (0, 0, 0) (by decide) hz
  have hc1 := short_code l (by omega)
  rw [hn] at hnone hzq hip hfo hc1
  have hnz := none_nz n hnone
  have hb : ∀ p ∈ n, p.f0.natAbs ≤ 250 := fun p hp => Nat.le_trans (tot_mem hp) (by omega)
  have hfar : ¬ ∃ p ∈ n, far p := by rintro ⟨p, hp, hf⟩; have := hb p hp; unfold far at hf; omega
  obtain ⟨he, htl⟩ := outV_tell n hzq hnz hb
  have hpo := plain_out n hzq hnz (fun p hp => by have := hb p hp; omega)
  have hol := outV_len n
  rw [shutV, if_neg hfar] at hc1
  have hc2 := short_code (outV n) (by omega)
  rw [hpo, itr_stop _ n hnone, shutV, if_neg hfar] at hc2
  have hrl : (revV l).length = l.length := by unfold revV; rw [List.length_map, List.length_reverse]
  have hc3 := short_code (l ++ revV l) (by rw [List.length_append]; omega)
  have hnn : itr (l ++ revV l).length (plainL (l ++ revV l)) = [] := by
    have hni := norm_is (l ++ revV l).length (plainL (l ++ revV l)) (by unfold plainL; rw [List.length_map]; exact Nat.le_refl _) (zq_plain _)
    have happ : plainL (l ++ revV l) = plainL l ++ plainL (revV l) := by unfold plainL; rw [List.map_append]
    rw [happ, nfl_app, nfl_back l [] trivial, List.reverse_nil, List.map_eq_nil_iff] at hni
    rw [happ]
    exact hni
  rw [hnn, shutV, if_neg (by rintro ⟨p, hp, _⟩; cases hp)] at hc3
  have hE : walk_End.f (outV n) = walk_End.f l := by
    unfold walk_End.f
    rw [if_pos (by omega), if_pos (by omega)]
    have : foldW (outV n) = foldW l := by
      unfold foldW
      rw [foldW_plain _ _ (by decide), foldW_plain _ _ (by decide), hpo, hfo]
    rw [this]
  have hEl : walk_End.f l = some (((foldW l).1 : Int), (foldW l).2.1, (foldW l).2.2) := if_pos (by omega)
  refine Ev.step (fun k => by rw [tallymanlaw05_WalkLeast.j0, if_neg Bool.false_ne_true]) ?_
  refine Ev.bind hc1 (Ev.bind hc2 (Ev.bind (rev_code l (by omega)) ?_))
  rw [both_code l (revV l) (by omega) (by omega)]
  refine Ev.congr (fun k => Option.bind_some _ _) (Ev.bind hc3 ?_)
  refine Ev.congr (fun k => if_pos rfl) (Ev.congr (fun k => if_pos rfl) (Ev.congr (fun k => if_pos rfl) ?_))
  rw [hE, hEl]
  refine Ev.congr (fun k => Option.bind_some _ _) (Ev.congr (fun k => Option.bind_some _ _) (Ev.congr (fun k => if_neg (by simp)) (Ev.congr (fun k => if_neg (by simp only []; omega)) ?_)))
  refine Ev.bind (same_ev (outV n) (by omega)) (Ev.congr (fun k => if_pos rfl) ?_)
  refine Ev.step (fun k => by rw [tallymanlaw05_WalkLeast.j1, if_neg (by simp [outV])]) ?_
  have hkind : ∀ (i : Nat) (h : i + 1 < (outV n).length), ¬ ((outV n)[i].f0 ≤ 2 ↔ (outV n)[i + 1].f0 ≤ 2) := by
    intro i h
    have hl2 : (outV n).length = n.length := by rw [he, List.length_map]
    have h1 := none_alt n hnone i (by omega)
    have e1 : (outV n)[i] = moveV (toB n[i]) := by simp only [he, List.getElem_map]
    have e2 : (outV n)[i + 1] = moveV (toB n[i + 1]) := by simp only [he, List.getElem_map]
    rw [e1, e2, move_kind, move_kind]
    exact h1
  exact least_l0 (outV n) (by omega) htl hkind (outV n).length 1 (by omega) (Nat.le_refl _)
theorem least05 (l : List S56) : ∃ k, tallymanlaw05_WalkLeast.f k l = some true := by
  refine Ev.rounds ?_
  unfold tallymanlaw05_WalkLeast.f
  by_cases hg : (l.length : Int) > 40
  · exact Ev.congr (fun k => if_pos hg) (least_j0 l)
  refine Ev.congr (fun k => if_neg hg) (Ev.bind (near_ev l (by omega)) ?_)
  by_cases ht : tot (plainL l) ≤ 250
  · rw [decide_eq_true ht]; exact least_near l (by omega) ht
  · rw [decide_eq_false ht]; exact least_j0 l
def tallymanlaw05_WalkLeast.Pure : Prop := True
theorem tallymanlaw05_WalkLeast.walk (P : tallymanlaw05_WalkLeast.Pure) (a0 : Option Addr) (len0 cap0 : Nat) (w : World) {H : Type} {enc : TypeId × Value → H} {d : DataW H} {p : List MemPlace} (h0 : DataW.Trod enc Try.prog w 0 (fun _ => true) true 41 (.slice a0 len0 cap0) d p) :
    Calls Try.prog 9 #[.slice a0 len0 cap0] w fun e w' => e = .returned (.bool true) ∧ Below w.heap.size w w' := by
  obtain ⟨fuel, hf⟩ := h0
  obtain ⟨l, ⟨A, c, e, hc, hC⟩, hw⟩ := Tr41 _ _ _ _ _ _ hf
  simp [Value.cells] at e
  obtain ⟨rfl, rfl, rfl⟩ := e
  obtain ⟨k, hk⟩ := least05 l
  exact tallymanlaw05_WalkLeast.calls k _ _ l true w hC hc hk
end Go.Proofs.Ytpoghhcpoimepaa.P
end
section
/- WalkLeast: nothing is left to show. -/
namespace Go.Proofs.Ytpoghhcpoimepaa.Pure
theorem WalkLeast : P.tallymanlaw05_WalkLeast.Pure := trivial
end Go.Proofs.Ytpoghhcpoimepaa.Pure
end
