/- Several texts of this proof in one: what the law's functions come to, and the lemmas (some as the kit's print.sh printed them, what is not used struck). -/
import Derived.Test.YtopblnecdabcgaaM2
import Derived.OwnWalk
import Derived.Maps.OwnOps
section
/- heap.Heap: fix, New, Len, First, Has. -/
namespace Go.Proofs.Ytopblnecdabcgaa.P
open Go.RowKit Go.Proofs.YtopblnecdabcgaaW.PrintWords Go.Proofs.YtopblnecdabcgaaW.PrintLast Go.Proofs.YtopblnecdabcgaaW.PrintMore Go.Proofs.Ytopblnecdabcgaa.H Go.Proofs.Ytopblnecdabcgaa.MP Go.Proofs.Ytopblnecdabcgaa.RP
set_option linter.unusedVariables false
set_option linter.unusedSimpArgs false
/-- What fix leaves. -/
def FxPost (w : World) (hb : Nat) (Q : Nat → Prop) (n : Nat) (a : List Th) (i : Nat) (x : Th) (e : Ending) (w' : World) : Prop :=
  ∃ f' n' a', e = .returned (.tuple #[]) ∧ HpR w' hb Q f' n' a' ∧ HpI f' a' ∧ a'.Perm (x :: a.eraseIdx i) ∧ a'.length = a.length ∧ WfA a' ∧ n' ≤ n + 2 * a.length + 2 ∧ KpB Q w w'
theorem fix_mid {f' : Int → Option Int} {a a' : List Th} {i i' : Nat} {x : Th} (h : UpP f' a a' i i' x) (e : ((i' : Int) == (i : Int)) = true) : HpH f' a' i x ∧ (0 < i → ¬ ahd x (atH a' ((i - 1) / 2))) := by
  obtain ⟨_, _, _, h⟩ := h
  have e2 : i' = i := by have e3 := eq_of_beq e; omega
  rcases h with ⟨_, h1, _, h2⟩ | ⟨h1, _⟩
  · exact ⟨h1, h2⟩
  · omega
set_option maxHeartbeats 1000000 in
set_option maxRecDepth 100000 in
theorem fix_calls (hb : Nat) (i : Nat) (x : Th) (w : World) (Q : Nat → Prop) (f : Int → Option Int) (m0 : Nat) (a : List Th) (h : HpR w hb Q f m0 a) (hH : HpH f a i x) (hQ : ∀ k, Q k → k < w.heap.size) (hwa : WfA a) (hx : wfI x.f0) (ha : a.length ≤ 1000000) (hn : m0 ≤ 900000000) :
    Calls Try.prog 79 #[.pointer (some ⟨hb, 0, none⟩), .int .i64 i, .agg #[.int .i64 x.f0, .int .i64 x.f1, .int .i64 x.f2]] w (FxPost w hb Q m0 a i x) := by
  have HX := Aside0.mk hx; have HQ := Aside0.mk hQ
  have HI : Aside0 (i < a.length ∧ a.length ≤ 1000000 ∧ m0 ≤ 900000000) := ⟨hH.lt, ha, hn⟩
  have HR := Aside0.mk (hp_below h (below_alloc (Below.refl _ _) (.cells #[.int .i64 x.f0, .int .i64 x.f1, .int .i64 x.f2] 105)))
  have HU := Aside0.mk (up_calls hb i x (w.alloc (.cells #[.int .i64 x.f0, .int .i64 x.f1, .int .i64 x.f2] 105)) Q f m0 a HR.out hH (fun k hk => by rw [alloc_size]; exact Nat.lt_succ_of_lt (hQ k hk)) hwa hx ha (by omega))
  have HBX := Aside0.mk (blk_new w (.cells #[.int .i64 x.f0, .int .i64 x.f1, .int .i64 x.f2] 105))
  clear h hH hQ hwa hx ha hn
  go_enter Try.func79, Try.ntmps79
  go_wp2_with (first
    | (go_at_call 109; (with_reducible refine (HU.out).mono ?_); rintro e w1 ⟨f', n', a', i', rfl, hR1, hP1, hn1, hK1⟩; have hb1 := (hK1.block w.heap.size (by rw [alloc_size]; omega) (fun c => by have := HQ.out _ c; omega)).trans HBX.out; have x0 := blk_cell hb1 0; have x1 := blk_cell hb1 1; have x2 := blk_cell hb1 2; have HQ1 : Aside0 (∀ k, Q k → k < w1.heap.size) := ⟨fun k hk => Nat.lt_of_lt_of_le (HQ.out k hk) (Nat.le_trans (below_alloc (Below.refl w.heap.size w) _).size hK1.size)⟩; have HP1 := Aside0.mk hP1; have HR1 := Aside0.mk hR1; have HK1 := Aside0.mk hK1; have HN1 := Aside0.mk hn1; clear hb1 hP1 hR1 hK1 hn1)
    | (go_at_call 110; (refine (down_calls hb i x w1 Q f' n' a' HR1.out (fix_mid HP1.out (by assumption)).1 (fix_mid HP1.out (by assumption)).2 HQ1.out HP1.out.2.2.1 HX.out (by have := HP1.out.2.1; have := HI.out; omega) (by have := HN1.out; have := HI.out; omega)).mono ?_); rintro e w2 ⟨f2, n2, a2, rfl, hR2, hI2, hp2, hl2, hw2, hn2, hK2⟩; have H2 := Aside0.mk (And.intro hR2 (And.intro hI2 (And.intro hp2 (And.intro hl2 (And.intro hw2 (And.intro hn2 hK2)))))); clear hR2 hI2 hp2 hl2 hw2 hn2 hK2))
  · rename_i hii
    go_end0
    obtain ⟨hR2, hI2, hp2, hl2, hw2, hn2, hK2⟩ := H2.out
    obtain ⟨p1, p2, p3, p4⟩ := HP1.out
    have hii2 : i' = i := by have e3 := eq_of_beq hii; omega
    have p5 : a'.eraseIdx i = a.eraseIdx i := by
      rcases p4 with ⟨_, _, e, _⟩ | ⟨e, _⟩
      · exact e
      · omega
    have h1 := HN1.out
    have h2 := HI.out
    exact ⟨_, _, _, rfl, hR2, hI2, p5 ▸ hp2, hl2.trans p2, hw2, by omega, ((KpB.of_below (Q := Q) (below_alloc (Below.refl _ _) _)).trans HK1.out (fun j hj => .inl hj)).trans hK2 (fun j hj => .inl hj)⟩
  · rename_i hii
    go_end0
    obtain ⟨p1, p2, p3, p4⟩ := HP1.out
    have hii2 : i' ≠ i := by intro e; subst e; simp at hii
    have p5 : HpI f' a' := by
      rcases p4 with ⟨e, _⟩ | ⟨_, e⟩
      · exact absurd e hii2
      · exact e
    have h1 := HN1.out
    have h2 := HI.out
    exact ⟨_, _, _, rfl, HR1.out, p5, p1, p2, p3, by omega, (KpB.of_below (Q := Q) (below_alloc (Below.refl _ _) _)).trans HK1.out (fun j hj => .inl hj)⟩
/-- The heap at hb lies as the row l. -/
structure Hpl (w : World) (hb : Nat) (Q : Nat → Prop) (N : Nat) (l : List Th) : Prop where
  ex : ∃ f n a, HpR w hb Q f n a ∧ HpI f a ∧ a.Perm l ∧ n ≤ N ∧ WfA a
  row : RowI l
  own : ∀ k, Q k → k < w.heap.size
theorem hpl_keep {w w' : World} {hb : Nat} {Q Q' : Nat → Prop} {N : Nat} {l : List Th} (h : Hpl w hb Q N l) (k : KpB Q' w w') (hq : ∀ j, Q j → ¬ Q' j) : Hpl w' hb Q N l := by
  obtain ⟨⟨f, n, a, h1, h2, h3, h4, h5⟩, hr, ho⟩ := h
  exact ⟨⟨f, n, a, hp_keep h1 k hq, h2, h3, h4, h5⟩, hr, fun k' hk => Nat.lt_of_lt_of_le (ho k' hk) k.size⟩
theorem hpl_below {w w' : World} {hb : Nat} {Q : Nat → Prop} {N : Nat} {l : List Th} (h : Hpl w hb Q N l) (k : Below w.heap.size w w') : Hpl w' hb Q N l :=
  hpl_keep h (KpB.of_below (Q := fun _ => False) k) (fun _ _ h => h)
theorem hpl_mono {w : World} {hb : Nat} {Q : Nat → Prop} {N N' : Nat} {l : List Th} (h : Hpl w hb Q N l) (hn : N ≤ N') : Hpl w hb Q N' l := by
  obtain ⟨⟨f, n, a, h1, h2, h3, h4, h5⟩, hr, ho⟩ := h
  exact ⟨⟨f, n, a, h1, h2, h3, Nat.le_trans h4 hn, h5⟩, hr, ho⟩
theorem zero3 (w : World) : (zeroValue 3).run Try.prog w = .ok (.int .i64 0) w := by kernel_rfl
/-- heap.New: a heap of nothing. -/
def NewPost (w : World) (e : Ending) (w' : World) : Prop := ∃ hb, e = .returned (.pointer (some ⟨hb, 0, none⟩)) ∧ Hpl w' hb (fun k => w.heap.size ≤ k ∧ k < w'.heap.size) 0 [] ∧ Below w.heap.size w w'
set_option maxHeartbeats 1000000 in
set_option maxRecDepth 100000 in
theorem new_calls (w : World) : Calls Try.prog 21 #[] w (NewPost w) := by
  have hmm := @run_makeMap Try.prog
  go_enter Try.func21, Try.ntmps21
  go_wp2
  go_ret
  have b1 : Below w.heap.size w (w.alloc (.map #[] 0)) := below_alloc (Below.refl _ _) _
  have m1 := mp_made w Try.prog 3
  have b2 : Below (w.alloc (.map #[] 0)).heap.size (w.alloc (.map #[] 0)) ((w.alloc (.map #[] 0)).alloc (.cells #[.slice none 0 0, .map (some w.heap.size)] 103)) := below_alloc (Below.refl _ _) _
  have n2 := blk_new (w.alloc (.map #[] 0)) (.cells #[.slice none 0 0, .map (some w.heap.size)] 103)
  have sz : ((w.alloc (.map #[] 0)).alloc (.cells #[.slice none 0 0, .map (some w.heap.size)] 103)).heap.size = w.heap.size + 1 + 1 := by rw [alloc_size, alloc_size]
  rw [alloc_size] at n2
  refine ⟨w.heap.size + 1, by simp, ⟨⟨fun _ => none, 0, [], ⟨.slice none 0 0, w.heap.size, n2, ⟨by omega, by rw [sz]; omega⟩, ⟨Nat.le_refl _, by rw [sz]; omega⟩, Kd.R_nil _ _ _ _ _, mp_move m1 (b2.block _ (mp_lt m1))⟩, ⟨fun j _ hj => absurd hj (by simp), List.Pairwise.nil, fun id v => ⟨fun h => (by cases h), fun ⟨k, hk, _⟩ => absurd hk (by simp)⟩⟩, List.Perm.refl _, Nat.le_refl _, fun j hj => absurd hj (by simp)⟩, row_nil, fun k hk => hk.2⟩, below_step b1 b2⟩
set_option maxHeartbeats 1000000 in
set_option maxRecDepth 100000 in
theorem len_calls (hb : Nat) (w : World) (Q : Nat → Prop) (N : Nat) (l : List Th) (h : Hpl w hb Q N l) : Calls Try.prog 30 #[.pointer (some ⟨hb, 0, none⟩)] w fun e w' => e = .returned (.int .i64 l.length) ∧ Below w.heap.size w w' := by
  obtain ⟨⟨f, n, a, h1, h2, h3, h4, h5⟩, hr, ho⟩ := h
  obtain ⟨v, mb, g0, q0, q1, g3, g4, k0, k1, kf, hbx⟩ := hp_open h1
  obtain ⟨A, c, rfl, hc, _⟩ := Kd.R_reads g3
  have hl := h3.length_eq
  rw [hl] at k0
  clear h1 h2 h3 h4 h5 g0 g3 g4
  go_enter Try.func30, Try.ntmps30
  go_wp2
  go_ret
  exact ⟨rfl, Below.refl _ _⟩
def someB : List Th → Bool
  | [] => false
  | _ :: _ => true
def headI (l : List Th) : Int := match l with | [] => 0 | x :: _ => x.f0
set_option maxHeartbeats 1000000 in
set_option maxRecDepth 100000 in
theorem first_calls (hb : Nat) (w : World) (Q : Nat → Prop) (N : Nat) (l : List Th) (h : Hpl w hb Q N l) : Calls Try.prog 27 #[.pointer (some ⟨hb, 0, none⟩)] w fun e w' => e = .returned (.tuple #[.int .i64 (headI l), .bool (someB l)]) ∧ Below w.heap.size w w' := by
  have HL := fun W hW => Aside0.mk (len_calls hb W Q N l hW)
  have H := Aside0.mk h
  obtain ⟨⟨f, n, a, h1, h2, h3, h4, h5⟩, hr, ho⟩ := h
  obtain ⟨v, mb, g0, q0, q1, g3, g4, k0, k1, kf, hbx⟩ := hp_open h1
  cases l with
  | nil =>
    clear h1 h2 h3 h4 h5 g0 g3 g4 k0 k1 kf
    have t0 : ((([] : List Th).length : Int) == 0) = true := rfl
    go_enter Try.func27, Try.ntmps27
    go_wp2_with (first | (go_at_call 30; refine ((HL _ H.out).out).mono ?_; rintro e w1 ⟨rfl, hb1⟩; have HB1 := Aside0.mk hb1; clear hb1))
    go_ret2
    exact ⟨rfl, HB1.out⟩
  | cons x l =>
    have hl := h3.length_eq
    rw [List.length_cons] at hl
    have e0 := heap_first h2.heap hr.sort h3
    obtain ⟨g, c, rfl, _, hgx, _⟩ := Kd.R_form g3 (by omega)
    obtain ⟨c0, c1, c2, _⟩ := hp_cells g3 0 (by omega)
    rw [e0] at c0
    have lp : (0 : Int) < (a.length : Int) := by omega
    have t0 : ((((x :: l).length : Nat) : Int) == 0) = false := by rw [List.length_cons]; simp; omega
    have K0 := Aside0.mk k0
    have C0 := Aside0.mk c0
    clear h1 h2 h3 h4 h5 g0 g3 g4 k0 k1 kf c0 c1 c2
    go_enter Try.func27, Try.ntmps27
    go_wp2_with (first | (go_at_call 30; refine ((HL _ H.out).out).mono ?_; rintro e w1 ⟨rfl, hb1⟩; have HB1 := Aside0.mk hb1; have k0 := pw_cell_below hb1 K0.out; have c0 := pw_cell_below hb1 C0.out; clear hb1))
    go_ret2
    exact ⟨rfl, HB1.out⟩
end Go.Proofs.Ytopblnecdabcgaa.P
end
section
/- heap.Heap: Has, Put. -/
namespace Go.Proofs.Ytopblnecdabcgaa.P
open Go.RowKit Go.Proofs.YtopblnecdabcgaaW.PrintWords Go.Proofs.YtopblnecdabcgaaW.PrintLast Go.Proofs.YtopblnecdabcgaaW.PrintMore Go.Proofs.Ytopblnecdabcgaa.H Go.Proofs.Ytopblnecdabcgaa.MP Go.Proofs.Ytopblnecdabcgaa.RP
set_option linter.unusedVariables false
set_option linter.unusedSimpArgs false
def findH (l : List Th) (id : Int) : Option Th := l.find? (fun x => decide (x.f0 = id))
theorem find_is {l : List Th} (h : IdsD l) {x : Th} (hx : x ∈ l) : findH l x.f0 = some x := by
  unfold findH
  induction l with
  | nil => cases hx
  | cons y l ih =>
    have h' := List.pairwise_cons.1 h
    rcases List.mem_cons.1 hx with e | hx
    · subst e; rw [List.find?_cons_of_pos (by simp)]
    · rw [List.find?_cons_of_neg (by simpa using h'.1 x hx)]; exact ih h'.2 hx
theorem find_none {l : List Th} {id : Int} (h : ∀ x ∈ l, x.f0 ≠ id) : findH l id = none := List.find?_eq_none.2 (fun x hx => by simpa using h x hx)
/-- What a heap tells of an id. -/
theorem hp_find {f : Int → Option Int} {a l : List Th} (h : HpI f a) (hp : a.Perm l) (hr : RowI l) (id : Int) :
    (f id = none ∧ findH l id = none) ∨ (∃ k : Nat, f id = some (k : Int) ∧ k < a.length ∧ (atH a k).f0 = id ∧ findH l id = some (atH a k)) := by
  cases e : f id with
  | none =>
    refine .inl ⟨rfl, find_none (fun x hx c => ?_)⟩
    obtain ⟨v, hv⟩ := (heap_has h hp id).2 ⟨x, hx, c⟩
    rw [e] at hv
    cases hv
  | some v =>
    obtain ⟨k, hk, h1, rfl⟩ := (h.map id v).1 e
    have hm : atH a k ∈ l := by rw [atH_get a k hk]; exact hp.mem_iff.1 (List.getElem_mem ..)
    have := find_is hr.ids hm
    rw [h1] at this
    exact .inr ⟨k, rfl, hk, h1, this⟩
def hasV (l : List Th) (id : Int) : Value := match findH l id with | none => .tuple #[.int .i64 0, .int .i64 0, .bool false] | some x => .tuple #[.int .i64 x.f1, .int .i64 x.f2, .bool true]
theorem look_none {w : World} {mb n : Nat} {f : Int → Option Int} (h : MpV w Try.prog 3 mb n (fun k => (f k).map (Value.int .i64))) {id : Int} (hid : wfI id) (e : f id = none) : (Instr.lookup 100 (.map (some mb)) (.int .i64 id) true).run Try.prog w = .ok (.tuple #[.int .i64 0, .bool false]) w := by
  have := mp_look (t := 100) (E := 3) true h Try.underlying3 Try.underlying100 (zero3 w) hid
  rw [this]
  simp [e]
theorem look_some {w : World} {mb n : Nat} {f : Int → Option Int} (h : MpV w Try.prog 3 mb n (fun k => (f k).map (Value.int .i64))) {id : Int} (hid : wfI id) {v : Int} (e : f id = some v) : (Instr.lookup 100 (.map (some mb)) (.int .i64 id) true).run Try.prog w = .ok (.tuple #[.int .i64 v, .bool true]) w := by
  have := mp_look (t := 100) (E := 3) true h Try.underlying3 Try.underlying100 (zero3 w) hid
  rw [this]
  simp [e]
set_option maxHeartbeats 1000000 in
set_option maxRecDepth 100000 in
theorem has_calls (hb : Nat) (id : Int) (w : World) (Q : Nat → Prop) (N : Nat) (l : List Th) (h : Hpl w hb Q N l) (hid : wfI id) : Calls Try.prog 28 #[.pointer (some ⟨hb, 0, none⟩), .int .i64 id] w fun e w' => e = .returned (hasV l id) ∧ Below w.heap.size w w' := by
  obtain ⟨⟨f, n, a, h1, h2, h3, h4, h5⟩, hr, ho⟩ := h
  obtain ⟨v, mb, g0, q0, q1, g3, g4, k0, k1, kf, hbx⟩ := hp_open h1
  unfold hasV
  rcases hp_find h2 h3 hr id with ⟨e1, e2⟩ | ⟨k, e1, hk, e3, e2⟩
  · have hrun := look_none g4 hid e1
    rw [e2]
    clear h1 h2 h3 h4 h5 g0 g3 g4 hid e1 e2
    go_enter Try.func28, Try.ntmps28
    go_wp2
    go_ret3
    exact ⟨rfl, Below.refl _ _⟩
  · have hrun := look_some g4 hid e1
    obtain ⟨g, c, rfl, _, hgx, _⟩ := Kd.R_form g3 (by omega)
    obtain ⟨c0, c1, c2, _⟩ := hp_cells g3 k hk
    have lp : (k : Int) < (a.length : Int) := by omega
    rw [e2]
    obtain ⟨y, hy⟩ : ∃ y, atH a k = y := ⟨_, rfl⟩
    rw [hy] at c0 c1 c2 ⊢
    clear h1 h2 h3 h4 h5 g0 g3 g4 hid e1 e2 e3 hy
    go_enter Try.func28, Try.ntmps28
    go_wp2
    go_quiet (fail)
    go_wp2
    go_ret3
    exact ⟨rfl, below_dN _ _⟩
theorem hph_old {f : Int → Option Int} {a : List Th} (h : HpI f a) {k : Nat} (hk : k < a.length) {x : Th} (e : (atH a k).f0 = x.f0) : HpH f a k x := by
  refine ⟨hk, hole_of h.heap k hk, ?_, ?_⟩
  · have h1 := ids_perm (perm_get a k hk) h.ids
    have h2 := List.pairwise_cons.1 h1
    exact ids_perm (perm_set a k x hk).symm (List.pairwise_cons.2 ⟨fun y hy => e ▸ h2.1 y hy, h2.2⟩)
  · intro id hid v
    rw [h.map id v]
    constructor
    · rintro ⟨j, hj, e1, e2⟩
      have hne : k ≠ j := fun c => by subst c; exact hid (e1.symm.trans e)
      exact ⟨j, by rw [List.length_set]; exact hj, by rw [atH_set_other _ _ _ _ hne]; exact e1, e2⟩
    · rintro ⟨j, hj, e1, e2⟩
      rw [List.length_set] at hj
      have hne : k ≠ j := fun c => by subst c; rw [atH_set_same _ _ _ hk] at e1; exact hid e1.symm
      rw [atH_set_other _ _ _ _ hne] at e1
      exact ⟨j, hj, e1, e2⟩
theorem atH_last (a : List Th) (x : Th) : atH (a ++ [x]) a.length = x := by
  rw [atH_get _ _ (by simp)]; simp
theorem set_last (a : List Th) (x : Th) : (a ++ [x]).set a.length x = a ++ [x] := by
  have := set_self (a ++ [x]) a.length
  rwa [atH_last] at this
theorem hph_new {f : Int → Option Int} {a : List Th} (h : HpI f a) {x : Th} (e : f x.f0 = none) : HpH f (a ++ [x]) a.length x := by
  have hn : ∀ k, k < a.length → (atH a k).f0 ≠ x.f0 := fun k hk c => by
    have := (h.map x.f0 k).2 ⟨k, hk, c, rfl⟩
    rw [e] at this
    cases this
  refine ⟨by simp, hole_new h.heap x, ?_, ?_⟩
  · rw [set_last]
    have hp : (x :: a).Perm (a ++ [x]) := List.perm_append_comm (l₁ := [x])
    refine ids_perm hp (List.pairwise_cons.2 ⟨fun y hy => ?_, h.ids⟩)
    obtain ⟨k, hk, rfl⟩ := List.getElem_of_mem hy
    rw [← atH_get a k hk]
    exact Ne.symm (hn k hk)
  · rw [set_last]
    intro id hid v
    rw [h.map id v]
    constructor
    · rintro ⟨j, hj, e1, e2⟩
      exact ⟨j, by rw [List.length_append]; omega, by rw [atH_app _ _ _ hj]; exact e1, e2⟩
    · rintro ⟨j, hj, e1, e2⟩
      rw [List.length_append, List.length_singleton] at hj
      by_cases c : j = a.length
      · subst c; rw [atH_last] at e1; exact absurd e1.symm hid
      · rw [atH_app _ _ _ (by omega)] at e1
        exact ⟨j, by omega, e1, e2⟩
theorem erase_last (a : List Th) (x : Th) : (a ++ [x]).eraseIdx a.length = a := by
  induction a with
  | nil => rfl
  | cons y a ih => rw [List.cons_append, List.length_cons, List.eraseIdx_cons_succ, ih]
theorem wf_app {a : List Th} (h : WfA a) {x : Th} (hx : wfI x.f0) : WfA (a ++ [x]) := by
  intro j hj
  rw [List.length_append, List.length_singleton] at hj
  by_cases c : j = a.length
  · subst c; rw [atH_last]; exact hx
  · rw [atH_app _ _ _ (by omega)]; exact h j (by omega)
theorem row_len {l : List Th} {x : Th} (h : l.length ≤ 1000) : (putH l x).length ≤ l.length + 1 := by
  unfold putH
  rw [(ins_perm x _).length_eq, List.length_cons]
  have : (dropH l x.f0).length ≤ l.length := List.length_filter_le _ _
  omega
def PutPost (w : World) (hb : Nat) (Q : Nat → Prop) (N : Nat) (l : List Th) (x : Th) (e : Ending) (w' : World) : Prop :=
  e = .returned (.bool (decide (findH l x.f0 = none))) ∧ Hpl w' hb (fun k => Q k ∨ (w.heap.size ≤ k ∧ k < w'.heap.size)) (N + 2 * l.length + 4) (putH l x) ∧ KpB Q w w'
theorem put_end_old {w w0 w1 : World} {hb : Nat} {Q : Nat → Prop} {N n : Nat} {l a : List Th} {x : Th} {f : Int → Option Int} {k : Nat} (h2 : HpI f a) (h3 : a.Perm l) (h4 : n ≤ N) (hr : RowI l) (ho : ∀ k, Q k → k < w.heap.size) (hk : k < a.length) (e3 : (atH a k).f0 = x.f0) (e2 : findH l x.f0 = some (atH a k))
    (hB : Below w.heap.size w w0) (hF : FxPost w0 hb Q n a k x (.returned (.tuple #[])) w1) : PutPost w hb Q N l x (.returned (.bool false)) w1 := by
  obtain ⟨f', n', a', _, hR, hI, hp, hl, hw, hn, hK⟩ := hF
  have hlen := h3.length_eq
  have hsz : w.heap.size ≤ w1.heap.size := Nat.le_trans hB.size hK.size
  refine ⟨by rw [e2]; simp, ⟨⟨f', n', a', hp_mono hR (fun k hk => .inl hk), hI, put_old h2.ids hk e3 h3 hp, by omega, hw⟩, row_put hr x, fun j hj => hj.elim (fun h => Nat.lt_of_lt_of_le (ho j h) hsz) (fun h => h.2)⟩, (KpB.of_below (Q := Q) hB).trans hK (fun j hj => .inl hj)⟩
set_option maxHeartbeats 1000000 in
set_option maxRecDepth 100000 in
theorem put_old_calls (hb : Nat) (x : Th) (w : World) (Q : Nat → Prop) (N : Nat) (l : List Th) (f : Int → Option Int) (n : Nat) (a : List Th) (h1 : HpR w hb Q f n a) (h2 : HpI f a) (h3 : a.Perm l) (h4 : n ≤ N) (h5 : WfA a) (hr : RowI l) (ho : ∀ k, Q k → k < w.heap.size) (hid : wfI x.f0) (hN : N ≤ 100000000) (hl : l.length ≤ 1000)
    (k : Nat) (e1 : f x.f0 = some (k : Int)) (hk : k < a.length) (e3 : (atH a k).f0 = x.f0) (e2 : findH l x.f0 = some (atH a k)) : Calls Try.prog 22 #[.pointer (some ⟨hb, 0, none⟩), .int .i64 x.f0, .int .i64 x.f1, .int .i64 x.f2] w (PutPost w hb Q N l x) := by
  have hB : Below w.heap.size w (w.alloc (.cells #[.int .i64 x.f0, .int .i64 x.f1, .int .i64 x.f2] 105)) := below_alloc (Below.refl _ _) _
  have hlen := h3.length_eq
  obtain ⟨v, mb, g0, q0, q1, g3, g4, k0, k1, kf, hbx⟩ := hp_open h1
  have hrun := look_some (mp_move g4 (hB.block mb (mp_lt g4))) hid e1
  have HF := Aside0.mk (fix_calls hb k x _ Q f n a (hp_below h1 hB) (hph_old h2 hk e3) (fun j hj => Nat.lt_of_lt_of_le (ho j hj) hB.size) h5 hid (by omega) (by omega))
  have HE := Aside0.mk (fun (w1 : World) (hF : FxPost (w.alloc (.cells #[.int .i64 x.f0, .int .i64 x.f1, .int .i64 x.f2] 105)) hb Q n a k x (.returned (.tuple #[])) w1) => put_end_old h2 h3 h4 hr ho hk e3 e2 hB hF)
  clear h1 h2 h3 h4 h5 hr ho hid e1 e2 e3 g0 g3 g4 hB hk hlen
  go_enter Try.func22, Try.ntmps22
  go_wp2_with (first | (go_at_call 79; (with_reducible refine (HF.out).mono ?_); rintro e w1 hF; have hF2 := hF; obtain ⟨f', n', a', rfl, _⟩ := hF; have H2 := Aside0.mk hF2; clear hF2))
  go_ret
  exact HE.out _ H2.out
end Go.Proofs.Ytopblnecdabcgaa.P
end
section
/- heap.Heap: Put. -/
namespace Go.Proofs.Ytopblnecdabcgaa.P
open Go.RowKit Go.Proofs.YtopblnecdabcgaaW.PrintWords Go.Proofs.YtopblnecdabcgaaW.PrintLast Go.Proofs.YtopblnecdabcgaaW.PrintMore Go.Proofs.Ytopblnecdabcgaa.H Go.Proofs.Ytopblnecdabcgaa.MP Go.Proofs.Ytopblnecdabcgaa.RP
set_option linter.unusedVariables false
set_option linter.unusedSimpArgs false
theorem info105 : (Try.prog.info? 105).map (fun i => (i.zero, i.size, i.bytes)) = some (some (.agg #[.int .i64 0, .int .i64 0, .int .i64 0]), 3, 24) := by kernel_rfl
/-- What an append of a thing reads: the heap, the thing's box. -/
abbrev PtS (hb bx : Nat) (v : Value) (mb : Nat) (x : Th) (W : World) : Prop :=
  Aside0 (W.heap[hb]? = some (.cells #[v, .map (some mb)] 103 (0, 0))) ∧ Aside0 (W.heap[bx]? = some (.cells #[.int .i64 x.f0, .int .i64 x.f1, .int .i64 x.f2] 105 (0, 0))) ∧ W.cell? ⟨hb, 0, none⟩ = some v ∧ W.frozen? ⟨hb, 0, none⟩ = false ∧
  W.cell? ⟨bx, 0, none⟩ = some (.int .i64 x.f0) ∧ W.cell? ⟨bx, 1, none⟩ = some (.int .i64 x.f1) ∧ W.cell? ⟨bx, 2, none⟩ = some (.int .i64 x.f2)
theorem PtS.mk {hb bx : Nat} {v : Value} {mb : Nat} {x : Th} {W : World} (h0 : W.heap[hb]? = some (.cells #[v, .map (some mb)] 103 (0, 0))) (h1 : W.heap[bx]? = some (.cells #[.int .i64 x.f0, .int .i64 x.f1, .int .i64 x.f2] 105 (0, 0))) : PtS hb bx v mb x W :=
  ⟨⟨h0⟩, ⟨h1⟩, blk_cell h0 0, blk_frozen h0 0, blk_cell h1 0, blk_cell h1 1, blk_cell h1 2⟩
theorem blkGrown {w w1 : World} {g : Nat} {o : Obj} {row : Option Nat} (h : w.heap[g]? = some o) (hg : w.grownBy w1 row) (hn : some g ≠ row) : w1.heap[g]? = some o := (hg.block g (lt_blk h) hn).trans h
/-- The heap behind an append of a thing. -/
def ApS (w0 : World) (hb : Nat) (Q : Nat → Prop) (f : Int → Option Int) (n : Nat) (a : List Th) (x : Th) (W : World) : Prop :=
  HpR W hb (fun k => Q k ∨ (w0.heap.size ≤ k ∧ k < W.heap.size)) f n (a ++ [x]) ∧ KpB Q w0 W ∧ ∀ j, j < w0.heap.size → ¬ Q j → W.heap[j]? = w0.heap[j]?
theorem ap_made {w0 w2 w3 : World} {hb mb : Nat} {Q : Nat → Prop} {f : Int → Option Int} {n : Nat} {a : List Th} {x : Th} {v v1 : Value} (h0 : w0.heap[hb]? = some (.cells #[v, .map (some mb)] 103 (0, 0))) (q0 : Q hb) (q1 : Q mb) (h3 : Kd.R k37 105 w0 0 Q v a) (h4 : MpV w0 Try.prog 3 mb n (fun k => (f k).map (Value.int .i64))) (ho : ∀ k, Q k → k < w0.heap.size)
    (hB : Below w0.heap.size w0 w2) (hR : Kd.R k37 105 w3 0 (fun k => Q k ∨ w0.heap.size ≤ k) v1 (a ++ [x])) (hg : w2.grownBy w3 v.ownBlock) : ApS w0 hb Q f n a x (w3.setCell ⟨hb, 0, none⟩ v1) := by
  have hne := Kd.R_ne h3 h0 (by decide)
  have hmn : some mb ≠ v.ownBlock := fun e => by
    obtain ⟨es, cl, hm⟩ := mp_is h4
    obtain ⟨cells, hc⟩ := own_typed (Kd.R_own h3).choose_spec mb e.symm
    rw [hc] at hm
    cases hm
  have hbm : hb ≠ mb := fun e => by
    subst e
    obtain ⟨es, cl, hm⟩ := mp_is h4
    rw [h0] at hm
    cases hm
  have b0 := blkGrown (blk_keep h0 hB) hg hne
  have m0 := mp_move (mp_move h4 (hB.block mb (mp_lt h4))) (hg.block mb (Nat.lt_of_lt_of_le (mp_lt h4) hB.size) hmn)
  have sz : (w3.setCell ⟨hb, 0, none⟩ v1).heap.size = w3.heap.size := by simp [World.setCell]
  have hsz := Nat.le_trans hB.size hg.size
  have hvQ : ∀ k, v.ownBlock = some k → Q k := h3.1
  have hrest : ∀ j, j < w0.heap.size → ¬ Q j → (w3.setCell ⟨hb, 0, none⟩ v1).heap[j]? = w0.heap[j]? := by
    intro j hj hn
    rw [Below.heap_setCell _ _ _ j (fun e => hn (e ▸ q0)), hg.block j (Nat.lt_of_lt_of_le hj hB.size) (fun e => hn (hvQ j e.symm)), hB.block j hj]
  refine ⟨⟨v1, mb, blk_put b0 0 v1 rfl, .inl q0, .inl q1, ?_, mp_move m0 (Below.heap_setCell _ _ _ mb (Ne.symm hbm))⟩, ⟨?_, ?_, ?_, by rw [sz]; exact hsz, hrest⟩, hrest⟩
  · have h5 := Kd.R_mono (Kd.R_bound hR) (ok' := fun k => (Q k ∨ (w0.heap.size ≤ k ∧ k < (w3.setCell ⟨hb, 0, none⟩ v1).heap.size)) ∧ k ≠ hb) (fun k hk => ⟨hk.1.elim .inl (fun h => .inr ⟨h, by rw [sz]; exact hk.2.2.1⟩), fun e => by
      subst e
      obtain ⟨q, hq, cells, hc⟩ := hk.2.2.2
      rw [b0] at hc
      injection hc with hc
      injection hc with _ hc _
      rw [← hc] at hq
      revert hq
      decide⟩)
    exact Kd.R_mono (Kd.R_far h5 (p := ⟨hb, 0, none⟩) (fun k hk => hk.2) _) (fun k hk => hk.1)
  · exact hg.os.trans hB.os
  · exact hg.tape.trans hB.tape
  · exact hg.output.trans hB.output
theorem put_end_new {w w0 w2 w1 : World} {hb : Nat} {Q : Nat → Prop} {N n : Nat} {l a : List Th} {x : Th} {f : Int → Option Int} (h2 : HpI f a) (h3 : a.Perm l) (h4 : n ≤ N) (hr : RowI l) (ho : ∀ k, Q k → k < w.heap.size) (e1 : f x.f0 = none) (e2 : findH l x.f0 = none)
    (hB : Below w.heap.size w w0) (hA : ApS w0 hb Q f n a x w2) (hF : FxPost w2 hb (fun k => Q k ∨ (w0.heap.size ≤ k ∧ k < w2.heap.size)) n (a ++ [x]) a.length x (.returned (.tuple #[])) w1) : PutPost w hb Q N l x (.returned (.bool true)) w1 := by
  obtain ⟨f', n', a', _, hR, hI, hp, hl, hw, hn, hK⟩ := hF
  rw [erase_last] at hp
  have hlen := h3.length_eq
  have hno : ¬ hasH l x.f0 := fun c => by
    obtain ⟨v, hv⟩ := (heap_has h2 h3 x.f0).2 c
    rw [e1] at hv
    cases hv
  have hs1 := hA.2.1.size
  have hs2 := hK.size
  have hs0 := hB.size
  rw [List.length_append, List.length_singleton] at hl hn
  refine ⟨by rw [e2]; simp, ⟨⟨f', n', a', hp_mono hR (fun k hk => hk.imp id (fun h => ⟨by omega, by omega⟩)), hI, put_new hno h3 hp, by omega, hw⟩, row_put hr x, fun j hj => hj.elim (fun h => by have := ho j h; omega) (fun h => h.2)⟩, ((KpB.of_below (Q := Q) hB).trans hA.2.1 (fun j hj => .inl hj)).trans hK (fun j hj => hj.imp id (fun h => by omega))⟩
set_option maxHeartbeats 1000000 in
set_option maxRecDepth 100000 in
theorem put_new_calls (hb : Nat) (x : Th) (w : World) (Q : Nat → Prop) (N : Nat) (l : List Th) (f : Int → Option Int) (n : Nat) (a : List Th) (h1 : HpR w hb Q f n a) (h2 : HpI f a) (h3 : a.Perm l) (h4 : n ≤ N) (h5 : WfA a) (hr : RowI l) (ho : ∀ k, Q k → k < w.heap.size) (hid : wfI x.f0) (hN : N ≤ 100000000) (hl : l.length ≤ 1000)
    (e1 : f x.f0 = none) (e2 : findH l x.f0 = none) : Calls Try.prog 22 #[.pointer (some ⟨hb, 0, none⟩), .int .i64 x.f0, .int .i64 x.f1, .int .i64 x.f2] w (PutPost w hb Q N l x) := by
  have hB : Below w.heap.size w (w.alloc (.cells #[.int .i64 x.f0, .int .i64 x.f1, .int .i64 x.f2] 105)) := below_alloc (Below.refl _ _) _
  have hlen := h3.length_eq
  have hbx := blk_new w (.cells #[.int .i64 x.f0, .int .i64 x.f1, .int .i64 x.f2] 105)
  have ho2 : ∀ k, Q k → k < (w.alloc (.cells #[.int .i64 x.f0, .int .i64 x.f1, .int .i64 x.f2] 105)).heap.size := fun j hj => Nat.lt_of_lt_of_le (ho j hj) hB.size
  have h1' := hp_below h1 hB
  obtain ⟨v, mb, g0, q0, q1, g3, g4, k0, k1, kf, hbl⟩ := hp_open h1'
  have hrun := look_none g4 hid e1
  have H0 := Aside0.mk (And.intro g0 (And.intro q0 (And.intro q1 (And.intro g3 (And.intro g4 ho2)))))
  obtain ⟨A, c, rfl, hc, _⟩ := Kd.R_reads g3
  have HE := Aside0.mk (fun (w2 w1 : World) (hA : ApS (w.alloc (.cells #[.int .i64 x.f0, .int .i64 x.f1, .int .i64 x.f2] 105)) hb Q f n a x w2) (hF : FxPost w2 hb (fun k => Q k ∨ ((w.alloc (.cells #[.int .i64 x.f0, .int .i64 x.f1, .int .i64 x.f2] 105)).heap.size ≤ k ∧ k < w2.heap.size)) n (a ++ [x]) a.length x (.returned (.tuple #[])) w1) => put_end_new h2 h3 h4 hr ho e1 e2 hB hA hF)
  have HH := Aside0.mk (hph_new h2 e1)
  have HW := Aside0.mk (wf_app h5 hid)
  have HID := Aside0.mk hid
  have HO := Aside0.mk ho
  have HC := Aside0.mk hc
  have HLL : Aside0 (a.length ≤ 1000 ∧ n ≤ 100000000) := ⟨by omega, by omega⟩
  have hS := PtS.mk g0 hbx
  have hsz := alloc_size w (.cells #[.int .i64 x.f0, .int .i64 x.f1, .int .i64 x.f2] 105)
  clear h1 h1' h2 h3 h4 h5 hr ho ho2 hid e1 e2 g0 g3 g4 q0 q1 hB hlen hbx hN hl hbl hc
  go_enter Try.func22, Try.ntmps22
  go_wp2
  clear hrun k0 k1 kf
  generalize w.alloc (.cells #[.int .i64 x.f0, .int .i64 x.f1, .int .i64 x.f2] 105) = w0 at *
  refine start_ (n := 11) (S := PtS hb w.heap.size (.slice A a.length c) mb x) (ds := [10]) #[false, false, false, false, false, false, false, false, false, false, false] (by kernel_rfl) rfl rfl (PtS.mk (hS.1.out : w0.drew.heap[hb]? = _) (hS.2.1.out : w0.drew.heap[w.heap.size]? = _)) (fun hHeld => ?_)
  clear hS
  have HD := Aside0.mk (And.intro (Kd.R_drew H0.out.2.2.2.1) (And.intro (show w0.drew.heap.size = w0.heap.size from rfl) (And.intro (below_drew (Below.refl w0.heap.size w0)) (show w0.drew.heap[hb]? = w0.heap[hb]? from rfl))))
  generalize w0.drew = wd at HD hHeld ⊢
  have HX0 := hHeld.2.1
  refine pure_ (i := 0) (N := some 34) (v := ?_) (a' := ?_) #[true, false, false, false, false, false, false, false, false, false, false] rfl rfl (by kernel_rfl) (fun _ _ _ h => h) (Or.inl ⟨by rfl, ?_⟩) ?_ ?_
  rotate_left
  · intro w'
    go_simp
    with_reducible rfl
  rotate_left
  · simp only [Act.put, List.setIfInBounds_toArray, List.set_cons_zero, List.set_cons_succ]
    rfl
  refine pure_ (i := 1) (N := some 35) (v := ?_) (a' := ?_) #[true, true, false, false, false, false, false, false, false, false, false] rfl rfl (by kernel_rfl) (fun _ _ _ h => h) (Or.inl ⟨by rfl, ?_⟩) ?_ ?_
  rotate_left
  · intro w'
    go_simp
    with_reducible rfl
  rotate_left
  · simp only [Act.put, List.setIfInBounds_toArray, List.set_cons_zero, List.set_cons_succ]
    rfl
  refine pure_ (i := 2) (N := some 36) (v := ?_) (a' := ?_) #[true, true, true, false, false, false, false, false, false, false, false] rfl rfl (by kernel_rfl) (fun _ _ _ h => h) (Or.inl ⟨by rfl, ?_⟩) ?_ ?_
  rotate_left
  · intro w'
    go_simp
    with_reducible rfl
  rotate_left
  · simp only [Act.put, List.setIfInBounds_toArray, List.set_cons_zero, List.set_cons_succ]
    rfl
  refine pure_ (i := 3) (N := some 37) (v := ?_) (a' := ?_) #[true, true, true, true, false, false, false, false, false, false, false] rfl rfl (by kernel_rfl) (fun _ _ _ h => h) (Or.inl ⟨by rfl, ?_⟩) ?_ ?_
  rotate_left
  · intro w'
    go_simp
    with_reducible rfl
  rotate_left
  · simp only [Act.put, List.setIfInBounds_toArray, List.set_cons_zero, List.set_cons_succ]
    rfl
  refine take_ (i := 4) (N := some 38) (v := ?_) (a' := ?_) #[true, true, true, true, true, false, false, false, false, false, false] rfl rfl (by kernel_rfl) (fun _ _ _ h => h) (Or.inl ⟨by rfl, ?_⟩) hHeld ?_ ?_
  rotate_left
  · rintro w' ⟨_, _, k1, k2, k3, k4, k5⟩
    go_simp
    with_reducible rfl
  rotate_left
  · simp only [Act.put, List.setIfInBounds_toArray, List.set_cons_zero, List.set_cons_succ]
    rfl
  refine take_ (i := 5) (N := some 39) (v := ?_) (a' := ?_) #[true, true, true, true, true, true, false, false, false, false, false] rfl rfl (by kernel_rfl) (fun _ _ _ h => h) (Or.inl ⟨by rfl, ?_⟩) hHeld ?_ ?_
  rotate_left
  · rintro w' ⟨_, _, k1, k2, k3, k4, k5⟩
    go_simp
    with_reducible rfl
  rotate_left
  · simp only [Act.put, List.setIfInBounds_toArray, List.set_cons_zero, List.set_cons_succ]
    rfl
  refine one_ (i := 6) (N := some 40) #[true, true, true, true, true, true, true, false, false, false, false] rfl rfl (by kernel_rfl) (by decide) (fun K_ hK => ?_)
  refine value_ (w1 := ?_) (v := ?_) (by rfl) rfl ?_ ?_
  rotate_left 2
  · go_simp
    constructor
    · rfl
    · rfl
  have hb0 := blk_keep hHeld.1.out (below_alloc (Below.refl _ _) (.cells #[.int .i64 x.f0, .int .i64 x.f1, .int .i64 x.f2] 105))
  have hb1 := blk_keep hHeld.2.1.out (below_alloc (Below.refl _ _) (.cells #[.int .i64 x.f0, .int .i64 x.f1, .int .i64 x.f2] 105))
  refine hK.out _ _ (PtS.mk hb0 hb1) (fun hHeld => ?_)
  clear hK
  refine norm_ (a' := ?_) ?_ ?_
  rotate_left
  · show Act.put _ (some 40) _ = _
    simp only [Act.put, List.setIfInBounds_toArray, List.set_cons_zero, List.set_cons_succ]
    rfl
  refine one_ (i := 7) (N := some 41) #[true, true, true, true, true, true, true, true, false, false, false] rfl rfl (by kernel_rfl) (by decide) (fun K_ hK => ?_)
  refine Kd.R_append_step k37 (w0 := wd) 0 (by rfl) (.tmp 38) (.tmp 40) 101 105 (.agg #[.int .i64 0, .int .i64 0, .int .i64 0]) 24 rfl Try.underlying101 info105 rfl (by decide) (by omega) (.slice A a.length c) a x [.int .i64 x.f0, .int .i64 x.f1, .int .i64 x.f2] (fun k => Q k ∨ w0.heap.size ≤ k) (fun _ => False) rfl rfl ?aP (fun _ hk => hk.elim) ?aF ?aO ?aB (Nat.zero_le _) ?aL ?_
  case aP => exact k37_mkM _ _ _ x
  case aB => exact Below.refl _ _
  case aF => intro k hk; exact .inr (Nat.le_trans (Nat.le_of_eq HD.out.2.1.symm) hk)
  case aO => exact Kd.R_mono HD.out.1 (fun k hk => .inl hk)
  case aL => have := HLL.out; omega
  intro v1 w3 ho hbw hg hat
  have hb00 := HD.out.2.2.2.trans H0.out.1
  have hb2 := blkGrown hb00 hg (Kd.R_ne HD.out.1 hb00 (by decide))
  have hb3 : w3.heap[w.heap.size]? = _ := blkGrown HX0.out hg (fun e => by have := HO.out _ (H0.out.2.2.2.1.1 _ e.symm); omega)
  refine hK.out _ _ (PtS.mk hb2 hb3) (fun hHeld => ?_)
  clear hK
  refine norm_ (a' := ?_) ?_ ?_
  rotate_left
  · show Act.put _ (some 41) _ = _
    simp only [Act.put, List.setIfInBounds_toArray, List.set_cons_zero, List.set_cons_succ]
    rfl
  refine pure_ (i := 8) (N := some 42) (v := ?_) (a' := ?_) #[true, true, true, true, true, true, true, true, true, false, false] rfl rfl (by kernel_rfl) (fun _ _ _ h => h) (Or.inl ⟨by rfl, ?_⟩) ?_ ?_
  rotate_left
  · intro w'
    go_simp
    with_reducible rfl
  rotate_left
  · simp only [Act.put, List.setIfInBounds_toArray, List.set_cons_zero, List.set_cons_succ]
    rfl
  refine pure_ (i := 9) (N := some 43) (v := ?_) (a' := ?_) #[true, true, true, true, true, true, true, true, true, true, false] rfl rfl (by kernel_rfl) (fun _ _ _ h => h) (Or.inl ⟨by rfl, ?_⟩) ?_ ?_
  rotate_left
  · intro w'
    go_simp
    with_reducible rfl
  rotate_left
  · simp only [Act.put, List.setIfInBounds_toArray, List.set_cons_zero, List.set_cons_succ]
    rfl
  refine last_ (i := 10) (N := none) #[true, true, true, true, true, true, true, true, true, true, true] rfl rfl (by kernel_rfl) (by decide) (fun K_ hK => ?_)
  obtain ⟨_, _, k1, k2, k3, k4, k5⟩ := hHeld
  obtain ⟨A1, c1, rfl⟩ := Kd.R_slice ho
  have ho2 : Kd.R k37 105 w3 0 (fun k => Q k ∨ w0.heap.size ≤ k) (.slice A1 (a.length + 1) c1) (a ++ [x]) := by rw [List.length_append] at ho; exact ho
  rw [List.length_append, List.length_singleton] at hat
  have hA := ap_made H0.out.1 H0.out.2.1 H0.out.2.2.1 H0.out.2.2.2.1 H0.out.2.2.2.2.1 H0.out.2.2.2.2.2 HD.out.2.2.1 ho2 hg
  have hb4 : (w3.setCell ⟨hb, 0, none⟩ (.slice A1 (a.length + 1) c1)).heap[w.heap.size]? = _ := far1 hb3 (fun e => by have := HO.out _ H0.out.2.1; omega) 0 _
  rw [if_pos (by rfl)]
  go_wp2
  refine hK.out _ _ ?_
  refine done_ (by kernel_rfl) ?_
  clear hK
  generalize w3.setCell ⟨hb, 0, none⟩ (.slice A1 (a.length + 1) c1) = w4 at hA hb4 ⊢
  have y0 : w4.cell? ⟨w.heap.size, 0, none⟩ = some (.int .i64 x.f0) := blk_cell hb4 0
  have y1 : w4.cell? ⟨w.heap.size, 1, none⟩ = some (.int .i64 x.f1) := blk_cell hb4 1
  have y2 : w4.cell? ⟨w.heap.size, 2, none⟩ = some (.int .i64 x.f2) := blk_cell hb4 2
  have HA := Aside0.mk hA
  have HF := Aside0.mk (fix_calls hb a.length x w4 _ f n (a ++ [x]) hA.1 HH.out (fun k hk => hk.elim (fun h => Nat.lt_of_lt_of_le (H0.out.2.2.2.2.2 k h) hA.2.1.size) (fun h => h.2)) HW.out HID.out (by have := HLL.out; rw [List.length_append, List.length_singleton]; omega) (by have := HLL.out; omega))
  clear hA hb4 hb3 hb2 hb0 hb1 hb00 k1 k2 k3 k4 k5 ho ho2 hbw hg hat
  go_wp2_with (first | (go_at_call 79; (with_reducible refine (HF.out).mono ?_); rintro e w1 hF; have hF2 := hF; obtain ⟨f', n', a', rfl, _⟩ := hF; have H2 := Aside0.mk hF2; clear hF2))
  go_ret
  exact HE.out _ _ HA.out H2.out
theorem put_calls (hb : Nat) (x : Th) (w : World) (Q : Nat → Prop) (N : Nat) (l : List Th) (h : Hpl w hb Q N l) (hid : wfI x.f0) (hN : N ≤ 100000000) (hl : l.length ≤ 1000) :
    Calls Try.prog 22 #[.pointer (some ⟨hb, 0, none⟩), .int .i64 x.f0, .int .i64 x.f1, .int .i64 x.f2] w (PutPost w hb Q N l x) := by
  obtain ⟨⟨f, n, a, h1, h2, h3, h4, h5⟩, hr, ho⟩ := h
  rcases hp_find h2 h3 hr x.f0 with ⟨e1, e2⟩ | ⟨k, e1, hk, e3, e2⟩
  · exact put_new_calls hb x w Q N l f n a h1 h2 h3 h4 h5 hr ho hid hN hl e1 e2
  · exact put_old_calls hb x w Q N l f n a h1 h2 h3 h4 h5 hr ho hid hN hl k e1 hk e3 e2
end Go.Proofs.Ytopblnecdabcgaa.P
end
section
/- heap.Heap: Drop. -/
namespace Go.Proofs.Ytopblnecdabcgaa.P
open Go.RowKit Go.Proofs.YtopblnecdabcgaaW.PrintWords Go.Proofs.YtopblnecdabcgaaW.PrintLast Go.Proofs.YtopblnecdabcgaaW.PrintMore Go.Proofs.Ytopblnecdabcgaa.H Go.Proofs.Ytopblnecdabcgaa.MP Go.Proofs.Ytopblnecdabcgaa.RP
set_option linter.unusedVariables false
set_option linter.unusedSimpArgs false
theorem heap_app {b : List Th} {x : Th} (h : HeapO (b ++ [x])) : HeapO b := by
  have := heap_take h b.length
  rwa [List.take_left] at this
theorem ids_app {b : List Th} {x : Th} (h : IdsD (b ++ [x])) : IdsD (x :: b) := ids_perm (List.perm_append_comm (l₂ := [x])) h
theorem hpi_drop {f : Int → Option Int} {b : List Th} {x : Th} (h : HpI f (b ++ [x])) : HpI (delF f x.f0) b := by
  have hd := ids_app h.ids
  have hd2 := List.pairwise_cons.1 hd
  refine ⟨heap_app h.heap, hd2.2, fun id v => ?_⟩
  unfold delF
  by_cases e : id = x.f0
  · rw [if_pos e]
    constructor
    · intro c; cases c
    · rintro ⟨k, hk, e1, _⟩
      have : atH b k ∈ b := by rw [atH_get b k hk]; exact List.getElem_mem ..
      exact absurd (e.symm.trans e1.symm) (hd2.1 _ this)
  · rw [if_neg e, h.map id v]
    constructor
    · rintro ⟨k, hk, e1, e2⟩
      rw [List.length_append, List.length_singleton] at hk
      by_cases c : k = b.length
      · subst c; rw [atH_last] at e1; exact absurd e1.symm e
      · rw [atH_app _ _ _ (by omega)] at e1
        exact ⟨k, by omega, e1, e2⟩
    · rintro ⟨k, hk, e1, e2⟩
      exact ⟨k, by rw [List.length_append]; omega, by rw [atH_app _ _ _ hk]; exact e1, e2⟩
theorem hph_drop {f : Int → Option Int} {b : List Th} {x : Th} (h : HpI f (b ++ [x])) {k : Nat} (hk : k < b.length) {id : Int} (e : (atH b k).f0 = id) : HpH (delF f id) b k x := by
  have hd := ids_app h.ids
  have hd2 := List.pairwise_cons.1 hd
  refine ⟨hk, hole_of (heap_app h.heap) k hk, ?_, fun id' hid v => ?_⟩
  · have h1 := ids_perm (perm_get b k hk) hd2.2
    refine ids_perm (perm_set b k x hk).symm (List.pairwise_cons.2 ⟨fun y hy => hd2.1 y ?_, (List.pairwise_cons.1 h1).2⟩)
    exact (perm_get b k hk).mem_iff.2 (List.mem_cons_of_mem _ hy)
  · unfold delF
    by_cases c : id' = id
    · rw [if_pos c]
      constructor
      · intro q; cases q
      · rintro ⟨j, hj, e1, _⟩
        rw [List.length_set] at hj
        by_cases cj : k = j
        · subst cj; rw [atH_set_same _ _ _ hk] at e1; exact absurd e1.symm hid
        · rw [atH_set_other _ _ _ _ cj] at e1
          exact absurd (ids_at hd2.2 hk hj (e.trans (c.symm.trans e1.symm))) cj
    · rw [if_neg c, h.map id' v]
      constructor
      · rintro ⟨j, hj, e1, e2⟩
        rw [List.length_append, List.length_singleton] at hj
        by_cases cj : j = b.length
        · subst cj; rw [atH_last] at e1; exact absurd e1.symm hid
        · rw [atH_app _ _ _ (by omega)] at e1
          have cjk : k ≠ j := fun q => by subst q; exact c (e1.symm.trans e)
          exact ⟨j, by rw [List.length_set]; omega, by rw [atH_set_other _ _ _ _ cjk]; exact e1, e2⟩
      · rintro ⟨j, hj, e1, e2⟩
        rw [List.length_set] at hj
        have cjk : k ≠ j := fun q => by subst q; rw [atH_set_same _ _ _ hk] at e1; exact hid e1.symm
        rw [atH_set_other _ _ _ _ cjk] at e1
        exact ⟨j, by rw [List.length_append]; omega, by rw [atH_app _ _ _ hj]; exact e1, e2⟩
theorem drop_last_perm {b l : List Th} {x : Th} (hd : IdsD (b ++ [x])) (hp : (b ++ [x]).Perm l) : b.Perm (dropH l x.f0) := by
  have h1 := erase_drop hd b.length (by simp)
  rw [erase_last, atH_last] at h1
  exact h1.trans (drop_perm hp _)
theorem erase_app (b : List Th) (x : Th) (k : Nat) (hk : k < b.length) : (b ++ [x]).eraseIdx k = b.eraseIdx k ++ [x] := by
  rw [List.eraseIdx_append_of_lt_length hk]
theorem drop_mid_perm {b l : List Th} {x : Th} (hd : IdsD (b ++ [x])) (hp : (b ++ [x]).Perm l) {k : Nat} (hk : k < b.length) {id : Int} (e : (atH b k).f0 = id) : (x :: b.eraseIdx k).Perm (dropH l id) := by
  have h1 := erase_drop hd k (by rw [List.length_append]; omega)
  rw [atH_app _ _ _ hk, e, erase_app b x k hk] at h1
  exact (List.perm_append_comm (l₁ := [x])).trans (h1.trans (drop_perm hp _))
def DropPost (w : World) (hb : Nat) (Q : Nat → Prop) (N : Nat) (l : List Th) (id : Int) (e : Ending) (w' : World) : Prop :=
  e = .returned (.bool (decide (findH l id ≠ none))) ∧ Hpl w' hb Q (N + 2 * l.length + 4) (dropH l id) ∧ KpB Q w w'
theorem del_map (f : Int → Option Int) (k : Int) : delV (fun i => (f i).map (Value.int .i64)) k = fun i => (delF f k i).map (Value.int .i64) := by
  funext i
  unfold delV delF
  split <;> rfl
set_option maxHeartbeats 1000000 in
set_option maxRecDepth 100000 in
theorem drop_none_calls (hb : Nat) (id : Int) (w : World) (Q : Nat → Prop) (N : Nat) (l : List Th) (f : Int → Option Int) (n : Nat) (a : List Th) (h1 : HpR w hb Q f n a) (h2 : HpI f a) (h3 : a.Perm l) (h4 : n ≤ N) (h5 : WfA a) (hr : RowI l) (ho : ∀ k, Q k → k < w.heap.size) (hid : wfI id) (e1 : f id = none) (e2 : findH l id = none) :
    Calls Try.prog 24 #[.pointer (some ⟨hb, 0, none⟩), .int .i64 id] w (DropPost w hb Q N l id) := by
  obtain ⟨v, mb, g0, q0, q1, g3, g4, k0, k1, kf, hbx⟩ := hp_open h1
  have hrun := look_none g4 hid e1
  have hno : dropH l id = l := drop_id_none (fun y hy c => by
    obtain ⟨v, hv⟩ := (heap_has h2 h3 id).2 ⟨y, hy, c⟩
    rw [e1] at hv
    cases hv)
  have HE : Aside0 (DropPost w hb Q N l id (.returned (.bool false)) w) := ⟨by rw [e2]; simp, ⟨⟨f, n, a, h1, h2, by rw [hno]; exact h3, by omega, h5⟩, by rw [hno]; exact hr, ho⟩, KpB.refl _ _⟩
  clear h1 h2 h3 h4 h5 hr ho hid e1 e2 g0 g3 g4 q0 q1 hno
  go_enter Try.func24, Try.ntmps24
  go_wp2
  go_ret
  exact HE.out
theorem del_made {w w1 : World} {hb mb n : Nat} {Q : Nat → Prop} {f : Int → Option Int} {a : List Th} {v : Value} {id : Int} (h0 : w.heap[hb]? = some (.cells #[v, .map (some mb)] 103 (0, 0))) (q0 : Q hb) (q1 : Q mb) (h3 : Kd.R k37 105 w 0 Q v a) (h4 : MpV w Try.prog 3 mb n (fun k => (f k).map (Value.int .i64)))
    (hM : MpV w1 Try.prog 3 mb n (delV (fun k => (f k).map (Value.int .i64)) id)) (hg : w.grownBy w1 (some mb)) : w1.heap[hb]? = some (.cells #[v, .map (some mb)] 103 (0, 0)) ∧ Kd.R k37 105 w1 0 Q v a ∧ MpV w1 Try.prog 3 mb n (fun k => (delF f id k).map (Value.int .i64)) ∧ KpB Q w w1 := by
  have hmn : some mb ≠ v.ownBlock := fun e => by
    obtain ⟨es, cl, hm⟩ := mp_is h4
    obtain ⟨cells, hc⟩ := own_typed (Kd.R_own h3).choose_spec mb e.symm
    rw [hc] at hm
    cases hm
  have hbm : hb ≠ mb := fun e => by
    subst e
    obtain ⟨es, cl, hm⟩ := mp_is h4
    rw [h0] at hm
    cases hm
  rw [del_map] at hM
  obtain ⟨z0, inner, zo, zr⟩ := h3
  exact ⟨(hg.block hb (lt_blk h0) (fun e => by injection e with e; exact hbm e)).trans h0, ⟨z0, inner, own_move zo (fun k hk => hg.block k (own_lt zo k hk) (fun e => hmn (e.symm.trans hk.symm))), zr⟩, hM, KpB.of_grown hg q1⟩
theorem del_facts {w1 : World} {hb mb g c L m : Nat} {Q : Nat → Prop} {b : List Th} {x : Th} (hL : (b ++ [x]).length = L) (hm : L = m + 1) (hbm : b.length = m)
    (h0 : w1.heap[hb]? = some (.cells #[.slice (some ⟨g, 0, none⟩) (b ++ [x]).length c, .map (some mb)] 103 (0, 0))) (h3 : Kd.R k37 105 w1 0 Q (.slice (some ⟨g, 0, none⟩) (b ++ [x]).length c) (b ++ [x])) :
    w1.cell? ⟨hb, 0, none⟩ = some (.slice (some ⟨g, 0, none⟩) L c) ∧ w1.frozen? ⟨hb, 0, none⟩ = false ∧ w1.cell? ⟨g, m * 3, none⟩ = some (.int .i64 x.f0) ∧ w1.cell? ⟨g, m * 3 + 1, none⟩ = some (.int .i64 x.f1) ∧ w1.cell? ⟨g, m * 3 + 2, none⟩ = some (.int .i64 x.f2) ∧ hb < w1.heap.size ∧ g < w1.heap.size := by
  obtain ⟨c0, c1, c2, _⟩ := hp_cells h3 m (by omega)
  have ex : atH (b ++ [x]) m = x := by rw [← hbm]; exact atH_last b x
  rw [ex] at c0 c1 c2
  exact ⟨hL ▸ blk_cell h0 0, blk_frozen h0 0, c0, c1, c2, lt_blk h0, Kd.R_lt h3 g rfl⟩
/-- What Drop reads of the last thing. -/
abbrev DrS (w1 : World) (hb g L c m : Nat) (x : Th) (W : World) : Prop :=
  Aside0 (Below w1.heap.size w1 W) ∧ W.cell? ⟨hb, 0, none⟩ = some (.slice (some ⟨g, 0, none⟩) L c) ∧ W.cell? ⟨g, m * 3, none⟩ = some (.int .i64 x.f0) ∧ W.cell? ⟨g, m * 3 + 1, none⟩ = some (.int .i64 x.f1) ∧ W.cell? ⟨g, m * 3 + 2, none⟩ = some (.int .i64 x.f2)
theorem DrS.keep {w1 : World} {hb g L c m : Nat} {x : Th} {W W2 : World} (h : DrS w1 hb g L c m x W) (k : Below W.heap.size W W2) : DrS w1 hb g L c m x W2 :=
  ⟨⟨below_step h.1.out k⟩, pw_cell_below k h.2.1, pw_cell_below k h.2.2.1, pw_cell_below k h.2.2.2.1, pw_cell_below k h.2.2.2.2⟩
theorem drop_made {w w1 w2 : World} {hb mb g c n : Nat} {Q : Nat → Prop} {f1 : Int → Option Int} {b : List Th} {x : Th} {m : Nat} (hbm : b.length = m) (h0 : w1.heap[hb]? = some (.cells #[.slice (some ⟨g, 0, none⟩) (b ++ [x]).length c, .map (some mb)] 103 (0, 0))) (q0 : Q hb) (q1 : Q mb)
    (h3 : Kd.R k37 105 w1 0 Q (.slice (some ⟨g, 0, none⟩) (b ++ [x]).length c) (b ++ [x])) (h4 : MpV w1 Try.prog 3 mb n (fun k => (f1 k).map (Value.int .i64))) (hK : KpB Q w w1) (hB : Below w1.heap.size w1 w2) :
    HpR (w2.setCell ⟨hb, 0, none⟩ (.slice (some ⟨g, 0, none⟩) m c)).drew hb Q f1 n b ∧ KpB Q w (w2.setCell ⟨hb, 0, none⟩ (.slice (some ⟨g, 0, none⟩) m c)).drew := by
  have hbm2 : hb ≠ mb := fun e => by
    subst e
    obtain ⟨es, cl, hm⟩ := mp_is h4
    rw [h0] at hm
    cases hm
  have b0 := blk_keep h0 hB
  have m0 := mp_move h4 (hB.block mb (mp_lt h4))
  have r0 := Kd.R_take (Kd.R_below h3 hB) (m := m) (by rw [List.length_append]; omega)
  rw [← hbm, List.take_left] at r0
  rw [hbm] at r0
  have r1 := Kd.R_types r0 b0 (by decide)
  have sz : (w2.setCell ⟨hb, 0, none⟩ (.slice (some ⟨g, 0, none⟩) m c)).drew.heap.size = w2.heap.size := by show (w2.setCell _ _).heap.size = _; simp [World.setCell]
  refine ⟨⟨_, mb, (blk_put b0 0 _ rfl : (w2.setCell _ _).heap[hb]? = _), q0, q1, Kd.R_mono (Kd.R_drew (Kd.R_far r1 (p := ⟨hb, 0, none⟩) (fun k hk => hk.2) _)) (fun k hk => hk.1), mp_move m0 (Below.heap_setCell _ _ _ mb (Ne.symm hbm2))⟩, ?_⟩
  refine hK.trans (Q' := Q) ⟨hB.os, hB.tape, hB.output, by rw [sz]; exact hB.size, fun k hk hn => ?_⟩ (fun j hj => .inl hj)
  have e : (w2.setCell ⟨hb, 0, none⟩ (.slice (some ⟨g, 0, none⟩) m c)).heap[k]? = w2.heap[k]? := Below.heap_setCell _ _ _ k (fun e => hn (e ▸ q0))
  exact e.trans (hB.block k hk)
theorem drop_end_mid {w w3 w4 : World} {hb : Nat} {Q : Nat → Prop} {N n : Nat} {l b : List Th} {x : Th} {id : Int} {k : Nat} (h2 : IdsD (b ++ [x])) (h3 : (b ++ [x]).Perm l) (h4 : n ≤ N) (hr : RowI l) (ho : ∀ k, Q k → k < w.heap.size) (hk : k < b.length) (e3 : (atH b k).f0 = id) (e2 : findH l id ≠ none)
    (hK3 : KpB Q w w3) (hF : FxPost w3 hb Q n b k x (.returned (.tuple #[])) w4) : DropPost w hb Q N l id (.returned (.bool true)) w4 := by
  obtain ⟨f', n', a', _, hR, hI, hp, hl, hw, hn, hK⟩ := hF
  have hlen := h3.length_eq
  rw [List.length_append, List.length_singleton] at hlen
  have hs1 := hK3.size
  have hs2 := hK.size
  exact ⟨by rw [decide_eq_true e2], ⟨⟨f', n', a', hR, hI, hp.trans (drop_mid_perm h2 h3 hk e3), by omega, hw⟩, row_drop hr id, fun j hj => by have := ho j hj; omega⟩, hK3.trans hK (fun j hj => .inl hj)⟩
theorem drop_end_last {w w3 : World} {hb : Nat} {Q : Nat → Prop} {N n : Nat} {l b : List Th} {x : Th} {f : Int → Option Int} (h2 : HpI f (b ++ [x])) (h3 : (b ++ [x]).Perm l) (h4 : n ≤ N) (h5 : WfA (b ++ [x])) (hr : RowI l) (ho : ∀ k, Q k → k < w.heap.size) (e2 : findH l x.f0 ≠ none)
    (hR3 : HpR w3 hb Q (delF f x.f0) n b) (hK3 : KpB Q w w3) : DropPost w hb Q N l x.f0 (.returned (.bool true)) w3 := by
  have hs1 := hK3.size
  exact ⟨by rw [decide_eq_true e2], ⟨⟨_, n, b, hR3, hpi_drop h2, drop_last_perm h2.ids h3, by omega, fun j hj => by have := h5 j (by rw [List.length_append]; omega); rwa [atH_app _ _ _ hj] at this⟩, row_drop hr _, fun j hj => by have := ho j hj; omega⟩, hK3⟩
theorem info105s : ∃ i, Try.prog.info? 105 = some i := by
  have h : (Try.prog.info? 105).isSome = true := by kernel_rfl
  exact Option.isSome_iff_exists.1 h
theorem less_one {L m : Nat} (h : L = m + 1) (hl : L ≤ 100000) : IntKind.i64.wrap ((L : Int) - 1) = (m : Int) := by
  rw [i64_w, w64_id (by omega) (by omega)]
  omega
set_option maxHeartbeats 1000000 in
set_option maxRecDepth 100000 in
theorem drop_some_calls (hb : Nat) (id : Int) (w : World) (Q : Nat → Prop) (N : Nat) (l : List Th) (f : Int → Option Int) (n : Nat) (b : List Th) (x : Th) (h1 : HpR w hb Q f n (b ++ [x])) (h2 : HpI f (b ++ [x])) (h3 : (b ++ [x]).Perm l) (h4 : n ≤ N) (h5 : WfA (b ++ [x])) (hr : RowI l) (ho : ∀ k, Q k → k < w.heap.size) (hid : wfI id) (hN : N ≤ 100000000) (hl : l.length ≤ 1000)
    (k : Nat) (e1 : f id = some (k : Int)) (hk : k < (b ++ [x]).length) (e3 : (atH (b ++ [x]) k).f0 = id) (e2 : findH l id ≠ none) : Calls Try.prog 24 #[.pointer (some ⟨hb, 0, none⟩), .int .i64 id] w (DropPost w hb Q N l id) := by
  obtain ⟨v, mb, g0, q0, q1, g3, g4, k0, k1, kf, hbx⟩ := hp_open h1
  have hrun := look_some g4 hid e1
  have hlen := h3.length_eq
  obtain ⟨g, c, rfl, _, hgx, _⟩ := Kd.R_form g3 (by rw [List.length_append]; simp)
  obtain ⟨A', c', e, hc, _⟩ := Kd.R_reads g3
  injection e with e5 e6 e7
  subst e5 e7
  clear e6
  have HMD := Aside0.mk (fun (w1 : World) hM hg => del_made (w1 := w1) (id := id) g0 q0 q1 g3 g4 hM hg)
  have HG4 := Aside0.mk g4
  have HN := Aside0.mk (And.intro hN hl)
  have HG0 := Aside0.mk g0
  have HQ1 := Aside0.mk (And.intro q0 q1)
  have HB := Aside0.mk (And.intro h2 (And.intro h3 (And.intro h4 (And.intro h5 (And.intro hr (And.intro ho (And.intro hid (And.intro hk (And.intro e3 e2)))))))))
  obtain ⟨L, hL⟩ : ∃ L, (b ++ [x]).length = L := ⟨_, rfl⟩
  have hm : L = b.length + 1 := by rw [← hL]; simp
  obtain ⟨m, hbm⟩ : ∃ m, b.length = m := ⟨_, rfl⟩
  rw [hbm] at hm
  have ex : atH (b ++ [x]) m = x := by rw [← hbm]; exact atH_last b x
  have e4 := less_one hm (by omega)
  have lp : (m : Int) < (L : Int) := by omega
  have HLM := Aside0.mk (And.intro hL (And.intro hm hbm))
  obtain ⟨i105, hi105⟩ := info105s
  have cg : ∀ W : World, (Instr.slice 101 (.slice (some ⟨g, 0, none⟩) L c) none (some (.int .i64 m)) none).run Try.prog W = .ok (.slice (some ⟨g, 0, none⟩) m c) W := cut_to 101 105 .i64 Try.underlying101 hi105 (some ⟨g, 0, none⟩) L c m (by omega) (by omega) (by omega)
  clear h1 h2 h3 h4 h5 hr ho hid hN hl e1 hk e3 e2 g0 q0 q1 g3 g4 hlen hi105
  rw [hL] at k0
  have HEX := Aside0.mk ex
  clear hm hL hbm ex hc
  go_enter Try.func24, Try.ntmps24
  go_wp2_with (first
    | (at_delete; refine wp_delete rfl _ _ 100 rfl 3 Try.underlying3 Try.underlying100 rfl HG4.out id rfl HB.out.2.2.2.2.2.2.1 ?_; intro w1 hM1 hg1 hs1; have HW1 := Aside0.mk (HMD.out w1 hM1 hg1); obtain ⟨j0, jf, c0, c1, c2, hb1x, hg1x⟩ := del_facts HLM.out.1 HLM.out.2.1 HLM.out.2.2 HW1.out.1 HW1.out.2.1; have hs1' := Aside0.mk hs1; clear hs1 hM1 hg1 hrun k0 k1 kf)
    | go_in)
  have hS : DrS w1 hb g L c m x w1 := ⟨⟨Below.refl _ _⟩, j0, c0, c1, c2⟩
  have JJ0 := Aside0.mk j0
  refine start_ (n := 14) (S := DrS w1 hb g L c m x) (ds := [13]) #[false, false, false, false, false, false, false, false, false, false, false, false, false, false] (by kernel_rfl) rfl rfl (DrS.keep hS (below_drew (Below.refl _ _))) (fun hHeld => ?_)
  clear hS j0 jf c0 c1 c2
  generalize w1.drew = wd at hHeld ⊢
  refine pure_ (i := 0) (N := some 26) (v := ?_) (a' := ?_) #[true, false, false, false, false, false, false, false, false, false, false, false, false, false] rfl rfl (by kernel_rfl) (fun _ _ _ h => h) (Or.inl ⟨by rfl, ?_⟩) ?_ ?_
  rotate_left
  · intro w'
    go_simp
    with_reducible rfl
  rotate_left
  · simp only [Act.put, List.setIfInBounds_toArray, List.set_cons_zero, List.set_cons_succ]
    rfl
  refine pure_ (i := 1) (N := some 27) (v := ?_) (a' := ?_) #[true, true, false, false, false, false, false, false, false, false, false, false, false, false] rfl rfl (by kernel_rfl) (fun _ _ _ h => h) (Or.inl ⟨by rfl, ?_⟩) ?_ ?_
  rotate_left
  · intro w'
    go_simp
    with_reducible rfl
  rotate_left
  · simp only [Act.put, List.setIfInBounds_toArray, List.set_cons_zero, List.set_cons_succ]
    rfl
  refine pure_ (i := 2) (N := some 28) (v := ?_) (a' := ?_) #[true, true, true, false, false, false, false, false, false, false, false, false, false, false] rfl rfl (by kernel_rfl) (fun _ _ _ h => h) (Or.inl ⟨by rfl, ?_⟩) ?_ ?_
  rotate_left
  · intro w'
    go_simp
    with_reducible rfl
  rotate_left
  · simp only [Act.put, List.setIfInBounds_toArray, List.set_cons_zero, List.set_cons_succ]
    rfl
  refine take_ (i := 3) (N := some 29) (v := ?_) (a' := ?_) #[true, true, true, true, false, false, false, false, false, false, false, false, false, false] rfl rfl (by kernel_rfl) (fun _ _ _ h => h) (Or.inl ⟨by rfl, ?_⟩) hHeld ?_ ?_
  rotate_left
  · rintro w' ⟨_, k1, k2, k3, k4⟩
    go_simp
    with_reducible rfl
  rotate_left
  · simp only [Act.put, List.setIfInBounds_toArray, List.set_cons_zero, List.set_cons_succ]
    rfl
  refine pure_ (i := 4) (N := some 30) (v := ?_) (a' := ?_) #[true, true, true, true, true, false, false, false, false, false, false, false, false, false] rfl rfl (by kernel_rfl) (fun _ _ _ h => h) (Or.inl ⟨by rfl, ?_⟩) ?_ ?_
  rotate_left
  · intro w'
    go_simp
    with_reducible rfl
  rotate_left
  · simp only [Act.put, List.setIfInBounds_toArray, List.set_cons_zero, List.set_cons_succ]
    rfl
  refine pure_ (i := 5) (N := some 31) (v := ?_) (a' := ?_) #[true, true, true, true, true, true, false, false, false, false, false, false, false, false] rfl rfl (by kernel_rfl) (fun _ _ _ h => h) (Or.inl ⟨by rfl, ?_⟩) ?_ ?_
  rotate_left
  · intro w'
    go_simp
    with_reducible rfl
  rotate_left
  · simp only [Act.put, List.setIfInBounds_toArray, List.set_cons_zero, List.set_cons_succ]
    rfl
  refine pure_ (i := 6) (N := some 32) (v := ?_) (a' := ?_) #[true, true, true, true, true, true, true, false, false, false, false, false, false, false] rfl rfl (by kernel_rfl) (fun _ _ _ h => h) (Or.inl ⟨by rfl, ?_⟩) ?_ ?_
  rotate_left
  · intro w'
    go_simp
    with_reducible rfl
  rotate_left
  · simp only [Act.put, List.setIfInBounds_toArray, List.set_cons_zero, List.set_cons_succ]
    rfl
  refine take_ (i := 7) (N := some 33) (v := ?_) (a' := ?_) #[true, true, true, true, true, true, true, true, false, false, false, false, false, false] rfl rfl (by kernel_rfl) (fun _ _ _ h => h) (Or.inl ⟨by rfl, ?_⟩) hHeld ?_ ?_
  rotate_left
  · rintro w' ⟨_, k1, k2, k3, k4⟩
    go_simp
    with_reducible rfl
  rotate_left
  · simp only [Act.put, List.setIfInBounds_toArray, List.set_cons_zero, List.set_cons_succ]
    rfl
  refine pure_ (i := 8) (N := some 34) (v := ?_) (a' := ?_) #[true, true, true, true, true, true, true, true, true, false, false, false, false, false] rfl rfl (by kernel_rfl) (fun _ _ _ h => h) (Or.inl ⟨by rfl, ?_⟩) ?_ ?_
  rotate_left
  · intro w'
    go_simp
    with_reducible rfl
  rotate_left
  · simp only [Act.put, List.setIfInBounds_toArray, List.set_cons_zero, List.set_cons_succ]
    rfl
  refine pure_ (i := 9) (N := some 35) (v := ?_) (a' := ?_) #[true, true, true, true, true, true, true, true, true, true, false, false, false, false] rfl rfl (by kernel_rfl) (fun _ _ _ h => h) (Or.inl ⟨by rfl, ?_⟩) ?_ ?_
  rotate_left
  · intro w'
    go_simp
    with_reducible rfl
  rotate_left
  · simp only [Act.put, List.setIfInBounds_toArray, List.set_cons_zero, List.set_cons_succ]
    rfl
  refine pure_ (i := 10) (N := some 36) (v := ?_) (a' := ?_) #[true, true, true, true, true, true, true, true, true, true, true, false, false, false] rfl rfl (by kernel_rfl) (fun _ _ _ h => h) (Or.inl ⟨by rfl, ?_⟩) ?_ ?_
  rotate_left
  · intro w'
    go_simp
    with_reducible rfl
  rotate_left
  · simp only [Act.put, List.setIfInBounds_toArray, List.set_cons_zero, List.set_cons_succ]
    rfl
  refine take_ (i := 11) (N := some 37) (v := ?_) (a' := ?_) #[true, true, true, true, true, true, true, true, true, true, true, true, false, false] rfl rfl (by kernel_rfl) (fun _ _ _ h => h) (Or.inl ⟨by rfl, ?_⟩) hHeld ?_ ?_
  rotate_left
  · rintro w' ⟨_, k1, k2, k3, k4⟩
    go_simp
    with_reducible rfl
  rotate_left
  · simp only [Act.put, List.setIfInBounds_toArray, List.set_cons_zero, List.set_cons_succ]
    rfl
  refine one_ (i := 12) (N := some 7) #[true, true, true, true, true, true, true, true, true, true, true, true, true, false] rfl rfl (by kernel_rfl) (by decide) (fun K_ hK => ?_)
  rw [if_pos (by rfl)]
  go_wp2
  refine hK.out _ _ (DrS.keep hHeld (below_alloc (Below.refl _ _) _)) (fun hHeld2 => ?_)
  clear hK
  have hz := blk_new wd (.cells #[.int .i64 0, .int .i64 0, .int .i64 0] 105)
  have p0 := blk_cell hz 0
  have p1 := blk_cell hz 1
  have p2 := blk_cell hz 2
  have pf0 := blk_frozen hz 0
  have pf1 := blk_frozen hz 1
  have pf2 := blk_frozen hz 2
  refine last_ (i := 13) (N := none) #[true, true, true, true, true, true, true, true, true, true, true, true, true, true] rfl rfl (by kernel_rfl) (by decide) (fun K_ hK => ?_)
  rw [if_pos (by rfl)]
  go_wp2
  refine hK.out _ _ ?_
  refine done_ (by kernel_rfl) ?_
  clear hK hHeld2 hz p0 p1 p2 pf0 pf1 pf2
  obtain ⟨HD, k1, k2, k3, k4⟩ := hHeld
  have HX2 := Aside0.mk (below_step HD.out (below_alloc (Below.refl wd.heap.size wd) (.cells #[.int .i64 x.f0, .int .i64 x.f1, .int .i64 x.f2] 105)))
  have HBX := Aside0.mk (blk_new wd (.cells #[.int .i64 x.f0, .int .i64 x.f1, .int .i64 x.f2] 105))
  generalize World.alloc wd _ = w2 at HX2 HBX ⊢
  have j2 := pw_cell_below HX2.out JJ0.out
  have jf2 : w2.frozen? ⟨hb, 0, none⟩ = false := blk_frozen (blk_keep HW1.out.1 HX2.out) 0
  have hb2x : hb < w2.heap.size := Nat.lt_of_lt_of_le hb1x HX2.out.size
  clear k1 k2 k3 k4 hb1x
  go_wp2
  go_region
  simp only [Exit.then]
  rename_i hk2
  refine hk2 _ _ ?_
  obtain ⟨g0, g3, g4, hK1⟩ := HW1.out
  have HM3 := drop_made HLM.out.2.2 g0 HQ1.out.1 HQ1.out.2 g3 g4 hK1 HX2.out
  have HBX3 : (w2.setCell ⟨hb, 0, none⟩ (.slice (some ⟨g, 0, none⟩) m c)).drew.heap[wd.heap.size]? = some (.cells #[.int .i64 x.f0, .int .i64 x.f1, .int .i64 x.f2] 105 (0, 0)) := (Below.heap_setCell _ _ _ wd.heap.size (fun e => by have := HD.out.size; have e2 : wd.heap.size = hb := e; have := lt_blk g0; omega) : (w2.setCell _ _).heap[wd.heap.size]? = _).trans HBX.out
  clear hk2 g0 g3 g4 hK1 HW1 HX2 HBX j2 jf2 hb2x HMD
  generalize (w2.setCell ⟨hb, 0, none⟩ (.slice (some ⟨g, 0, none⟩) m c)).drew = w3 at HM3 HBX3 ⊢
  have y0 : w3.cell? ⟨wd.heap.size, 0, none⟩ = some (.int .i64 x.f0) := blk_cell HBX3 0
  have y1 : w3.cell? ⟨wd.heap.size, 1, none⟩ = some (.int .i64 x.f1) := blk_cell HBX3 1
  have y2 : w3.cell? ⟨wd.heap.size, 2, none⟩ = some (.int .i64 x.f2) := blk_cell HBX3 2
  have HM := Aside0.mk HM3
  clear HM3 HBX3
  obtain ⟨h2, h3, h4, h5, hr, ho, hid, hkl, e3, e2⟩ := HB.out
  obtain ⟨hL, hm, hbm⟩ := HLM.out
  by_cases hkm : k < m
  · have e3' : (atH b k).f0 = id := by rw [atH_app _ _ _ (by omega)] at e3; exact e3
    have hxn : x.f0 ≠ id := fun e => by
      have := ids_at h2.ids (i := k) (j := m) (by omega) (by omega) (e3.trans (e.symm.trans (by rw [HEX.out])))
      omega
    have t1 : (x.f0 != id) = true := by simp [hxn]
    have hsz : ∀ j, Q j → j < w3.heap.size := fun j hj => Nat.lt_of_lt_of_le (ho j hj) HM.out.2.size
    have hwx : wfI x.f0 := by have := h5 m (by omega); rwa [HEX.out] at this
    have hlen := h3.length_eq
    have HF := Aside0.mk (fix_calls hb k x w3 Q _ n b HM.out.1 (hph_drop h2 (by omega) e3') hsz (fun j hj => by have := h5 j (by rw [List.length_append]; omega); rwa [atH_app _ _ _ hj] at this) hwx (by have := HN.out; omega) (by have := HN.out; omega))
    have HE := Aside0.mk (fun (w4 : World) (hF : FxPost w3 hb Q n b k x (.returned (.tuple #[])) w4) => drop_end_mid h2.ids h3 h4 hr ho (by omega) e3' e2 HM.out.2 hF)
    clear h2 h3 h4 h5 hr ho hid hkl e3 e2 hL hm hbm hkm e3' hxn hsz hwx hlen
    go_wp2_with (first | (go_at_call 79; (with_reducible refine (HF.out).mono ?_); rintro e w4 hF; have hF2 := hF; obtain ⟨f', n', a', rfl, _⟩ := hF; have H2 := Aside0.mk hF2; clear hF2))
    go_ret
    exact HE.out _ H2.out
  · obtain rfl : k = m := by omega
    have e5 : x.f0 = id := by rw [HEX.out] at e3; exact e3
    subst e5
    have t1 : (x.f0 != x.f0) = false := by simp
    have HE := Aside0.mk (drop_end_last h2 h3 h4 h5 hr ho e2 HM.out.1 HM.out.2)
    clear h2 h3 h4 h5 hr ho hid hkl e3 e2 hL hm hbm hkm
    go_wp2
    go_ret
    exact HE.out
theorem app_last (a : List Th) (h : 0 < a.length) : ∃ b x, a = b ++ [x] := by
  refine ⟨a.dropLast, a.getLast (by intro e; rw [e] at h; exact absurd h (by simp)), ?_⟩
  exact (List.dropLast_concat_getLast _).symm
theorem drop_calls (hb : Nat) (id : Int) (w : World) (Q : Nat → Prop) (N : Nat) (l : List Th) (h : Hpl w hb Q N l) (hid : wfI id) (hN : N ≤ 100000000) (hl : l.length ≤ 1000) :
    Calls Try.prog 24 #[.pointer (some ⟨hb, 0, none⟩), .int .i64 id] w (DropPost w hb Q N l id) := by
  obtain ⟨⟨f, n, a, h1, h2, h3, h4, h5⟩, hr, ho⟩ := h
  rcases hp_find h2 h3 hr id with ⟨e1, e2⟩ | ⟨k, e1, hk, e3, e2⟩
  · exact drop_none_calls hb id w Q N l f n a h1 h2 h3 h4 h5 hr ho hid e1 e2
  · obtain ⟨b, x, rfl⟩ := app_last a (by omega)
    exact drop_some_calls hb id w Q N l f n b x h1 h2 h3 h4 h5 hr ho hid hN hl k e1 hk e3 (by rw [e2]; simp)
end Go.Proofs.Ytopblnecdabcgaa.P
end
section
/- heap.Heap: Pop, All; and what nobody's heap tells. -/
namespace Go.Proofs.Ytopblnecdabcgaa.P
open Go.RowKit Go.Proofs.YtopblnecdabcgaaW.PrintWords Go.Proofs.YtopblnecdabcgaaW.PrintLast Go.Proofs.YtopblnecdabcgaaW.PrintMore Go.Proofs.Ytopblnecdabcgaa.H Go.Proofs.Ytopblnecdabcgaa.MP Go.Proofs.Ytopblnecdabcgaa.RP
set_option linter.unusedVariables false
set_option linter.unusedSimpArgs false
def PopPost (w : World) (hb : Nat) (Q : Nat → Prop) (N : Nat) (l : List Th) (e : Ending) (w' : World) : Prop :=
  e = .returned (.tuple #[.int .i64 (headI l), .bool (someB l)]) ∧ Hpl w' hb Q (N + 2 * l.length + 4) l.tail ∧ KpB Q w w'
theorem drop_head {x : Th} {l : List Th} (h : IdsD (x :: l)) : dropH (x :: l) x.f0 = l := by
  rw [drop_cons_same rfl, drop_id_none (fun y hy => Ne.symm ((List.pairwise_cons.1 h).1 y hy))]
theorem hpl_wf {w : World} {hb : Nat} {Q : Nat → Prop} {N : Nat} {l : List Th} (h : Hpl w hb Q N l) {x : Th} (hx : x ∈ l) : wfI x.f0 := by
  obtain ⟨⟨f, n, a, h1, h2, h3, h4, h5⟩, hr, ho⟩ := h
  obtain ⟨k, hk, e⟩ := List.getElem_of_mem (h3.mem_iff.2 hx)
  have := h5 k hk
  rwa [atH_get a k hk, e] at this
set_option maxHeartbeats 1000000 in
set_option maxRecDepth 100000 in
theorem pop_calls (hb : Nat) (w : World) (Q : Nat → Prop) (N : Nat) (l : List Th) (h : Hpl w hb Q N l) (hN : N ≤ 100000000) (hl : l.length ≤ 1000) : Calls Try.prog 26 #[.pointer (some ⟨hb, 0, none⟩)] w (PopPost w hb Q N l) := by
  have HF := Aside0.mk (first_calls hb w Q N l h)
  have H := Aside0.mk h
  have HN := Aside0.mk (And.intro hN hl)
  cases l with
  | nil =>
    clear h hN hl
    have HF2 : Aside0 (Calls Try.prog 27 #[.pointer (some ⟨hb, 0, none⟩)] w fun e w' => e = .returned (.tuple #[.int .i64 0, .bool false]) ∧ Below w.heap.size w w') := ⟨HF.out⟩
    clear HF
    go_enter Try.func26, Try.ntmps26
    go_wp2_with (first | (go_at_call 27; (with_reducible refine (HF2.out).mono ?_); rintro e w1 ⟨rfl, hb1⟩; have HB1 := Aside0.mk hb1; clear hb1))
    go_ret2
    exact ⟨rfl, hpl_mono (hpl_below H.out HB1.out) (by omega), KpB.of_below HB1.out⟩
  | cons x l =>
    have hid := hpl_wf h (List.mem_cons_self ..)
    have ht := drop_head h.row.ids
    have HF2 : Aside0 (Calls Try.prog 27 #[.pointer (some ⟨hb, 0, none⟩)] w fun e w' => e = .returned (.tuple #[.int .i64 x.f0, .bool true]) ∧ Below w.heap.size w w') := ⟨HF.out⟩
    have HD := fun W hW => Aside0.mk (drop_calls hb x.f0 W Q N (x :: l) hW hid hN hl)
    have HT := Aside0.mk ht
    clear h hN hl HF hid ht
    go_enter Try.func26, Try.ntmps26
    go_wp2_with (first
      | (go_at_call 27; (with_reducible refine (HF2.out).mono ?_); rintro e w1 ⟨rfl, hb1⟩; have HB1 := Aside0.mk hb1; clear hb1)
      | (go_at_call 24; (with_reducible refine ((HD _ (hpl_below H.out HB1.out)).out).mono ?_); rintro e w2 ⟨rfl, hp2, hk2⟩; have H2 := Aside0.mk (And.intro hp2 hk2); clear hp2 hk2))
    go_ret2
    obtain ⟨hp2, hk2⟩ := H2.out
    rw [HT.out] at hp2
    exact ⟨rfl, hp2, (KpB.of_below (Q := Q) HB1.out).trans hk2 (fun j hj => .inl hj)⟩
/-! All -/
def putEach (a : List Th) : List Th := a.foldl putH []
theorem putEach_row : ∀ (a r : List Th), RowI r → RowI (a.foldl putH r)
  | [], r, h => h
  | x :: a, r, h => putEach_row a _ (row_put h x)
theorem putEach_snoc (a : List Th) (x : Th) : putEach (a ++ [x]) = putH (putEach a) x := by unfold putEach; rw [List.foldl_append]; rfl
theorem putEach_perm (a : List Th) (hd : IdsD a) : ∀ i, i ≤ a.length → (putEach (a.take i)).Perm (a.take i) := by
  intro i
  induction i with
  | zero => intro _; exact List.Perm.refl _
  | succ i ih =>
    intro hi
    have h1 := ih (by omega)
    have e : a.take (i + 1) = a.take i ++ [atH a i] := by rw [List.take_succ_eq_append_getElem (by omega), atH_get a i (by omega)]
    rw [e, putEach_snoc]
    have hno : ¬ hasH (putEach (a.take i)) (atH a i).f0 := by
      rintro ⟨y, hy, e2⟩
      obtain ⟨k, hk, e3⟩ := List.getElem_of_mem (h1.mem_iff.1 hy)
      rw [List.length_take] at hk
      rw [List.getElem_take] at e3
      have := ids_at hd (i := k) (j := i) (by omega) (by omega) (by rw [atH_get a k (by omega), e3, e2])
      omega
    exact (put_new hno (List.Perm.refl _) (List.Perm.refl _)).symm.trans ((h1.cons _).trans (List.perm_append_comm (l₁ := [atH a i])))
theorem putEach_is {a l : List Th} (hd : IdsD a) (hp : a.Perm l) (hr : RowI l) : putEach a = l := by
  have h1 := putEach_perm a hd a.length (Nat.le_refl _)
  rw [List.take_length] at h1
  exact sort_eq _ _ (putEach_row a [] row_nil).sort hr.sort (h1.trans hp)
structure AllI (w : World) (xb : Nat) (a : List Th) (i : Nat) (wr : World) : Prop where
  ex : ∃ Q N, Hpl wr xb Q N (putEach (a.take i)) ∧ (∀ k, Q k → w.heap.size ≤ k) ∧ N ≤ i * 3000
  below : Below w.heap.size w wr
theorem all_next {w wr w1 w2 : World} {xb : Nat} {a : List Th} {i : Nat} {Q : Nat → Prop} {N : Nat} {e : Ending} (ha : a.length ≤ 1000) (hi : i < a.length) (h1 : Hpl wr xb Q N (putEach (a.take i))) (hq : ∀ k, Q k → w.heap.size ≤ k) (hN : N ≤ i * 3000) (hB : Below w.heap.size w wr) (hB1 : Below wr.heap.size wr w1)
    (hln : (putEach (a.take i)).length ≤ 1000) (hP : PutPost w1 xb Q N (putEach (a.take i)) (atH a i) e w2) : AllI w xb a (i + 1) w2 := by
  obtain ⟨_, hp2, hk2⟩ := hP
  have e2 : a.take (i + 1) = a.take i ++ [atH a i] := by rw [List.take_succ_eq_append_getElem (by omega), atH_get a i (by omega)]
  have hp3 : Hpl w2 xb (fun k => Q k ∨ w1.heap.size ≤ k ∧ k < w2.heap.size) (N + 2 * (putEach (a.take i)).length + 4) (putEach (a.take (i + 1))) := by rw [e2, putEach_snoc]; exact hp2
  refine ⟨⟨_, _, hp3, fun k hk => ?_, by omega⟩, ?_⟩
  · rcases hk with h | h
    · exact hq k h
    · exact Nat.le_trans (Nat.le_trans hB.size hB1.size) h.1
  · exact (below_step hB hB1).trans (hk2.below (Nat.le_trans hB.size hB1.size) (fun j hj hn => by have := hq j hn; omega))
def lenV : Value → Nat
  | .slice _ n _ => n
  | _ => 0
def AllPost (w : World) (l : List Th) (e : Ending) (w' : World) : Prop := ∃ v, e = .returned v ∧ Kd.R (Kd.int .i64) 3 w' w.heap.size (fun _ => True) v (l.map S37.f0) ∧ Below w.heap.size w w'
structure OutI (w : World) (xb : Nat) (Q : Nat → Prop) (p s : List Th) (v : Value) (wr : World) : Prop where
  ex : ∃ N, Hpl wr xb Q N s.tail ∧ N + s.length * 3000 ≤ 10000000
  own : ∀ k, Q k → w.heap.size ≤ k
  out : Kd.R (Kd.int .i64) 3 wr w.heap.size (fun k => ¬ Q k) v (p.map S37.f0)
  below : Below w.heap.size w wr
theorem out_app {w wr w2 w3 : World} {xb : Nat} {Q : Nat → Prop} {p s : List Th} {x : Th} {v2 : Value} {e : Ending} {N : Nat} (h1 : Hpl wr xb Q N s) (hN : N + (s.length + 1) * 3000 ≤ 10000000) (hq : ∀ k, Q k → w.heap.size ≤ k) (hs : s.length ≤ 1000)
    (hR2 : Kd.R (Kd.int .i64) 3 w2 w.heap.size (fun k => ¬ Q k) v2 ((p ++ [x]).map S37.f0)) (hB2 : Below w.heap.size w w2) (hP : PopPost w2 xb Q N s e w3) : OutI w xb Q (p ++ [x]) s v2 w3 := by
  obtain ⟨_, hp, hk⟩ := hP
  exact ⟨⟨_, hp, by omega⟩, hq, Kd.R_step hR2 (fun k ho hl => hk.block k hl ho), hB2.trans (hk.below hB2.size (fun j hj hn => by have := hq j hn; omega))⟩
theorem out_hpl {wr w2 : World} {xb : Nat} {Q : Nat → Prop} {N : Nat} {s : List Th} {v : Value} (h : Hpl wr xb Q N s) (hv : ∀ k, v.ownBlock = some k → ¬ Q k) (hg : wr.grownBy w2 v.ownBlock) : Hpl w2 xb Q N s :=
  hpl_keep (Q' := fun k => ¬ Q k) h ⟨hg.os, hg.tape, hg.output, hg.size, fun k hk hn => hg.block k hk (fun e => hn (hv k e.symm))⟩ (fun j hj hn => hn hj)
theorem slice_of {w : World} {base : Nat} {ok : Nat → Prop} {v : Value} {p : List Th} {x : Th} (h : Kd.R (Kd.int .i64) 3 w base ok v ((p ++ [x]).map S37.f0)) : ∃ A c, v = .slice A (p ++ [x]).length c := by
  obtain ⟨A, c, e⟩ := Kd.R_slice h
  rw [List.length_map] at e
  exact ⟨A, c, e⟩
set_option maxHeartbeats 4000000 in
set_option maxRecDepth 100000 in
theorem all_calls (hb : Nat) (w : World) (Q0 : Nat → Prop) (N0 : Nat) (l : List Th) (h : Hpl w hb Q0 N0 l) (hl : l.length ≤ 1000) : Calls Try.prog 32 #[.pointer (some ⟨hb, 0, none⟩)] w (AllPost w l) := by
  have H := Aside0.mk h
  obtain ⟨⟨f, n, a, h1, h2, h3, h4, h5⟩, hr, ho⟩ := h
  obtain ⟨v, mb, g0, q0, q1, g3, g4, k0, k1, kf, hbx⟩ := hp_open h1
  obtain ⟨A, c, rfl, hc, hC⟩ := Kd.R_reads g3
  have hlen := h3.length_eq
  have HP := Aside0.mk (putEach_is h2.ids h3 hr)
  have HPP := Aside0.mk (putEach_perm a h2.ids)
  have HW := Aside0.mk h5
  have H3 := Aside0.mk g3
  have HL : Aside0 (a.length = l.length ∧ l.length ≤ 1000) := ⟨hlen, hl⟩
  have K0 := Aside0.mk k0
  clear h1 h2 h3 h4 h5 hr ho g0 g3 g4 hlen hl k0 k1 kf hC
  go_enter Try.func32, Try.ntmps32
  go_wp2_with (first | (go_at_call 21; (with_reducible refine (new_calls _).mono ?_); rintro e w1 ⟨xb, rfl, hp1, hb1⟩; have HB1 := Aside0.mk hb1; have HP1 := Aside0.mk hp1; have k0 := pw_cell_below hb1 K0.out; clear hb1 hp1))
  clear k0
  have hst : AllI w xb a 0 w1 := ⟨⟨(fun k => w.heap.size ≤ k ∧ k < w1.heap.size), 0, by rw [List.take_zero]; exact HP1.out, fun k hk => hk.1, by omega⟩, HB1.out⟩
  go_loopw [17] (fun v wr => ∃ i : Nat, i ≤ a.length ∧ v = .int .i64 i ∧ Aside0 (AllI w xb a i wr)) (fun v _ => a.length - (intOf v).toNat)
  case atStart => exact ⟨0, Nat.zero_le _, rfl, ⟨hst⟩⟩
  case round =>
    obtain ⟨i, hi, rfl, HI⟩ := hrel
    by_cases hlt : i < a.length
    · obtain ⟨⟨Q, N, h1, hq, hN⟩, hB⟩ := HI.out
      have hln : (putEach (a.take i)).length ≤ 1000 := by
        have := (HPP.out i hi).length_eq
        rw [List.length_take] at this
        have := HL.out
        omega
      obtain ⟨g, c', e, _⟩ := Kd.R_form H3.out (by omega)
      injection e with e1 e2 e3
      subst e1
      clear e2 e3
      obtain ⟨c0, c1, c2, _⟩ := hp_cells (Kd.R_below H3.out (hB.mono (Nat.le_refl _))) i hlt
      have HN := Aside0.mk (fun (w2 : World) (hP : PutPost (wr.alloc (.cells #[.int .i64 (atH a i).f0, .int .i64 (atH a i).f1, .int .i64 (atH a i).f2] 105)) xb Q N (putEach (a.take i)) (atH a i) (.returned (.bool (decide (findH (putEach (a.take i)) (atH a i).f0 = none)))) w2) => all_next (w := w) (by have := HL.out; omega) hlt h1 hq hN hB (below_alloc (Below.refl wr.heap.size wr) (.cells #[.int .i64 (atH a i).f0, .int .i64 (atH a i).f1, .int .i64 (atH a i).f2] 105)) hln hP)
      have HPT := Aside0.mk (put_calls xb (atH a i) _ Q N _ (hpl_below h1 (below_alloc (Below.refl wr.heap.size wr) (.cells #[.int .i64 (atH a i).f0, .int .i64 (atH a i).f1, .int .i64 (atH a i).f2] 105))) (HW.out i hlt) (by have := HL.out; omega) hln)
      have lp : (i : Int) < (a.length : Int) := by omega
      have hb3 : a.length ≤ 1000 := by have := HL.out; omega
      clear h1 hq hN hB hln
      generalize atH a i = y at *
      go_wp2_with (first | (go_at_call 22; (with_reducible refine (HPT.out).mono ?_); rintro e w2 hP; obtain ⟨rfl, hP2⟩ := hP; have H2 := Aside0.mk (HN.out w2 ⟨rfl, hP2⟩); clear hP2))
      go_roundw
      case rel => exact ⟨i + 1, by omega, by go_num, H2⟩
      case measure => simp [intOf]; omega
    · obtain rfl : i = a.length := by omega
      obtain ⟨⟨Q, N, h1, hq, hN⟩, hB⟩ := HI.out
      rw [List.take_length, HP.out] at h1
      have HPO := Aside0.mk (pop_calls xb wr Q N l h1 (by have := HL.out; omega) HL.out.2)
      have HQ := Aside0.mk hq
      have HB := Aside0.mk hB
      have HNN : Aside0 (N ≤ 3000000) := ⟨by have := HL.out; omega⟩
      clear h1 hq hN hB hst HI hi hlt
      go_wp2_with (first | (go_at_call 26; (with_reducible refine (HPO.out).mono ?_); rintro e w2 hP; obtain ⟨rfl, hp2, hk2⟩ := hP; have H2 := Aside0.mk (And.intro hp2 hk2); clear hp2 hk2))
      have hst : OutI w xb Q [] l (.slice none 0 0) w2 := ⟨⟨_, H2.out.1, by have := HL.out; have := HNN.out; omega⟩, HQ.out, Kd.R_nil _ _ _ _ _, HB.out.trans (H2.out.2.below HB.out.size (fun j hj hn => by have := HQ.out j hn; omega))⟩
      go_loopw [6, 7, 8] (fun v6 v7 v8 wr => ∃ (p s : List Th) (A : Option Addr) (c : Nat), p ++ s = l ∧ v6 = .slice A p.length c ∧ v7 = .int .i64 (headI s) ∧ v8 = .bool (someB s) ∧ Aside0 (OutI w xb Q p s (.slice A p.length c) wr)) (fun v6 _ _ _ => l.length - lenV v6)
      case atStart => exact ⟨[], l, none, 0, rfl, rfl, rfl, rfl, ⟨hst⟩⟩
      case round =>
        obtain ⟨p, s, A6, c6, hps, rfl, rfl, rfl, HO⟩ := hrel
        cases s with
        | nil =>
          rw [List.append_nil] at hps
          subst hps
          have t0 : someB ([] : List Th) = false := rfl
          go_wp2
          go_ret
          exact ⟨_, rfl, Kd.R_mono HO.out.out (fun _ _ => trivial), HO.out.below⟩
        | cons x s =>
          obtain ⟨⟨N2, h1, hN2⟩, hq, hout, hB⟩ := HO.out
          have hll : p.length + (s.length + 1) = l.length := by rw [← hps]; simp
          have t0 : someB (x :: s) = true := rfl
          have HV := Aside0.mk hout
          have HBB := Aside0.mk hB
          have HH : Aside0 (Hpl wr xb Q N2 s) := ⟨h1⟩
          have HLL : Aside0 (((p.map S37.f0).length + 1) * 8 ≤ 140737488355328 ∧ s.length ≤ 1000 ∧ N2 + (s.length + 1) * 3000 ≤ 10000000) := ⟨by rw [List.length_map]; have := HL.out; rw [List.length_cons] at hN2; exact ⟨by omega, by omega, hN2⟩⟩
          have HX : Aside0 (headI (x :: s) = x.f0) := ⟨rfl⟩
          have HMP : Aside0 ((p ++ [x]).map S37.f0 = p.map S37.f0 ++ [x.f0]) := ⟨by simp⟩
          clear h1 hN2 hq hout hB
          go_wp2_with (first
            | (at_builtin; refine Kd.R_append (Kd.int .i64) (w0 := w) w.heap.size rfl (.tmp 41) (.tmp 43) 53 3 (.int .i64 0) 8 rfl Try.underlying53 info3 rfl (by decide) (by omega) (.slice A6 p.length c6) (p.map S37.f0) x.f0 [.int .i64 x.f0] (fun k => ¬ Q k) (fun _ => False) rfl rfl rfl (fun _ h => h.elim) (fun k hk hn => by have := HH.out.own k hn; omega) HV.out HBB.out HBB.out.size HLL.out.1 ?_; intro v2 w2 hR2 hB2 hg2 hat2; have H2 := Aside0.mk (out_hpl HH.out HV.out.1 hg2); rw [← HMP.out] at hR2; obtain ⟨A2, c2, he⟩ := slice_of hR2; subst he; have HR2 := Aside0.mk hR2; have HB2 := Aside0.mk hB2; clear hR2 hB2 hg2 hat2)
            | (go_at_call 26; (with_reducible refine (pop_calls xb _ Q N2 s H2.out (by have := HLL.out; omega) HLL.out.2.1).mono ?_); rintro e w3 hP; have hP3 := hP; obtain ⟨rfl, _⟩ := hP; have H3' := Aside0.mk (out_app HH.out HLL.out.2.2 HO.out.own HLL.out.2.1 HR2.out HB2.out hP3); clear hP3))
          go_roundw
          case rel => exact ⟨p ++ [x], s, A2, c2, by rw [List.append_assoc]; exact hps, by first | rfl | simp, rfl, rfl, H3'⟩
          case measure => simp [lenV]; omega
end Go.Proofs.Ytopblnecdabcgaa.P
end
section
-- printed by the session's own call of print.py. Not trusted: Lean checks it.
namespace Go.Proofs.Ytopblnecdabcgaa.P
open Go.RowKit Go.Proofs.YtopblnecdabcgaaW.PrintWords Go.Proofs.YtopblnecdabcgaaW.PrintLast Go.Proofs.YtopblnecdabcgaaW.PrintMore
attribute [local go_sem] max2_int min2_int max_two min_two max_three min_three max_four min_four
set_option linter.unusedVariables false
set_option linter.unusedSimpArgs false
/-! ### tallymanref13_Drop: function 25 -/
def tallymanref13_Drop.l0 : Nat → List (S37) → Int → List (S37) → Int → Option ((List (S37)) × Bool)
  | 0, _, _, _, _ => none
  | k + 1, x0, x1, x6, x7 => if x7 < (x0.length : Int) then (if 0 ≤ x7 then (if ((rd_T37 x0 x7).f0) = x1 then (tallymanref13_Drop.l0 k x0 x1 x6 (wrap64 (x7 + 1))) else (if x6.length < 5864062014805 then (tallymanref13_Drop.l0 k x0 x1 (x6 ++ [(⟨(rd_T37 x0 x7).f0, (rd_T37 x0 x7).f1, (rd_T37 x0 x7).f2⟩ : S37)]) (wrap64 (x7 + 1))) else (none))) else (none)) else (some (x6, decide ((x6.length : Int) < (x0.length : Int))))
def tallymanref13_Drop.f (k : Nat) (l0 : List (S37)) (a1 : Int) : Option ((List (S37)) × Bool) := tallymanref13_Drop.l0 k l0 a1 ([] : List (S37)) 0
theorem tallymanref13_Drop.mono_l : ∀ k, (∀ y0 y1 y2 y3, LeO (tallymanref13_Drop.l0 k y0 y1 y2 y3) (tallymanref13_Drop.l0 (k + 1) y0 y1 y2 y3))
  | 0 => fun _ _ _ _ r h => by simp [tallymanref13_Drop.l0] at h
  | k + 1 => by
    have ih0 := tallymanref13_Drop.mono_l k
    · intro y0 y1 y2 y3
      unfold tallymanref13_Drop.l0
      repeat' first
      | (with_reducible exact ih0 _ _ _ _)
      | (with_reducible exact LeO.refl _)
      | (with_reducible exact LeO.none _)
      | (with_reducible refine LeO.ite ?_ ?_)
      | (with_reducible refine LeO.bind ?_ (fun _ => ?_))
      | exact ih0 _ _ _ _
      | exact LeO.none _
      | refine LeO.ite ?_ ?_
      | refine LeO.bind ?_ (fun _ => ?_)
theorem tallymanref13_Drop.mono : ∀ a0 a1 k, LeO (tallymanref13_Drop.f k a0 a1) (tallymanref13_Drop.f (k + 1) a0 a1) := by
  intro a0 a1 k
  have ih0 := tallymanref13_Drop.mono_l k
  unfold tallymanref13_Drop.f
  repeat' first
      | (with_reducible exact ih0 _ _ _ _)
      | (with_reducible exact LeO.refl _)
      | (with_reducible exact LeO.none _)
      | (with_reducible refine LeO.ite ?_ ?_)
      | (with_reducible refine LeO.bind ?_ (fun _ => ?_))
      | exact ih0 _ _ _ _
      | exact LeO.none _
      | refine LeO.ite ?_ ?_
      | refine LeO.bind ?_ (fun _ => ?_)
set_option maxHeartbeats 8000000 in
set_option maxRecDepth 100000 in
theorem tallymanref13_Drop.calls (k : Nat) (A0 : Option Addr) (c0 : Nat) (l0 : List (S37)) (a1 : Int) (r1 : List (S37)) (r2 : Bool) (w : World) (hr0 : Kd.C k37 w A0 l0.length l0) (hc0 : l0.length ≤ c0) (h : tallymanref13_Drop.f k l0 a1 = some (r1, r2)) :
    Calls Try.prog 25 #[.slice A0 l0.length c0, .int .i64 a1] w fun e w' => ∃ v0_ : Value, e = .returned (.tuple #[v0_, .bool r2]) ∧ Kd.R k37 37 w' w.heap.size (fun _ => True) v0_ r1 ∧ Below w.heap.size w w' := by
  have hu37 := Try.underlying37
  have HR0 := Aside0.mk hr0
  have HC0 := Aside0.mk hc0
  clear hr0 hc0
  have HB := Aside0.mk (Below.refl w.heap.size w)
  have H : (tallymanref13_Drop.l0 k l0 a1 ([] : List (S37)) 0) = some (r1, r2) := h
  clear h
  have H' := Aside0.mk H
  clear H
  go_enter Try.func25, Try.ntmps25
  go_wp2
  go_loopg [6, 7] k (fun kq v6 v7 w' => ∃ (x6_1 : List (S37)) (x7_1 : Int), v7 = .int .i64 x7_1 ∧ Aside0 (tallymanref13_Drop.l0 kq l0 a1 x6_1 x7_1 = some (r1, r2)) ∧ Aside0 (kq ≤ k) ∧ Aside0 (Kd.R k37 37 w' w.heap.size (fun _ => True) v6 x6_1) ∧ Aside0 (Below w.heap.size w w'))
  case atStart => exact ⟨(([] : List (S37))), (0), (by first | rfl | (simp; done) | (simp [*]; done)), H', ⟨Nat.le_refl _⟩, ⟨by first | exact Kd.R_nil _ _ _ _ _ | exact Kd.N_nil _ _ _ _ _ | exact Kd.V_nil _ _ _ _ _ | exact Kd.Q_nil _ _ _ _ _ | exact Kd.S_nil _ _ _ _ _⟩, ⟨by repeat (first | (with_reducible first | exact HB.out | apply below_alloc | apply pw_below_drewN | apply below_drew1) | exact HB.out)⟩⟩
  case round =>
    clear H'
    try clear c2
    try clear p2
    obtain ⟨x6_1, x7_1, rfl, HA, HK1, HO_6, HB⟩ := hrel
    cases gk with
    | zero => exact absurd HA.out (by simp [tallymanref13_Drop.l0])
    | succ k1 =>
      have H := HA.out
      clear HA
      simp only [tallymanref13_Drop.l0] at H
      by_cases c3 : x7_1 < (l0.length : Int)
      · rw [if_pos c3] at H
        have c3b0 : decide (x7_1 < (l0.length : Int)) = true := decide_eq_true c3
        clear c3
        by_cases c4 : 0 ≤ x7_1
        · rw [if_pos c4] at H
          have c4b0 : decide (0 ≤ x7_1) = true := decide_eq_true c4
          clear c4
          by_cases c5 : ((rd_T37 l0 x7_1).f0) = a1
          · rw [if_pos c5] at H
            have c5b0 : (((rd_T37 l0 x7_1).f0) == a1) = true := beq_iff_eq.mpr c5
            have c5b1 : (((rd_T37 l0 x7_1).f0) != a1) = false := bne_eq_false_iff_eq.mpr c5
            clear c5
            have H' := Aside0.mk H
            clear H
            have p101 : 0 ≤ (x7_1 : Int) := of_decide_eq_true (by first | (with_reducible assumption) | assumption)
            have q101 : x7_1 < (l0.length : Int) := of_decide_eq_true (by first | (with_reducible assumption) | assumption)
            obtain ⟨ad101, e101, hx101_0, hx101_1, hx101_2⟩ := at_T37 HR0.out x7_1 p101 q101
            cases e101
            replace hx101_0 := (HB.out.cell (World.block_lt_of_cell? w _ hx101_0)).trans hx101_0
            replace hx101_1 := (HB.out.cell (World.block_lt_of_cell? w _ hx101_1)).trans hx101_1
            replace hx101_2 := (HB.out.cell (World.block_lt_of_cell? w _ hx101_2)).trans hx101_2
            replace p101 := eq_true p101
            replace q101 := eq_true q101
            go_wp2
            go_roundg k1
            case measure => have := HK1.out; omega
            case rel => exact ⟨(x6_1), (wrap64 (x7_1 + 1)), (by first | rfl | (simp; done) | (simp [*]; done)), H', ⟨by have := HK1.out; omega⟩, ⟨by (with_reducible repeat (first | apply Kd.R_alloc | apply Kd.R_drewN | apply Kd.R_drew)); exact HO_6.out⟩, ⟨by repeat (first | (with_reducible first | exact HB.out | apply below_alloc | apply pw_below_drewN | apply below_drew1) | exact HB.out)⟩⟩
          · rw [if_neg c5] at H
            have c5b0 : (((rd_T37 l0 x7_1).f0) == a1) = false := beq_eq_false_iff_ne.mpr c5
            have c5b1 : (((rd_T37 l0 x7_1).f0) != a1) = true := bne_iff_ne.mpr c5
            by_cases c6 : x6_1.length < 5864062014805
            · rw [if_pos c6] at H
              have LMc6 := Aside0.mk c6
              clear c6
              obtain ⟨y103, hy103⟩ : ∃ y_ : List (S37), y_ = (x6_1 ++ [(⟨(rd_T37 l0 x7_1).f0, (rd_T37 l0 x7_1).f1, (rd_T37 l0 x7_1).f2⟩ : S37)]) := ⟨_, rfl⟩
              replace H : (tallymanref13_Drop.l0 k1 l0 a1 y103 (wrap64 (x7_1 + 1))) = some (r1, r2) := by first | (rw [hy103]; with_reducible exact H) | (have H2_ := (Option.bind_some _ _).symm.trans H; rw [hy103]; with_reducible exact H2_) | (have H2_ := (Option.bind_some _ _).symm.trans H; with_reducible exact H2_) | with_reducible exact H | (rw [hy103]; exact H) | exact H
              have Ny103 := Aside0.mk hy103
              clear hy103
              have H' := Aside0.mk H
              clear H
              have p101 : 0 ≤ (x7_1 : Int) := of_decide_eq_true (by first | (with_reducible assumption) | assumption)
              have q101 : x7_1 < (l0.length : Int) := of_decide_eq_true (by first | (with_reducible assumption) | assumption)
              obtain ⟨ad101, e101, hx101_0, hx101_1, hx101_2⟩ := at_T37 HR0.out x7_1 p101 q101
              cases e101
              replace hx101_0 := (HB.out.cell (World.block_lt_of_cell? w _ hx101_0)).trans hx101_0
              replace hx101_1 := (HB.out.cell (World.block_lt_of_cell? w _ hx101_1)).trans hx101_1
              replace hx101_2 := (HB.out.cell (World.block_lt_of_cell? w _ hx101_2)).trans hx101_2
              replace p101 := eq_true p101
              replace q101 := eq_true q101
              have p102 : 0 ≤ (x7_1 : Int) := of_decide_eq_true (by first | (with_reducible assumption) | assumption)
              have q102 : x7_1 < (l0.length : Int) := of_decide_eq_true (by first | (with_reducible assumption) | assumption)
              obtain ⟨ad102, e102, hx102_0, hx102_1, hx102_2⟩ := at_T37 HR0.out x7_1 p102 q102
              obtain rfl : ad101 = ad102 := (by injection e102)
              replace hx102_0 := (HB.out.cell (World.block_lt_of_cell? w _ hx102_0)).trans hx102_0
              replace hx102_1 := (HB.out.cell (World.block_lt_of_cell? w _ hx102_1)).trans hx102_1
              replace hx102_2 := (HB.out.cell (World.block_lt_of_cell? w _ hx102_2)).trans hx102_2
              replace p102 := eq_true p102
              replace q102 := eq_true q102
              go_wp2_with (first | ((with_reducible refine gate_builtin (b := .append) (xs := #[.tmp 21, .tmp 26]) rfl ?_); at_builtin; refine Kd.R_append k37 (w0 := w) w.heap.size rfl (.tmp 21) (.tmp 26) 35 37 (.agg #[(.int .i64 0), (.int .i64 0), (.int .i64 0)]) 24 rfl Try.underlying35 info37 rfl (by decide) (by omega) u6 x6_1 (⟨(rd_T37 l0 x7_1).f0, (rd_T37 l0 x7_1).f1, (rd_T37 l0 x7_1).f2⟩ : S37) [.int .i64 ((rd_T37 l0 x7_1).f0), .int .i64 ((rd_T37 l0 x7_1).f1), .int .i64 ((rd_T37 l0 x7_1).f2)] (fun _ => True) (fun _ => False) rfl rfl ?aP (fun _ hk => hk.elim) ?aF ?aO ?aB ?aS ?aL ?_; (case aP => exact k37_mkM _ _ _ (⟨(rd_T37 l0 x7_1).f0, (rd_T37 l0 x7_1).f1, (rd_T37 l0 x7_1).f2⟩ : S37)); (case aB => exact (by repeat (first | (with_reducible first | exact HB.out | apply below_alloc | apply pw_below_drewN | apply below_drew1) | exact HB.out))); (case aF => exact (fun _ _ => trivial)); (case aO => exact (by (with_reducible repeat (first | apply Kd.R_alloc | apply Kd.R_drewN | apply Kd.R_drew)); exact HO_6.out)); (case aS => exact (below_size (by repeat (first | (with_reducible first | exact HB.out | apply below_alloc | apply pw_below_drewN | apply below_drew1) | exact HB.out)))); (case aL => have := LMc6.out; omega); intro v104 w7 ho hb hg hat; rw [← Ny103.out] at ho; have n0_ := Aside0.mk (hb); have n1_ := Aside0.mk (ho); clear HB; clear HO_6; have HB := n0_; have HO105 := n1_; clear n0_ n1_; clear ho hb hg hat))
              go_roundg k1
              case measure => have := HK1.out; omega
              case rel => exact ⟨(y103), (wrap64 (x7_1 + 1)), (by first | rfl | (simp; done) | (simp [*]; done)), H', ⟨by have := HK1.out; omega⟩, ⟨by (with_reducible repeat (first | apply Kd.R_alloc | apply Kd.R_drewN | apply Kd.R_drew)); exact HO105.out⟩, ⟨by repeat (first | (with_reducible first | exact HB.out | apply below_alloc | apply pw_below_drewN | apply below_drew1) | exact HB.out)⟩⟩
            · rw [if_neg c6] at H
              exact absurd H (by simp)
        · rw [if_neg c4] at H
          exact absurd H (by simp)
      · rw [if_neg c3] at H
        have c3b0 : decide (x7_1 < (l0.length : Int)) = false := decide_eq_false c3
        clear c3
        simp only [Option.some.injEq, Prod.mk.injEq] at H
        obtain ⟨rfl, rfl⟩ := H
        obtain ⟨Ao8, co8, eo8⟩ := Kd.R_slice HO_6.out
        subst eo8
        go_wp2
        go_ret2
        exact ⟨_, by first | rfl | (simp [errW_none, errW_some] <;> rfl) | (simp [*, errW_none, errW_some] <;> rfl), by (with_reducible repeat (first | apply Kd.R_alloc | apply Kd.R_drewN | apply Kd.R_drew)); exact HO_6.out, by repeat (first | (with_reducible first | exact HB.out | apply below_alloc | apply pw_below_drewN | apply below_drew1) | exact HB.out)⟩
end Go.Proofs.Ytopblnecdabcgaa.P
end
section
-- printed by the session's own call of print.py. Not trusted: Lean checks it.
namespace Go.Proofs.Ytopblnecdabcgaa.P
open Go.RowKit Go.Proofs.YtopblnecdabcgaaW.PrintWords Go.Proofs.YtopblnecdabcgaaW.PrintLast Go.Proofs.YtopblnecdabcgaaW.PrintMore
attribute [local go_sem] max2_int min2_int max_two min_two max_three min_three max_four min_four
set_option linter.unusedVariables false
set_option linter.unusedSimpArgs false
/-! ### tallymanref13_Ahead: function 34 -/
def tallymanref13_Ahead.f (a0_0 : Int) (a0_1 : Int) (a0_2 : Int) (a1_0 : Int) (a1_1 : Int) (a1_2 : Int) : Option (Bool) := if a0_1 = a1_1 then (if a0_2 = a1_2 then (some (decide (a0_0 < a1_0))) else (some (decide (a0_2 < a1_2)))) else (some (decide (a0_1 > a1_1)))
set_option maxHeartbeats 8000000 in
set_option maxRecDepth 100000 in
theorem tallymanref13_Ahead.calls (a0_0 : Int) (a0_1 : Int) (a0_2 : Int) (a1_0 : Int) (a1_1 : Int) (a1_2 : Int) (r : Bool) (w : World) (h : tallymanref13_Ahead.f a0_0 a0_1 a0_2 a1_0 a1_1 a1_2 = some r) :
    Calls Try.prog 34 #[.agg #[.int .i64 a0_0, .int .i64 a0_1, .int .i64 a0_2], .agg #[.int .i64 a1_0, .int .i64 a1_1, .int .i64 a1_2]] w fun e w' => e = .returned (.bool r) ∧ Below w.heap.size w w' := by
  have hu37 := Try.underlying37
  have HB := Aside0.mk (Below.refl w.heap.size w)
  have H : (if a0_1 = a1_1 then (if a0_2 = a1_2 then (some (decide (a0_0 < a1_0))) else (some (decide (a0_2 < a1_2)))) else (some (decide (a0_1 > a1_1)))) = some r := h
  clear h
  by_cases c3 : a0_1 = a1_1
  · rw [if_pos c3] at H
    have c3b0 : (a0_1 == a1_1) = true := beq_iff_eq.mpr c3
    have c3b1 : (a0_1 != a1_1) = false := bne_eq_false_iff_eq.mpr c3
    clear c3
    by_cases c4 : a0_2 = a1_2
    · rw [if_pos c4] at H
      have c4b0 : (a0_2 == a1_2) = true := beq_iff_eq.mpr c4
      have c4b1 : (a0_2 != a1_2) = false := bne_eq_false_iff_eq.mpr c4
      clear c4
      obtain rfl := Option.some.inj H
      go_enter Try.func34, Try.ntmps34
      go_wp2_with (first | ((with_reducible refine gate_dst (N := 2) rfl ?_); refine box_event ?hg (N := 2) ?hd (cs := #[.int .i64 a0_0, .int .i64 a0_1, .int .i64 a0_2]) (t := 37) ?hr ?_; (case hd => rfl); (case hg => rfl); (case hr => first | (go_simp; done) | (go_simp; rfl)); intro gb101 hg w5 hbox hb; have n0_ := Aside0.mk (below_step (by repeat (first | (with_reducible first | exact HB.out | apply below_alloc | apply pw_below_drewN | apply below_drew1) | exact HB.out)) hb); have n1_ := Aside0.mk (hbox); have n2_ := Aside0.mk ((by rw [hg]; exact (below_size (by repeat (first | (with_reducible first | exact HB.out | apply below_alloc | apply pw_below_drewN | apply below_drew1) | exact HB.out))) : w.heap.size ≤ gb101)); have n3_ := Aside0.mk ((by rw [hg]; exact (below_size (by repeat (first | (with_reducible first | exact HB.out | apply below_alloc | apply pw_below_drewN | apply below_drew1) | exact HB.out))) : w.heap.size ≤ gb101)); clear HB; have HB := n0_; have BK101 := n1_; have GW101 := n2_; have GE101 := n3_; clear n0_ n1_ n2_ n3_; clear hb hbox hg) | ((with_reducible refine gate_dst (N := 3) rfl ?_); refine box_event ?hg (N := 3) ?hd (cs := #[.int .i64 a1_0, .int .i64 a1_1, .int .i64 a1_2]) (t := 37) ?hr ?_; (case hd => rfl); (case hg => rfl); (case hr => first | (go_simp; done) | (go_simp; rfl)); intro gb102 hg w6 hbox hb; have n0_ := Aside0.mk (blk_below (g := gb101) (o := .cells #[.int .i64 a0_0, .int .i64 a0_1, .int .i64 a0_2] 37 (0, 0)) (by (with_reducible repeat (first | refine blk_drewN ?_ _ | refine blk_drew ?_ | refine blk_alloc ?_ _)); exact BK101.out) hb); have n1_ := Aside0.mk (below_step (by repeat (first | (with_reducible first | exact HB.out | apply below_alloc | apply pw_below_drewN | apply below_drew1 | refine below_set ?_ GE101.out) | exact HB.out)) hb); have n2_ := Aside0.mk (hbox); have n3_ := Aside0.mk ((by rw [hg]; exact (below_size (by repeat (first | (with_reducible first | exact HB.out | apply below_alloc | apply pw_below_drewN | apply below_drew1 | refine below_set ?_ GE101.out) | exact HB.out))) : w.heap.size ≤ gb102)); have n4_ := Aside0.mk ((by rw [hg]; exact (below_size (by repeat (first | (with_reducible first | exact HB.out | apply below_alloc | apply pw_below_drewN | apply below_drew1 | refine below_set ?_ GE101.out) | exact HB.out))) : w.heap.size ≤ gb102)); have n5_ := Aside0.mk ((by rw [hg]; exact Nat.ne_of_lt (blk_lt (g := gb101) (o := .cells #[.int .i64 a0_0, .int .i64 a0_1, .int .i64 a0_2] 37 (0, 0)) (by (with_reducible repeat (first | refine blk_drewN ?_ _ | refine blk_drew ?_ | refine blk_alloc ?_ _)); exact BK101.out)) : gb101 ≠ gb102)); have n6_ := Aside0.mk ((by rw [hg]; exact Nat.ne_of_gt (blk_lt (g := gb101) (o := .cells #[.int .i64 a0_0, .int .i64 a0_1, .int .i64 a0_2] 37 (0, 0)) (by (with_reducible repeat (first | refine blk_drewN ?_ _ | refine blk_drew ?_ | refine blk_alloc ?_ _)); exact BK101.out)) : gb102 ≠ gb101)); clear BK101; clear HB; have BK101 := n0_; have HB := n1_; have BK102 := n2_; have GW102 := n3_; have GE102 := n4_; have NB101_102 := n5_; have NB102_101 := n6_; clear n0_ n1_ n2_ n3_ n4_ n5_ n6_; clear hb hbox hg; have hnb7 := NB101_102.out; have hnc7 := NB102_101.out; have hcz8_0 : w6.cell? ⟨gb101, 0, none⟩ = some (.int .i64 a0_0) := (blk_cell BK101.out 0).trans rfl; have hcz8_1 : w6.cell? ⟨gb101, 1, none⟩ = some (.int .i64 a0_1) := (blk_cell BK101.out 1).trans rfl; have hcz8_2 : w6.cell? ⟨gb101, 2, none⟩ = some (.int .i64 a0_2) := (blk_cell BK101.out 2).trans rfl; have hfz8_0 := blk_frozen BK101.out 0; have hfz8_1 := blk_frozen BK101.out 1; have hfz8_2 := blk_frozen BK101.out 2; have hcz9_0 : w6.cell? ⟨gb102, 0, none⟩ = some (.int .i64 a1_0) := (blk_cell BK102.out 0).trans rfl; have hcz9_1 : w6.cell? ⟨gb102, 1, none⟩ = some (.int .i64 a1_1) := (blk_cell BK102.out 1).trans rfl; have hcz9_2 : w6.cell? ⟨gb102, 2, none⟩ = some (.int .i64 a1_2) := (blk_cell BK102.out 2).trans rfl; have hfz9_0 := blk_frozen BK102.out 0; have hfz9_1 := blk_frozen BK102.out 1; have hfz9_2 := blk_frozen BK102.out 2))
      go_ret
      exact ⟨by first | rfl | ((repeat first | rw [Int.tdiv_eq_ediv_of_nonneg (by omega)] | rw [Int.tmod_eq_emod_of_nonneg (by omega)]); rfl) | (simp [errW_none, errW_some] <;> rfl) | (simp [*, errW_none, errW_some] <;> rfl), by repeat (first | (with_reducible first | exact HB.out | apply below_alloc | apply pw_below_drewN | apply below_drew1 | refine below_set ?_ GE101.out | refine below_set ?_ GE102.out) | exact HB.out)⟩
    · rw [if_neg c4] at H
      have c4b0 : (a0_2 == a1_2) = false := beq_eq_false_iff_ne.mpr c4
      have c4b1 : (a0_2 != a1_2) = true := bne_iff_ne.mpr c4
      obtain rfl := Option.some.inj H
      go_enter Try.func34, Try.ntmps34
      go_wp2_with (first | ((with_reducible refine gate_dst (N := 2) rfl ?_); refine box_event ?hg (N := 2) ?hd (cs := #[.int .i64 a0_0, .int .i64 a0_1, .int .i64 a0_2]) (t := 37) ?hr ?_; (case hd => rfl); (case hg => rfl); (case hr => first | (go_simp; done) | (go_simp; rfl)); intro gb101 hg w10 hbox hb; have n0_ := Aside0.mk (below_step (by repeat (first | (with_reducible first | exact HB.out | apply below_alloc | apply pw_below_drewN | apply below_drew1) | exact HB.out)) hb); have n1_ := Aside0.mk (hbox); have n2_ := Aside0.mk ((by rw [hg]; exact (below_size (by repeat (first | (with_reducible first | exact HB.out | apply below_alloc | apply pw_below_drewN | apply below_drew1) | exact HB.out))) : w.heap.size ≤ gb101)); have n3_ := Aside0.mk ((by rw [hg]; exact (below_size (by repeat (first | (with_reducible first | exact HB.out | apply below_alloc | apply pw_below_drewN | apply below_drew1) | exact HB.out))) : w.heap.size ≤ gb101)); clear HB; have HB := n0_; have BK101 := n1_; have GW101 := n2_; have GE101 := n3_; clear n0_ n1_ n2_ n3_; clear hb hbox hg) | ((with_reducible refine gate_dst (N := 3) rfl ?_); refine box_event ?hg (N := 3) ?hd (cs := #[.int .i64 a1_0, .int .i64 a1_1, .int .i64 a1_2]) (t := 37) ?hr ?_; (case hd => rfl); (case hg => rfl); (case hr => first | (go_simp; done) | (go_simp; rfl)); intro gb102 hg w11 hbox hb; have n0_ := Aside0.mk (blk_below (g := gb101) (o := .cells #[.int .i64 a0_0, .int .i64 a0_1, .int .i64 a0_2] 37 (0, 0)) (by (with_reducible repeat (first | refine blk_drewN ?_ _ | refine blk_drew ?_ | refine blk_alloc ?_ _)); exact BK101.out) hb); have n1_ := Aside0.mk (below_step (by repeat (first | (with_reducible first | exact HB.out | apply below_alloc | apply pw_below_drewN | apply below_drew1 | refine below_set ?_ GE101.out) | exact HB.out)) hb); have n2_ := Aside0.mk (hbox); have n3_ := Aside0.mk ((by rw [hg]; exact (below_size (by repeat (first | (with_reducible first | exact HB.out | apply below_alloc | apply pw_below_drewN | apply below_drew1 | refine below_set ?_ GE101.out) | exact HB.out))) : w.heap.size ≤ gb102)); have n4_ := Aside0.mk ((by rw [hg]; exact (below_size (by repeat (first | (with_reducible first | exact HB.out | apply below_alloc | apply pw_below_drewN | apply below_drew1 | refine below_set ?_ GE101.out) | exact HB.out))) : w.heap.size ≤ gb102)); have n5_ := Aside0.mk ((by rw [hg]; exact Nat.ne_of_lt (blk_lt (g := gb101) (o := .cells #[.int .i64 a0_0, .int .i64 a0_1, .int .i64 a0_2] 37 (0, 0)) (by (with_reducible repeat (first | refine blk_drewN ?_ _ | refine blk_drew ?_ | refine blk_alloc ?_ _)); exact BK101.out)) : gb101 ≠ gb102)); have n6_ := Aside0.mk ((by rw [hg]; exact Nat.ne_of_gt (blk_lt (g := gb101) (o := .cells #[.int .i64 a0_0, .int .i64 a0_1, .int .i64 a0_2] 37 (0, 0)) (by (with_reducible repeat (first | refine blk_drewN ?_ _ | refine blk_drew ?_ | refine blk_alloc ?_ _)); exact BK101.out)) : gb102 ≠ gb101)); clear BK101; clear HB; have BK101 := n0_; have HB := n1_; have BK102 := n2_; have GW102 := n3_; have GE102 := n4_; have NB101_102 := n5_; have NB102_101 := n6_; clear n0_ n1_ n2_ n3_ n4_ n5_ n6_; clear hb hbox hg; have hnb12 := NB101_102.out; have hnc12 := NB102_101.out; have hcz13_0 : w11.cell? ⟨gb101, 0, none⟩ = some (.int .i64 a0_0) := (blk_cell BK101.out 0).trans rfl; have hcz13_1 : w11.cell? ⟨gb101, 1, none⟩ = some (.int .i64 a0_1) := (blk_cell BK101.out 1).trans rfl; have hcz13_2 : w11.cell? ⟨gb101, 2, none⟩ = some (.int .i64 a0_2) := (blk_cell BK101.out 2).trans rfl; have hfz13_0 := blk_frozen BK101.out 0; have hfz13_1 := blk_frozen BK101.out 1; have hfz13_2 := blk_frozen BK101.out 2; have hcz14_0 : w11.cell? ⟨gb102, 0, none⟩ = some (.int .i64 a1_0) := (blk_cell BK102.out 0).trans rfl; have hcz14_1 : w11.cell? ⟨gb102, 1, none⟩ = some (.int .i64 a1_1) := (blk_cell BK102.out 1).trans rfl; have hcz14_2 : w11.cell? ⟨gb102, 2, none⟩ = some (.int .i64 a1_2) := (blk_cell BK102.out 2).trans rfl; have hfz14_0 := blk_frozen BK102.out 0; have hfz14_1 := blk_frozen BK102.out 1; have hfz14_2 := blk_frozen BK102.out 2))
      go_ret
      exact ⟨by first | rfl | ((repeat first | rw [Int.tdiv_eq_ediv_of_nonneg (by omega)] | rw [Int.tmod_eq_emod_of_nonneg (by omega)]); rfl) | (simp [errW_none, errW_some] <;> rfl) | (simp [*, errW_none, errW_some] <;> rfl), by repeat (first | (with_reducible first | exact HB.out | apply below_alloc | apply pw_below_drewN | apply below_drew1 | refine below_set ?_ GE101.out | refine below_set ?_ GE102.out) | exact HB.out)⟩
  · rw [if_neg c3] at H
    have c3b0 : (a0_1 == a1_1) = false := beq_eq_false_iff_ne.mpr c3
    have c3b1 : (a0_1 != a1_1) = true := bne_iff_ne.mpr c3
    obtain rfl := Option.some.inj H
    go_enter Try.func34, Try.ntmps34
    go_wp2_with (first | ((with_reducible refine gate_dst (N := 2) rfl ?_); refine box_event ?hg (N := 2) ?hd (cs := #[.int .i64 a0_0, .int .i64 a0_1, .int .i64 a0_2]) (t := 37) ?hr ?_; (case hd => rfl); (case hg => rfl); (case hr => first | (go_simp; done) | (go_simp; rfl)); intro gb101 hg w15 hbox hb; have n0_ := Aside0.mk (below_step (by repeat (first | (with_reducible first | exact HB.out | apply below_alloc | apply pw_below_drewN | apply below_drew1) | exact HB.out)) hb); have n1_ := Aside0.mk (hbox); have n2_ := Aside0.mk ((by rw [hg]; exact (below_size (by repeat (first | (with_reducible first | exact HB.out | apply below_alloc | apply pw_below_drewN | apply below_drew1) | exact HB.out))) : w.heap.size ≤ gb101)); have n3_ := Aside0.mk ((by rw [hg]; exact (below_size (by repeat (first | (with_reducible first | exact HB.out | apply below_alloc | apply pw_below_drewN | apply below_drew1) | exact HB.out))) : w.heap.size ≤ gb101)); clear HB; have HB := n0_; have BK101 := n1_; have GW101 := n2_; have GE101 := n3_; clear n0_ n1_ n2_ n3_; clear hb hbox hg) | ((with_reducible refine gate_dst (N := 3) rfl ?_); refine box_event ?hg (N := 3) ?hd (cs := #[.int .i64 a1_0, .int .i64 a1_1, .int .i64 a1_2]) (t := 37) ?hr ?_; (case hd => rfl); (case hg => rfl); (case hr => first | (go_simp; done) | (go_simp; rfl)); intro gb102 hg w16 hbox hb; have n0_ := Aside0.mk (blk_below (g := gb101) (o := .cells #[.int .i64 a0_0, .int .i64 a0_1, .int .i64 a0_2] 37 (0, 0)) (by (with_reducible repeat (first | refine blk_drewN ?_ _ | refine blk_drew ?_ | refine blk_alloc ?_ _)); exact BK101.out) hb); have n1_ := Aside0.mk (below_step (by repeat (first | (with_reducible first | exact HB.out | apply below_alloc | apply pw_below_drewN | apply below_drew1 | refine below_set ?_ GE101.out) | exact HB.out)) hb); have n2_ := Aside0.mk (hbox); have n3_ := Aside0.mk ((by rw [hg]; exact (below_size (by repeat (first | (with_reducible first | exact HB.out | apply below_alloc | apply pw_below_drewN | apply below_drew1 | refine below_set ?_ GE101.out) | exact HB.out))) : w.heap.size ≤ gb102)); have n4_ := Aside0.mk ((by rw [hg]; exact (below_size (by repeat (first | (with_reducible first | exact HB.out | apply below_alloc | apply pw_below_drewN | apply below_drew1 | refine below_set ?_ GE101.out) | exact HB.out))) : w.heap.size ≤ gb102)); have n5_ := Aside0.mk ((by rw [hg]; exact Nat.ne_of_lt (blk_lt (g := gb101) (o := .cells #[.int .i64 a0_0, .int .i64 a0_1, .int .i64 a0_2] 37 (0, 0)) (by (with_reducible repeat (first | refine blk_drewN ?_ _ | refine blk_drew ?_ | refine blk_alloc ?_ _)); exact BK101.out)) : gb101 ≠ gb102)); have n6_ := Aside0.mk ((by rw [hg]; exact Nat.ne_of_gt (blk_lt (g := gb101) (o := .cells #[.int .i64 a0_0, .int .i64 a0_1, .int .i64 a0_2] 37 (0, 0)) (by (with_reducible repeat (first | refine blk_drewN ?_ _ | refine blk_drew ?_ | refine blk_alloc ?_ _)); exact BK101.out)) : gb102 ≠ gb101)); clear BK101; clear HB; have BK101 := n0_; have HB := n1_; have BK102 := n2_; have GW102 := n3_; have GE102 := n4_; have NB101_102 := n5_; have NB102_101 := n6_; clear n0_ n1_ n2_ n3_ n4_ n5_ n6_; clear hb hbox hg; have hnb17 := NB101_102.out; have hnc17 := NB102_101.out; have hcz18_0 : w16.cell? ⟨gb101, 0, none⟩ = some (.int .i64 a0_0) := (blk_cell BK101.out 0).trans rfl; have hcz18_1 : w16.cell? ⟨gb101, 1, none⟩ = some (.int .i64 a0_1) := (blk_cell BK101.out 1).trans rfl; have hcz18_2 : w16.cell? ⟨gb101, 2, none⟩ = some (.int .i64 a0_2) := (blk_cell BK101.out 2).trans rfl; have hfz18_0 := blk_frozen BK101.out 0; have hfz18_1 := blk_frozen BK101.out 1; have hfz18_2 := blk_frozen BK101.out 2; have hcz19_0 : w16.cell? ⟨gb102, 0, none⟩ = some (.int .i64 a1_0) := (blk_cell BK102.out 0).trans rfl; have hcz19_1 : w16.cell? ⟨gb102, 1, none⟩ = some (.int .i64 a1_1) := (blk_cell BK102.out 1).trans rfl; have hcz19_2 : w16.cell? ⟨gb102, 2, none⟩ = some (.int .i64 a1_2) := (blk_cell BK102.out 2).trans rfl; have hfz19_0 := blk_frozen BK102.out 0; have hfz19_1 := blk_frozen BK102.out 1; have hfz19_2 := blk_frozen BK102.out 2))
    go_ret
    exact ⟨by first | rfl | ((repeat first | rw [Int.tdiv_eq_ediv_of_nonneg (by omega)] | rw [Int.tmod_eq_emod_of_nonneg (by omega)]); rfl) | (simp [errW_none, errW_some] <;> rfl) | (simp [*, errW_none, errW_some] <;> rfl), by repeat (first | (with_reducible first | exact HB.out | apply below_alloc | apply pw_below_drewN | apply below_drew1 | refine below_set ?_ GE101.out | refine below_set ?_ GE102.out) | exact HB.out)⟩
end Go.Proofs.Ytopblnecdabcgaa.P
end
