/- Several texts of this proof in one: what the law's functions come to, and the lemmas (some as the kit's print.sh printed them, what is not used struck). -/
import Derived.Test.YtajgillnkkkgjaaM2
import Derived.Lib.SlBytesConst
import Derived.Deep.Slices
import Derived.ChangeArms
section
/- What was written is read; 'alive' of chapter 10. -/
namespace Go.Proofs.Ytajgillnkkkgjaa.P
open Go.RowKit Go.Proofs.YtajgillnkkkgjaaW.PrintWords Go.Proofs.YtajgillnkkkgjaaW.PrintLast Go.Proofs.YtajgillnkkkgjaaW.PrintMore Go.Proofs.Ytajgillnkkkgjaa.H Go.Proofs.Ytajgillnkkkgjaa.Pure
set_option linter.unusedVariables false
set_option linter.unusedSimpArgs false
def recP (p : List Int) : List Int := headP p ++ p
theorem headP_len (p : List Int) : (headP p).length = 8 := by simp [headP, putList_len]
theorem recP_len (p : List Int) : (recP p).length = 8 + p.length := by rw [recP, List.length_append, headP_len]
theorem isB_put (x : Int) (k : Nat) : isB (putList x k) := by
  intro y hy
  obtain ⟨i, _, rfl⟩ := List.mem_map.1 hy
  unfold byteAt
  omega
theorem isB_rec {p : List Int} (h : isB p) : isB (recP p) := isB_app (isB_app (isB_put _ _) (isB_put _ _)) h
theorem be4_put (n : Int) (t : List Int) (h0 : 0 ≤ n) (h1 : n < 4294967296) : be4 (putList n 4 ++ t) = n := by
  have e : putList n 4 = [n / 16777216 % 256, n / 65536 % 256, n / 256 % 256, n % 256] := by
    simp [putList, List.range, List.range.loop, byteAt]
  rw [e]
  simp only [be4, List.cons_append, List.nil_append, List.take_succ_cons, List.take_zero, val, List.foldl_cons, List.foldl_nil]
  omega
theorem readP_rec (p t : List Int) (hl : p.length ≤ 65536) : readP (recP p ++ t) = (p, t, 0) := by
  have hs := crcM_range (crcM 0 (putList p.length 4)) p
  have e0 : recP p ++ t = putList p.length 4 ++ (putList (crcM (crcM 0 (putList p.length 4)) p) 4 ++ (p ++ t)) := by simp [recP, headP]
  have l4 : ∀ x, (putList x 4).length = 4 := fun x => putList_len x 4
  have e1 : be4 (recP p ++ t) = p.length := by rw [e0]; exact be4_put _ _ (by omega) (by omega)
  have e2 : (recP p ++ t).drop 4 = putList (crcM (crcM 0 (putList p.length 4)) p) 4 ++ (p ++ t) := by
    rw [e0]; exact List.drop_left' (l4 _)
  have e3 : (recP p ++ t).take 4 = putList p.length 4 := by rw [e0]; exact List.take_left' (l4 _)
  have e4 : (recP p ++ t).drop 8 = p ++ t := by
    rw [show 8 = 4 + 4 from rfl, ← List.drop_drop, e2]; exact List.drop_left' (l4 _)
  have e5 : (recP p ++ t).length = 8 + p.length + t.length := by rw [List.length_append, recP_len]
  unfold readP
  rw [if_neg (by omega), e1, if_neg (by omega), if_neg (by omega), e2, be4_put _ _ hs.1 (by omega), e3, e4, Int.toNat_natCast, List.take_left, List.drop_left, if_neg (by simp)]
theorem wr_flat (b p : List Int) : [b, headP p, p].flatten = b ++ recP p := by simp [recP]
theorem allP_rec (p t : List Int) (k : Nat) (hl : p.length ≤ 65536) : allP (k + 1) (recP p ++ t) = (p :: (allP k t).1, 8 + p.length + (allP k t).2) := by
  rw [allP, readP_rec p t hl]
  simp
theorem allP_nil (k : Nat) : allP k [] = ([], 0) := by
  cases k with
  | zero => rfl
  | succ k =>
    rw [allP]
    rw [if_neg (by unfold readP; rw [if_pos (by decide)]; decide)]
def RdTwoC (x : List Int × List Int × Int) (w : World) (e : Ending) (w' : World) : Prop := ∃ A c B d, e = .returned (.tuple #[.slice A x.1.length c, .slice B x.2.1.length d, .int .i64 x.2.2]) ∧ x.1.length ≤ c ∧ Kd.C (Kd.int .u8) w' A x.1.length x.1 ∧ x.2.1.length ≤ d ∧ Kd.C (Kd.int .u8) w' B x.2.1.length x.2.1 ∧ Below w.heap.size w w'
theorem RdTwo.C {P : Nat → Prop} {x : List Int × List Int × Int} {w w' : World} {e : Ending} (h : RdTwo P x w e w') : RdTwoC x w e w' := by
  obtain ⟨A, c, B, d, h1, h2, h3, h4, h5, h6⟩ := h
  exact ⟨A, c, B, d, h1, h2, Kd.F_now h3, h4, Kd.F_now h5, h6⟩
theorem read_C {l x r : List Int} {y : Int} (hx : readP l = (x, r, y)) {A0 : Option Addr} {c0 : Nat} {w : World} (h0 : Kd.C (Kd.int .u8) w A0 l.length l) (hc0 : l.length ≤ c0) (hb : isB l) :
    Calls Try.prog 40 #[.slice A0 l.length c0] w (RdTwoC (x, r, y) w) := (read_rd A0 c0 l w h0 hc0 hb).mono (fun _ _ h => hx ▸ h.C)
theorem all_C {l : List Int} {ls : List (List Int)} {n : Nat} (hx : allP l.length l = (ls, n)) {A0 : Option Addr} {c0 : Nat} {w : World} (h0 : Kd.C (Kd.int .u8) w A0 l.length l) (hc0 : l.length ≤ c0) (hb : isB l) (hl : l.length ≤ 1000000) :
    Calls Try.prog 42 #[.slice A0 l.length c0] w (RowsPost ls n w) := (all_rd A0 c0 l w h0 hc0 hb hl).mono (fun _ _ h => by rw [hx] at h; exact h)
theorem rows_rd {l : List (List Int)} {A0 A1 : Option Addr} {c0 c1 : Nat} {w : World} (h0 : (Kd.slice 5 (Kd.int .u8)).C w A0 l.length l) (hc0 : l.length ≤ c0) (h1 : (Kd.slice 5 (Kd.int .u8)).C w A1 l.length l) (hc1 : l.length ≤ c1) :
    Calls Try.prog 44 #[.slice A0 l.length c0, .slice A1 l.length c1] w fun e w' => e = .returned (.bool true) ∧ Below w.heap.size w w' := by
  refine (tallymanref10_Rows.calls A0 c0 l A1 c1 l true w h0 hc0 h1 hc1 (by unfold tallymanref10_Rows.f; simp)).mono ?_
  rintro e w' ⟨rfl, hb⟩
  exact ⟨rfl, hb.below⟩
theorem C_const (w : World) (l : List Int) (hl : l.length ≤ 9223372036854775807) (cs : Array Value) (hcs : cs = (l.map (Value.int .u8)).toArray) (fr : Nat × Nat) : Kd.C (Kd.int .u8) (w.alloc (.cells cs 5 fr)) (some ⟨w.heap.size, 0, none⟩) l.length l := by
  subst hcs
  refine C_of_cells hl ?_
  intro j u hj
  rw [add_plain', cell_of_row _ _ _ _ _ _ (heap_alloc_new w _)]
  simpa using hj
theorem str_eq {xs : List Int} {s : ByteArray} (h : strOfNums xs = s) {P : Program} {w : World} {t A n c} (hc : (convert t 9 (.slice A n c)).run P w = .ok (.string (strOfNums xs)) w) : (convert t 9 (.slice A n c)).run P w = .ok (.string s) w := h ▸ hc
theorem write_nil (A1 : Option Addr) (c1 : Nat) (p : List Int) (w : World) (h1 : Kd.C (Kd.int .u8) w A1 p.length p) (hc1 : p.length ≤ c1) (hp : p.length ≤ 65536) : Calls Try.prog 35 #[.slice none 0 0, .slice A1 p.length c1] w (RdPost2 (recP p) w) :=
  write_rd none 0 [] A1 c1 p (recP p) w (by simp [recP]) (nilC w) (Nat.le_refl _) h1 hc1 hp (by simp)
theorem size38 {n : Nat} (h : n ≤ 65536) (w : World) : Calls Try.prog 38 #[.int .i64 n] w fun e w' => e = .returned (.int .i64 (8 + n)) ∧ Drawn0 w w' := by
  refine frame_Size.calls n (8 + n) w ?_
  unfold frame_Size.f
  rw [if_neg (by omega), if_neg (by omega)]
  congr 1
  unfold wrap64
  omega
def tallymanlaw10_alive.f : Option Bool := some true
set_option maxHeartbeats 1000000 in
set_option maxRecDepth 100000 in
theorem tallymanlaw10_alive.calls (r : Bool) (w : World) (h : tallymanlaw10_alive.f = some r) :
    Calls Try.prog 34 #[] w fun e w' => e = .returned (.bool r) ∧ Below w.heap.size w w' := by
  obtain rfl : true = r := Option.some.inj h
  clear h
  have hc1 : ∀ (W : World) (n c : Nat), (convert 51 51 (.slice (some ⟨W.heap.size, 0, none⟩) n c)).run Try.prog (W.alloc (.cells #[.int .u8 103, .int .u8 111] 5)) = .ok (.slice (some ⟨W.heap.size, 0, none⟩) n c) (W.alloc (.cells #[.int .u8 103, .int .u8 111] 5 (2, 3))) :=
    fun W n c => Go.Lib.run_convert_bytes_const (P := Try.prog) W 51 5 _ n c Try.underlying51 Try.underlying5
  have ip : isB [103, 111] := by intro x hx; simp at hx; omega
  obtain ⟨l, hl⟩ : ∃ l, recP [103, 111] = l := ⟨_, rfl⟩
  have l10 : l.length = 10 := by rw [← hl, recP_len]; rfl
  have il := isB_rec ip
  have hr := readP_rec [103, 111] [] (by decide)
  have ha := allP_rec [103, 111] [] 9 (by decide)
  rw [List.append_nil, hl] at hr ha
  rw [allP_nil, show 9 + 1 = l.length from l10.symm] at ha
  rw [hl] at il
  have k1 : ∀ W : World, Calls Try.prog 35 #[.slice none 0 0, .slice (some ⟨W.heap.size, 0, none⟩) 2 2] (W.alloc (.cells #[.int .u8 103, .int .u8 111] 5 (2, 3))) (RdPost2 l (W.alloc (.cells #[.int .u8 103, .int .u8 111] 5 (2, 3)))) :=
    fun W => hl ▸ write_nil _ 2 [103, 111] _ (C_const W [103, 111] (by decide) _ rfl _) (by decide) (by decide)
  have K1 := Aside0.mk k1; clear k1
  have HR := Aside0.mk hr; have HA := Aside0.mk ha; have HI := Aside0.mk il; have HL := Aside0.mk l10
  have t1 : ((l.length : Int) == 10) = true := by rw [l10]; rfl
  clear hr ha il l10 hl ip
  go_enter Try.func34, Try.ntmps34
  go_wp2_with (first
    | (go_at_call 35; (with_reducible refine (K1.out _).mono ?_); rintro e w1 ⟨A, c, rfl, hcA, hC, hB⟩; have HC := Aside0.mk hC; have HcA := Aside0.mk hcA; have HB1 := Aside0.mk (below_step (below_alloc (Below.refl w.heap.size w) _) hB); clear hC hcA hB)
    | (go_at_call 40; (with_reducible refine (read_C HR.out HC.out HcA.out HI.out).mono ?_); rintro e w2 ⟨B, d, D, f, rfl, hcB, hCB, hcD, hCD, hB⟩; have HCB := Aside0.mk hCB; have HC2 := Aside0.mk (Kd.C_below HC.out hB); have HB2 := Aside0.mk (below_step HB1.out hB); clear hcB hCB hcD hCD hB)
    | (go_at_call 42; (with_reducible refine (all_C HA.out HC2.out HcA.out HI.out (by have := HL.out; omega)).mono ?_); rintro e w3 ⟨E, g, rfl, hcE, hCE, hB⟩; have hcv := str_eq (s := ⟨#[103, 111]⟩) (by rfl) (Kd.C_string (P := Try.prog) (n := 2) (c := d) Try.underlying51 Try.underlying5 Try.underlying9 (Kd.C_below HCB.out hB)); have HB3 := Aside0.mk (below_step HB2.out hB); clear hcE hCE hB)
    | (go_at_call 38; refine (size38 (n := 2) (by decide) _).mono ?_; rintro e w4 ⟨rfl, hd⟩; have HB4 := Aside0.mk (below_step HB3.out hd.below); clear hd))
  go_ret
  exact ⟨rfl, HB4.out⟩
end Go.Proofs.Ytajgillnkkkgjaa.P
end
section
/- Records that are cut off anywhere. -/
namespace Go.Proofs.Ytajgillnkkkgjaa.P
open Go.RowKit Go.Proofs.YtajgillnkkkgjaaW.PrintWords Go.Proofs.YtajgillnkkkgjaaW.PrintLast Go.Proofs.YtajgillnkkkgjaaW.PrintMore Go.Proofs.Ytajgillnkkkgjaa.H Go.Proofs.Ytajgillnkkkgjaa.Pure
set_option linter.unusedVariables false
set_option linter.unusedSimpArgs false
def cat (l : List (List Int)) : List Int := (l.map recP).flatten
theorem cat_cons (x : List Int) (l : List (List Int)) : cat (x :: l) = recP x ++ cat l := by simp [cat]
theorem cat_app (a b : List (List Int)) : cat (a ++ b) = cat a ++ cat b := by unfold cat; rw [List.map_append, List.flatten_append]
theorem cat_snoc (l : List (List Int)) (i : Nat) (h : i < l.length) : cat (l.take (i + 1)) = cat (l.take i) ++ recP l[i] := by
  rw [List.take_succ_eq_append_getElem h, cat_app, cat_cons]; simp [cat]
theorem isB_cat {l : List (List Int)} (h : ∀ x ∈ l, isB x) : isB (cat l) := by
  intro y hy
  obtain ⟨m, hm, hy⟩ := List.mem_flatten.1 hy
  obtain ⟨x, hx, rfl⟩ := List.mem_map.1 hm
  exact isB_rec (h x hx) y hy
/-- How many records lie whole within the first at bytes. -/
def cnt : Nat → List (List Int) → Nat
  | _, [] => 0
  | at_, x :: l => if 8 + x.length ≤ at_ then 1 + cnt (at_ - (8 + x.length)) l else 0
theorem cnt_le : ∀ (l : List (List Int)) (k : Nat), cnt k l ≤ l.length := by
  intro l
  induction l with
  | nil => intro k; simp [cnt]
  | cons x l ih =>
    intro k
    rw [cnt]
    have := ih (k - (8 + x.length))
    split <;> simp <;> omega
theorem cnt_iff : ∀ (l : List (List Int)) (k j : Nat), j < l.length → ((cat (l.take (j + 1))).length ≤ k ↔ j < cnt k l) := by
  intro l
  induction l with
  | nil => intro k j h; simp at h
  | cons x l ih =>
    intro k j h
    rw [List.take_succ_cons, cat_cons, List.length_append, recP_len, cnt]
    cases j with
    | zero =>
      rw [List.take_zero]
      have : (cat []).length = 0 := rfl
      rw [this]
      split <;> omega
    | succ j =>
      have := ih (k - (8 + x.length)) j (by simpa using h)
      split <;> omega
theorem readP_short (p : List Int) (k : Nat) (hl : p.length ≤ 65536) (hk : k < 8 + p.length) : (readP ((recP p).take k)).2.2 ≠ 0 := by
  have hlen : ((recP p).take k).length = k := by rw [List.length_take, recP_len]; omega
  unfold readP
  by_cases h8 : k < 8
  · rw [if_pos (by omega)]; decide
  rw [if_neg (by omega)]
  have e1 : be4 ((recP p).take k) = p.length := by
    unfold be4
    rw [List.take_take, show min 4 k = 4 by omega]
    have := be4_put p.length (putList (crcM (crcM 0 (putList p.length 4)) p) 4 ++ p) (by omega) (by omega)
    rw [← this]
    unfold be4 recP headP
    simp
  rw [e1, if_neg (by omega), if_pos (by omega)]
  decide
theorem torn : ∀ (l : List (List Int)) (k f : Nat), (∀ x ∈ l, x.length ≤ 65536) → k ≤ f → allP f ((cat l).take k) = (l.take (cnt k l), (cat (l.take (cnt k l))).length) := by
  intro l
  induction l with
  | nil => intro k f _ _; simp [cat, allP_nil, cnt]
  | cons x l ih =>
    intro k f h hf
    have hx := h x (by simp)
    rw [cat_cons, cnt]
    by_cases hk : 8 + x.length ≤ k
    · rw [if_pos hk]
      obtain ⟨g, rfl⟩ : ∃ g, f = g + 1 := ⟨f - 1, by omega⟩
      have e : (recP x ++ cat l).take k = recP x ++ (cat l).take (k - (8 + x.length)) := by
        rw [List.take_append, recP_len, List.take_of_length_le (by rw [recP_len]; exact hk)]
      rw [e, allP_rec x _ g hx, ih _ g (fun y hy => h y (by simp [hy])) (by omega), Nat.add_comm 1, List.take_succ_cons, cat_cons, List.length_append, recP_len]
    · rw [if_neg hk]
      have e : (recP x ++ cat l).take k = (recP x).take k := by rw [List.take_append_of_le_length (by rw [recP_len]; omega)]
      rw [e]
      cases f with
      | zero => rfl
      | succ g => rw [allP, if_neg (readP_short x k hx (by omega))]; rfl
theorem cat_take (l : List (List Int)) (j : Nat) : (cat l).take (cat (l.take j)).length = cat (l.take j) := by
  have : cat l = cat (l.take j) ++ cat (l.drop j) := by
    rw [← cat_app, List.take_append_drop]
  rw [this, List.take_left]
theorem cat_le (l : List (List Int)) (j : Nat) : (cat (l.take j)).length ≤ (cat l).length := by
  rw [← cat_take l j, List.length_take]; omega
theorem cat_small {l : List (List Int)} (h8 : l.length ≤ 8) (h : ∀ x ∈ l, x.length ≤ 60) : (cat l).length ≤ 544 := by
  have : ∀ (m : List (List Int)), (∀ x ∈ m, x.length ≤ 60) → (cat m).length ≤ 68 * m.length := by
    intro m
    induction m with
    | nil => intro _; simp [cat]
    | cons x m ih =>
      intro hm
      have h1 := hm x (by simp)
      have h2 := ih (fun y hy => hm y (by simp [hy]))
      rw [cat_cons, List.length_append, recP_len, List.length_cons]
      omega
  have := this l h
  omega
end Go.Proofs.Ytajgillnkkkgjaa.P
end
section
-- printed by the session's own call of print.py. Not trusted: Lean checks it.
namespace Go.Proofs.Ytajgillnkkkgjaa.P
open Go.RowKit Go.Proofs.YtajgillnkkkgjaaW.PrintWords Go.Proofs.YtajgillnkkkgjaaW.PrintLast Go.Proofs.YtajgillnkkkgjaaW.PrintMore
attribute [local go_sem] max2_int min2_int max_two min_two max_three min_three max_four min_four
set_option linter.unusedVariables false
set_option linter.unusedSimpArgs false
/-! ### tallymanref10_Write: function 36 -/
def tallymanref10_Write.f (k : Nat) (l0 : List Int) (l1 : List Int) : Option (List Int × Int) := if (l1.length : Int) > 65536 then (some (([] : List Int), 15)) else ((tallymanref08_Put.f k ([] : List Int) (IntKind.u64.wrap ((l1.length : Int))) 4).bind fun t101 => ((some (([] : List Int) : List Int)).bind fun y104 => (if y104.length + t101.length < 140737488355328 then ((some (y104 ++ t101 : List Int)).bind fun y107 => (if y107.length + l1.length < 140737488355328 then ((tallymanref09_Sum.f k (y107 ++ l1)).bind fun t113 => ((some (([] : List Int) : List Int)).bind fun y114 => (if y114.length + l0.length < 140737488355328 then ((some (y114 ++ l0 : List Int)).bind fun y117 => (if y117.length + t101.length < 140737488355328 then ((tallymanref08_Put.f k (y117 ++ t101) (IntKind.u64.wrap (t113)) 4).bind fun t123 => (if t123.length + l1.length < 140737488355328 then (some ((t123 ++ l1), 0)) else (none))) else (none))) else (none)))) else (none))) else (none))))
theorem tallymanref10_Write.mono : ∀ a0 a1 k, LeO (tallymanref10_Write.f k a0 a1) (tallymanref10_Write.f (k + 1) a0 a1) := by
  intro a0 a1 k
  unfold tallymanref10_Write.f
  repeat' first
      | (with_reducible exact tallymanref08_Put.mono _ _ _ _)
      | (with_reducible exact tallymanref09_Sum.mono _ _)
      | (with_reducible exact LeO.refl _)
      | (with_reducible exact LeO.none _)
      | (with_reducible refine LeO.ite ?_ ?_)
      | (with_reducible refine LeO.bind ?_ (fun _ => ?_))
      | exact tallymanref08_Put.mono _ _ _ _
      | exact tallymanref09_Sum.mono _ _
      | exact LeO.none _
      | refine LeO.ite ?_ ?_
      | refine LeO.bind ?_ (fun _ => ?_)
end Go.Proofs.Ytajgillnkkkgjaa.P
end
section
/- The law FrameWrites, walked. -/
namespace Go.Proofs.Ytajgillnkkkgjaa.P
open Go.RowKit Go.Proofs.YtajgillnkkkgjaaW.PrintWords Go.Proofs.YtajgillnkkkgjaaW.PrintLast Go.Proofs.YtajgillnkkkgjaaW.PrintMore Go.Proofs.Ytajgillnkkkgjaa.H Go.Proofs.Ytajgillnkkkgjaa.Pure
set_option linter.unusedVariables false
set_option linter.unusedSimpArgs false
theorem alive7 (w : World) : Calls Try.prog 34 #[] w fun e w' => e = .returned (.bool true) ∧ Below w.heap.size w w' := tallymanlaw10_alive.calls true w rfl
def RdPostE (l : List Int) (y : Int) (w : World) (e : Ending) (w' : World) : Prop := ∃ A c, e = .returned (.tuple #[.slice A l.length c, .int .i64 y]) ∧ l.length ≤ c ∧ Kd.C (Kd.int .u8) w' A l.length l ∧ Below w.heap.size w w'
theorem write_C (A0 : Option Addr) (c0 : Nat) (b : List Int) (A1 : Option Addr) (c1 : Nat) (p r : List Int) (hr : b ++ recP p = r) (w : World) (h0 : Kd.C (Kd.int .u8) w A0 b.length b) (hc0 : b.length ≤ c0) (h1 : Kd.C (Kd.int .u8) w A1 p.length p) (hc1 : p.length ≤ c1) (hp : p.length ≤ 65536) (hb : b.length ≤ 1000000) :
    Calls Try.prog 35 #[.slice A0 b.length c0, .slice A1 p.length c1] w (RdPostE r 0 w) := write_rd A0 c0 b A1 c1 p r w (by rw [← hr]; exact wr_flat b p) h0 hc0 h1 hc1 hp hb
end Go.Proofs.Ytajgillnkkkgjaa.P
end
section
-- printed by the session's own call of print.py. Not trusted: Lean checks it.
namespace Go.Proofs.Ytajgillnkkkgjaa.P
open Go.RowKit Go.Proofs.YtajgillnkkkgjaaW.PrintWords Go.Proofs.YtajgillnkkkgjaaW.PrintLast Go.Proofs.YtajgillnkkkgjaaW.PrintMore
attribute [local go_sem] max2_int min2_int max_two min_two max_three min_three max_four min_four
set_option linter.unusedVariables false
set_option linter.unusedSimpArgs false
/-! ### tallymanref10_Few: function 45 -/
def tallymanref10_Few.l0 : Nat → List (List Int) → Int → Int → Option (Bool)
  | 0, _, _, _ => none
  | k + 1, x0, x2, x7 => if x7 < (x0.length : Int) then (if 0 ≤ x7 then (if ((rd_L9 x0 x7).length : Int) > x2 then (some false) else (tallymanref10_Few.l0 k x0 x2 (wrap64 (x7 + 1)))) else (none)) else (some true)
def tallymanref10_Few.f (k : Nat) (l0 : List (List Int)) (a1 : Int) (a2 : Int) : Option (Bool) := if (l0.length : Int) > a1 then (some false) else (tallymanref10_Few.l0 k l0 a2 0)
theorem tallymanref10_Few.mono_l : ∀ k, (∀ y0 y1 y2, LeO (tallymanref10_Few.l0 k y0 y1 y2) (tallymanref10_Few.l0 (k + 1) y0 y1 y2))
  | 0 => fun _ _ _ r h => by simp [tallymanref10_Few.l0] at h
  | k + 1 => by
    have ih0 := tallymanref10_Few.mono_l k
    · intro y0 y1 y2
      unfold tallymanref10_Few.l0
      repeat' first
      | (with_reducible exact ih0 _ _ _)
      | (with_reducible exact LeO.refl _)
      | (with_reducible exact LeO.none _)
      | (with_reducible refine LeO.ite ?_ ?_)
      | (with_reducible refine LeO.bind ?_ (fun _ => ?_))
      | exact ih0 _ _ _
      | exact LeO.none _
      | refine LeO.ite ?_ ?_
      | refine LeO.bind ?_ (fun _ => ?_)
theorem tallymanref10_Few.mono : ∀ a0 a1 a2 k, LeO (tallymanref10_Few.f k a0 a1 a2) (tallymanref10_Few.f (k + 1) a0 a1 a2) := by
  intro a0 a1 a2 k
  have ih0 := tallymanref10_Few.mono_l k
  unfold tallymanref10_Few.f
  repeat' first
      | (with_reducible exact ih0 _ _ _)
      | (with_reducible exact LeO.refl _)
      | (with_reducible exact LeO.none _)
      | (with_reducible refine LeO.ite ?_ ?_)
      | (with_reducible refine LeO.bind ?_ (fun _ => ?_))
      | exact ih0 _ _ _
      | exact LeO.none _
      | refine LeO.ite ?_ ?_
      | refine LeO.bind ?_ (fun _ => ?_)
set_option maxHeartbeats 8000000 in
set_option maxRecDepth 100000 in
theorem tallymanref10_Few.calls (k : Nat) (A0 : Option Addr) (c0 : Nat) (l0 : List (List Int)) (a1 : Int) (a2 : Int) (r : Bool) (w : World) (hr0 : Kd.C (Kd.slice 5 (Kd.int .u8)) w A0 l0.length l0) (hc0 : l0.length ≤ c0) (h : tallymanref10_Few.f k l0 a1 a2 = some r) :
    Calls Try.prog 45 #[.slice A0 l0.length c0, .int .i64 a1, .int .i64 a2] w fun e w' => e = .returned (.bool r) ∧ Drawn0 w w' := by
  have HR0 := Aside0.mk hr0
  have HC0 := Aside0.mk hc0
  clear hr0 hc0
  have H : (if (l0.length : Int) > a1 then (some false) else (tallymanref10_Few.l0 k l0 a2 0)) = some r := h
  clear h
  by_cases c4 : (l0.length : Int) > a1
  · rw [if_pos c4] at H
    have c4b0 : decide (a1 < (l0.length : Int)) = true := decide_eq_true c4
    clear c4
    obtain rfl := Option.some.inj H
    go_enter Try.func45, Try.ntmps45
    go_wp2
    go_ret
    exact ⟨by first | rfl | ((repeat first | rw [Int.tdiv_eq_ediv_of_nonneg (by omega)] | rw [Int.tmod_eq_emod_of_nonneg (by omega)]); rfl) | (simp; done) | (simp [*]; done), by repeat (first | exact Drawn0.refl _ | apply Drawn0.step)⟩
  · rw [if_neg c4] at H
    have c4b0 : decide (a1 < (l0.length : Int)) = false := decide_eq_false c4
    clear c4
    have H' := Aside0.mk H
    clear H
    go_enter Try.func45, Try.ntmps45
    go_wp2
    go_loopg [7] k (fun kq v7 w' => ∃ (x7_1 : Int), v7 = .int .i64 x7_1 ∧ Aside0 (tallymanref10_Few.l0 kq l0 a2 x7_1 = some r) ∧ Aside0 (kq ≤ k) ∧ Drawn0 w w')
    case atStart => exact ⟨(0), (by first | rfl | (simp; done) | (simp [*]; done)), H', ⟨Nat.le_refl _⟩, by repeat (first | exact Drawn0.refl _ | apply Drawn0.step)⟩
    case round =>
      clear H'
      try clear p2
      try clear c4
      try clear c4b0
      obtain ⟨x7_1, rfl, HA, HK1, ⟨m1, rfl⟩⟩ := hrel
      cases gk with
      | zero => exact absurd HA.out (by simp [tallymanref10_Few.l0])
      | succ k1 =>
        have H := HA.out
        clear HA
        simp only [tallymanref10_Few.l0] at H
        by_cases c5 : x7_1 < (l0.length : Int)
        · rw [if_pos c5] at H
          have c5b0 : decide (x7_1 < (l0.length : Int)) = true := decide_eq_true c5
          clear c5
          by_cases c6 : 0 ≤ x7_1
          · rw [if_pos c6] at H
            have c6b0 : decide (0 ≤ x7_1) = true := decide_eq_true c6
            clear c6
            by_cases c7 : ((rd_L9 l0 x7_1).length : Int) > a2
            · rw [if_pos c7] at H
              have c7b0 : decide (a2 < ((rd_L9 l0 x7_1).length : Int)) = true := decide_eq_true c7
              clear c7
              obtain rfl := Option.some.inj H
              have p101 : 0 ≤ (x7_1 : Int) := of_decide_eq_true (by first | (with_reducible assumption) | assumption)
              have q101 : x7_1 < (l0.length : Int) := of_decide_eq_true (by first | (with_reducible assumption) | assumption)
              obtain ⟨ad101, A101_0, c101_0, e101, hx101_0, hl101_0, hi101_0⟩ := at_L9 HR0.out x7_1 p101 q101
              cases e101
              have HR101_0 := Aside0.mk hi101_0
              have HC101_0 := Aside0.mk hl101_0
              clear hi101_0 hl101_0
              replace p101 := eq_true p101
              replace q101 := eq_true q101
              go_wp2
              go_ret
              exact ⟨by first | rfl | ((repeat first | rw [Int.tdiv_eq_ediv_of_nonneg (by omega)] | rw [Int.tmod_eq_emod_of_nonneg (by omega)]); rfl) | (simp; done) | (simp [*]; done), by repeat (first | exact Drawn0.refl _ | apply Drawn0.step)⟩
            · rw [if_neg c7] at H
              have c7b0 : decide (a2 < ((rd_L9 l0 x7_1).length : Int)) = false := decide_eq_false c7
              clear c7
              have H' := Aside0.mk H
              clear H
              have p101 : 0 ≤ (x7_1 : Int) := of_decide_eq_true (by first | (with_reducible assumption) | assumption)
              have q101 : x7_1 < (l0.length : Int) := of_decide_eq_true (by first | (with_reducible assumption) | assumption)
              obtain ⟨ad101, A101_0, c101_0, e101, hx101_0, hl101_0, hi101_0⟩ := at_L9 HR0.out x7_1 p101 q101
              cases e101
              have HR101_0 := Aside0.mk hi101_0
              have HC101_0 := Aside0.mk hl101_0
              clear hi101_0 hl101_0
              replace p101 := eq_true p101
              replace q101 := eq_true q101
              go_wp2
              go_roundg k1
              case measure => have := HK1.out; omega
              case rel => exact ⟨(wrap64 (x7_1 + 1)), (by first | rfl | (simp; done) | (simp [*]; done)), H', ⟨by have := HK1.out; omega⟩, by repeat (first | exact Drawn0.refl _ | apply Drawn0.step)⟩
          · rw [if_neg c6] at H
            exact absurd H (by simp)
        · rw [if_neg c5] at H
          have c5b0 : decide (x7_1 < (l0.length : Int)) = false := decide_eq_false c5
          clear c5
          obtain rfl := Option.some.inj H
          go_wp2
          go_ret
          exact ⟨by first | rfl | ((repeat first | rw [Int.tdiv_eq_ediv_of_nonneg (by omega)] | rw [Int.tmod_eq_emod_of_nonneg (by omega)]); rfl) | (simp; done) | (simp [*]; done), by repeat (first | exact Drawn0.refl _ | apply Drawn0.step)⟩
end Go.Proofs.Ytajgillnkkkgjaa.P
end
section
/- What came in, of any type that is made of numbers, texts, slices and structs: its value, and how it reads. -/
namespace Go.Proofs.Ytajgillnkkkgjaa.TR
open Go.RowKit Go.ChangeShapes Go.WideShapes Go.Deep Go.Proofs.YtajgillnkkkgjaaW.PrintWords Go.Proofs.YtajgillnkkkgjaaW.PrintLast Go.Proofs.YtajgillnkkkgjaaW.PrintMore
set_option linter.unusedVariables false
set_option linter.unusedSimpArgs false
/-- What the cells of type t hold, where they are well formed, is of the kind d. -/
def Tr {α : Type} (P : Program) (t : TypeId) (d : Kd α) (Wf : α → Prop) : Prop :=
  ∀ (H : Type) (enc : TypeId × Value → H) (w : World) (n : Nat) (cs : List Value) (x : DataW H × List MemPlace), DataW.trod enc P w 0 (fun _ => true) true n t cs = some x → ∃ a, d.K w a cs ∧ Wf a
theorem Tr_int {P : Program} {t : TypeId} {k : IntKind} (ht : P.underlying t = some (.int k)) : Tr P t (Kd.int k) (fun z => (Lit.int k z).wf = true) := by
  intro H enc w n cs x h
  obtain ⟨z, rfl, _, hw⟩ := DataW.trod_int ht h
  exact ⟨z, rfl, hw⟩
theorem build {α : Type} (p : Nat → α → Prop) : ∀ n, (∀ i, i < n → ∃ a, p i a) → ∃ l : List α, l.length = n ∧ ∀ j a, l[j]? = some a → p j a := by
  intro n
  induction n with
  | zero => intro _; exact ⟨[], rfl, fun j a h => by simp at h⟩
  | succ n ih =>
    intro h
    obtain ⟨l, hl, hp⟩ := ih (fun i hi => h i (by omega))
    obtain ⟨a, ha⟩ := h n (by omega)
    refine ⟨l ++ [a], by simp [hl], fun j b hb => ?_⟩
    by_cases hj : j < l.length
    · rw [List.getElem?_append_left hj] at hb
      exact hp j b hb
    · rw [List.getElem?_append_right (by omega)] at hb
      have : j - l.length = 0 := by
        have := (List.getElem?_eq_some_iff.1 hb).1
        simp at this
        omega
      rw [this] at hb
      simp only [List.getElem?_cons_zero, Option.some.injEq] at hb
      subst hb
      rw [show j = n by omega]
      exact ha
theorem Tr_slice {α : Type} {P : Program} {t e : TypeId} {d : Kd α} {Wf : α → Prop} (ht : P.underlying t = some (.slice e)) (hc : P.cellsOf e = d.sz) (h : Tr P e d Wf) : Tr P t (Kd.slice e d) (fun l => ∀ a ∈ l, Wf a) := by
  intro H enc w n cs x hx
  rcases open_slice ht hx with ⟨rfl, _⟩ | ⟨a, len, cap, m, n', D, Pl, rfl, _, hle, hm, hmm, _, hel⟩
  · exact ⟨[], ⟨none, 0, rfl, Nat.le_refl _, Kd.C_nil d w⟩, fun a ha => by simp at ha⟩
  · have hmc : m = cap := by simpa using hmm
    obtain ⟨l, hl, hp⟩ := build (fun i (b : α) => (∃ cs', cs'.length = d.sz ∧ d.K w b cs' ∧ ∀ j u, cs'[j]? = some u → w.cell? (a.add (i * d.sz + j)) = some u) ∧ Wf b) len (fun i hi => by
      obtain ⟨cs', h1, h2⟩ := hel i (by omega)
      obtain ⟨_, h3, h4⟩ := World.cells?_some h1
      obtain ⟨b, hK, hW⟩ := h H enc w n' cs' _ h2
      refine ⟨b, ⟨cs', by rw [h3, hc], hK, fun j u hu => ?_⟩, hW⟩
      have hj := (List.getElem?_eq_some_iff.1 hu).1
      rw [← hc, ← Go.Deep.add_add, h4 j (by omega), hu])
    refine ⟨l, ⟨some a, cap, by rw [hl], by omega, ⟨rfl, ?_, fun _ => ⟨a, rfl, fun j b hb => (hp j b hb).1⟩⟩⟩, fun b hb => ?_⟩
    · unfold maxLen at hm; omega
    · obtain ⟨j, hj⟩ := List.getElem?_of_mem hb
      exact (hp j b hj).2
/-- The fields from one on, one behind the other. -/
theorem seg (cs : List Value) (o a b : Nat) : (cs.drop o).take (a + b) = (cs.drop o).take a ++ (cs.drop (o + a)).take b := by
  rw [List.take_add, List.drop_drop]
end Go.Proofs.Ytajgillnkkkgjaa.TR
end
section
/- The law FrameTorn, walked. -/
namespace Go.Proofs.Ytajgillnkkkgjaa.P
open Go.RowKit Go.Proofs.YtajgillnkkkgjaaW.PrintWords Go.Proofs.YtajgillnkkkgjaaW.PrintLast Go.Proofs.YtajgillnkkkgjaaW.PrintMore Go.Proofs.Ytajgillnkkkgjaa.H Go.Proofs.Ytajgillnkkkgjaa.Pure Go.Proofs.Ytajgillnkkkgjaa.B
set_option linter.unusedVariables false
set_option linter.unusedSimpArgs false
theorem concat_F (A : Option Addr) (c n : Nat) (ls : List (List Int)) (r : List Int) (w : World) (hn : n = ls.length) (hf : ls.flatten = r) (hr : (Kd.slice 5 (Kd.int .u8)).C w A ls.length ls) (hb : r.length ≤ 140737488355328) :
    Calls Try.prog 73 #[.slice A n c] w (fun e w' => ∃ A c, e = .returned (.slice A r.length c) ∧ r.length ≤ c ∧ Kd.F (Kd.int .u8) w' (fun k => w.heap.size ≤ k) A r.length r ∧ Below w.heap.size w w') := by
  subst hn hf
  refine (concat_calls A c ls w hr hb).mono ?_
  rintro e w' ⟨v, rfl, hR, hB⟩
  obtain ⟨A, c, rfl, hc, hF⟩ := F_of_R hR
  exact ⟨A, c, rfl, hc, Kd.F_mono hF (fun k hk => hk.elim False.elim id), hB⟩
def RdPostF (l : List Int) (w : World) (e : Ending) (w' : World) : Prop := ∃ A c, e = .returned (.tuple #[.slice A l.length c, .int .i64 0]) ∧ l.length ≤ c ∧ Kd.F (Kd.int .u8) w' (fun k => w.heap.size ≤ k) A l.length l ∧ Below w.heap.size w w'
set_option maxHeartbeats 1000000 in
set_option maxRecDepth 100000 in
theorem write_F (A0 : Option Addr) (c0 : Nat) (b : List Int) (A1 : Option Addr) (c1 : Nat) (p r : List Int) (w : World) (hrr : [b, headP p, p].flatten = r) (h0 : Kd.C (Kd.int .u8) w A0 b.length b) (hc0 : b.length ≤ c0) (h1 : Kd.C (Kd.int .u8) w A1 p.length p) (hc1 : p.length ≤ c1) (hp : p.length ≤ 65536) (hb : b.length ≤ 1000000) :
    Calls Try.prog 35 #[.slice A0 b.length c0, .slice A1 p.length c1] w (RdPostF r w) := by
  have t0 : decide ((65536 : Int) < p.length) = false := by simp; omega
  have H0 := Aside0.mk h0; clear h0
  have H1 := Aside0.mk h1; clear h1
  have P1 : Aside0 (pack_Put.f [] p.length 4 = some (putList p.length 4)) := ⟨put4 [] p.length (by simp) (by omega) (by omega)⟩
  have FS := Aside0.mk (frame_sum_is (putList p.length 4) p)
  have hr := crcM_range (crcM 0 (putList p.length 4)) p
  have P2 := Aside0.mk (put4 (putList p.length 4) (crcM (crcM 0 (putList p.length 4)) p) (by rw [putList_len]; omega) hr.1 (by omega))
  have hw : IntKind.u64.wrap (p.length : Int) = p.length := by show (p.length : Int) % 18446744073709551616 = _; omega
  have HL : Aside0 (r.length ≤ 140737488355328) := ⟨by rw [← hrr]; simp [headP, putList_len]; omega⟩
  have HRR := Aside0.mk hrr; clear hrr
  generalize hs : crcM (crcM 0 (putList p.length 4)) p = s at FS P2 hr
  have HP : Aside0 (putList p.length 4 ++ putList s 4 = headP p) := ⟨by rw [← hs]; rfl⟩
  clear hs hr
  go_enter Try.func35, Try.ntmps35
  go_wp2_with (first | (go_at_call 77; first | ((with_reducible refine (put_nil P1.out _).mono ?_); rintro e w1 ⟨Ax, cx, rfl, hcx, hC, hB⟩; have HX := Aside0.mk hC; have HCX := Aside0.mk hcx; have HB1 := Aside0.mk hB; clear hC hB hcx) | ((with_reducible refine (put_rd P2.out (Kd.C_below HX.out HB2.out) HCX.out).mono ?_); rintro e w3 ⟨Ay, cy, rfl, hcy, hC, hB⟩; rw [HP.out] at hcy hC ⊢; have HY := Aside0.mk hC; have HCY := Aside0.mk hcy; have HB3 := Aside0.mk hB; clear hC hB hcy)) | (go_at_call 78; (with_reducible refine (frame_sum.calls Ax cx _ A1 c1 p s _ HX.out HCX.out (Kd.C_below H1.out HB1.out) hc1 FS.out).mono ?_); rintro e w2 ⟨rfl, hB⟩; have HB2 := Aside0.mk hB; clear hB) | (go_at_call 73; (with_reducible refine (concat_F _ _ 3 [b, headP p, p] r _ rfl HRR.out (C_rows [(A0, c0, b), (Ay, cy, headP p), (A1, c1, p)] (by simp) (by simp only [List.mem_cons, List.not_mem_nil, or_false, forall_eq_or_imp, forall_eq]; exact ⟨⟨hc0, Kd.C_below (Kd.C_below (Kd.C_below H0.out HB1.out) HB2.out) HB3.out⟩, ⟨HCY.out, HY.out⟩, ⟨hc1, Kd.C_below (Kd.C_below (Kd.C_below H1.out HB1.out) HB2.out) HB3.out⟩⟩) _ rfl) HL.out).mono ?_); rintro e w4 ⟨Az, cz, rfl, hcz, hC, hB⟩; have HZ := Aside0.mk hC; have HCZ := Aside0.mk hcz; have HB4 := Aside0.mk hB; clear hC hB hcz))
  go_ret2
  exact ⟨_, _, rfl, HCZ.out, Kd.F_mono HZ.out (fun k hk => Nat.le_trans (Nat.le_trans (Nat.le_trans (Nat.le_trans HB1.out.size HB2.out.size) HB3.out.size) (by simp)) hk), below_step (below_step (below_step HB1.out HB2.out) HB3.out) (below_step (below_alloc (Below.refl _ _) _) HB4.out)⟩
/-- The lengths of the fronts. -/
def endsOf (l : List (List Int)) (i : Nat) : List Int := (List.range i).map fun j => ((cat (l.take (j + 1))).length : Int)
theorem ends_snoc (l : List (List Int)) (i : Nat) : endsOf l (i + 1) = endsOf l i ++ [((cat (l.take (i + 1))).length : Int)] := by simp [endsOf, List.range_succ]
theorem ends_len (l : List (List Int)) (i : Nat) : (endsOf l i).length = i := by simp [endsOf]
theorem ends_rd (l : List (List Int)) (n i : Nat) (h : i < n) : rd (endsOf l n) i = ((cat (l.take (i + 1))).length : Int) := by
  rw [rd, List.getD_eq_getElem?_getD, Int.toNat_natCast]; simp [endsOf, h]
def T1 (w : World) (l : List (List Int)) (i : Nat) (v6 : Value) (A : Option Addr) (c : Nat) (wr : World) : Prop :=
  (cat (l.take i)).length ≤ c ∧ Kd.F (Kd.int .u8) wr (offV v6) A (cat (l.take i)).length (cat (l.take i)) ∧ Kd.R (Kd.int .i64) 3 wr w.heap.size (fun _ => True) v6 (endsOf l i) ∧ Below w.heap.size w wr
theorem off_newI {w : World} {b : Nat} {v : Value} {es : List Int} (h : Kd.R (Kd.int .i64) 3 w b (fun _ => True) v es) (k : Nat) (hk : w.heap.size ≤ k) : offV v k := ⟨trivial, fun e => by have := Kd.R_lt h k e.symm; omega⟩
abbrev TornS (w0 : World) (B A : Option Addr) (d c m : Nat) (q : List Int) (w' : World) : Prop := Aside0 (Below w0.heap.size w0 w') ∧ Aside0 (Kd.C (Kd.int .u8) w' B m q) ∧ Aside0 (Kd.C (Kd.int .u8) w' A m q) ∧ (convert 51 9 (.slice B m d)).run Try.prog w' = Result.ok (Value.string (strOfNums q)) w' ∧ (convert 51 9 (.slice A m c)).run Try.prog w' = Result.ok (Value.string (strOfNums q)) w'
theorem TornS.mk {w0 : World} {B A : Option Addr} {d c m : Nat} {q : List Int} {w' : World} (h0 : Below w0.heap.size w0 w') (h1 : Kd.C (Kd.int .u8) w' B m q) (h2 : Kd.C (Kd.int .u8) w' A m q) : TornS w0 B A d c m q w' :=
  ⟨⟨h0⟩, ⟨h1⟩, ⟨h2⟩, Kd.C_string Try.underlying51 Try.underlying5 Try.underlying9 h1, Kd.C_string Try.underlying51 Try.underlying5 Try.underlying9 h2⟩
theorem TornS.keep {w0 : World} {B A : Option Addr} {d c m : Nat} {q : List Int} {w1 w2 : World} (h : TornS w0 B A d c m q w1) (hb : Below w1.heap.size w1 w2) : TornS w0 B A d c m q w2 := TornS.mk (below_step h.1.out hb) (Kd.C_below h.2.1.out hb) (Kd.C_below h.2.2.1.out hb)
theorem all_Ck {l : List Int} {ls : List (List Int)} {n m q : Nat} (hm : l.length = m) (hx : allP l.length l = (ls, n)) {A0 : Option Addr} {c0 : Nat} {w : World} (h0 : Kd.C (Kd.int .u8) w A0 l.length l) (hc0 : m ≤ c0) (hb : isB l) (hl : m ≤ 1000000) (hq : ls.length = q) :
    Calls Try.prog 42 #[.slice A0 m c0] w fun e w' => ∃ A c, e = .returned (.tuple #[.slice A q c, .int .i64 n]) ∧ q ≤ c ∧ (Kd.slice 5 (Kd.int .u8)).C w' A q ls ∧ Below w.heap.size w w' := by subst hm hq; exact all_C hx h0 hc0 hb hl
theorem rows_Cn {l : List (List Int)} {n : Nat} (hn : l.length = n) {A0 A1 : Option Addr} {c0 c1 : Nat} {w : World} (h0 : (Kd.slice 5 (Kd.int .u8)).C w A0 n l) (hc0 : n ≤ c0) (h1 : (Kd.slice 5 (Kd.int .u8)).C w A1 n l) (hc1 : n ≤ c1) :
    Calls Try.prog 44 #[.slice A0 n c0, .slice A1 n c1] w fun e w' => e = .returned (.bool true) ∧ Below w.heap.size w w' := by subst hn; exact rows_rd h0 hc0 h1 hc1
set_option maxHeartbeats 4000000 in
set_option maxRecDepth 100000 in
theorem torn_path (kf : Nat) (A0 : Option Addr) (c0 : Nat) (l : List (List Int)) (a1 : Int) (w : World) (h0 : (Kd.slice 5 (Kd.int .u8)).C w A0 l.length l) (hc0 : l.length ≤ c0) (hb : ∀ x ∈ l, isB x) (h8 : l.length ≤ 8) (h60 : ∀ x ∈ l, x.length ≤ 60) (k0 : 0 ≤ a1) (k1 : a1 ≤ 65535)
    (hfew : tallymanref10_Few.f kf l 8 60 = some true) :
    Calls Try.prog 9 #[.slice A0 l.length c0, .int .u16 a1] w fun e w' => e = .returned (.bool true) ∧ Below w.heap.size w w' := by
  have hsm := cat_small h8 h60
  have H0 := Aside0.mk h0; clear h0
  have HFEW := Aside0.mk hfew; clear hfew
  have HI := Aside0.mk hb; have H60 := Aside0.mk h60; clear hb h60
  go_enter Try.func9, Try.ntmps9
  go_wp2_with ((go_at_call 45; (with_reducible refine (tallymanref10_Few.calls kf A0 c0 l 8 60 true _ H0.out hc0 HFEW.out).mono ?_); rintro e w0 ⟨rfl, hd⟩; have HB0 := Aside0.mk hd.below; clear hd))
  go_loopw [5, 6, 27] (fun v5 v6 v27 wr => ∃ i A c, i ≤ l.length ∧ v27 = .int .i64 (i : Nat) ∧ v5 = .slice A (cat (l.take i)).length c ∧ Aside0 (T1 w l i v6 A c wr)) (fun _ _ v27 _ => l.length - (intOf v27).toNat)
  case atStart => exact ⟨0, none, 0, by omega, rfl, rfl, ⟨Nat.le_refl _, Kd.F_nil _ _ _, Kd.R_nil _ _ _ _ _, HB0.out⟩⟩
  case round =>
    obtain ⟨i, A, c, hi, rfl, rfl, HT⟩ := hrel
    obtain ⟨hcc, hF, hR, hB⟩ := HT.out
    clear HT
    obtain ⟨Ae, ce, rfl, hce, hCe⟩ := Kd.R_reads hR
    rw [ends_len] at hR hF hCe hce ⊢
    by_cases hlt : i < l.length
    · obtain ⟨ad, B, cB, rfl, hcell, hcB, hCB⟩ := rows_at (Kd.C_below H0.out hB) i hlt
      have hle : (cat (l.take (i + 1))).length ≤ 544 := Nat.le_trans (cat_le l (i + 1)) hsm
      have hle0 : (cat (l.take i)).length ≤ 544 := Nat.le_trans (cat_le l i) hsm
      have h60 := H60.out _ (List.getElem_mem hlt)
      have HW := Aside0.mk (write_F A c (cat (l.take i)) B cB l[i] (cat (l.take (i + 1))) wr (by rw [wr_flat, cat_snoc l i hlt]) (Kd.F_now hF) hcc hCB hcB (by omega) (by omega))
      have HL : Aside0 (((endsOf l i).length + 1) * 8 ≤ 140737488355328) := ⟨by rw [ends_len]; omega⟩
      have HR := Aside0.mk hR; have HB := Aside0.mk hB
      obtain ⟨x, hx⟩ : ∃ x, l[i] = x := ⟨_, rfl⟩
      obtain ⟨b, hbb⟩ : ∃ b, cat (l.take i) = b := ⟨_, rfl⟩
      obtain ⟨r, hrr⟩ : ∃ r, cat (l.take (i + 1)) = r := ⟨_, rfl⟩
      rw [hx] at hcell HW
      rw [hbb] at HW ⊢
      rw [hrr] at HW hle
      have HRR := Aside0.mk hrr; have ES := Aside0.mk (ends_snoc l i)
      clear hF hR hB hCB hcB hcc hCe hce hx hbb hrr h60
      go_wp2_with (first
        | (go_at_call 35; (with_reducible refine HW.out.mono ?_); rintro e w1 ⟨Ar, cr, rfl, hcr, hFr, hB1⟩; have HR1 := Aside0.mk (Kd.R_below HR.out hB1); have HF1 := Aside0.mk (Kd.F_mono hFr (off_newI HR.out)); have HCR := Aside0.mk hcr; have HB1 := Aside0.mk (below_step HB.out hB1); clear hcr hFr hB1)
        | (at_builtin; refine Kd.R_append (Kd.int .i64) (w0 := w) w.heap.size rfl (.tmp 40) (.tmp 43) 30 3 (.int .i64 0) 8 rfl Try.underlying30 info3 rfl (by decide) (by omega) _ (endsOf l i) (r.length : Int) [.int .i64 (r.length : Int)] (fun _ => True) (fun _ => False) rfl rfl rfl (fun _ h => h.elim) (fun _ _ => trivial) HR1.out HB1.out HB1.out.size HL.out ?_; intro v2 w2 hR2 hB2 hg2 hat2; rw [← HRR.out, ← ES.out] at hR2; have HB2 := Aside0.mk hB2; have HR2 := Aside0.mk hR2; have HF2 := Aside0.mk (Kd.F_after HF1.out hg2 hat2); clear hR2 hB2 hg2 hat2))
      go_roundw
      case rel => exact ⟨i + 1, Ar, cr, by omega, by go_num, by rw [HRR.out], ⟨by rw [HRR.out]; exact HCR.out, by rw [HRR.out]; exact HF2.out, HR2.out, HB2.out⟩⟩
      case measure => simp [intOf]; omega
    · obtain rfl : i = l.length := by omega
      rw [List.take_length] at hF hcc ⊢
      have hce' : ∀ j, j < l.length → ∃ ad, Ae = some ad ∧ wr.cell? (ad.add j) = some (.int .i64 ((cat (l.take (j + 1))).length : Nat)) := fun j hj => by
        obtain ⟨ad, e, h⟩ := Kd.at_int hCe (j : Int) (by omega) (by omega)
        rw [Int.toNat_natCast, ends_rd l l.length j hj] at h
        exact ⟨ad, e, h⟩
      have HCE := Aside0.mk hce'
      have HF := Aside0.mk hF; have HB := Aside0.mk hB; have HCC := Aside0.mk hcc
      obtain ⟨al, hal⟩ : ∃ al, cat l = al := ⟨_, rfl⟩
      obtain ⟨N, hN⟩ : ∃ N, al.length = N := ⟨_, rfl⟩
      rw [hal] at hsm HF HCC ⊢
      rw [hN] at hsm HF HCC ⊢
      have hm0 : 0 ≤ a1 % ((N : Int) + 1) := Int.emod_nonneg _ (by omega)
      have hm1 : a1 % ((N : Int) + 1) < (N : Int) + 1 := Int.emod_lt_of_pos _ (by omega)
      obtain ⟨k, hk⟩ : ∃ k : Nat, a1 % ((N : Int) + 1) = k := ⟨_, (Int.toNat_of_nonneg hm0).symm⟩
      rw [hk] at hm0 hm1
      have hkN : k ≤ N := by omega
      have HAL := Aside0.mk hal; have HN := Aside0.mk hN
      clear hF hB hR hCe hce hce' hcc hal hN hm0 hm1
      go_wp2
      go_loop [12, 13, 54] (fun v12 v13 v54 => ∃ j : Nat, j ≤ l.length ∧ v54 = .int .i64 j ∧ v12 = .int .i64 ((min j (cnt k l) : Nat) : Int) ∧ v13 = .int .i64 (((cat (l.take (min j (cnt k l)))).length : Nat) : Int)) (fun _ _ v54 => l.length - (intOf v54).toNat)
      case atStart => exact ⟨0, by omega, rfl, by rw [Nat.zero_min]; rfl, by rw [Nat.zero_min]; rfl⟩
      case round =>
        obtain ⟨j, hj, rfl, rfl, rfl⟩ := hrel
        by_cases hlt2 : j < l.length
        · obtain ⟨ad, rfl, hcell⟩ := HCE.out j hlt2
          have hiff := cnt_iff l k j hlt2
          obtain ⟨q, hq⟩ : ∃ q, (cat (l.take (j + 1))).length = q := ⟨_, rfl⟩
          rw [hq] at hcell hiff
          have hcl := cnt_le l k
          by_cases hjc : j < cnt k l
          · have t1 : decide ((q : Int) ≤ k) = true := by have := hiff.2 hjc; simp; omega
            have t2 : decide (q ≤ k) = true := by have := hiff.2 hjc; simp; omega
            have e1 : min j (cnt k l) = j := by omega
            have e2 : min (j + 1) (cnt k l) = j + 1 := by omega
            have HQ := Aside0.mk hq
            have E2 := Aside0.mk e2
            rw [e1]
            clear hiff hjc e1 e2 hq
            go_wp2
            go_round
            case rel => exact ⟨j + 1, by omega, by go_num, by rw [E2.out]; go_num, by rw [E2.out, HQ.out]⟩
            case measure => simp [intOf]; omega
          · have t1 : decide ((q : Int) ≤ k) = false := by have : ¬ q ≤ k := fun h => hjc (hiff.1 h); simp; omega
            have t2 : decide (q ≤ k) = false := by have : ¬ q ≤ k := fun h => hjc (hiff.1 h); simp; omega
            have e1 : min j (cnt k l) = cnt k l := by omega
            have e2 : min (j + 1) (cnt k l) = cnt k l := by omega
            have E2 := Aside0.mk e2
            rw [e1]
            clear hiff hjc e1 e2 hq
            go_wp2
            go_round
            case rel => exact ⟨j + 1, by omega, by go_num, by rw [E2.out], by rw [E2.out]⟩
            case measure => simp [intOf]; omega
        · obtain rfl : j = l.length := by omega
          have hcl := cnt_le l k
          rw [show min l.length (cnt k l) = cnt k l by omega]
          obtain ⟨n, hn⟩ : ∃ n, cnt k l = n := ⟨_, rfl⟩
          rw [hn] at hcl ⊢
          obtain ⟨m, hm⟩ : ∃ m, (cat (l.take n)).length = m := ⟨_, rfl⟩
          rw [hm]
          have hmN : m ≤ N := by rw [← hm, ← HN.out, ← HAL.out]; exact cat_le l n
          obtain ⟨i5, hi5, _⟩ := info_parts info5
          obtain ⟨i51, hi51, _⟩ := info_parts info51
          have HT := torn l k k (fun x hx => by have := H60.out x hx; omega) (Nat.le_refl _)
          rw [hn, hm, HAL.out] at HT
          have hk2 : (al.take k).length = k := by rw [List.length_take]; have := HN.out; omega
          have HTT : Aside0 (allP (al.take k).length (al.take k) = (l.take n, m)) := ⟨by rw [hk2]; exact HT⟩
          have HK2 := Aside0.mk hk2
          have IB : Aside0 (isB (al.take k)) := ⟨isB_take (by rw [← HAL.out]; exact isB_cat HI.out) k⟩
          have hln : (l.take n).length = n := by rw [List.length_take]; omega
          have HLN := Aside0.mk hln
          have hFN := HF.out
          have s1 : ∀ W : World, (Instr.slice 51 (.slice A N c) none (some (.int .i64 k)) none).run Try.prog W = .ok (.slice A k c) W := cut_to 51 5 .i64 Try.underlying51 hi5 A N c k (by omega) (by omega) HCC.out
          have s2 : ∀ W : World, (Instr.slice 73 (.slice A0 l.length c0) none (some (.int .i64 n)) none).run Try.prog W = .ok (.slice A0 n c0) W := cut_to 73 51 .i64 Try.underlying73 hi51 A0 l.length c0 n (by omega) (by omega) hc0
          have s3 : ∀ W : World, (Instr.slice 51 (.slice A N c) none (some (.int .i64 m)) none).run Try.prog W = .ok (.slice A m c) W := cut_to 51 5 .i64 Try.underlying51 hi5 A N c m (by omega) (by omega) HCC.out
          have CA : Kd.C (Kd.int .u8) wr A al.length al := by rw [HN.out]; exact Kd.F_now HF.out
          have CK := Aside0.mk (Kd.C_take CA (m := k) (by rw [HN.out]; omega))
          have CM := Kd.C_take CA (m := m) (by rw [HN.out]; omega)
          have em : al.take m = cat (l.take n) := by rw [← HAL.out, ← hm]; exact cat_take l n
          rw [em, hm] at CM
          have HCM := Aside0.mk CM
          have CL := Kd.C_take (Kd.C_below H0.out HB.out) (m := n) hcl
          rw [hln] at CL
          have HCL := Aside0.mk CL
          have HCC2 : Aside0 (k ≤ c) := ⟨by have := HCC.out; omega⟩
          have HNC : Aside0 (n ≤ c0) := ⟨by omega⟩
          have HK3 : Aside0 (k ≤ 1000000) := ⟨by omega⟩
          have t3 : ((m : Int) != m) = false := by simp
          have t3b : (m != m) = false := by simp
          have t3c : (m == m) = true := by simp
          have HM := Aside0.mk hm
          clear CM CL CA em hFN hln hk2 HT hm hn hi5 hi51
          go_wp2_with (first
            | (go_at_call 42; (with_reducible refine (all_Ck HK2.out HTT.out CK.out HCC2.out IB.out HK3.out HLN.out).mono ?_); rintro e w1 ⟨E, g, rfl, hcE, hCE, hB1⟩; have HE := Aside0.mk hCE; have EC := Aside0.mk hcE; have HB1 := Aside0.mk hB1; clear hcE hCE hB1)
            | (go_at_call 44; (with_reducible refine (rows_Cn HLN.out HE.out EC.out (Kd.C_below HCL.out HB1.out) HNC.out).mono ?_); rintro e w2 ⟨rfl, hB2⟩; have HE2 := Aside0.mk (Kd.C_below HE.out hB2); have HB2 := Aside0.mk (below_step HB1.out hB2); clear hB2))
          have hmn : n ≤ l.length := hcl
          obtain ⟨ml, hml⟩ : ∃ ml, l.take n = ml := ⟨_, rfl⟩
          rw [hml] at HLN HE2 HM HCM
          have hmem : ∀ y ∈ ml, y ∈ l := fun y hy => by rw [← hml] at hy; exact List.mem_of_mem_take hy
          have HMM2 := Aside0.mk hmem
          clear hmem
          clear hml
          obtain ⟨wo, rfl⟩ : ∃ wo : World, wo = wr := ⟨_, rfl⟩
          go_loopw [18, 86] (fun v18 v86 wr2 => ∃ j B d, j ≤ n ∧ v86 = .int .i64 (j : Nat) ∧ v18 = .slice B (cat (ml.take j)).length d ∧ Aside0 ((cat (ml.take j)).length ≤ d ∧ Kd.C (Kd.int .u8) wr2 B (cat (ml.take j)).length (cat (ml.take j)) ∧ Below wo.heap.size wo wr2 ∧ Below w2.heap.size w2 wr2)) (fun _ v86 _ => n - (intOf v86).toNat)
          case atStart => exact ⟨0, none, 0, by omega, rfl, rfl, ⟨Nat.le_refl _, nilC _, HB2.out, Below.refl _ _⟩⟩
          case round =>
            obtain ⟨j, B, d, hj, rfl, rfl, HT⟩ := hrel
            obtain ⟨hd, hC, hB3, hB4⟩ := HT.out
            clear HT
            by_cases hlt3 : j < n
            · have hjl : j < ml.length := by rw [HLN.out]; exact hlt3
              have hE3 := Kd.C_below HE2.out hB4
              rw [← HLN.out] at hE3
              obtain ⟨ad, Bx, cx, rfl, hcell, hcx, hCx⟩ := rows_at hE3 j hjl
              have h60 : ml[j].length ≤ 60 := H60.out _ (HMM2.out _ (List.getElem_mem hjl))
              have hl1 : (cat (ml.take j)).length ≤ m := by rw [← HM.out]; exact cat_le ml j
              have HW := Aside0.mk (write_C B d (cat (ml.take j)) Bx cx ml[j] (cat (ml.take (j + 1))) (by rw [cat_snoc ml j hjl]) _ hC hd hCx hcx (by omega) (by omega))
              have HB3 := Aside0.mk hB3; have HB4 := Aside0.mk hB4
              clear hC hd hE3 hCx hcx hB3 hB4 hl1 h60
              go_wp2_with (go_at_call 35; (with_reducible refine HW.out.mono ?_); rintro e w3 ⟨Br, cr, rfl, hcr, hCr, hB5⟩; have HCR := Aside0.mk hCr; have HcR := Aside0.mk hcr; have HB5 := Aside0.mk hB5; clear hcr hCr hB5)
              go_roundw
              case rel => exact ⟨j + 1, Br, cr, by omega, by go_num, rfl, ⟨HcR.out, HCR.out, below_step HB3.out HB5.out, below_step HB4.out HB5.out⟩⟩
              case measure => simp [intOf]; omega
            · obtain rfl : j = n := by omega
              rw [show ml.take j = ml from List.take_of_length_le (by rw [HLN.out]; omega)] at hC hd ⊢
              rw [HM.out] at hC hd ⊢
              have hS : TornS w B A d c m (cat ml) wr := TornS.mk (below_step HB.out hB3) hC (Kd.C_below HCM.out hB3)
              have t5 : ((strOfNums (cat ml)).toList == (strOfNums (cat ml)).toList) = true := by simp
              generalize cat ml = q at hS t5
              clear hC hd hB3 hB4
              go_wp2
              go_region_held3 (TornS w B A d c m q) (first | exact TornS.keep (by assumption) hb | exact TornS.keep hS (below_dN _ 1))
                (first | (go_at_call 34; (with_reducible refine (alive7 _).mono ?_); rintro e w6 ⟨rfl, hb⟩))
              all_goals go_wp2
              all_goals go_ret
              exact ⟨by simp, (show TornS w B A d c m q _ by assumption).1.out⟩
set_option maxHeartbeats 1000000 in
set_option maxRecDepth 100000 in
theorem torn_none (kf : Nat) (A0 : Option Addr) (c0 : Nat) (l : List (List Int)) (a1 : Int) (w : World) (h0 : (Kd.slice 5 (Kd.int .u8)).C w A0 l.length l) (hc0 : l.length ≤ c0) (hfew : tallymanref10_Few.f kf l 8 60 = some false) :
    Calls Try.prog 9 #[.slice A0 l.length c0, .int .u16 a1] w fun e w' => e = .returned (.bool true) ∧ Below w.heap.size w w' := by
  have H0 := Aside0.mk h0; clear h0
  have HFEW := Aside0.mk hfew; clear hfew
  go_enter Try.func9, Try.ntmps9
  go_wp2_with (first
    | (go_at_call 45; (with_reducible refine (tallymanref10_Few.calls kf A0 c0 l 8 60 false _ H0.out hc0 HFEW.out).mono ?_); rintro e w0 ⟨rfl, hd⟩; have HB0 := Aside0.mk hd.below; clear hd)
    | (go_at_call 34; (with_reducible refine (alive7 _).mono ?_); rintro e w6 ⟨rfl, hb⟩; have HB6 := Aside0.mk (below_step HB0.out hb); clear hb))
  go_ret
  exact ⟨rfl, HB6.out⟩
theorem few_loop (l : List (List Int)) (hl : l.length ≤ 8) : ∀ (d i : Nat), i + d = l.length → Ev (fun k => tallymanref10_Few.l0 k l 60 i) ((l.drop i).all fun x => decide (x.length ≤ 60)) := by
  intro d
  induction d with
  | zero =>
    intro i hi
    rw [List.drop_of_length_le (by omega)]
    exact Ev.step (fun k => by rw [tallymanref10_Few.l0, if_neg (by omega)]; rfl) (Ev.now _)
  | succ d ih =>
    intro i hi
    have hlt : i < l.length := by omega
    have e : rd_L9 l i = l[i] := by rw [rd_L9, List.getD_eq_getElem?_getD, Int.toNat_natCast, List.getElem?_eq_getElem hlt]; rfl
    rw [List.drop_eq_getElem_cons hlt, List.all_cons]
    by_cases h : l[i].length ≤ 60
    · rw [decide_eq_true h, Bool.true_and]
      refine Ev.step (fun k => by rw [tallymanref10_Few.l0, if_pos (by omega), if_pos (by omega), e, if_neg (by omega), show wrap64 ((i : Int) + 1) = ((i + 1 : Nat) : Int) by unfold wrap64; omega]) ?_
      exact ih (i + 1) (by omega)
    · rw [decide_eq_false h, Bool.false_and]
      refine Ev.step (fun k => by rw [tallymanref10_Few.l0, if_pos (by omega), if_pos (by omega), e, if_pos (by omega)]) (Ev.now _)
def tallymanlaw10_FrameTorn.Pure : Prop := True
theorem tallymanlaw10_FrameTorn.walk (P : tallymanlaw10_FrameTorn.Pure) (a0 : Option Addr) (len0 cap0 : Nat) (a1 : Int) (w : World) {H : Type} {enc : TypeId × Value → H} {d : DataW H} {p : List MemPlace} (h0 : DataW.Trod enc Try.prog w 0 (fun _ => true) true 73 (.slice a0 len0 cap0) d p) (w1 : (Lit.int .u16 a1).wf = true) :
    Calls Try.prog 9 #[.slice a0 len0 cap0, .int .u16 a1] w fun e w' => e = .returned (.bool true) ∧ Below w.heap.size w w' := by
  obtain ⟨fuel, hf⟩ := h0
  obtain ⟨l, ⟨A, c, e, hc, hC⟩, hw⟩ := TR.Tr_slice Try.underlying73 (by kernel_rfl) (TR.Tr_slice Try.underlying51 (by kernel_rfl) (TR.Tr_int Try.underlying5)) _ _ _ _ _ _ hf
  simp [Value.cells] at e
  obtain ⟨rfl, rfl, rfl⟩ := e
  obtain ⟨k0, k1⟩ := wf_u16 w1
  have hb : ∀ x ∈ l, isB x := fun x hx => bytes_of (hw x hx)
  by_cases h8 : l.length ≤ 8
  · obtain ⟨k, hk⟩ := Ev.rounds (few_loop l h8 l.length 0 (by omega))
    rw [List.drop_zero] at hk
    have hk2 : tallymanref10_Few.f k l 8 60 = some (l.all fun x => decide (x.length ≤ 60)) := by unfold tallymanref10_Few.f; rw [if_neg (by omega)]; exact hk
    by_cases h60 : ∀ x ∈ l, x.length ≤ 60
    · rw [show (l.all fun x => decide (x.length ≤ 60)) = true by simpa using h60] at hk2
      exact torn_path k _ _ l a1 w hC hc hb h8 h60 k0 k1 hk2
    · rw [show (l.all fun x => decide (x.length ≤ 60)) = false by rw [← Bool.not_eq_true]; simpa using h60] at hk2
      exact torn_none k _ _ l a1 w hC hc hk2
  · exact torn_none 0 _ _ l a1 w hC hc (by unfold tallymanref10_Few.f; rw [if_pos (by omega)])
end Go.Proofs.Ytajgillnkkkgjaa.P
end
section
namespace Go.Proofs.Ytajgillnkkkgjaa.Pure
open Go.RowKit Go.Proofs.Ytajgillnkkkgjaa.P Go.Proofs.YtajgillnkkkgjaaW.PrintWords Go.Proofs.YtajgillnkkkgjaaW.PrintLast
/-- The walk needs nothing else. -/
theorem FrameTorn : tallymanlaw10_FrameTorn.Pure := trivial
end Go.Proofs.Ytajgillnkkkgjaa.Pure
end
