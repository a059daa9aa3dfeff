import Derived.Test.YtbkcdfiokjhcjaaF77
import Derived.Test.YtbkcdfiokjhcjaaH
import Derived.Test.YtbkcdfiokjhcjaaB
import Derived.RegionTactic
namespace Go.Proofs.Ytbkcdfiokjhcjaa.P
open Go.Proofs.Ytbkcdfiokjhcjaa.B Go.RowKit Go.Proofs.YtbkcdfiokjhcjaaW.PrintWords Go.Proofs.YtbkcdfiokjhcjaaW.PrintLast Go.Proofs.YtbkcdfiokjhcjaaW.PrintMore Go.Proofs.Ytbkcdfiokjhcjaa.H
set_option linter.unusedVariables false
set_option linter.unusedSimpArgs false
/-- A digit's value, or more than any base. -/
def valB (c : UInt8) : Nat := if 48 ≤ c.toNat ∧ c.toNat ≤ 57 then c.toNat - 48 else if 97 ≤ c.toNat ∧ c.toNat ≤ 102 then c.toNat - 87 else 99
def takeL (b m : Nat) : List UInt8 → Nat → Nat × Bool
  | [], w => (w, true)
  | c :: l, w => if b ≤ valB c ∨ (m - valB c) / b < w then (0, false) else takeL b m l (w * b + valB c)
def takeD (b m : Nat) (l : List UInt8) : Nat × Bool := if l = [] ∨ (l.head? = some 48 ∧ 1 < l.length) then (0, false) else takeL b m l 0
def num_take.f (a0 : ByteArray) (a1 : Int) (a2 : Int) : Option (Int × Bool) := if 2 ≤ a1 ∧ a1 ≤ 16 ∧ 100 ≤ a2 ∧ a2 ≤ 18446744073709551615 ∧ a0.size ≤ 9223372036854775807 then some (((takeD a1.toNat a2.toNat a0.data.toList).1 : Int), (takeD a1.toNat a2.toNat a0.data.toList).2) else none
def valN (n : Nat) : Nat := if 48 ≤ n ∧ n ≤ 57 then n - 48 else if 97 ≤ n ∧ n ≤ 102 then n - 87 else 99
theorem value_is (c : UInt8) : num_value.f 2 (c.toNat : Int) = some ((valB c : Nat) : Int) := by
  have : ∀ n : Fin 256, num_value.f 2 ((n.1 : Nat) : Int) = some ((valN n.1 : Nat) : Int) := by set_option maxRecDepth 100000 in decide
  exact this ⟨c.toNat, c.toNat_lt⟩
theorem value_at (s : ByteArray) (i : Nat) (h : i < s.size) (w : World) : Calls Try.prog 77 #[.int .u8 ((s[i]'h).toNat : Int)] w fun e w' => e = .returned (.int .u64 ((valB (s[i]'h) : Nat) : Int)) ∧ Below w.heap.size w w' :=
  (num_value.calls 2 _ _ w (value_is _)).mono fun e w' ⟨h1, h2⟩ => ⟨h1, h2.below⟩
theorem toList_loop (bs : ByteArray) : ∀ (k i : Nat) (r : List UInt8), bs.size - i = k → ByteArray.toList.loop bs i r = r.reverse ++ bs.data.toList.drop i := by
  intro k
  induction k with
  | zero =>
    intro i r h
    unfold ByteArray.toList.loop
    have : ¬ i < bs.size := by omega
    rw [if_neg this, List.drop_eq_nil_of_le (by rw [Array.length_toList]; exact Nat.le_of_not_lt this), List.append_nil]
  | succ k ih =>
    intro i r h
    unfold ByteArray.toList.loop
    have hi : i < bs.size := by omega
    rw [if_pos hi, ih (i + 1) _ (by omega), List.reverse_cons, List.append_assoc]
    have hi2 : i < bs.data.toList.length := by rw [Array.length_toList]; exact hi
    rw [List.drop_eq_getElem_cons hi2]
    congr 2
    show [bs.data[i]!] ++ _ = _
    rw [getElem!_pos bs.data i (by exact hi)]
    rfl
theorem toList_data (bs : ByteArray) : bs.toList = bs.data.toList := by
  rw [ByteArray.toList, toList_loop bs bs.size 0 [] (by omega)]; rfl
theorem toList_ne {s : ByteArray} (h : 0 < s.size) : ¬ s.toList = [] := by
  rw [toList_data]
  intro e
  have : s.data.toList.length = 0 := by rw [e]; rfl
  rw [Array.length_toList] at this
  have : s.size = 0 := this
  omega
theorem get_list (s : ByteArray) (i : Nat) (h : i < s.size) : s.data.toList.drop i = (s[i]'h) :: s.data.toList.drop (i + 1) := by
  have h2 : i < s.data.toList.length := by rw [Array.length_toList]; exact h
  rw [List.drop_eq_getElem_cons h2]
  rfl
def TakePost (w : World) (r : Nat × Bool) (e : Ending) (w' : World) : Prop := e = .returned (.tuple #[.int .u64 (r.1 : Int), .bool r.2]) ∧ Below w.heap.size w w'
set_option maxHeartbeats 4000000 in
set_option maxRecDepth 100000 in
theorem take_calls (s : ByteArray) (b m : Nat) (w : World) (hm : m < 2 ^ 64) (hm1 : 100 ≤ m) (hb2 : 2 ≤ b) (hb16 : b ≤ 16) (hs : s.size ≤ 9223372036854775807) :
    Calls Try.prog 73 #[.string s, .int .u64 (b : Int), .int .u64 (m : Int)] w (TakePost w (takeD b m s.data.toList)) := by
  obtain ⟨D, hD⟩ : ∃ D, takeD b m s.data.toList = D := ⟨_, rfl⟩
  rw [hD]
  have HD := Aside0.mk hD; clear hD
  have HM := Aside0.mk hm; clear hm
  have hb0 : ((b : Int) == 0) = false := beq_eq_false_iff_ne.mpr (by omega)
  by_cases hz : s.size = 0
  · have e : s = ⟨#[]⟩ := by
      apply ByteArray.ext
      exact Array.eq_empty_of_size_eq_zero hz
    subst e
    go_enter Try.func73, Try.ntmps73
    go_wp2
    refine wp_scope_enter 0 rfl ?_
    go_wp2
    simp only [Exit.jump]
    go_ret2
    have := HD.out
    rw [takeD, if_pos (.inl rfl)] at this
    subst this
    exact ⟨rfl, Below.refl _ _⟩
  · have hz1 : 0 < s.size := by omega
    obtain ⟨c0, Hc0⟩ : ∃ c0, Aside0 (s[0]'hz1 = c0) := ⟨_, ⟨rfl⟩⟩
    have e1 : (s.toList = []) = False := eq_false (toList_ne hz1)
    have e2 : s.toList.isEmpty = false := by cases h : s.toList with
      | nil => exact absurd h (toList_ne hz1)
      | cons a l => rfl
    have hnil : ¬ s.data.toList = [] := by rw [← toList_data]; exact toList_ne hz1
    have hhd : s.data.toList.head? = some (s[0]'hz1) := by have := get_list s 0 hz1; rw [List.drop_zero] at this; rw [this]; rfl
    have hle : s.data.toList.length = s.size := Array.length_toList
    have HN := Aside0.mk hnil; clear hnil
    have HH := Aside0.mk hhd; clear hhd
    have HE := Aside0.mk hle; clear hle
    clear hz Hc0 c0
    have h48 : ∀ c : UInt8, c.toNat = 48 ↔ c = 48 := fun c => by rw [← UInt8.toNat_inj]; rfl
    have H48 := Aside0.mk h48; clear h48
    by_cases hA : (s[0]'hz1).toNat = 48
    · have g0 : (((s[0]'hz1).toNat : Int) = 48) = True := by simp; omega
      by_cases hB : 1 < s.size
      · have g1 : (1 < s.size) = True := by simp [hB]
        have hD := HD.out
        rw [takeD, if_pos (.inr ⟨by rw [HH.out, (H48.out _).1 hA], by rw [HE.out]; exact hB⟩)] at hD
        subst hD
        go_enter Try.func73, Try.ntmps73
        go_wp2
        refine wp_scope_enter 0 rfl ?_
        go_wp2
        simp only [Exit.jump]
        go_ret2
        exact ⟨rfl, Below.refl _ _⟩
      · have g1 : (1 < s.size) = False := by simp; omega
        have hD := HD.out
        rw [takeD, if_neg (by rw [HE.out]; rintro (h | h); exact HN.out h; exact hB h.2)] at hD
        have HT := Aside0.mk hD; clear hD HD HH HN HE
        go_enter Try.func73, Try.ntmps73
        go_wp2
        refine wp_scope_enter 0 rfl ?_
        go_wp2
        go_step3
        simp only [Exit.then]
        rename_i hk
        refine hk _ _ ?_
        clear hk
        refine wp_label_slots 0 (by rfl) (List.range' 6 45) (fun n us wr => ∃ (i v : Nat), n = s.size - i ∧ i ≤ s.size ∧ Aside0 (v ≤ m) ∧ us.getD 2 undef = .int .u64 v ∧ us.getD 3 undef = .int .i64 i ∧ Aside0 (takeL b m (s.data.toList.drop i) v = D) ∧ Aside0 (Below w.heap.size w wr)) s.size ?_ ?_
        · exact ⟨0, 0, rfl, Nat.zero_le _, ⟨Nat.zero_le _⟩, rfl, rfl, HT, ⟨Below.refl _ _⟩⟩
        · rintro n us wr hl ⟨i, v, rfl, hi, HV, h8, h9, HL, HB⟩ J K hJ hK
          clear HT
          simp only [List.length_range'] at hl
          match us, hl with
          | u6 :: u7 :: u8 :: u9 :: u10 :: u11 :: u12 :: u13 :: u14 :: u15 :: u16 :: u17 :: u18 :: u19 :: u20 :: u21 :: u22 :: u23 :: u24 :: u25 :: u26 :: u27 :: u28 :: u29 :: u30 :: u31 :: u32 :: u33 :: u34 :: u35 :: u36 :: u37 :: u38 :: u39 :: u40 :: u41 :: u42 :: u43 :: u44 :: u45 :: u46 :: u47 :: u48 :: u49 :: u50 :: [], _ =>
          simp only [List.getD_cons_succ, List.getD_cons_zero] at h8 h9
          subst h8 h9
          simp only [List.range', putS, Act.put, List.setIfInBounds_toArray, List.set_cons_zero, List.set_cons_succ]
          rename_i hx
          clear hx
          have hJ2 := fun (k : Nat) (v6 v7 v8 v9 v10 v11 v12 v13 v14 v15 v16 v17 v18 v19 v20 v21 v22 v23 v24 v25 v26 v27 v28 v29 v30 v31 v32 v33 v34 v35 v36 v37 v38 v39 v40 v41 v42 v43 v44 v45 v46 v47 v48 v49 v50 : Value) (w' : World) => hJ k (v6 :: v7 :: v8 :: v9 :: v10 :: v11 :: v12 :: v13 :: v14 :: v15 :: v16 :: v17 :: v18 :: v19 :: v20 :: v21 :: v22 :: v23 :: v24 :: v25 :: v26 :: v27 :: v28 :: v29 :: v30 :: v31 :: v32 :: v33 :: v34 :: v35 :: v36 :: v37 :: v38 :: v39 :: v40 :: v41 :: v42 :: v43 :: v44 :: v45 :: v46 :: v47 :: v48 :: v49 :: v50 :: []) _ w' rfl rfl
          clear hJ
          simp only [List.range', putS, Act.put, List.setIfInBounds_toArray, List.set_cons_zero, List.set_cons_succ] at hJ2
          have HJ := Aside0.mk hJ2; clear hJ2
          have HK := Aside0.mk hK; clear hK
          by_cases he : i = s.size
          · have hb : ((i : Int) == (s.size : Int)) = true := by rw [he]; simp
            have hL := HL.out
            rw [he, List.drop_eq_nil_of_le (by rw [Array.length_toList]; exact Nat.le_refl _), takeL] at hL
            clear he HL
            subst hL
            go_wp2
            simp only [Exit.jump]
            go_ret2
            exact ⟨rfl, HB.out⟩
          · have hlt : i < s.size := by omega
            have hb : ((i : Int) == (s.size : Int)) = false := by simp; omega
            clear he
            have hL := HL.out
            rw [get_list s i hlt, takeL] at hL
            obtain ⟨x, Hx⟩ : ∃ x, Aside0 (valB (s[i]'hlt) = x) := ⟨_, ⟨rfl⟩⟩
            have hva := value_at s i hlt
            rw [Hx.out] at hva hL
            have HVA := Aside0.mk hva; clear hva HL Hx
            by_cases hx : b ≤ x
            · have g1 : (b ≤ x) = True := by simp [hx]
              rw [if_pos (.inl hx)] at hL
              subst hL
              go_wp2_with (go_at_call 77; refine (HVA.out _).mono ?_; rintro e w' ⟨rfl, hb⟩; have HB2 := Aside0.mk (below_step HB.out hb); clear hb HB)
              simp only [Exit.jump]
              go_ret2
              exact ⟨rfl, HB2.out⟩
            · have g1 : (b ≤ x) = False := by simp; omega
              obtain ⟨q, Hq⟩ : ∃ q, Aside0 ((m - x) / b = q) := ⟨_, ⟨rfl⟩⟩
              have g2 : IntKind.u64.wrap ((m : Int) - (x : Int)) = ((m - x : Nat) : Int) := by have := HM.out; rw [wrap_u64]; omega
              have g3 : ((m - x : Nat) : Int) / (b : Int) = (q : Int) := by rw [← Hq.out]; omega
              have g7 : IntKind.u64.wrap (q : Int) = (q : Int) := by
                have h1 := HM.out
                have h2 : (m - x) / b ≤ m - x := Nat.div_le_self _ _
                rw [Hq.out] at h2
                rw [wrap_u64]; omega
              rw [Hq.out] at hL
              by_cases hq : q < v
              · have g4 : (q < v) = True := by simp [hq]
                rw [if_pos (.inr hq)] at hL
                subst hL
                go_wp2_with (go_at_call 77; refine (HVA.out _).mono ?_; rintro e w' ⟨rfl, hb⟩; have HB2 := Aside0.mk (below_step HB.out hb); clear hb HB)
                simp only [Exit.jump]
                go_ret2
                exact ⟨rfl, HB2.out⟩
              · have g4 : (q < v) = False := by simp; omega
                rw [if_neg (by omega)] at hL
                have hle : v * b + x ≤ m := by
                  have h1 : v * b ≤ q * b := Nat.mul_le_mul_right _ (by omega)
                  have h2 : q * b ≤ m - x := by rw [← Hq.out]; exact Nat.div_mul_le_self _ _
                  omega
                have g5 : IntKind.u64.wrap ((v : Int) * (b : Int)) = ((v * b : Nat) : Int) := by
                  have := HM.out
                  rw [wrap_u64, ← Int.natCast_mul]; omega
                have g6 : IntKind.u64.wrap (((v * b : Nat) : Int) + (x : Int)) = ((v * b + x : Nat) : Int) := by
                  have := HM.out
                  rw [wrap_u64]; omega
                have HLE := Aside0.mk hle; clear hle
                have HL := Aside0.mk hL; clear hL
                go_wp2_with (go_at_call 77; refine (HVA.out _).mono ?_; rintro e w' ⟨rfl, hb⟩; have HB2 := Aside0.mk (below_step HB.out hb); clear hb HB)
                go_step3
                exact ⟨rfl, HK.out _ _ (Handed.intro (s.size - (i + 1)) (by omega) (HJ.out _ _ _ _ _ _ _ _ _ _ _ _ _ _ _ _ _ _ _ _ _ _ _ _ _ _ _ _ _ _ _ _ _ _ _ _ _ _ _ _ _ _ _ _ _ _ _ ⟨i + 1, v * b + x, rfl, by omega, HLE, (by simp [*]; have h9 := g6; simp only [Int.natCast_add, Int.natCast_mul] at h9; exact h9), by simp, HL, HB2⟩))⟩
    · have g0 : (((s[0]'hz1).toNat : Int) = 48) = False := by simp; omega
      have hD := HD.out
      rw [takeD, if_neg (by rw [HH.out]; rintro (h | h); exact HN.out h; exact hA ((H48.out _).2 (Option.some.inj h.1)))] at hD
      have HT := Aside0.mk hD; clear hD HD HH HN HE
      go_enter Try.func73, Try.ntmps73
      go_wp2
      refine wp_scope_enter 0 rfl ?_
      go_wp2
      go_step3
      simp only [Exit.then]
      rename_i hk
      refine hk _ _ ?_
      clear hk
      refine wp_label_slots 0 (by rfl) (List.range' 6 45) (fun n us wr => ∃ (i v : Nat), n = s.size - i ∧ i ≤ s.size ∧ Aside0 (v ≤ m) ∧ us.getD 2 undef = .int .u64 v ∧ us.getD 3 undef = .int .i64 i ∧ Aside0 (takeL b m (s.data.toList.drop i) v = D) ∧ Aside0 (Below w.heap.size w wr)) s.size ?_ ?_
      · exact ⟨0, 0, rfl, Nat.zero_le _, ⟨Nat.zero_le _⟩, rfl, rfl, HT, ⟨Below.refl _ _⟩⟩
      · rintro n us wr hl ⟨i, v, rfl, hi, HV, h8, h9, HL, HB⟩ J K hJ hK
        clear HT
        simp only [List.length_range'] at hl
        match us, hl with
        | u6 :: u7 :: u8 :: u9 :: u10 :: u11 :: u12 :: u13 :: u14 :: u15 :: u16 :: u17 :: u18 :: u19 :: u20 :: u21 :: u22 :: u23 :: u24 :: u25 :: u26 :: u27 :: u28 :: u29 :: u30 :: u31 :: u32 :: u33 :: u34 :: u35 :: u36 :: u37 :: u38 :: u39 :: u40 :: u41 :: u42 :: u43 :: u44 :: u45 :: u46 :: u47 :: u48 :: u49 :: u50 :: [], _ =>
        simp only [List.getD_cons_succ, List.getD_cons_zero] at h8 h9
        subst h8 h9
        simp only [List.range', putS, Act.put, List.setIfInBounds_toArray, List.set_cons_zero, List.set_cons_succ]
        rename_i hx
        clear hx
        have hJ2 := fun (k : Nat) (v6 v7 v8 v9 v10 v11 v12 v13 v14 v15 v16 v17 v18 v19 v20 v21 v22 v23 v24 v25 v26 v27 v28 v29 v30 v31 v32 v33 v34 v35 v36 v37 v38 v39 v40 v41 v42 v43 v44 v45 v46 v47 v48 v49 v50 : Value) (w' : World) => hJ k (v6 :: v7 :: v8 :: v9 :: v10 :: v11 :: v12 :: v13 :: v14 :: v15 :: v16 :: v17 :: v18 :: v19 :: v20 :: v21 :: v22 :: v23 :: v24 :: v25 :: v26 :: v27 :: v28 :: v29 :: v30 :: v31 :: v32 :: v33 :: v34 :: v35 :: v36 :: v37 :: v38 :: v39 :: v40 :: v41 :: v42 :: v43 :: v44 :: v45 :: v46 :: v47 :: v48 :: v49 :: v50 :: []) _ w' rfl rfl
        clear hJ
        simp only [List.range', putS, Act.put, List.setIfInBounds_toArray, List.set_cons_zero, List.set_cons_succ] at hJ2
        have HJ := Aside0.mk hJ2; clear hJ2
        have HK := Aside0.mk hK; clear hK
        by_cases he : i = s.size
        · have hb : ((i : Int) == (s.size : Int)) = true := by rw [he]; simp
          have hL := HL.out
          rw [he, List.drop_eq_nil_of_le (by rw [Array.length_toList]; exact Nat.le_refl _), takeL] at hL
          clear he HL
          subst hL
          go_wp2
          simp only [Exit.jump]
          go_ret2
          exact ⟨rfl, HB.out⟩
        · have hlt : i < s.size := by omega
          have hb : ((i : Int) == (s.size : Int)) = false := by simp; omega
          clear he
          have hL := HL.out
          rw [get_list s i hlt, takeL] at hL
          obtain ⟨x, Hx⟩ : ∃ x, Aside0 (valB (s[i]'hlt) = x) := ⟨_, ⟨rfl⟩⟩
          have hva := value_at s i hlt
          rw [Hx.out] at hva hL
          have HVA := Aside0.mk hva; clear hva HL Hx
          by_cases hx : b ≤ x
          · have g1 : (b ≤ x) = True := by simp [hx]
            rw [if_pos (.inl hx)] at hL
            subst hL
            go_wp2_with (go_at_call 77; refine (HVA.out _).mono ?_; rintro e w' ⟨rfl, hb⟩; have HB2 := Aside0.mk (below_step HB.out hb); clear hb HB)
            simp only [Exit.jump]
            go_ret2
            exact ⟨rfl, HB2.out⟩
          · have g1 : (b ≤ x) = False := by simp; omega
            obtain ⟨q, Hq⟩ : ∃ q, Aside0 ((m - x) / b = q) := ⟨_, ⟨rfl⟩⟩
            have g2 : IntKind.u64.wrap ((m : Int) - (x : Int)) = ((m - x : Nat) : Int) := by have := HM.out; rw [wrap_u64]; omega
            have g3 : ((m - x : Nat) : Int) / (b : Int) = (q : Int) := by rw [← Hq.out]; omega
            have g7 : IntKind.u64.wrap (q : Int) = (q : Int) := by
              have h1 := HM.out
              have h2 : (m - x) / b ≤ m - x := Nat.div_le_self _ _
              rw [Hq.out] at h2
              rw [wrap_u64]; omega
            rw [Hq.out] at hL
            by_cases hq : q < v
            · have g4 : (q < v) = True := by simp [hq]
              rw [if_pos (.inr hq)] at hL
              subst hL
              go_wp2_with (go_at_call 77; refine (HVA.out _).mono ?_; rintro e w' ⟨rfl, hb⟩; have HB2 := Aside0.mk (below_step HB.out hb); clear hb HB)
              simp only [Exit.jump]
              go_ret2
              exact ⟨rfl, HB2.out⟩
            · have g4 : (q < v) = False := by simp; omega
              rw [if_neg (by omega)] at hL
              have hle : v * b + x ≤ m := by
                have h1 : v * b ≤ q * b := Nat.mul_le_mul_right _ (by omega)
                have h2 : q * b ≤ m - x := by rw [← Hq.out]; exact Nat.div_mul_le_self _ _
                omega
              have g5 : IntKind.u64.wrap ((v : Int) * (b : Int)) = ((v * b : Nat) : Int) := by
                have := HM.out
                rw [wrap_u64, ← Int.natCast_mul]; omega
              have g6 : IntKind.u64.wrap (((v * b : Nat) : Int) + (x : Int)) = ((v * b + x : Nat) : Int) := by
                have := HM.out
                rw [wrap_u64]; omega
              have HLE := Aside0.mk hle; clear hle
              have HL := Aside0.mk hL; clear hL
              go_wp2_with (go_at_call 77; refine (HVA.out _).mono ?_; rintro e w' ⟨rfl, hb⟩; have HB2 := Aside0.mk (below_step HB.out hb); clear hb HB)
              go_step3
              exact ⟨rfl, HK.out _ _ (Handed.intro (s.size - (i + 1)) (by omega) (HJ.out _ _ _ _ _ _ _ _ _ _ _ _ _ _ _ _ _ _ _ _ _ _ _ _ _ _ _ _ _ _ _ _ _ _ _ _ _ _ _ _ _ _ _ _ _ _ _ ⟨i + 1, v * b + x, rfl, by omega, HLE, (by simp [*]; have h9 := g6; simp only [Int.natCast_add, Int.natCast_mul] at h9; exact h9), by simp, HL, HB2⟩))⟩
theorem num_take.calls (a0 : ByteArray) (a1 : Int) (a2 : Int) (r1 : Int) (r2 : Bool) (w : World) (h : num_take.f a0 a1 a2 = some (r1, r2)) :
    Calls Try.prog 73 #[.string a0, .int .u64 a1, .int .u64 a2] w fun e w' => e = .returned (.tuple #[.int .u64 r1, .bool r2]) ∧ Below w.heap.size w w' := by
  unfold num_take.f at h
  split at h
  · rename_i hc
    obtain ⟨h0, h1, h2, h3, h4⟩ := hc
    obtain ⟨b, rfl⟩ := Int.eq_ofNat_of_zero_le (show 0 ≤ a1 by omega)
    obtain ⟨m, rfl⟩ := Int.eq_ofNat_of_zero_le (show 0 ≤ a2 by omega)
    have h := Option.some.inj h
    simp only [Prod.mk.injEq, Int.toNat_natCast] at h
    obtain ⟨rfl, rfl⟩ := h
    exact take_calls a0 b m w (by omega) (by omega) (by omega) (by omega) h4
  · cases h
end Go.Proofs.Ytbkcdfiokjhcjaa.P
