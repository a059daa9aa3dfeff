import Derived.Test.YtbkcdfiokjhcjaaF77
import Derived.Test.YtbkcdfiokjhcjaaF78
import Derived.Test.YtbkcdfiokjhcjaaH
import Derived.Test.YtbkcdfiokjhcjaaB
import Derived.RegionTactic
namespace Go.Proofs.Ytbkcdfiokjhcjaa.P
open Go.Proofs.Ytbkcdfiokjhcjaa.B Go.RowKit Go.Proofs.YtbkcdfiokjhcjaaW.PrintWords Go.Proofs.YtbkcdfiokjhcjaaW.PrintLast Go.Proofs.YtbkcdfiokjhcjaaW.PrintMore Go.Proofs.Ytbkcdfiokjhcjaa.H
set_option linter.unusedVariables false
set_option linter.unusedSimpArgs false
/-- A digit's byte. -/
def digB (d : Nat) : UInt8 := if d < 10 then UInt8.ofNat (48 + d) else UInt8.ofNat (87 + d)
def digL (b : Nat) : Nat → Nat → List UInt8 → List UInt8
  | 0, _, acc => acc
  | k + 1, w, acc => if w / b = 0 then digB (w % b) :: acc else digL b k (w / b) (digB (w % b) :: acc)
def num_digits.f (a0 : Int) (a1 : Int) : Option (ByteArray) := if 0 ≤ a0 ∧ a0 ≤ 18446744073709551615 ∧ 2 ≤ a1 ∧ a1 ≤ 16 then some ⟨(digL a1.toNat 64 a0.toNat []).toArray⟩ else none
theorem put_is (d : Nat) (hd : d < 16) (acc : List UInt8) (hl : acc.length ≤ 64) : num_put.f ((digB d).toNat : Int) ⟨acc.toArray⟩ = some ⟨(digB d :: acc).toArray⟩ := by
  unfold num_put.f
  have e : strOfNums [((digB d).toNat : Int)] ++ ⟨acc.toArray⟩ = (⟨(digB d :: acc).toArray⟩ : ByteArray) := by
    apply ByteArray.ext
    simp [strOfNums]
  have hs : (strOfNums [((digB d).toNat : Int)]).size + (⟨acc.toArray⟩ : ByteArray).size ≤ 9223372036854775807 := by
    have : (strOfNums [((digB d).toNat : Int)]).size = 1 := by simp [strOfNums, ByteArray.size]
    rw [this]; simp [ByteArray.size]; omega
  simp only [Option.bind_some]
  rw [if_pos hs, e]
theorem two_pow_half {k v b : Nat} (hb : 2 ≤ b) (h : v < 2 ^ (k + 1)) : v / b < 2 ^ k := by
  have h1 : v / b ≤ v / 2 := Nat.div_le_div_left hb (by decide)
  rw [Nat.pow_succ] at h
  omega
def DigPost (w : World) (r : ByteArray) (e : Ending) (w' : World) : Prop := e = .returned (.string r) ∧ Below w.heap.size w w'
theorem all_at : ∀ (d : Nat) (hd : d < 16) (h : d < (⟨#[48, 49, 50, 51, 52, 53, 54, 55, 56, 57, 97, 98, 99, 100, 101, 102]⟩ : ByteArray).size), (⟨#[48, 49, 50, 51, 52, 53, 54, 55, 56, 57, 97, 98, 99, 100, 101, 102]⟩ : ByteArray)[d]'h = digB d := by
  intro d hd
  have : ∀ d : Fin 16, ∀ h : d.1 < (⟨#[48, 49, 50, 51, 52, 53, 54, 55, 56, 57, 97, 98, 99, 100, 101, 102]⟩ : ByteArray).size, (⟨#[48, 49, 50, 51, 52, 53, 54, 55, 56, 57, 97, 98, 99, 100, 101, 102]⟩ : ByteArray)[d.1]'h = digB d.1 := by decide
  exact this ⟨d, hd⟩
theorem put_at (d : Nat) (hd : d < 16) (h : d < (⟨#[48, 49, 50, 51, 52, 53, 54, 55, 56, 57, 97, 98, 99, 100, 101, 102]⟩ : ByteArray).size) (acc : List UInt8) (hl : acc.length ≤ 64) (w : World) :
    Calls Try.prog 78 #[.int .u8 (((⟨#[48, 49, 50, 51, 52, 53, 54, 55, 56, 57, 97, 98, 99, 100, 101, 102]⟩ : ByteArray)[d]'h).toNat : Int), .string ⟨acc.toArray⟩] w (DigPost w ⟨(digB d :: acc).toArray⟩) := by
  rw [all_at d hd h]
  exact num_put.calls _ _ _ w (put_is d hd acc hl)
set_option maxHeartbeats 4000000 in
set_option maxRecDepth 100000 in
theorem digits_calls (a b : Nat) (w : World) (ha : a < 2 ^ 64) (hb2 : 2 ≤ b) (hb16 : b ≤ 16) :
    Calls Try.prog 74 #[.int .u64 (a : Int), .int .u64 (b : Int)] w (DigPost w ⟨(digL b 64 a []).toArray⟩) := by
  obtain ⟨D, hD⟩ : ∃ D, digL b 64 a [] = D := ⟨_, rfl⟩
  rw [hD]
  have HD := Aside0.mk hD; clear hD
  have HA := Aside0.mk ha; clear ha
  have hb0 : ((b : Int) == 0) = false := beq_eq_false_iff_ne.mpr (by omega)
  go_enter Try.func74, Try.ntmps74
  go_wp2
  refine wp_scope_enter 0 rfl ?_
  go_wp2
  go_step3
  simp only [Exit.then]
  rename_i hk
  refine hk _ _ ?_
  clear hk
  refine wp_label_slots 0 (by rfl) (List.range' 0 18) (fun n us wr => ∃ (k v : Nat) (acc : List UInt8), n = k + 1 ∧ acc.length + (k + 1) = 64 ∧ Aside0 (v < 2 ^ (k + 1)) ∧ us.getD 0 undef = .int .u64 v ∧ us.getD 1 undef = .int .u64 b ∧ us.getD 5 undef = .string ⟨acc.toArray⟩ ∧ Aside0 (digL b (k + 1) v acc = D) ∧ Aside0 (Below w.heap.size w wr)) 64 ?_ ?_
  · exact ⟨63, a, [], rfl, rfl, HA, rfl, rfl, rfl, HD, ⟨Below.refl _ _⟩⟩
  · rintro n us wr hl ⟨k, v, acc, rfl, hacc, HV, h0, h1, h5, HL, HB⟩ J K hJ hK
    clear HA HD
    simp only [List.length_range'] at hl
    match us, hl with
    | u0 :: u1 :: u2 :: u3 :: u4 :: u5 :: u6 :: u7 :: u8 :: u9 :: u10 :: u11 :: u12 :: u13 :: u14 :: u15 :: u16 :: u17 :: [], _ =>
    simp only [List.getD_cons_succ, List.getD_cons_zero] at h0 h1 h5
    subst h0 h1 h5
    simp only [List.range', putS, Act.put, List.setIfInBounds_toArray, List.set_cons_zero, List.set_cons_succ]
    rename_i hx
    clear hx
    have hJ2 := fun (k : Nat) (v0 v1 v2 v3 v4 v5 v6 v7 v8 v9 v10 v11 v12 v13 v14 v15 v16 v17 : Value) (w' : World) => hJ k (v0 :: v1 :: v2 :: v3 :: v4 :: v5 :: v6 :: v7 :: v8 :: v9 :: v10 :: v11 :: v12 :: v13 :: v14 :: v15 :: v16 :: v17 :: []) _ w' rfl rfl
    clear hJ
    simp only [List.range', putS, Act.put, List.setIfInBounds_toArray, List.set_cons_zero, List.set_cons_succ] at hJ2
    have HJ := Aside0.mk hJ2; clear hJ2
    have HK := Aside0.mk hK; clear hK
    obtain ⟨d, Hd⟩ : ∃ d, Aside0 (v % b = d) := ⟨_, ⟨rfl⟩⟩
    obtain ⟨q, Hq⟩ : ∃ q, Aside0 (v / b = q) := ⟨_, ⟨rfl⟩⟩
    have hd : d < 16 := by have := Nat.mod_lt v (show b > 0 by omega); have := Hd.out; omega
    have hm : (v : Int) % (b : Int) = (d : Int) := by rw [← Hd.out]; omega
    have hq : (v : Int) / (b : Int) = (q : Int) := by rw [← Hq.out]; omega
    have hd0 : 0 ≤ (d : Int) ∧ (d : Int) < 16 := by omega
    have hacc1 : acc.length ≤ 64 := by omega
    have hL := HL.out
    rw [digL, Hd.out, Hq.out] at hL
    have hqk : q < 2 ^ k := by rw [← Hq.out]; exact two_pow_half hb2 HV.out
    have hv64 : v < 2 ^ 64 := Nat.lt_of_lt_of_le HV.out (Nat.pow_le_pow_right (by decide) (by omega))
    have hwr : IntKind.u64.wrap (q : Int) = (q : Int) := by
      have : q ≤ v := by rw [← Hq.out]; exact Nat.div_le_self _ _
      rw [wrap_u64]; omega
    clear HL HV Hd Hq hv64
    by_cases hz : q = 0
    · rw [if_pos hz] at hL
      subst hz
      have HL := Aside0.mk hL; clear hL
      go_wp2_with (go_at_call 78; refine (put_at d hd _ acc hacc1 _).mono ?_; rintro e w' ⟨rfl, hb⟩; have HB2 := Aside0.mk (below_step HB.out hb); clear hb HB)
      simp only [Exit.jump]
      go_ret
      rw [HL.out]
      exact ⟨rfl, HB2.out⟩
    · rw [if_neg hz] at hL
      have HL := Aside0.mk hL; clear hL
      have hq0 : (0 < q) = True := by simp; omega
      obtain ⟨k, rfl⟩ : ∃ k', k = k' + 1 := by
        cases k with
        | zero => exact absurd hqk (by omega)
        | succ k => exact ⟨k, rfl⟩
      have HQ := Aside0.mk hqk; clear hqk
      go_wp2_with (go_at_call 78; refine (put_at d hd _ acc hacc1 _).mono ?_; rintro e w' ⟨rfl, hb⟩; have HB2 := Aside0.mk (below_step HB.out hb); clear hb HB)
      go_step3
      exact ⟨rfl, HK.out _ _ (Handed.intro (k + 1) (by omega) (HJ.out _ _ _ _ _ _ _ _ _ _ _ _ _ _ _ _ _ _ _ _ ⟨k, q, digB d :: acc, rfl, by simp; omega, HQ, rfl, rfl, rfl, HL, HB2⟩))⟩
theorem num_digits.calls (a0 : Int) (a1 : Int) (r : ByteArray) (w : World) (h : num_digits.f a0 a1 = some r) :
    Calls Try.prog 74 #[.int .u64 a0, .int .u64 a1] w fun e w' => e = .returned (.string r) ∧ Below w.heap.size w w' := by
  unfold num_digits.f at h
  split at h
  · rename_i hc
    obtain ⟨h0, h1, h2, h3⟩ := hc
    obtain ⟨a, rfl⟩ := Int.eq_ofNat_of_zero_le h0
    obtain ⟨b, rfl⟩ := Int.eq_ofNat_of_zero_le (show 0 ≤ a1 by omega)
    obtain rfl := Option.some.inj h
    exact digits_calls a b w (by omega) (by omega) (by omega)
  · cases h
end Go.Proofs.Ytbkcdfiokjhcjaa.P
