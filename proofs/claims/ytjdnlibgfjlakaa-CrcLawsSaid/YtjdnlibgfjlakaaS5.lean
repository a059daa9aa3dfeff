import Derived.Test.YtjdnlibgfjlakaaS1
import Derived.Test.YtjdnlibgfjlakaaH
import Derived.Laws.CopyOwn
import Derived.RegionTactic
import Derived.ChangeAlike
namespace Go.Proofs.Ytjdnlibgfjlakaa.P
open Go.RowKit Go.Proofs.YtjdnlibgfjlakaaW.PrintWords Go.Proofs.YtjdnlibgfjlakaaW.PrintLast Go.Proofs.YtjdnlibgfjlakaaW.PrintMore Go.Proofs.Ytjdnlibgfjlakaa.H
set_option linter.unusedVariables false
set_option linter.unusedSimpArgs false
def flipStep (len : Nat) (a1 a2 : Int) (l : List Int) (i : Nat) : List Int := if bits .and .u32 (a2 / 2 ^ i) 1 = 1 ∧ 0 ≤ a1 + i ∧ a1 + i < 8 * (len : Int) then l.set ((a1 + i) / 8).toNat (bits .xor .u8 (rd l ((a1 + i) / 8)) (2 ^ ((a1 + i) % 8).toNat % 256)) else l
def flipTo (l : List Int) (a1 a2 : Int) (i : Nat) : List Int := (List.range i).foldl (flipStep l.length a1 a2) l
def crc_Flip.f (l0 : List Int) (a1 : Int) (a2 : Int) : Option (List Int) := if l0.length ≤ 1000 then some (if a1 ≤ -32 ∨ 8 * (l0.length : Int) ≤ a1 then l0 else flipTo l0 a1 a2 32) else none
theorem flip_len (l : List Int) (a1 a2 : Int) (i : Nat) : (flipTo l a1 a2 i).length = l.length := by
  unfold flipTo
  have : ∀ (js : List Nat) (m : List Int), (js.foldl (flipStep l.length a1 a2) m).length = m.length := by
    intro js
    induction js with
    | nil => intro m; rfl
    | cons j js ih => intro m; rw [List.foldl_cons, ih]; unfold flipStep; split <;> simp
  exact this _ _
theorem flip_succ (l : List Int) (a1 a2 : Int) (i : Nat) : flipTo l a1 a2 (i + 1) = flipStep l.length a1 a2 (flipTo l a1 a2 i) i := by
  unfold flipTo; rw [List.range_succ, List.foldl_append]; rfl
theorem made_list (n : Nat) : madeCells #[Value.int .u8 0] n = (List.replicate n (Value.int .u8 0)).toArray := by
  unfold madeCells
  apply Array.ext (by simp)
  intro i h1 h2
  simp [Nat.mod_one]
theorem C_pos {k : IntKind} {w : World} {A : Option Addr} {l : List Int} (h : Kd.C (Kd.int k) w A l.length l) (hp : 0 < l.length) : ∃ ad, A = some ad ∧ ∀ j v, (l.map (Value.int k))[j]? = some v → w.cell? (ad.add j) = some v := by
  cases A with
  | none => have := C_none h; subst this; simp at hp
  | some ad => exact ⟨ad, rfl, C_cells h⟩
theorem splice_all (n : Nat) (l : List Value) (h : l.length = n) (z : Value) : splice (List.replicate n z) 0 l = l := by
  simp [splice, h]
theorem R_block {w0 w : World} {g n : Nat} {L : List Int} (h : w.heap[g]? = some (.cells (L.map (Value.int .u8)).toArray 5 (0, 0))) (hg : w0.heap.size ≤ g) (hn : L.length = n) (hm : n ≤ maxLen) :
    Kd.R (Kd.int .u8) 5 w w0.heap.size (fun _ => True) (.slice (some ⟨g, 0, none⟩) n n) L := by
  subst hn
  exact Kd.R_of_own (enc := Value.int .u8) (h1 := fun _ => rfl) ⟨by simp [encs], .inr ⟨g, L.length, _, rfl, hg, h, Nat.le_refl _, hm, by simp, by rw [List.take_of_length_le (by simp)]; rfl⟩⟩ (fun _ _ => trivial)
def FlipPost (w : World) (r : List Int) (e : Ending) (w' : World) : Prop := ∃ v0_ : Value, e = .returned (v0_) ∧ Kd.R (Kd.int .u8) 5 w' w.heap.size (fun _ => True) v0_ r ∧ Below w.heap.size w w'
set_option maxHeartbeats 1000000 in
set_option maxRecDepth 100000 in
theorem flip_calls (A0 : Option Addr) (c0 : Nat) (l0 : List Int) (a1 : Int) (a2 : Int) (w : World) (hr0 : Kd.C (Kd.int .u8) w A0 l0.length l0) (hc0 : l0.length ≤ c0) (hb : l0.length ≤ 1000) :
    Calls Try.prog 22 #[.slice A0 l0.length c0, .int .i64 a1, .int .u32 a2] w (FlipPost w (if a1 ≤ -32 ∨ 8 * (l0.length : Int) ≤ a1 then l0 else flipTo l0 a1 a2 32)) := by
  have HR := Aside0.mk hr0; clear hr0
  have hmk := print_make_int (P := Try.prog) 27 5 (.int .u8 0) 1 Try.underlying27 info5 rfl (by decide) l0.length (by omega) (by omega)
  simp only [Int.toNat_natCast, made_list] at hmk
  obtain ⟨i5, hi5, hz5, hs5, hb5⟩ := info_parts info5
  have hsz : (Try.prog.info? 5).map (·.size) = some 1 := by rw [hi5]; exact congrArg some hs5
  have Hsz := Aside0.mk hsz; clear hsz hi5 hz5 hs5 hb5
  have hsp := splice_all l0.length (l0.map (Value.int .u8)) (by simp) (Value.int .u8 0)
  have HSP := Aside0.mk hsp; clear hsp
  obtain ⟨F, hF⟩ : ∃ F, F = (if a1 ≤ -32 ∨ 8 * (l0.length : Int) ≤ a1 then l0 else flipTo l0 a1 a2 32) := ⟨_, rfl⟩
  rw [← hF]
  have HF := Aside0.mk hF; clear hF
  go_enter Try.func22, Try.ntmps22
  go_wp2_with (first | (refine wpList_copy_splice rfl (.tmp 13) (.tmp 14) 27 27 rfl 5 Try.underlying27 Hsz.out (some ⟨w.heap.size, 0, none⟩) A0 l0.length l0.length l0.length c0 rfl rfl w.heap.size 0 (List.replicate l0.length (Value.int .u8 0)) 5 (blk_new w _) (l0.map (Value.int .u8)) (by simp) (fun hp => ⟨rfl, C_pos (Kd.C_below HR.out (below_alloc (Below.refl _ _) _)) (by simpa using hp)⟩) (by simp) (by intro v hv; obtain ⟨x, _, rfl⟩ := List.mem_map.1 hv; rfl) w.heap.size w (below_alloc (Below.refl _ _) _) (Nat.le_refl _) ?_; intro w2 hg2 hb2; have hg3 := hg2.out; clear hg2; rw [HSP.out] at hg3; have HG := Aside0.mk hg3; clear hg3; have HB := Aside0.mk hb2; clear hb2))
  · go_ret
    rw [HF.out, if_pos (.inr (by omega))]
    exact ⟨_, rfl, R_block HG.out (Nat.le_refl _) rfl (by unfold maxLen; omega), HB.out⟩
  · go_loopw [26] (fun v26 wr => ∃ i : Nat, i ≤ 32 ∧ v26 = .int .i64 i ∧ Aside0 (wr.heap[w.heap.size]? = some (.cells ((flipTo l0 a1 a2 i).map (Value.int .u8)).toArray 5 (0, 0))) ∧ Aside0 (Below w.heap.size w wr)) (fun v26 _ => 32 - (intOf v26).toNat)
    case atStart => exact ⟨0, by omega, rfl, ⟨HG.out⟩, ⟨HB.out⟩⟩
    case round =>
      obtain ⟨i, hi, rfl, HC, HB2⟩ := hrel
      clear HB HG
      by_cases hlt : i < 32
      · have hs := flip_succ l0 a1 a2 i
        by_cases hC : bits .and .u32 (a2 / 2 ^ i) 1 = 1 ∧ 0 ≤ a1 + i ∧ a1 + i < 8 * (l0.length : Int)
        · rw [flipStep, if_pos hC] at hs
          obtain ⟨h1, h2, h3⟩ := hC
          obtain ⟨q, hq⟩ := Int.eq_ofNat_of_zero_le h2
          rw [hq] at hs h2 h3
          have e1 : ((q : Int) / 8).toNat = q / 8 := by omega
          have e2 : ((q : Int) % 8).toNat = q % 8 := by omega
          rw [e1, e2] at hs
          have hlt8 : q / 8 < l0.length := by omega
          obtain ⟨b, hb'⟩ : ∃ b, b = rd (flipTo l0 a1 a2 i) ((q : Int) / 8) := ⟨_, rfl⟩
          rw [← hb'] at hs
          have hcell : wr.cell? ⟨w.heap.size, q / 8, none⟩ = some (.int .u8 b) := by
            rw [blk_cell HC.out, hb', rd, e1]
            simp [flip_len, hlt8]
          have hfr := blk_frozen HC.out (q / 8)
          have HS := Aside0.mk hs; clear hs
          clear hb' e1 e2
          go_wp2
          go_region
          all_goals go_wp2
          all_goals
            go_roundw
            case rel =>
              refine ⟨i + 1, by omega, by go_num, ⟨?_⟩, ⟨below_drew (below_set HB2.out (Nat.le_refl _))⟩⟩
              refine blk_put HC.out _ _ ?_
              rw [HS.out, List.setIfInBounds_toArray, List.map_set]
            case measure => simp [intOf]; omega
        · rw [flipStep, if_neg hC] at hs
          have HS := Aside0.mk hs; clear hs
          have HN := Aside0.mk hC; clear hC
          go_wp2
          · exact absurd ⟨‹_›, ‹_›, ‹_›⟩ HN.out
          all_goals
            go_roundw
            case rel => exact ⟨i + 1, by omega, by go_num, ⟨by rw [HS.out]; exact HC.out⟩, HB2⟩
            case measure => simp [intOf]; omega
      · obtain rfl : i = 32 := by omega
        go_wp2
        go_ret
        rw [HF.out, if_neg (by omega)]
        exact ⟨_, rfl, R_block HC.out (Nat.le_refl _) (flip_len _ _ _ _) (by unfold maxLen; omega), HB2.out⟩
  · go_ret
    rw [HF.out, if_pos (.inl (by omega))]
    exact ⟨_, rfl, R_block HG.out (Nat.le_refl _) rfl (by unfold maxLen; omega), HB.out⟩
theorem crc_Flip.calls (A0 : Option Addr) (c0 : Nat) (l0 : List Int) (a1 : Int) (a2 : Int) (r : List Int) (w : World) (hr0 : Kd.C (Kd.int .u8) w A0 l0.length l0) (hc0 : l0.length ≤ c0) (h : crc_Flip.f l0 a1 a2 = some r) :
    Calls Try.prog 22 #[.slice A0 l0.length c0, .int .i64 a1, .int .u32 a2] w fun e w' => ∃ v0_ : Value, e = .returned (v0_) ∧ Kd.R (Kd.int .u8) 5 w' w.heap.size (fun _ => True) v0_ r ∧ Below w.heap.size w w' := by
  unfold crc_Flip.f at h
  split at h
  · obtain rfl := Option.some.inj h
    exact flip_calls A0 c0 l0 a1 a2 w hr0 hc0 ‹_›
  · cases h
end Go.Proofs.Ytjdnlibgfjlakaa.P
