/- Several texts of this proof in one: what the law's functions come to, and the lemmas (some as the kit's print.sh printed them, what is not used struck). -/
import Derived.Test.YtajgillnkkkgjaaM2
import Derived.Lib.SlBytesConst
section
/- What was written is read; 'alive' of chapter 10. -/
namespace Go.Proofs.Ytajgillnkkkgjaa.P
open Go.RowKit Go.Proofs.YtajgillnkkkgjaaW.PrintWords Go.Proofs.YtajgillnkkkgjaaW.PrintLast Go.Proofs.YtajgillnkkkgjaaW.PrintMore Go.Proofs.Ytajgillnkkkgjaa.H Go.Proofs.Ytajgillnkkkgjaa.Pure
set_option linter.unusedVariables false
set_option linter.unusedSimpArgs false
def recP (p : List Int) : List Int := headP p ++ p
theorem headP_len (p : List Int) : (headP p).length = 8 := by simp [headP, putList_len]
theorem recP_len (p : List Int) : (recP p).length = 8 + p.length := by rw [recP, List.length_append, headP_len]
theorem isB_put (x : Int) (k : Nat) : isB (putList x k) := by
  intro y hy
  obtain ⟨i, _, rfl⟩ := List.mem_map.1 hy
  unfold byteAt
  omega
theorem isB_rec {p : List Int} (h : isB p) : isB (recP p) := isB_app (isB_app (isB_put _ _) (isB_put _ _)) h
theorem be4_put (n : Int) (t : List Int) (h0 : 0 ≤ n) (h1 : n < 4294967296) : be4 (putList n 4 ++ t) = n := by
  have e : putList n 4 = [n / 16777216 % 256, n / 65536 % 256, n / 256 % 256, n % 256] := by
    simp [putList, List.range, List.range.loop, byteAt]
  rw [e]
  simp only [be4, List.cons_append, List.nil_append, List.take_succ_cons, List.take_zero, val, List.foldl_cons, List.foldl_nil]
  omega
theorem readP_rec (p t : List Int) (hl : p.length ≤ 65536) : readP (recP p ++ t) = (p, t, 0) := by
  have hs := crcM_range (crcM 0 (putList p.length 4)) p
  have e0 : recP p ++ t = putList p.length 4 ++ (putList (crcM (crcM 0 (putList p.length 4)) p) 4 ++ (p ++ t)) := by simp [recP, headP]
  have l4 : ∀ x, (putList x 4).length = 4 := fun x => putList_len x 4
  have e1 : be4 (recP p ++ t) = p.length := by rw [e0]; exact be4_put _ _ (by omega) (by omega)
  have e2 : (recP p ++ t).drop 4 = putList (crcM (crcM 0 (putList p.length 4)) p) 4 ++ (p ++ t) := by
    rw [e0]; exact List.drop_left' (l4 _)
  have e3 : (recP p ++ t).take 4 = putList p.length 4 := by rw [e0]; exact List.take_left' (l4 _)
  have e4 : (recP p ++ t).drop 8 = p ++ t := by
    rw [show 8 = 4 + 4 from rfl, ← List.drop_drop, e2]; exact List.drop_left' (l4 _)
  have e5 : (recP p ++ t).length = 8 + p.length + t.length := by rw [List.length_append, recP_len]
  unfold readP
  rw [if_neg (by omega), e1, if_neg (by omega), if_neg (by omega), e2, be4_put _ _ hs.1 (by omega), e3, e4, Int.toNat_natCast, List.take_left, List.drop_left, if_neg (by simp)]
theorem allP_rec (p t : List Int) (k : Nat) (hl : p.length ≤ 65536) : allP (k + 1) (recP p ++ t) = (p :: (allP k t).1, 8 + p.length + (allP k t).2) := by
  rw [allP, readP_rec p t hl]
  simp
theorem allP_nil (k : Nat) : allP k [] = ([], 0) := by
  cases k with
  | zero => rfl
  | succ k =>
    rw [allP]
    rw [if_neg (by unfold readP; rw [if_pos (by decide)]; decide)]
def RdTwoC (x : List Int × List Int × Int) (w : World) (e : Ending) (w' : World) : Prop := ∃ A c B d, e = .returned (.tuple #[.slice A x.1.length c, .slice B x.2.1.length d, .int .i64 x.2.2]) ∧ x.1.length ≤ c ∧ Kd.C (Kd.int .u8) w' A x.1.length x.1 ∧ x.2.1.length ≤ d ∧ Kd.C (Kd.int .u8) w' B x.2.1.length x.2.1 ∧ Below w.heap.size w w'
theorem RdTwo.C {P : Nat → Prop} {x : List Int × List Int × Int} {w w' : World} {e : Ending} (h : RdTwo P x w e w') : RdTwoC x w e w' := by
  obtain ⟨A, c, B, d, h1, h2, h3, h4, h5, h6⟩ := h
  exact ⟨A, c, B, d, h1, h2, Kd.F_now h3, h4, Kd.F_now h5, h6⟩
theorem read_C {l x r : List Int} {y : Int} (hx : readP l = (x, r, y)) {A0 : Option Addr} {c0 : Nat} {w : World} (h0 : Kd.C (Kd.int .u8) w A0 l.length l) (hc0 : l.length ≤ c0) (hb : isB l) :
    Calls Try.prog 40 #[.slice A0 l.length c0] w (RdTwoC (x, r, y) w) := (read_rd A0 c0 l w h0 hc0 hb).mono (fun _ _ h => hx ▸ h.C)
theorem all_C {l : List Int} {ls : List (List Int)} {n : Nat} (hx : allP l.length l = (ls, n)) {A0 : Option Addr} {c0 : Nat} {w : World} (h0 : Kd.C (Kd.int .u8) w A0 l.length l) (hc0 : l.length ≤ c0) (hb : isB l) (hl : l.length ≤ 1000000) :
    Calls Try.prog 42 #[.slice A0 l.length c0] w (RowsPost ls n w) := (all_rd A0 c0 l w h0 hc0 hb hl).mono (fun _ _ h => by rw [hx] at h; exact h)
theorem C_const (w : World) (l : List Int) (hl : l.length ≤ 9223372036854775807) (cs : Array Value) (hcs : cs = (l.map (Value.int .u8)).toArray) (fr : Nat × Nat) : Kd.C (Kd.int .u8) (w.alloc (.cells cs 5 fr)) (some ⟨w.heap.size, 0, none⟩) l.length l := by
  subst hcs
  refine C_of_cells hl ?_
  intro j u hj
  rw [add_plain', cell_of_row _ _ _ _ _ _ (heap_alloc_new w _)]
  simpa using hj
theorem str_eq {xs : List Int} {s : ByteArray} (h : strOfNums xs = s) {P : Program} {w : World} {t A n c} (hc : (convert t 9 (.slice A n c)).run P w = .ok (.string (strOfNums xs)) w) : (convert t 9 (.slice A n c)).run P w = .ok (.string s) w := h ▸ hc
theorem write_nil (A1 : Option Addr) (c1 : Nat) (p : List Int) (w : World) (h1 : Kd.C (Kd.int .u8) w A1 p.length p) (hc1 : p.length ≤ c1) (hp : p.length ≤ 65536) : Calls Try.prog 35 #[.slice none 0 0, .slice A1 p.length c1] w (RdPost2 (recP p) w) :=
  write_rd none 0 [] A1 c1 p (recP p) w (by simp [recP]) (nilC w) (Nat.le_refl _) h1 hc1 hp (by simp)
theorem size38 {n : Nat} (h : n ≤ 65536) (w : World) : Calls Try.prog 38 #[.int .i64 n] w fun e w' => e = .returned (.int .i64 (8 + n)) ∧ Drawn0 w w' := by
  refine frame_Size.calls n (8 + n) w ?_
  unfold frame_Size.f
  rw [if_neg (by omega), if_neg (by omega)]
  congr 1
  unfold wrap64
  omega
def tallymanlaw10_alive.f : Option Bool := some true
set_option maxHeartbeats 1000000 in
set_option maxRecDepth 100000 in
theorem tallymanlaw10_alive.calls (r : Bool) (w : World) (h : tallymanlaw10_alive.f = some r) :
    Calls Try.prog 34 #[] w fun e w' => e = .returned (.bool r) ∧ Below w.heap.size w w' := by
  obtain rfl : true = r := Option.some.inj h
  clear h
  have hc1 : ∀ (W : World) (n c : Nat), (convert 51 51 (.slice (some ⟨W.heap.size, 0, none⟩) n c)).run Try.prog (W.alloc (.cells #[.int .u8 103, .int .u8 111] 5)) = .ok (.slice (some ⟨W.heap.size, 0, none⟩) n c) (W.alloc (.cells #[.int .u8 103, .int .u8 111] 5 (2, 3))) :=
    fun W n c => Go.Lib.run_convert_bytes_const (P := Try.prog) W 51 5 _ n c Try.underlying51 Try.underlying5
  have ip : isB [103, 111] := by intro x hx; simp at hx; omega
  obtain ⟨l, hl⟩ : ∃ l, recP [103, 111] = l := ⟨_, rfl⟩
  have l10 : l.length = 10 := by rw [← hl, recP_len]; rfl
  have il := isB_rec ip
  have hr := readP_rec [103, 111] [] (by decide)
  have ha := allP_rec [103, 111] [] 9 (by decide)
  rw [List.append_nil, hl] at hr ha
  rw [allP_nil, show 9 + 1 = l.length from l10.symm] at ha
  rw [hl] at il
  have k1 : ∀ W : World, Calls Try.prog 35 #[.slice none 0 0, .slice (some ⟨W.heap.size, 0, none⟩) 2 2] (W.alloc (.cells #[.int .u8 103, .int .u8 111] 5 (2, 3))) (RdPost2 l (W.alloc (.cells #[.int .u8 103, .int .u8 111] 5 (2, 3)))) :=
    fun W => hl ▸ write_nil _ 2 [103, 111] _ (C_const W [103, 111] (by decide) _ rfl _) (by decide) (by decide)
  have K1 := Aside0.mk k1; clear k1
  have HR := Aside0.mk hr; have HA := Aside0.mk ha; have HI := Aside0.mk il; have HL := Aside0.mk l10
  have t1 : ((l.length : Int) == 10) = true := by rw [l10]; rfl
  clear hr ha il l10 hl ip
  go_enter Try.func34, Try.ntmps34
  go_wp2_with (first
    | (go_at_call 35; (with_reducible refine (K1.out _).mono ?_); rintro e w1 ⟨A, c, rfl, hcA, hC, hB⟩; have HC := Aside0.mk hC; have HcA := Aside0.mk hcA; have HB1 := Aside0.mk (below_step (below_alloc (Below.refl w.heap.size w) _) hB); clear hC hcA hB)
    | (go_at_call 40; (with_reducible refine (read_C HR.out HC.out HcA.out HI.out).mono ?_); rintro e w2 ⟨B, d, D, f, rfl, hcB, hCB, hcD, hCD, hB⟩; have HCB := Aside0.mk hCB; have HC2 := Aside0.mk (Kd.C_below HC.out hB); have HB2 := Aside0.mk (below_step HB1.out hB); clear hcB hCB hcD hCD hB)
    | (go_at_call 42; (with_reducible refine (all_C HA.out HC2.out HcA.out HI.out (by have := HL.out; omega)).mono ?_); rintro e w3 ⟨E, g, rfl, hcE, hCE, hB⟩; have hcv := str_eq (s := ⟨#[103, 111]⟩) (by rfl) (Kd.C_string (P := Try.prog) (n := 2) (c := d) Try.underlying51 Try.underlying5 Try.underlying9 (Kd.C_below HCB.out hB)); have HB3 := Aside0.mk (below_step HB2.out hB); clear hcE hCE hB)
    | (go_at_call 38; refine (size38 (n := 2) (by decide) _).mono ?_; rintro e w4 ⟨rfl, hd⟩; have HB4 := Aside0.mk (below_step HB3.out hd.below); clear hd))
  go_ret
  exact ⟨rfl, HB4.out⟩
end Go.Proofs.Ytajgillnkkkgjaa.P
end
section
/- One byte changed: the record is not read. -/
namespace Go.Proofs.Ytajgillnkkkgjaa.P
open Go.RowKit Go.Proofs.YtajgillnkkkgjaaW.PrintWords Go.Proofs.YtajgillnkkkgjaaW.PrintLast Go.Proofs.YtajgillnkkkgjaaW.PrintMore Go.Proofs.Ytajgillnkkkgjaa.H Go.Proofs.Ytajgillnkkkgjaa.Pure Go.Proofs.Ytajgillnkkkgjaa.B
set_option linter.unusedVariables false
set_option linter.unusedSimpArgs false
theorem st_zero_inj {m : Nat} (h : m < 2 ^ 32) (h0 : st m = 0) : m = 0 := by
  unfold st at h0
  by_cases hm : m % 2 = 1
  · rw [if_pos hm] at h0
    have h1 : m / 2 = 3988292384 := by
      have := congrArg (· ^^^ 3988292384) h0
      simp only [Nat.xor_assoc, Nat.xor_self, Nat.xor_zero, Nat.zero_xor] at this
      exact this
    omega
  · rw [if_neg hm] at h0
    omega
theorem sts_zero_inj (k : Nat) : ∀ {m : Nat}, m < 2 ^ 32 → sts k m = 0 → m = 0 := by
  induction k with
  | zero => intro m _ h; exact h
  | succ k ih => intro m hm h; exact st_zero_inj hm (ih (st_lt hm) h)
theorem sts_inj (k : Nat) {a b : Nat} (ha : a < 2 ^ 32) (hb : b < 2 ^ 32) (h : sts k a = sts k b) : a = b := by
  have h1 : sts k (a ^^^ b) = 0 := by rw [sts_xor, h, Nat.xor_self]
  have h2 := sts_zero_inj k (Nat.xor_lt_two_pow ha hb) h1
  have h3 := congrArg (· ^^^ b) h2
  simp only [Nat.xor_assoc, Nat.xor_self, Nat.xor_zero, Nat.zero_xor] at h3
  exact h3
theorem xor_inj_left {a b c : Nat} (h : a ^^^ c = b ^^^ c) : a = b := by
  have h3 := congrArg (· ^^^ c) h
  simp only [Nat.xor_assoc, Nat.xor_self, Nat.xor_zero] at h3
  exact h3
theorem xor_inj_right {a b c : Nat} (h : c ^^^ a = c ^^^ b) : a = b := by
  rw [Nat.xor_comm c a, Nat.xor_comm c b] at h
  exact xor_inj_left h
theorem foldN_lt32 : ∀ (l : List Nat) (w : Nat), w < 2 ^ 32 → (∀ x ∈ l, x < 256) → foldN l w < 2 ^ 32 := fun l w h hx => (crcFold_nat l w h hx).2
theorem foldN_inj : ∀ (l : List Nat) (w v : Nat), w < 2 ^ 32 → v < 2 ^ 32 → (∀ x ∈ l, x < 256) → foldN l w = foldN l v → w = v := by
  intro l
  induction l with
  | nil => intro w v _ _ _ h; exact h
  | cons x l ih =>
    intro w v hw hv hx h
    have hx0 := hx x (by simp)
    have hw2 := Nat.xor_lt_two_pow hw (show x < 2 ^ 32 by omega)
    have hv2 := Nat.xor_lt_two_pow hv (show x < 2 ^ 32 by omega)
    have h1 := ih _ _ (sts_lt 8 hw2) (sts_lt 8 hv2) (fun y hy => hx y (by simp [hy])) h
    exact xor_inj_left (sts_inj 8 hw2 hv2 h1)
theorem foldN_set (a b : List Nat) (x y w : Nat) (hw : w < 2 ^ 32) (ha : ∀ z ∈ a, z < 256) (hb : ∀ z ∈ b, z < 256) (hx : x < 256) (hy : y < 256) (h : foldN (a ++ x :: b) w = foldN (a ++ y :: b) w) : x = y := by
  have e : ∀ z, foldN (a ++ z :: b) w = foldN b (sts 8 (foldN a w ^^^ z)) := fun z => by simp [foldN, List.foldl_append]
  rw [e, e] at h
  have hA := foldN_lt32 a w hw ha
  have hx2 := Nat.xor_lt_two_pow hA (show x < 2 ^ 32 by omega)
  have hy2 := Nat.xor_lt_two_pow hA (show y < 2 ^ 32 by omega)
  have h1 := foldN_inj b _ _ (sts_lt 8 hx2) (sts_lt 8 hy2) hb h
  exact xor_inj_right (sts_inj 8 hx2 hy2 h1)
theorem val_inj : ∀ (l m : List Int) (a b : Int), l.length = m.length → isB l → isB m → val l a = val m b → a = b ∧ l = m := by
  intro l
  induction l with
  | nil =>
    intro m a b hl _ _ h
    cases m with
    | nil => exact ⟨h, rfl⟩
    | cons y m => simp at hl
  | cons x l ih =>
    intro m a b hl h1 h2 h
    cases m with
    | nil => simp at hl
    | cons y m =>
      obtain ⟨e1, e2⟩ := ih m (a * 256 + x) (b * 256 + y) (by simpa using hl) (fun z hz => h1 z (by simp [hz])) (fun z hz => h2 z (by simp [hz])) h
      have b1 := h1 x (by simp)
      have b2 := h2 y (by simp)
      refine ⟨by omega, ?_⟩
      rw [e2, show x = y by omega]
theorem isB_set {l : List Int} (h : isB l) {v : Int} (h0 : 0 ≤ v) (h1 : v ≤ 255) (i : Nat) : isB (l.set i v) := fun x hx => by
  rcases List.mem_or_eq_of_mem_set hx with h2 | h2
  · exact h x h2
  · omega
theorem set_ne {l : List Int} {i : Nat} (hi : i < l.length) {v : Int} (h : v ≠ l[i]) : l.set i v ≠ l := fun e => h (by
  have : (l.set i v)[i]'(by simpa using hi) = l[i] := by simp only [e]
  rwa [List.getElem_set_self] at this)
theorem crcM_set {h p : List Int} (ih : isB h) (ip : isB p) {v : Int} (h0 : 0 ≤ v) (h1 : v ≤ 255) {k : Nat} (hk : k < p.length) (hv : v ≠ p[k]) : crcM (crcM 0 h) (p.set k v) ≠ crcM (crcM 0 h) p := by
  rw [crcM_app, crcM_app, crcM_nat (isB_app ih (isB_set ip h0 h1 k)), crcM_nat (isB_app ih ip)]
  intro e
  have e1 : crcN 0 ((h ++ p.set k v).map Int.toNat) = crcN 0 ((h ++ p).map Int.toNat) := by omega
  obtain ⟨n1, n2⟩ := nats_is (isB_app ih (isB_set ip h0 h1 k))
  obtain ⟨m1, m2⟩ := nats_is (isB_app ih ip)
  unfold crcN at e1
  have f1 := foldN_lt32 _ (4294967295 - 0) (by decide) n2
  have f2 := foldN_lt32 _ (4294967295 - 0) (by decide) m2
  have e2 : foldN ((h ++ p.set k v).map Int.toNat) (4294967295 - 0) = foldN ((h ++ p).map Int.toNat) (4294967295 - 0) := by omega
  have s1 : h ++ p.set k v = (h ++ p.take k) ++ v :: p.drop (k + 1) := by rw [List.set_eq_take_append_cons_drop, if_pos hk, List.append_assoc]
  have s2 : h ++ p = (h ++ p.take k) ++ p[k] :: p.drop (k + 1) := by
    rw [List.append_assoc, ← List.drop_eq_getElem_cons hk, List.take_append_drop]
  have b1 := ip p[k] (List.getElem_mem hk)
  have ma : ∀ z ∈ (h ++ p.take k).map Int.toNat, z < 256 := (nats_is (isB_app ih (isB_take ip k))).2
  have mb : ∀ z ∈ (p.drop (k + 1)).map Int.toNat, z < 256 := (nats_is (isB_drop ip (k + 1))).2
  rw [s1, s2] at e2
  have e3 : foldN ((h ++ p.take k).map Int.toNat ++ v.toNat :: (p.drop (k + 1)).map Int.toNat) (4294967295 - 0) = foldN ((h ++ p.take k).map Int.toNat ++ p[k].toNat :: (p.drop (k + 1)).map Int.toNat) (4294967295 - 0) := by
    simpa only [List.map_append, List.map_cons] using e2
  have := foldN_set _ _ v.toNat p[k].toNat _ (by decide) ma mb (by omega) (by omega) e3
  omega
/-- A record whose sum is not its bytes'. -/
theorem readP_bad (n : Nat) (S p t : List Int) (hl : p.length = n) (hn : n ≤ 65536) (hS : S.length = 4) (h : be4 (S ++ (p ++ t)) ≠ crcM (crcM 0 (putList n 4)) p) : readP (putList n 4 ++ (S ++ (p ++ t))) = ([], [], 5) := by
  have l4 : (putList (n : Int) 4).length = 4 := putList_len _ 4
  have e1 : be4 (putList n 4 ++ (S ++ (p ++ t))) = n := be4_put _ _ (by omega) (by omega)
  have e2 : (putList (n : Int) 4 ++ (S ++ (p ++ t))).drop 4 = S ++ (p ++ t) := List.drop_left' l4
  have e3 : (putList (n : Int) 4 ++ (S ++ (p ++ t))).take 4 = putList n 4 := List.take_left' l4
  have e4 : (putList (n : Int) 4 ++ (S ++ (p ++ t))).drop 8 = p ++ t := by
    rw [show 8 = 4 + 4 from rfl, ← List.drop_drop, e2]; exact List.drop_left' hS
  have e5 : (putList (n : Int) 4 ++ (S ++ (p ++ t))).length = 8 + n + t.length := by simp only [List.length_append, l4, hS, hl]; omega
  unfold readP
  rw [if_neg (by omega), e1, if_neg (by omega), if_neg (by omega), e2, e3, e4, Int.toNat_natCast, List.take_left' hl, if_pos h]
theorem be4_S (S t : List Int) (hS : S.length = 4) : be4 (S ++ t) = val S 0 := by unfold be4; rw [List.take_left' hS]
theorem readP_damage (p q : List Int) (ip : isB p) (hl : p.length ≤ 65536) (i : Nat) (h4 : 4 ≤ i) (hi : i < 8 + p.length) (v : Int) (h0 : 0 ≤ v) (h1 : v ≤ 255) (hv : v ≠ rd (recP p ++ q) i) : readP ((recP p ++ q).set i v) = ([], [], 5) := by
  have l4 : ∀ x, (putList x 4).length = 4 := fun x => putList_len x 4
  have hs := crcM_range (crcM 0 (putList p.length 4)) p
  obtain ⟨s, es⟩ : ∃ s, crcM (crcM 0 (putList p.length 4)) p = s := ⟨_, rfl⟩
  have e0 : recP p ++ q = putList p.length 4 ++ (putList s 4 ++ (p ++ q)) := by rw [← es]; simp [recP, headP]
  have hlen : i < (recP p ++ q).length := by rw [List.length_append, recP_len]; omega
  rw [rd, List.getD_eq_getElem?_getD, Int.toNat_natCast] at hv
  rw [e0] at hv ⊢
  rw [List.set_append_right _ _ (by rw [l4]; omega), l4]
  rw [List.getElem?_append_right (by rw [l4]; omega), l4] at hv
  rw [es] at hs
  by_cases h8 : i < 8
  · rw [List.set_append_left _ _ (by rw [l4]; omega)]
    rw [List.getElem?_append_left (by rw [l4]; omega), List.getElem?_eq_getElem (by rw [l4]; omega)] at hv
    refine readP_bad p.length _ p q rfl hl (by rw [List.length_set, l4]) ?_
    rw [es, be4_S _ _ (by rw [List.length_set, l4])]
    intro e
    have e1 : val (putList s 4) 0 = s := by rw [← be4_S (putList s 4) [] (l4 s)]; exact be4_put s [] hs.1 (by omega)
    exact set_ne (by rw [l4]; omega) hv (val_inj _ _ 0 0 (by rw [List.length_set]) (isB_set (isB_put _ _) h0 h1 _) (isB_put _ _) (e.trans e1.symm)).2
  · rw [List.set_append_right _ _ (by rw [l4]; omega), l4, List.set_append_left _ _ (by omega)]
    rw [List.getElem?_append_right (by rw [l4]; omega), l4, List.getElem?_append_left (by omega), List.getElem?_eq_getElem (by omega)] at hv
    refine readP_bad p.length _ _ q (by rw [List.length_set]) hl (l4 s) ?_
    rw [be4_put s _ hs.1 (by omega), ← es]
    exact (crcM_set (isB_put _ _) ip h0 h1 (by omega) hv).symm
end Go.Proofs.Ytajgillnkkkgjaa.P
end
section
-- printed by the session's own call of print.py. Not trusted: Lean checks it.
namespace Go.Proofs.Ytajgillnkkkgjaa.P
open Go.RowKit Go.Proofs.YtajgillnkkkgjaaW.PrintWords Go.Proofs.YtajgillnkkkgjaaW.PrintLast Go.Proofs.YtajgillnkkkgjaaW.PrintMore
attribute [local go_sem] max2_int min2_int max_two min_two max_three min_three max_four min_four
set_option linter.unusedVariables false
set_option linter.unusedSimpArgs false
/-! ### tallymanref10_Write: function 36 -/
def tallymanref10_Write.f (k : Nat) (l0 : List Int) (l1 : List Int) : Option (List Int × Int) := if (l1.length : Int) > 65536 then (some (([] : List Int), 15)) else ((tallymanref08_Put.f k ([] : List Int) (IntKind.u64.wrap ((l1.length : Int))) 4).bind fun t101 => ((some (([] : List Int) : List Int)).bind fun y104 => (if y104.length + t101.length < 140737488355328 then ((some (y104 ++ t101 : List Int)).bind fun y107 => (if y107.length + l1.length < 140737488355328 then ((tallymanref09_Sum.f k (y107 ++ l1)).bind fun t113 => ((some (([] : List Int) : List Int)).bind fun y114 => (if y114.length + l0.length < 140737488355328 then ((some (y114 ++ l0 : List Int)).bind fun y117 => (if y117.length + t101.length < 140737488355328 then ((tallymanref08_Put.f k (y117 ++ t101) (IntKind.u64.wrap (t113)) 4).bind fun t123 => (if t123.length + l1.length < 140737488355328 then (some ((t123 ++ l1), 0)) else (none))) else (none))) else (none)))) else (none))) else (none))))
theorem tallymanref10_Write.mono : ∀ a0 a1 k, LeO (tallymanref10_Write.f k a0 a1) (tallymanref10_Write.f (k + 1) a0 a1) := by
  intro a0 a1 k
  unfold tallymanref10_Write.f
  repeat' first
      | (with_reducible exact tallymanref08_Put.mono _ _ _ _)
      | (with_reducible exact tallymanref09_Sum.mono _ _)
      | (with_reducible exact LeO.refl _)
      | (with_reducible exact LeO.none _)
      | (with_reducible refine LeO.ite ?_ ?_)
      | (with_reducible refine LeO.bind ?_ (fun _ => ?_))
      | exact tallymanref08_Put.mono _ _ _ _
      | exact tallymanref09_Sum.mono _ _
      | exact LeO.none _
      | refine LeO.ite ?_ ?_
      | refine LeO.bind ?_ (fun _ => ?_)
end Go.Proofs.Ytajgillnkkkgjaa.P
end
section
/- The law FrameWrites, walked. -/
namespace Go.Proofs.Ytajgillnkkkgjaa.P
open Go.RowKit Go.Proofs.YtajgillnkkkgjaaW.PrintWords Go.Proofs.YtajgillnkkkgjaaW.PrintLast Go.Proofs.YtajgillnkkkgjaaW.PrintMore Go.Proofs.Ytajgillnkkkgjaa.H Go.Proofs.Ytajgillnkkkgjaa.Pure
set_option linter.unusedVariables false
set_option linter.unusedSimpArgs false
theorem alive7 (w : World) : Calls Try.prog 34 #[] w fun e w' => e = .returned (.bool true) ∧ Below w.heap.size w w' := tallymanlaw10_alive.calls true w rfl
end Go.Proofs.Ytajgillnkkkgjaa.P
end
section
/- The law FrameDamage, walked. -/
namespace Go.Proofs.Ytajgillnkkkgjaa.P
open Go.RowKit Go.Proofs.YtajgillnkkkgjaaW.PrintWords Go.Proofs.YtajgillnkkkgjaaW.PrintLast Go.Proofs.YtajgillnkkkgjaaW.PrintMore Go.Proofs.Ytajgillnkkkgjaa.H Go.Proofs.Ytajgillnkkkgjaa.Pure Go.Proofs.Ytajgillnkkkgjaa.B
set_option linter.unusedVariables false
set_option linter.unusedSimpArgs false
set_option maxHeartbeats 2000000 in
set_option maxRecDepth 100000 in
theorem damage_none (A0 : Option Addr) (c0 np : Nat) (A1 : Option Addr) (c1 nq : Nat) (k b : Int) (w : World) (h : 300 < np ∨ 300 < nq ∨ b = 0) :
    Calls Try.prog 10 #[.slice A0 np c0, .slice A1 nq c1, .int .u16 k, .int .u8 b] w fun e w' => e = .returned (.bool true) ∧ Below w.heap.size w w' := by
  by_cases g1 : 300 < np
  · have t1 : decide ((300 : Int) < np) = true := by simp; omega
    clear h g1
    go_enter Try.func10, Try.ntmps10
    go_wp2_with (go_at_call 34; (with_reducible refine (alive7 _).mono ?_); rintro e w6 ⟨rfl, hB⟩)
    go_ret
    exact ⟨rfl, hB⟩
  have t1 : decide ((300 : Int) < np) = false := by simp; omega
  by_cases g2 : 300 < nq
  · have t2 : decide ((300 : Int) < nq) = true := by simp; omega
    clear h g1 g2
    go_enter Try.func10, Try.ntmps10
    go_wp2_with (go_at_call 34; (with_reducible refine (alive7 _).mono ?_); rintro e w6 ⟨rfl, hB⟩)
    go_ret
    exact ⟨rfl, hB⟩
  have t2 : decide ((300 : Int) < nq) = false := by simp; omega
  obtain rfl : b = 0 := by omega
  have t3 : ((0 : Int) == 0) = true := rfl
  clear h g1 g2
  go_enter Try.func10, Try.ntmps10
  go_wp2_with (go_at_call 34; (with_reducible refine (alive7 _).mono ?_); rintro e w6 ⟨rfl, hB⟩)
  go_ret
  exact ⟨rfl, hB⟩
theorem read_Cn {l x r : List Int} {y : Int} {n : Nat} (hn : l.length = n) (hx : readP l = (x, r, y)) {A0 : Option Addr} {c0 : Nat} {w : World} (h0 : Kd.C (Kd.int .u8) w A0 l.length l) (hc0 : n ≤ c0) (hb : isB l) :
    Calls Try.prog 40 #[.slice A0 n c0] w (RdTwoC (x, r, y) w) := by subst hn; exact read_C hx h0 hc0 hb
theorem all_Cn {l : List Int} {ls : List (List Int)} {n m : Nat} (hm : l.length = m) (hx : allP l.length l = (ls, n)) {A0 : Option Addr} {c0 : Nat} {w : World} (h0 : Kd.C (Kd.int .u8) w A0 l.length l) (hc0 : m ≤ c0) (hb : isB l) (hl : m ≤ 1000000) :
    Calls Try.prog 42 #[.slice A0 m c0] w (RowsPost ls n w) := by subst hm; exact all_C hx h0 hc0 hb hl
theorem setC {w : World} {b g cap i : Nat} {v : Int} {x : List Int} (h : Kd.R (Kd.int .u8) 5 w b (fun _ => True) (.slice (some ⟨g, 0, none⟩) x.length cap) (x.set i v)) : x.length ≤ cap ∧ Kd.C (Kd.int .u8) w (some ⟨g, 0, none⟩) (x.set i v).length (x.set i v) := ⟨(Kd.R_reads' h).2.1, (Kd.R_reads' h).2.2⟩
set_option maxHeartbeats 2000000 in
set_option maxRecDepth 100000 in
theorem damage_path (A0 : Option Addr) (c0 : Nat) (p : List Int) (A1 : Option Addr) (c1 : Nat) (q : List Int) (k b v : Int) (m i : Nat) (r x : List Int) (w : World) (h0 : Kd.C (Kd.int .u8) w A0 p.length p) (hc0 : p.length ≤ c0) (h1 : Kd.C (Kd.int .u8) w A1 q.length q) (hc1 : q.length ≤ c1)
    (hp : p.length ≤ 300) (hq : q.length ≤ 300) (hb : b ≠ 0) (hr : recP p = r) (hm : r.length = m) (hm2 : m = 8 + p.length) (hx : r ++ q = x) (k0 : 0 ≤ k) (k1 : k ≤ 65535) (hi : 4 + k % ((m : Int) - 4) = i) (hil : i < m) (hv : bits .xor .u8 (rd x i) b = v)
    (ix : isB (x.set i v)) (f1 : readP (x.set i v) = ([], [], 5)) (f2 : allP (x.set i v).length (x.set i v) = ([], 0)) :
    Calls Try.prog 10 #[.slice A0 p.length c0, .slice A1 q.length c1, .int .u16 k, .int .u8 b] w fun e w' => e = .returned (.bool true) ∧ Below w.heap.size w w' := by
  have t1 : decide ((300 : Int) < p.length) = false := by simp; omega
  have t2 : decide ((300 : Int) < q.length) = false := by simp; omega
  have t3 : (b == 0) = false := by simp [hb]
  have t4 : ((m : Int) != 8 + (p.length : Int)) = false := by rw [hm2]; simp
  have hw8 : ((p.length : Int)) ≤ 300 := by omega
  have hm300 : m ≤ 308 := by omega
  have HM := Aside0.mk hm2
  have hm4 : (0 : Int) < (m : Int) - 4 := by omega
  have HR := Aside0.mk hr; have HMM := Aside0.mk hm; have HX := Aside0.mk hx; have H0 := Aside0.mk h0; have H1 := Aside0.mk h1
  have F1 := Aside0.mk f1; have F2 := Aside0.mk f2; have HV := Aside0.mk hv; have IX := Aside0.mk ix
  have LX : Aside0 (x.length = m + q.length) := ⟨by rw [← hx, List.length_append, hm]⟩
  have LW := Aside0.mk (write_nil A0 c0 p w h0 hc0 (by omega))
  rw [hr] at LW
  have LN : Aside0 ((([] : List Int).length + m) * 1 ≤ 140737488355328) := ⟨by simp; omega⟩
  have LF : Aside0 ((r.length + q.length) * 1 ≤ 140737488355328) := ⟨by have := HMM.out; omega⟩
  have LXL : Aside0 (x.length ≤ 1000000) := ⟨by have := LX.out; omega⟩
  have hix : i < x.length := by have := LX.out; omega
  clear hp hq hb hr hm hm2 hx h0 h1 f1 f2 ix
  go_enter Try.func10, Try.ntmps10
  go_wp2_with (first
    | (go_at_call 35; (with_reducible refine LW.out.mono ?_); rintro e w1 ⟨B, d, rfl, hcB, hCB, hB⟩; rw [HMM.out] at hcB hCB; rw [HMM.out]; have X1 := Aside0.mk hCB; have XC := Aside0.mk hcB; have HB1 := Aside0.mk hB; clear hcB hCB hB)
    | (at_builtin; refine Kd.R_append_rows (Kd.int .u8) (w0 := w1) w1.heap.size rfl (.tmp 45) (.tmp 46) 51 5 (.int .u8 0) 1 rfl Try.underlying51 info5 rfl (by decide) (by omega) _ [] r _ _ _ (fun _ => True) (fun _ => False) rfl rfl (R_lit0 w1 _ (Nat.le_refl _)) (Kd.C_alloc X1.out _) (fun _ _ h => h) (fun _ h => h.elim) (fun _ _ => trivial) (below_alloc (Below.refl _ _) _) (below_size (below_alloc (Below.refl _ _) _)) LN.out ?_; intro v2 w2 hR hB hg hat; rw [List.nil_append] at hR; have HR2 := Aside0.mk hR; have HB2 := Aside0.mk hB; clear hR hB hg hat)
    | (at_builtin; refine Kd.R_append_rows (Kd.int .u8) (w0 := w1) w1.heap.size rfl (.tmp 47) (.tmp 48) 51 5 (.int .u8 0) 1 rfl Try.underlying51 info5 rfl (by decide) (by omega) v2 r q _ _ _ (fun _ => True) (fun _ => False) rfl rfl HR2.out (Kd.C_below (Kd.C_below H1.out HB1.out) HB2.out) (fun _ _ h => h) (fun _ h => h.elim) (fun _ _ => trivial) HB2.out HB2.out.size LF.out ?_; intro v3 w3 hR hB hg hat; rw [HX.out] at hR; obtain ⟨g, cap, rfl, hg1, hg2, hg3⟩ := Kd.R_form hR (by have := LX.out; have := HM.out; omega); obtain ⟨hcell, hfr⟩ := Kd.R_cell (d := (0 : Int)) hR (i : Int) (by omega) (by have := LX.out; omega); have hput := (Kd.R_put hR (i : Int) v).1; rw [Int.toNat_natCast] at hcell hfr hput; have hc2 : w3.cell? ⟨g, i, none⟩ = some (.int .u8 (rd x i)) := hcell; clear hcell; have HPUT := Aside0.mk hput; clear hput; have HR3 := Aside0.mk hR; have HB3 := Aside0.mk hB; clear hR hB hg hat hg1 hg2 hg3)
    | (go_at_call 40; refine (read_Cn (List.length_set ..) F1.out (setC HPUT.out).2 (setC HPUT.out).1 IX.out).mono ?_; rintro e w5 ⟨E, c5, D, d5, rfl, _, _, _, _, hB⟩; have HB5 := Aside0.mk hB; clear hB)
    | (go_at_call 42; refine (all_Cn (List.length_set ..) F2.out (Kd.C_below (setC HPUT.out).2 HB5.out) (setC HPUT.out).1 IX.out LXL.out).mono ?_; rintro e w6 ⟨F, c6, rfl, _, _, hB⟩; have HB6 := Aside0.mk (below_step HB5.out hB); clear hB)
    | (go_at_call 34; (with_reducible refine (alive7 _).mono ?_); rintro e w7 ⟨rfl, hB⟩; have HB7 := Aside0.mk (below_step HB6.out hB); clear hB))
  go_ret
  exact ⟨rfl, below_step (below_set (below_step HB1.out HB3.out) (by have := Kd.R_base HR3.out g rfl; have := HB1.out.size; omega)) HB7.out⟩
def tallymanlaw10_FrameDamage.Pure : Prop := True
theorem tallymanlaw10_FrameDamage.walk (P : tallymanlaw10_FrameDamage.Pure) (a0 : Option Addr) (len0 cap0 : Nat) (z0 : List Int) (a1 : Option Addr) (len1 cap1 : Nat) (z1 : List Int) (k b : Int) (w : World) (w0 : (a0 = none ∧ len0 = 0 ∧ cap0 = 0 ∧ z0 = []) ∨ ∃ x, a0 = some x ∧ len0 ≤ cap0 ∧ cap0 ≤ maxLen ∧ z0.length = cap0 ∧ (∀ i, i < z0.length → w.cell? (x.add i) = some (.int .u8 (z0.getD i 0))) ∧ ∀ n ∈ z0, (Lit.int .u8 n).wf = true) (y0 : len0 * 1 ≤ 140737488351232)
    (w1 : (a1 = none ∧ len1 = 0 ∧ cap1 = 0 ∧ z1 = []) ∨ ∃ x, a1 = some x ∧ len1 ≤ cap1 ∧ cap1 ≤ maxLen ∧ z1.length = cap1 ∧ (∀ i, i < z1.length → w.cell? (x.add i) = some (.int .u8 (z1.getD i 0))) ∧ ∀ n ∈ z1, (Lit.int .u8 n).wf = true) (y1 : len1 * 1 ≤ 140737488351232) (w2 : (Lit.int .u16 k).wf = true) (w3 : (Lit.int .u8 b).wf = true) :
    Calls Try.prog 10 #[.slice a0 len0 cap0, .slice a1 len1 cap1, .int .u16 k, .int .u8 b] w fun e w' => e = .returned (.bool true) ∧ Below w.heap.size w w' := by
  obtain ⟨p, rfl, hr0, hm0, hw0, hc0⟩ := ReadsInt.ofRowC w0
  obtain ⟨q, rfl, hr1, hm1, hw1, hc1⟩ := ReadsInt.ofRowC w1
  have C0 : Kd.C (Kd.int .u8) w a0 p.length p := Kd.C_of_reads (d := (0 : Int)) (h1 := fun _ => rfl) hr0
  have C1 : Kd.C (Kd.int .u8) w a1 q.length q := Kd.C_of_reads (d := (0 : Int)) (h1 := fun _ => rfl) hr1
  obtain ⟨k0, k1⟩ := wf_u16 w2
  obtain ⟨b0, b1⟩ := wf_u8 w3
  by_cases g : 300 < p.length ∨ 300 < q.length ∨ b = 0
  · exact damage_none a0 cap0 p.length a1 cap1 q.length k b w g
  have ip : isB p := bytes_of hw0
  have iq : isB q := bytes_of hw1
  have hm : (recP p).length = 8 + p.length := recP_len p
  have q1 : 0 ≤ k % (((8 + p.length : Nat) : Int) - 4) := Int.emod_nonneg _ (by omega)
  have q2 : k % (((8 + p.length : Nat) : Int) - 4) < ((8 + p.length : Nat) : Int) - 4 := Int.emod_lt_of_pos _ (by omega)
  obtain ⟨i, hi⟩ : ∃ i : Nat, 4 + k % (((8 + p.length : Nat) : Int) - 4) = i := ⟨_, (Int.toNat_of_nonneg (by omega)).symm⟩
  have hxi : rd (recP p ++ q) i ∈ recP p ++ q := by
    rw [rd, List.getD_eq_getElem?_getD, Int.toNat_natCast, List.getElem?_eq_getElem (by rw [List.length_append, hm]; omega)]
    exact List.getElem_mem _
  have hx := isB_app (isB_rec ip) iq _ hxi
  obtain ⟨v, hv⟩ : ∃ v, bits .xor .u8 (rd (recP p ++ q) i) b = v := ⟨_, rfl⟩
  have hv2 := hv
  rw [bits_xor rfl _ _ (by omega) (by simp only [IntKind.bits]; omega) (by omega) (by simp only [IntKind.bits]; omega)] at hv2
  have hv3 : (rd (recP p ++ q) i).toNat ^^^ b.toNat < 2 ^ 8 := Nat.xor_lt_two_pow (by omega) (by omega)
  have hvne : v ≠ rd (recP p ++ q) i := by
    intro e
    have e1 : (rd (recP p ++ q) i).toNat ^^^ b.toNat = (rd (recP p ++ q) i).toNat := by omega
    have e2 := congrArg ((rd (recP p ++ q) i).toNat ^^^ ·) e1
    simp only [← Nat.xor_assoc, Nat.xor_self, Nat.zero_xor] at e2
    omega
  have f1 := readP_damage p q ip (by omega) i (by omega) (by omega) v (by omega) (by omega) hvne
  have ix := isB_set (isB_app (isB_rec ip) iq) (v := v) (by omega) (by omega) i
  have f2 : allP ((recP p ++ q).set i v).length ((recP p ++ q).set i v) = ([], 0) := by
    cases hk : ((recP p ++ q).set i v).length with
    | zero => rfl
    | succ n => rw [allP, f1, if_neg (by decide)]
  exact damage_path a0 cap0 p a1 cap1 q k b v (8 + p.length) i (recP p) (recP p ++ q) w C0 hc0 C1 hc1 (by omega) (by omega) (by omega) rfl hm rfl rfl k0 k1 hi (by omega) hv ix f1 f2
end Go.Proofs.Ytajgillnkkkgjaa.P
end
section
namespace Go.Proofs.Ytajgillnkkkgjaa.Pure
open Go.RowKit Go.Proofs.Ytajgillnkkkgjaa.P Go.Proofs.YtajgillnkkkgjaaW.PrintWords Go.Proofs.YtajgillnkkkgjaaW.PrintLast
/-- The walk needs nothing else. -/
theorem FrameDamage : tallymanlaw10_FrameDamage.Pure := trivial
end Go.Proofs.Ytajgillnkkkgjaa.Pure
end
