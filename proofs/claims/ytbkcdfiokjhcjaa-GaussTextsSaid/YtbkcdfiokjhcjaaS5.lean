/- strings.Cut at a separator of one byte. -/
import Derived.Test.YtbkcdfiokjhcjaaSh
import Derived.Test.YtbkcdfiokjhcjaaP0
import Derived.RegionTactic
namespace Go.Proofs.Ytbkcdfiokjhcjaa.P
open Go.RowKit Go.Proofs.YtbkcdfiokjhcjaaW.PrintWords Go.Proofs.YtbkcdfiokjhcjaaW.PrintLast Go.Proofs.YtbkcdfiokjhcjaaW.PrintMore
set_option linter.unusedVariables false
set_option linter.unusedSimpArgs false
def cutL (c : UInt8) : List UInt8 → List UInt8 × List UInt8 × Bool
  | [] => ([], [], false)
  | x :: l => if x = c then ([], l, true) else (x :: (cutL c l).1, (cutL c l).2.1, (cutL c l).2.2)
theorem ib_cut (c : UInt8) (l : List UInt8) : (Lib.indexByte l c = -1 ∧ cutL c l = (l, [], false)) ∨ ∃ i : Nat, Lib.indexByte l c = i ∧ i < l.length ∧ cutL c l = (l.take i, l.drop (i + 1), true) := by
  induction l with
  | nil => exact .inl ⟨rfl, rfl⟩
  | cons x l ih =>
    rw [Lib.indexByte, cutL]
    by_cases hc : x = c
    · rw [if_pos (by simp [hc]), if_pos hc]
      exact .inr ⟨0, rfl, by simp, by simp⟩
    · rw [if_neg (by simp [hc]), if_neg hc]
      rcases ih with ⟨h1, h2⟩ | ⟨i, h1, h2, h3⟩
      · rw [h1, h2]
        exact .inl ⟨by simp, rfl⟩
      · rw [h1, h3]
        refine .inr ⟨i + 1, ?_, by simpa using h2, by simp⟩
        rw [if_neg (by simp)]; rfl
abbrev str (l : List UInt8) : ByteArray := ⟨l.toArray⟩
theorem str_size (l : List UInt8) : (str l).size = l.length := by simp [ByteArray.size]
theorem str_extract (l : List UInt8) (a b : Nat) : (str l).extract a b = str ((l.drop a).take (b - a)) := by apply ByteArray.ext; simp [ByteArray.data_extract]
def CutPost (w : World) (r : List UInt8 × List UInt8 × Bool) (e : Ending) (w' : World) : Prop := e = .returned (.tuple #[.string (str r.1), .string (str r.2.1), .bool r.2.2]) ∧ Below w.heap.size w w'
set_option maxHeartbeats 1000000 in
set_option maxRecDepth 100000 in
theorem cutIn_calls (c : UInt8) (l : List UInt8) (w : World) (hl : l.length ≤ 1000000) : Calls Try.prog 71 #[.string (str l), .string (str [c])] w (CutPost w (cutL c l)) := by
  have HI := Try.stringslite_Index_one (str l) c w
  rw [show (str l).data.toList = l from rfl] at HI
  have hsep : (str [c]).size = 1 := rfl
  rcases ib_cut c l with ⟨h1, h2⟩ | ⟨i, h1, h2, h3⟩
  · rw [h1] at HI
    rw [h2]
    go_enter Try.func71, Try.ntmps71
    go_wp2_with (go_at_call 75; refine HI.mono ?_; rintro e w' ⟨rfl, rfl⟩)
    go_ret3
    exact ⟨rfl, Below.refl _ _⟩
  · rw [h1] at HI
    rw [h3]
    have hz : (str l).size = l.length := str_size l
    have e1 : (str l).extract 0 i = str (l.take i) := by rw [str_extract]; simp
    have e2 : (str l).extract (i + 1) l.length = str (l.drop (i + 1)) := by rw [str_extract, List.take_of_length_le (by rw [List.length_drop]; omega)]
    have HI2 := Aside0.mk HI; clear HI
    obtain ⟨s, hs⟩ : ∃ s, str l = s := ⟨_, rfl⟩
    rw [hs] at HI2 hz e1 e2 ⊢
    have HS := Aside0.mk hs; clear hs
    go_enter Try.func71, Try.ntmps71
    go_wp2_with (go_at_call 75; refine HI2.out.mono ?_; rintro e w' ⟨rfl, rfl⟩)
    go_region
    all_goals go_wp2
    all_goals go_ret3
    all_goals
      refine ⟨?_, below_drew (Below.refl _ _)⟩
      simp [e1, e2, hz]
theorem cut_calls (c : UInt8) (l : List UInt8) (w : World) (hl : l.length ≤ 1000000) : Calls Try.prog 64 #[.string (str l), .string (str [c])] w (CutPost w (cutL c l)) := by
  have h2 := cutIn_calls c l w hl
  go_enter Try.func64, Try.ntmps64
  go_wp2_with (go_at_call 71; refine h2.mono ?_; rintro e w' ⟨rfl, hb⟩)
  go_ret3
  exact ⟨rfl, hb⟩
def strings_Cut.f (a0 : ByteArray) (a1 : ByteArray) : Option (ByteArray × ByteArray × Bool) := match a1.data.toList with
  | [c] => if a0.size ≤ 1000000 then some (str (cutL c a0.data.toList).1, str (cutL c a0.data.toList).2.1, (cutL c a0.data.toList).2.2) else none
  | _ => none
theorem strings_Cut.calls (a0 : ByteArray) (a1 : ByteArray) (r1 : ByteArray) (r2 : ByteArray) (r3 : Bool) (w : World) (h : strings_Cut.f a0 a1 = some (r1, r2, r3)) :
    Calls Try.prog 64 #[.string a0, .string a1] w fun e w' => e = .returned (.tuple #[.string r1, .string r2, .bool r3]) ∧ Below w.heap.size w w' := by
  obtain ⟨l, rfl⟩ : ∃ l : List UInt8, a0 = str l := ⟨a0.data.toList, by apply ByteArray.ext; simp⟩
  obtain ⟨m, rfl⟩ : ∃ m : List UInt8, a1 = str m := ⟨a1.data.toList, by apply ByteArray.ext; simp⟩
  unfold strings_Cut.f at h
  rw [show (str m).data.toList = m from rfl, show (str l).data.toList = l from rfl] at h
  split at h
  · split at h
    · rename_i hs
      have h := Option.some.inj h
      obtain ⟨rfl, h2⟩ := Prod.mk.inj h
      obtain ⟨rfl, rfl⟩ := Prod.mk.inj h2
      exact cut_calls _ l w (by rw [str_size] at hs; exact hs)
    · cases h
  · cases h
end Go.Proofs.Ytbkcdfiokjhcjaa.P
