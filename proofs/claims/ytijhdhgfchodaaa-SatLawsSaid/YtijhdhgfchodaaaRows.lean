/-
  No cell of these rows narrows 'for every input' (looked for: loops, veiled, ifaces, maps, wideKeys, modest, calm, conditions, laid).
  DERIVED. THE GIVEN ROWS OF THIS SEAT. 6 by the template 'for every input the law returns true; each argument reads behind the call as it read before'; 0 by the template 'total and deterministic' (their statements: YtijhdhgfchodaaaTotals.lean).
  GIVEN WITH THE SEED: the statements are not yours to turn. If you find one false, say at which input.
  Laid BY PROGRAM, IN A SANDBOX (cutbox-rows.mjs): the forced cells as the released guide's own fill.sh prints them over the translation 0304ee1cf52cc40a… (all of the seat's roots in one cut). By AI agents, Wed Nov 11 2026. No macro, syntax, notation, axiom, sorry.
-/
import Derived.Test.YtijhdhgfchodaaaChecked
import GoSem.Claim
import GoSem.ClaimJoined
import GoSem.ClaimMapViews
import Derived.JoinedTies
import Derived.KernelRfl
namespace Go.Proofs.Ytijhdhgfchodaaa
/- THE CELL 'sum', in the pinned program and in every row, IS THE sha256 OF THE DUMP (.gsa) THAT YtijhdhgfchodaaaProg.lean LOADS. Nothing in Lean hashes anything: it is a label: what it is worth is what the hold of that sum in a sandbox is worth. -/
noncomputable def Try.pinned : Pinned := { name := "ytijhdhgfchodaaa", sum := "0304ee1cf52cc40a28766671c7d5a9d6e85eb52004acc5f137c41da92d7bd33d", checked := Try.checked }
namespace Rows
def none {H : Type} : Left H := { results := [], args := [] }

/-- 'tallymanlaw27.PairGood': WHATEVER THE INPUT: true; the input reads as it did. -/
def pairGoodSpec : ChangeSpec := { name := "pairGood", fn := fun _ => fun
  | [d1, d2, d3, d4] => { results := [.lit (.bool true)], args := [d1, d2, d3, d4] }
  | _ => none }
def pairGoodRow : OpenClaim := { program := "ytijhdhgfchodaaa", sum := "0304ee1cf52cc40a28766671c7d5a9d6e85eb52004acc5f137c41da92d7bd33d", func := "tallyman/tallymanlaw27.PairGood", spec := "pairGood", unfollowed := true, recurses := true, apart := false }
def PairGoodSaid : Prop := pairGoodRow.holds Try.pinned (OpenSpec.ofChange pairGoodSpec)

/-- ITS FALSE NEIGHBOUR: 'it returns false'. Refute it at one input. -/
def pairGoodWrong : ChangeSpec := { name := "pairGood", fn := fun _ => fun
  | [d1, d2, d3, d4] => { results := [.lit (.bool false)], args := [d1, d2, d3, d4] }
  | _ => none }
def PairGoodWrongFalsely : Prop := pairGoodRow.holds Try.pinned (OpenSpec.ofChange pairGoodWrong)

/-- 'tallymanlaw27.PairLeft': WHATEVER THE INPUT: true; the input reads as it did. -/
def pairLeftSpec : ChangeSpec := { name := "pairLeft", fn := fun _ => fun
  | [d1, d2, d3] => { results := [.lit (.bool true)], args := [d1, d2, d3] }
  | _ => none }
def pairLeftRow : OpenClaim := { program := "ytijhdhgfchodaaa", sum := "0304ee1cf52cc40a28766671c7d5a9d6e85eb52004acc5f137c41da92d7bd33d", func := "tallyman/tallymanlaw27.PairLeft", spec := "pairLeft", unfollowed := true, recurses := true, apart := false }
def PairLeftSaid : Prop := pairLeftRow.holds Try.pinned (OpenSpec.ofChange pairLeftSpec)

/-- ITS FALSE NEIGHBOUR: 'it returns false'. Refute it at one input. -/
def pairLeftWrong : ChangeSpec := { name := "pairLeft", fn := fun _ => fun
  | [d1, d2, d3] => { results := [.lit (.bool false)], args := [d1, d2, d3] }
  | _ => none }
def PairLeftWrongFalsely : Prop := pairLeftRow.holds Try.pinned (OpenSpec.ofChange pairLeftWrong)

/-- 'tallymanlaw02.SatTells': WHATEVER THE INPUT: true; the input reads as it did. -/
def satTellsSpec : ChangeSpec := { name := "satTells", fn := fun _ => fun
  | [d1, d2, d3] => { results := [.lit (.bool true)], args := [d1, d2, d3] }
  | _ => none }
def satTellsRow : OpenClaim := { program := "ytijhdhgfchodaaa", sum := "0304ee1cf52cc40a28766671c7d5a9d6e85eb52004acc5f137c41da92d7bd33d", func := "tallyman/tallymanlaw02.SatTells", spec := "satTells", inPlace := ["math/bits.Add64"], unfollowed := true, recurses := true, apart := false }
def SatTellsSaid : Prop := satTellsRow.holds Try.pinned (OpenSpec.ofChange satTellsSpec)

/-- ITS FALSE NEIGHBOUR: 'it returns false'. Refute it at one input. -/
def satTellsWrong : ChangeSpec := { name := "satTells", fn := fun _ => fun
  | [d1, d2, d3] => { results := [.lit (.bool false)], args := [d1, d2, d3] }
  | _ => none }
def SatTellsWrongFalsely : Prop := satTellsRow.holds Try.pinned (OpenSpec.ofChange satTellsWrong)

/-- 'tallymanlaw02.SatSums': WHATEVER THE INPUT: true; the input reads as it did. -/
def satSumsSpec : ChangeSpec := { name := "satSums", fn := fun _ => fun
  | [d1, d2] => { results := [.lit (.bool true)], args := [d1, d2] }
  | _ => none }
def satSumsRow : OpenClaim := { program := "ytijhdhgfchodaaa", sum := "0304ee1cf52cc40a28766671c7d5a9d6e85eb52004acc5f137c41da92d7bd33d", func := "tallyman/tallymanlaw02.SatSums", spec := "satSums", inPlace := ["math/bits.Add64"], unfollowed := true, recurses := true, apart := false }
def SatSumsSaid : Prop := satSumsRow.holds Try.pinned (OpenSpec.ofChange satSumsSpec)

/-- ITS FALSE NEIGHBOUR: 'it returns false'. Refute it at one input. -/
def satSumsWrong : ChangeSpec := { name := "satSums", fn := fun _ => fun
  | [d1, d2] => { results := [.lit (.bool false)], args := [d1, d2] }
  | _ => none }
def SatSumsWrongFalsely : Prop := satSumsRow.holds Try.pinned (OpenSpec.ofChange satSumsWrong)

/-- 'tallymanlaw02.SatLaws': WHATEVER THE INPUT: true; the input reads as it did. -/
def satLawsSpec : ChangeSpec := { name := "satLaws", fn := fun _ => fun
  | [d1, d2, d3, d4] => { results := [.lit (.bool true)], args := [d1, d2, d3, d4] }
  | _ => none }
def satLawsRow : OpenClaim := { program := "ytijhdhgfchodaaa", sum := "0304ee1cf52cc40a28766671c7d5a9d6e85eb52004acc5f137c41da92d7bd33d", func := "tallyman/tallymanlaw02.SatLaws", spec := "satLaws", inPlace := ["math/bits.Add64"], unfollowed := true, recurses := true, apart := false }
def SatLawsSaid : Prop := satLawsRow.holds Try.pinned (OpenSpec.ofChange satLawsSpec)

/-- ITS FALSE NEIGHBOUR: 'it returns false'. Refute it at one input. -/
def satLawsWrong : ChangeSpec := { name := "satLaws", fn := fun _ => fun
  | [d1, d2, d3, d4] => { results := [.lit (.bool false)], args := [d1, d2, d3, d4] }
  | _ => none }
def SatLawsWrongFalsely : Prop := satLawsRow.holds Try.pinned (OpenSpec.ofChange satLawsWrong)

/-- 'tallymanlaw02.SatOver': WHATEVER THE INPUT: true; the input reads as it did. -/
def satOverSpec : ChangeSpec := { name := "satOver", fn := fun _ => fun
  | [d1, d2] => { results := [.lit (.bool true)], args := [d1, d2] }
  | _ => none }
def satOverRow : OpenClaim := { program := "ytijhdhgfchodaaa", sum := "0304ee1cf52cc40a28766671c7d5a9d6e85eb52004acc5f137c41da92d7bd33d", func := "tallyman/tallymanlaw02.SatOver", spec := "satOver", inPlace := ["math/bits.Add64"], unfollowed := true, recurses := true, apart := false }
def SatOverSaid : Prop := satOverRow.holds Try.pinned (OpenSpec.ofChange satOverSpec)

/-- ITS FALSE NEIGHBOUR: 'it returns false'. Refute it at one input. -/
def satOverWrong : ChangeSpec := { name := "satOver", fn := fun _ => fun
  | [d1, d2] => { results := [.lit (.bool false)], args := [d1, d2] }
  | _ => none }
def SatOverWrongFalsely : Prop := satOverRow.holds Try.pinned (OpenSpec.ofChange satOverWrong)

/- THE SECOND FORM. 'bulk': how many values and letters a reading holds, each counted each time it is reached (what is shared counts as often as it is met; a slice's spare places count too). A statement '..UptoSaid' is the law's where the arguments, and the package variables that the reading takes, are together of bulk at most 1048576: NARROWER than '..Said'. Prove '..Said' where nothing that the law and all that it calls make is longer than what came in: it says more and counts as full. Else prove '..UptoSaid'. A law counts once. -/
mutual
def uptoBulk {H : Type} : DataW H → Nat
  | .lit (.string bytes) => bytes.length + 1
  | .lit _ => 1
  | .nil => 1
  | .ptr d => uptoBulk d + 1
  | .slice elems spare => uptoBulkAll elems + uptoBulkAll spare + 1
  | .agg parts => uptoBulkAll parts + 1
  | .iface _ d => uptoBulk d + 1
  | .map entries => uptoBulkEntries entries + 1
  | .held _ => 1
def uptoBulkAll {H : Type} : List (DataW H) → Nat
  | [] => 0
  | d :: r => uptoBulk d + uptoBulkAll r
def uptoBulkEntries {H : Type} : List (Lit × DataW H) → Nat
  | [] => 0
  | x :: r => uptoBulkEntry x + uptoBulkEntries r
def uptoBulkEntry {H : Type} : Lit × DataW H → Nat
  | (.string bytes, d) => bytes.length + uptoBulk d + 1
  | (_, d) => uptoBulk d + 1
 end
def uptoSmall : (H : Type) → List (DataW H) → Bool := fun _ ds => decide (uptoBulkAll ds ≤ 1048576)
def OpenSpec.upto (s : _root_.Go.ChangeSpec) : _root_.Go.OpenSpec := { _root_.Go.OpenSpec.ofChange s with cond := some uptoSmall }

/-- 'tallymanlaw27.PairGood', WHERE WHAT IT READS IS OF BULK AT MOST 1048576: true; the input reads as it did. -/
def pairGoodUptoRow : OpenClaim := { program := "ytijhdhgfchodaaa", sum := "0304ee1cf52cc40a28766671c7d5a9d6e85eb52004acc5f137c41da92d7bd33d", func := "tallyman/tallymanlaw27.PairGood", spec := "pairGood", unfollowed := true, recurses := true, apart := false, narrowed := true }
def PairGoodUptoSaid : Prop := pairGoodUptoRow.holds Try.pinned (OpenSpec.upto pairGoodSpec)

/-- 'tallymanlaw27.PairLeft', WHERE WHAT IT READS IS OF BULK AT MOST 1048576: true; the input reads as it did. -/
def pairLeftUptoRow : OpenClaim := { program := "ytijhdhgfchodaaa", sum := "0304ee1cf52cc40a28766671c7d5a9d6e85eb52004acc5f137c41da92d7bd33d", func := "tallyman/tallymanlaw27.PairLeft", spec := "pairLeft", unfollowed := true, recurses := true, apart := false, narrowed := true }
def PairLeftUptoSaid : Prop := pairLeftUptoRow.holds Try.pinned (OpenSpec.upto pairLeftSpec)

/-- 'tallymanlaw02.SatTells', WHERE WHAT IT READS IS OF BULK AT MOST 1048576: true; the input reads as it did. -/
def satTellsUptoRow : OpenClaim := { program := "ytijhdhgfchodaaa", sum := "0304ee1cf52cc40a28766671c7d5a9d6e85eb52004acc5f137c41da92d7bd33d", func := "tallyman/tallymanlaw02.SatTells", spec := "satTells", inPlace := ["math/bits.Add64"], unfollowed := true, recurses := true, apart := false, narrowed := true }
def SatTellsUptoSaid : Prop := satTellsUptoRow.holds Try.pinned (OpenSpec.upto satTellsSpec)

/-- 'tallymanlaw02.SatSums', WHERE WHAT IT READS IS OF BULK AT MOST 1048576: true; the input reads as it did. -/
def satSumsUptoRow : OpenClaim := { program := "ytijhdhgfchodaaa", sum := "0304ee1cf52cc40a28766671c7d5a9d6e85eb52004acc5f137c41da92d7bd33d", func := "tallyman/tallymanlaw02.SatSums", spec := "satSums", inPlace := ["math/bits.Add64"], unfollowed := true, recurses := true, apart := false, narrowed := true }
def SatSumsUptoSaid : Prop := satSumsUptoRow.holds Try.pinned (OpenSpec.upto satSumsSpec)

/-- 'tallymanlaw02.SatLaws', WHERE WHAT IT READS IS OF BULK AT MOST 1048576: true; the input reads as it did. -/
def satLawsUptoRow : OpenClaim := { program := "ytijhdhgfchodaaa", sum := "0304ee1cf52cc40a28766671c7d5a9d6e85eb52004acc5f137c41da92d7bd33d", func := "tallyman/tallymanlaw02.SatLaws", spec := "satLaws", inPlace := ["math/bits.Add64"], unfollowed := true, recurses := true, apart := false, narrowed := true }
def SatLawsUptoSaid : Prop := satLawsUptoRow.holds Try.pinned (OpenSpec.upto satLawsSpec)

/-- 'tallymanlaw02.SatOver', WHERE WHAT IT READS IS OF BULK AT MOST 1048576: true; the input reads as it did. -/
def satOverUptoRow : OpenClaim := { program := "ytijhdhgfchodaaa", sum := "0304ee1cf52cc40a28766671c7d5a9d6e85eb52004acc5f137c41da92d7bd33d", func := "tallyman/tallymanlaw02.SatOver", spec := "satOver", inPlace := ["math/bits.Add64"], unfollowed := true, recurses := true, apart := false, narrowed := true }
def SatOverUptoSaid : Prop := satOverUptoRow.holds Try.pinned (OpenSpec.upto satOverSpec)

end Rows
end Go.Proofs.Ytijhdhgfchodaaa
