/-
  No cell of these rows narrows 'for every input' (looked for: loops, veiled, ifaces, maps, wideKeys, modest, calm, conditions, laid).
  DERIVED. THE GIVEN ROWS OF THIS SEAT. 9 by the template 'for every input the law returns true; each argument reads behind the call as it read before'; 0 by the template 'total and deterministic' (their statements: YtpoghhcpoimepaaTotals.lean).
  GIVEN WITH THE SEED: the statements are not yours to turn. If you find one false, say at which input.
  Laid BY PROGRAM, IN A SANDBOX (cutbox-rows.mjs): the forced cells as the released guide's own fill.sh prints them over the translation bb3a6781bd871fcf… (all of the seat's roots in one cut). By AI agents, Wed Nov 11 2026. No macro, syntax, notation, axiom, sorry.
-/
import Derived.Test.YtpoghhcpoimepaaChecked
import GoSem.Claim
import GoSem.ClaimJoined
import GoSem.ClaimMapViews
import Derived.JoinedTies
import Derived.KernelRfl
namespace Go.Proofs.Ytpoghhcpoimepaa
/- THE CELL 'sum', in the pinned program and in every row, IS THE sha256 OF THE DUMP (.gsa) THAT YtpoghhcpoimepaaProg.lean LOADS. Nothing in Lean hashes anything: it is a label: what it is worth is what the hold of that sum in a sandbox is worth. -/
noncomputable def Try.pinned : Pinned := { name := "ytpoghhcpoimepaa", sum := "bb3a6781bd871fcfffc35c4ee866c23528250dcff131922eb3d73cdb082a2560", checked := Try.checked }
namespace Rows
def none {H : Type} : Left H := { results := [], args := [] }

/-- 'tallymanlaw06.FenceMeasures': WHATEVER THE INPUT: true; the input reads as it did. -/
def fenceMeasuresSpec : ChangeSpec := { name := "fenceMeasures", fn := fun _ => fun
  | [d1, d2] => { results := [.lit (.bool true)], args := [d1, d2] }
  | _ => none }
def fenceMeasuresRow : OpenClaim := { program := "ytpoghhcpoimepaa", sum := "bb3a6781bd871fcfffc35c4ee866c23528250dcff131922eb3d73cdb082a2560", func := "tallyman/tallymanlaw06.FenceMeasures", spec := "fenceMeasures", unfollowed := true, recurses := true, apart := false }
def FenceMeasuresSaid : Prop := fenceMeasuresRow.holds Try.pinned (OpenSpec.ofChange fenceMeasuresSpec)

/-- ITS FALSE NEIGHBOUR: 'it returns false'. Refute it at one input. -/
def fenceMeasuresWrong : ChangeSpec := { name := "fenceMeasures", fn := fun _ => fun
  | [d1, d2] => { results := [.lit (.bool false)], args := [d1, d2] }
  | _ => none }
def FenceMeasuresWrongFalsely : Prop := fenceMeasuresRow.holds Try.pinned (OpenSpec.ofChange fenceMeasuresWrong)

/-- 'tallymanlaw06.FenceCells': WHATEVER THE INPUT: true; the input reads as it did. -/
def fenceCellsSpec : ChangeSpec := { name := "fenceCells", fn := fun _ => fun
  | [d] => { results := [.lit (.bool true)], args := [d] }
  | _ => none }
def fenceCellsRow : OpenClaim := { program := "ytpoghhcpoimepaa", sum := "bb3a6781bd871fcfffc35c4ee866c23528250dcff131922eb3d73cdb082a2560", func := "tallyman/tallymanlaw06.FenceCells", spec := "fenceCells", unfollowed := true, recurses := true, apart := false }
def FenceCellsSaid : Prop := fenceCellsRow.holds Try.pinned (OpenSpec.ofChange fenceCellsSpec)

/-- ITS FALSE NEIGHBOUR: 'it returns false'. Refute it at one input. -/
def fenceCellsWrong : ChangeSpec := { name := "fenceCells", fn := fun _ => fun
  | [d] => { results := [.lit (.bool false)], args := [d] }
  | _ => none }
def FenceCellsWrongFalsely : Prop := fenceCellsRow.holds Try.pinned (OpenSpec.ofChange fenceCellsWrong)

/-- 'tallymanlaw06.FenceTurns': WHATEVER THE INPUT: true; the input reads as it did. -/
def fenceTurnsSpec : ChangeSpec := { name := "fenceTurns", fn := fun _ => fun
  | [d1, d2, d3] => { results := [.lit (.bool true)], args := [d1, d2, d3] }
  | _ => none }
def fenceTurnsRow : OpenClaim := { program := "ytpoghhcpoimepaa", sum := "bb3a6781bd871fcfffc35c4ee866c23528250dcff131922eb3d73cdb082a2560", func := "tallyman/tallymanlaw06.FenceTurns", spec := "fenceTurns", unfollowed := true, recurses := true, apart := false }
def FenceTurnsSaid : Prop := fenceTurnsRow.holds Try.pinned (OpenSpec.ofChange fenceTurnsSpec)

/-- ITS FALSE NEIGHBOUR: 'it returns false'. Refute it at one input. -/
def fenceTurnsWrong : ChangeSpec := { name := "fenceTurns", fn := fun _ => fun
  | [d1, d2, d3] => { results := [.lit (.bool false)], args := [d1, d2, d3] }
  | _ => none }
def FenceTurnsWrongFalsely : Prop := fenceTurnsRow.holds Try.pinned (OpenSpec.ofChange fenceTurnsWrong)

/-- 'tallymanlaw06.FenceTells': WHATEVER THE INPUT: true; the input reads as it did. -/
def fenceTellsSpec : ChangeSpec := { name := "fenceTells", fn := fun _ => fun
  | [d1, d2, d3, d4] => { results := [.lit (.bool true)], args := [d1, d2, d3, d4] }
  | _ => none }
def fenceTellsRow : OpenClaim := { program := "ytpoghhcpoimepaa", sum := "bb3a6781bd871fcfffc35c4ee866c23528250dcff131922eb3d73cdb082a2560", func := "tallyman/tallymanlaw06.FenceTells", spec := "fenceTells", unfollowed := true, recurses := true, apart := false }
def FenceTellsSaid : Prop := fenceTellsRow.holds Try.pinned (OpenSpec.ofChange fenceTellsSpec)

/-- ITS FALSE NEIGHBOUR: 'it returns false'. Refute it at one input. -/
def fenceTellsWrong : ChangeSpec := { name := "fenceTells", fn := fun _ => fun
  | [d1, d2, d3, d4] => { results := [.lit (.bool false)], args := [d1, d2, d3, d4] }
  | _ => none }
def FenceTellsWrongFalsely : Prop := fenceTellsRow.holds Try.pinned (OpenSpec.ofChange fenceTellsWrong)

/-- 'tallymanlaw05.WalkTexts': WHATEVER THE INPUT: true; the input reads as it did. -/
def walkTextsSpec : ChangeSpec := { name := "walkTexts", fn := fun _ => fun
  | [d1, d2] => { results := [.lit (.bool true)], args := [d1, d2] }
  | _ => none }
def walkTextsRow : OpenClaim := { program := "ytpoghhcpoimepaa", sum := "bb3a6781bd871fcfffc35c4ee866c23528250dcff131922eb3d73cdb082a2560", func := "tallyman/tallymanlaw05.WalkTexts", spec := "walkTexts", inPlace := ["internal/bytealg.IndexByteString", "internal/abi.NoEscape"], unfollowed := true, recurses := true, apart := false }
def WalkTextsSaid : Prop := walkTextsRow.holds Try.pinned (OpenSpec.ofChange walkTextsSpec)

/-- ITS FALSE NEIGHBOUR: 'it returns false'. Refute it at one input. -/
def walkTextsWrong : ChangeSpec := { name := "walkTexts", fn := fun _ => fun
  | [d1, d2] => { results := [.lit (.bool false)], args := [d1, d2] }
  | _ => none }
def WalkTextsWrongFalsely : Prop := walkTextsRow.holds Try.pinned (OpenSpec.ofChange walkTextsWrong)

/-- 'tallymanlaw05.WalkShort': WHATEVER THE INPUT: true; the input reads as it did. -/
def walkShortSpec : ChangeSpec := { name := "walkShort", fn := fun _ => fun
  | [d] => { results := [.lit (.bool true)], args := [d] }
  | _ => none }
def walkShortRow : OpenClaim := { program := "ytpoghhcpoimepaa", sum := "bb3a6781bd871fcfffc35c4ee866c23528250dcff131922eb3d73cdb082a2560", func := "tallyman/tallymanlaw05.WalkShort", spec := "walkShort", inPlace := ["internal/bytealg.IndexByteString", "internal/abi.NoEscape"], unfollowed := true, recurses := true, apart := false }
def WalkShortSaid : Prop := walkShortRow.holds Try.pinned (OpenSpec.ofChange walkShortSpec)

/-- ITS FALSE NEIGHBOUR: 'it returns false'. Refute it at one input. -/
def walkShortWrong : ChangeSpec := { name := "walkShort", fn := fun _ => fun
  | [d] => { results := [.lit (.bool false)], args := [d] }
  | _ => none }
def WalkShortWrongFalsely : Prop := walkShortRow.holds Try.pinned (OpenSpec.ofChange walkShortWrong)

/-- 'tallymanlaw05.WalkLeast': WHATEVER THE INPUT: true; the input reads as it did. -/
def walkLeastSpec : ChangeSpec := { name := "walkLeast", fn := fun _ => fun
  | [d] => { results := [.lit (.bool true)], args := [d] }
  | _ => none }
def walkLeastRow : OpenClaim := { program := "ytpoghhcpoimepaa", sum := "bb3a6781bd871fcfffc35c4ee866c23528250dcff131922eb3d73cdb082a2560", func := "tallyman/tallymanlaw05.WalkLeast", spec := "walkLeast", inPlace := ["internal/bytealg.IndexByteString", "internal/abi.NoEscape"], unfollowed := true, recurses := true, apart := false }
def WalkLeastSaid : Prop := walkLeastRow.holds Try.pinned (OpenSpec.ofChange walkLeastSpec)

/-- ITS FALSE NEIGHBOUR: 'it returns false'. Refute it at one input. -/
def walkLeastWrong : ChangeSpec := { name := "walkLeast", fn := fun _ => fun
  | [d] => { results := [.lit (.bool false)], args := [d] }
  | _ => none }
def WalkLeastWrongFalsely : Prop := walkLeastRow.holds Try.pinned (OpenSpec.ofChange walkLeastWrong)

/-- 'tallymanlaw05.WalkEnds': WHATEVER THE INPUT: true; the input reads as it did. -/
def walkEndsSpec : ChangeSpec := { name := "walkEnds", fn := fun _ => fun
  | [d] => { results := [.lit (.bool true)], args := [d] }
  | _ => none }
def walkEndsRow : OpenClaim := { program := "ytpoghhcpoimepaa", sum := "bb3a6781bd871fcfffc35c4ee866c23528250dcff131922eb3d73cdb082a2560", func := "tallyman/tallymanlaw05.WalkEnds", spec := "walkEnds", inPlace := ["internal/bytealg.IndexByteString", "internal/abi.NoEscape"], unfollowed := true, recurses := true, apart := false }
def WalkEndsSaid : Prop := walkEndsRow.holds Try.pinned (OpenSpec.ofChange walkEndsSpec)

/-- ITS FALSE NEIGHBOUR: 'it returns false'. Refute it at one input. -/
def walkEndsWrong : ChangeSpec := { name := "walkEnds", fn := fun _ => fun
  | [d] => { results := [.lit (.bool false)], args := [d] }
  | _ => none }
def WalkEndsWrongFalsely : Prop := walkEndsRow.holds Try.pinned (OpenSpec.ofChange walkEndsWrong)

/-- 'tallymanlaw05.WalkLaws': WHATEVER THE INPUT: true; the input reads as it did. -/
def walkLawsSpec : ChangeSpec := { name := "walkLaws", fn := fun _ => fun
  | [d1, d2] => { results := [.lit (.bool true)], args := [d1, d2] }
  | _ => none }
def walkLawsRow : OpenClaim := { program := "ytpoghhcpoimepaa", sum := "bb3a6781bd871fcfffc35c4ee866c23528250dcff131922eb3d73cdb082a2560", func := "tallyman/tallymanlaw05.WalkLaws", spec := "walkLaws", inPlace := ["internal/bytealg.IndexByteString", "internal/abi.NoEscape"], unfollowed := true, recurses := true, apart := false }
def WalkLawsSaid : Prop := walkLawsRow.holds Try.pinned (OpenSpec.ofChange walkLawsSpec)

/-- ITS FALSE NEIGHBOUR: 'it returns false'. Refute it at one input. -/
def walkLawsWrong : ChangeSpec := { name := "walkLaws", fn := fun _ => fun
  | [d1, d2] => { results := [.lit (.bool false)], args := [d1, d2] }
  | _ => none }
def WalkLawsWrongFalsely : Prop := walkLawsRow.holds Try.pinned (OpenSpec.ofChange walkLawsWrong)

/- THE SECOND FORM. 'bulk': how many values and letters a reading holds, each counted each time it is reached (what is shared counts as often as it is met; a slice's spare places count too). A statement '..UptoSaid' is the law's where the arguments, and the package variables that the reading takes, are together of bulk at most 1048576: NARROWER than '..Said'. Prove '..Said' where nothing that the law and all that it calls make is longer than what came in: it says more and counts as full. Else prove '..UptoSaid'. A law counts once. -/
mutual
def uptoBulk {H : Type} : DataW H → Nat
  | .lit (.string bytes) => bytes.length + 1
  | .lit _ => 1
  | .nil => 1
  | .ptr d => uptoBulk d + 1
  | .slice elems spare => uptoBulkAll elems + uptoBulkAll spare + 1
  | .agg parts => uptoBulkAll parts + 1
  | .iface _ d => uptoBulk d + 1
  | .map entries => uptoBulkEntries entries + 1
  | .held _ => 1
def uptoBulkAll {H : Type} : List (DataW H) → Nat
  | [] => 0
  | d :: r => uptoBulk d + uptoBulkAll r
def uptoBulkEntries {H : Type} : List (Lit × DataW H) → Nat
  | [] => 0
  | x :: r => uptoBulkEntry x + uptoBulkEntries r
def uptoBulkEntry {H : Type} : Lit × DataW H → Nat
  | (.string bytes, d) => bytes.length + uptoBulk d + 1
  | (_, d) => uptoBulk d + 1
 end
def uptoSmall : (H : Type) → List (DataW H) → Bool := fun _ ds => decide (uptoBulkAll ds ≤ 1048576)
def OpenSpec.upto (s : _root_.Go.ChangeSpec) : _root_.Go.OpenSpec := { _root_.Go.OpenSpec.ofChange s with cond := some uptoSmall }

/-- 'tallymanlaw06.FenceMeasures', WHERE WHAT IT READS IS OF BULK AT MOST 1048576: true; the input reads as it did. -/
def fenceMeasuresUptoRow : OpenClaim := { program := "ytpoghhcpoimepaa", sum := "bb3a6781bd871fcfffc35c4ee866c23528250dcff131922eb3d73cdb082a2560", func := "tallyman/tallymanlaw06.FenceMeasures", spec := "fenceMeasures", unfollowed := true, recurses := true, apart := false, narrowed := true }
def FenceMeasuresUptoSaid : Prop := fenceMeasuresUptoRow.holds Try.pinned (OpenSpec.upto fenceMeasuresSpec)

/-- 'tallymanlaw06.FenceCells', WHERE WHAT IT READS IS OF BULK AT MOST 1048576: true; the input reads as it did. -/
def fenceCellsUptoRow : OpenClaim := { program := "ytpoghhcpoimepaa", sum := "bb3a6781bd871fcfffc35c4ee866c23528250dcff131922eb3d73cdb082a2560", func := "tallyman/tallymanlaw06.FenceCells", spec := "fenceCells", unfollowed := true, recurses := true, apart := false, narrowed := true }
def FenceCellsUptoSaid : Prop := fenceCellsUptoRow.holds Try.pinned (OpenSpec.upto fenceCellsSpec)

/-- 'tallymanlaw06.FenceTurns', WHERE WHAT IT READS IS OF BULK AT MOST 1048576: true; the input reads as it did. -/
def fenceTurnsUptoRow : OpenClaim := { program := "ytpoghhcpoimepaa", sum := "bb3a6781bd871fcfffc35c4ee866c23528250dcff131922eb3d73cdb082a2560", func := "tallyman/tallymanlaw06.FenceTurns", spec := "fenceTurns", unfollowed := true, recurses := true, apart := false, narrowed := true }
def FenceTurnsUptoSaid : Prop := fenceTurnsUptoRow.holds Try.pinned (OpenSpec.upto fenceTurnsSpec)

/-- 'tallymanlaw06.FenceTells', WHERE WHAT IT READS IS OF BULK AT MOST 1048576: true; the input reads as it did. -/
def fenceTellsUptoRow : OpenClaim := { program := "ytpoghhcpoimepaa", sum := "bb3a6781bd871fcfffc35c4ee866c23528250dcff131922eb3d73cdb082a2560", func := "tallyman/tallymanlaw06.FenceTells", spec := "fenceTells", unfollowed := true, recurses := true, apart := false, narrowed := true }
def FenceTellsUptoSaid : Prop := fenceTellsUptoRow.holds Try.pinned (OpenSpec.upto fenceTellsSpec)

/-- 'tallymanlaw05.WalkTexts', WHERE WHAT IT READS IS OF BULK AT MOST 1048576: true; the input reads as it did. -/
def walkTextsUptoRow : OpenClaim := { program := "ytpoghhcpoimepaa", sum := "bb3a6781bd871fcfffc35c4ee866c23528250dcff131922eb3d73cdb082a2560", func := "tallyman/tallymanlaw05.WalkTexts", spec := "walkTexts", inPlace := ["internal/bytealg.IndexByteString", "internal/abi.NoEscape"], unfollowed := true, recurses := true, apart := false, narrowed := true }
def WalkTextsUptoSaid : Prop := walkTextsUptoRow.holds Try.pinned (OpenSpec.upto walkTextsSpec)

/-- 'tallymanlaw05.WalkShort', WHERE WHAT IT READS IS OF BULK AT MOST 1048576: true; the input reads as it did. -/
def walkShortUptoRow : OpenClaim := { program := "ytpoghhcpoimepaa", sum := "bb3a6781bd871fcfffc35c4ee866c23528250dcff131922eb3d73cdb082a2560", func := "tallyman/tallymanlaw05.WalkShort", spec := "walkShort", inPlace := ["internal/bytealg.IndexByteString", "internal/abi.NoEscape"], unfollowed := true, recurses := true, apart := false, narrowed := true }
def WalkShortUptoSaid : Prop := walkShortUptoRow.holds Try.pinned (OpenSpec.upto walkShortSpec)

/-- 'tallymanlaw05.WalkLeast', WHERE WHAT IT READS IS OF BULK AT MOST 1048576: true; the input reads as it did. -/
def walkLeastUptoRow : OpenClaim := { program := "ytpoghhcpoimepaa", sum := "bb3a6781bd871fcfffc35c4ee866c23528250dcff131922eb3d73cdb082a2560", func := "tallyman/tallymanlaw05.WalkLeast", spec := "walkLeast", inPlace := ["internal/bytealg.IndexByteString", "internal/abi.NoEscape"], unfollowed := true, recurses := true, apart := false, narrowed := true }
def WalkLeastUptoSaid : Prop := walkLeastUptoRow.holds Try.pinned (OpenSpec.upto walkLeastSpec)

/-- 'tallymanlaw05.WalkEnds', WHERE WHAT IT READS IS OF BULK AT MOST 1048576: true; the input reads as it did. -/
def walkEndsUptoRow : OpenClaim := { program := "ytpoghhcpoimepaa", sum := "bb3a6781bd871fcfffc35c4ee866c23528250dcff131922eb3d73cdb082a2560", func := "tallyman/tallymanlaw05.WalkEnds", spec := "walkEnds", inPlace := ["internal/bytealg.IndexByteString", "internal/abi.NoEscape"], unfollowed := true, recurses := true, apart := false, narrowed := true }
def WalkEndsUptoSaid : Prop := walkEndsUptoRow.holds Try.pinned (OpenSpec.upto walkEndsSpec)

/-- 'tallymanlaw05.WalkLaws', WHERE WHAT IT READS IS OF BULK AT MOST 1048576: true; the input reads as it did. -/
def walkLawsUptoRow : OpenClaim := { program := "ytpoghhcpoimepaa", sum := "bb3a6781bd871fcfffc35c4ee866c23528250dcff131922eb3d73cdb082a2560", func := "tallyman/tallymanlaw05.WalkLaws", spec := "walkLaws", inPlace := ["internal/bytealg.IndexByteString", "internal/abi.NoEscape"], unfollowed := true, recurses := true, apart := false, narrowed := true }
def WalkLawsUptoSaid : Prop := walkLawsUptoRow.holds Try.pinned (OpenSpec.upto walkLawsSpec)

end Rows
end Go.Proofs.Ytpoghhcpoimepaa
