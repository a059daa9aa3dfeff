/-
  No cell of these rows narrows 'for every input' (looked for: loops, veiled, ifaces, maps, wideKeys, modest, calm, conditions, laid).
  DERIVED. THE GIVEN ROWS OF THIS SEAT. 9 by the template 'for every input the law returns true; each argument reads behind the call as it read before'; 0 by the template 'total and deterministic' (their statements: YtbkcdfiokjhcjaaTotals.lean).
  GIVEN WITH THE SEED: the statements are not yours to turn. If you find one false, say at which input.
  Laid BY PROGRAM, IN A SANDBOX (cutbox-rows.mjs): the forced cells as the released guide's own fill.sh prints them over the translation 576bc87c7c125196… (all of the seat's roots in one cut). By AI agents, Wed Nov 11 2026. No macro, syntax, notation, axiom, sorry.
-/
import Derived.Test.YtbkcdfiokjhcjaaChecked
import GoSem.Claim
import GoSem.ClaimJoined
import GoSem.ClaimMapViews
import Derived.JoinedTies
import Derived.KernelRfl
namespace Go.Proofs.Ytbkcdfiokjhcjaa
/- THE CELL 'sum', in the pinned program and in every row, IS THE sha256 OF THE DUMP (.gsa) THAT YtbkcdfiokjhcjaaProg.lean LOADS. Nothing in Lean hashes anything: it is a label: what it is worth is what the hold of that sum in a sandbox is worth. -/
noncomputable def Try.pinned : Pinned := { name := "ytbkcdfiokjhcjaa", sum := "576bc87c7c1251963f2142cfeddeefb402682e722d9ae1a3304e3c51dcd6661e", checked := Try.checked }
namespace Rows
def none {H : Type} : Left H := { results := [], args := [] }

/-- 'tallymanlaw03.GaussRing': WHATEVER THE INPUT: true; the input reads as it did. -/
def gaussRingSpec : ChangeSpec := { name := "gaussRing", fn := fun _ => fun
  | [d1, d2, d3] => { results := [.lit (.bool true)], args := [d1, d2, d3] }
  | _ => none }
def gaussRingRow : OpenClaim := { program := "ytbkcdfiokjhcjaa", sum := "576bc87c7c1251963f2142cfeddeefb402682e722d9ae1a3304e3c51dcd6661e", func := "tallyman/tallymanlaw03.GaussRing", spec := "gaussRing", apart := false }
def GaussRingSaid : Prop := gaussRingRow.holds Try.pinned (OpenSpec.ofChange gaussRingSpec)

/-- ITS FALSE NEIGHBOUR: 'it returns false'. Refute it at one input. -/
def gaussRingWrong : ChangeSpec := { name := "gaussRing", fn := fun _ => fun
  | [d1, d2, d3] => { results := [.lit (.bool false)], args := [d1, d2, d3] }
  | _ => none }
def GaussRingWrongFalsely : Prop := gaussRingRow.holds Try.pinned (OpenSpec.ofChange gaussRingWrong)

/-- 'tallymanlaw03.GaussOps': WHATEVER THE INPUT: true; the input reads as it did. -/
def gaussOpsSpec : ChangeSpec := { name := "gaussOps", fn := fun _ => fun
  | [d1, d2] => { results := [.lit (.bool true)], args := [d1, d2] }
  | _ => none }
def gaussOpsRow : OpenClaim := { program := "ytbkcdfiokjhcjaa", sum := "576bc87c7c1251963f2142cfeddeefb402682e722d9ae1a3304e3c51dcd6661e", func := "tallyman/tallymanlaw03.GaussOps", spec := "gaussOps", apart := false }
def GaussOpsSaid : Prop := gaussOpsRow.holds Try.pinned (OpenSpec.ofChange gaussOpsSpec)

/-- ITS FALSE NEIGHBOUR: 'it returns false'. Refute it at one input. -/
def gaussOpsWrong : ChangeSpec := { name := "gaussOps", fn := fun _ => fun
  | [d1, d2] => { results := [.lit (.bool false)], args := [d1, d2] }
  | _ => none }
def GaussOpsWrongFalsely : Prop := gaussOpsRow.holds Try.pinned (OpenSpec.ofChange gaussOpsWrong)

/-- 'tallymanlaw03.GaussSizes': WHATEVER THE INPUT: true; the input reads as it did. -/
def gaussSizesSpec : ChangeSpec := { name := "gaussSizes", fn := fun _ => fun
  | [d1, d2] => { results := [.lit (.bool true)], args := [d1, d2] }
  | _ => none }
def gaussSizesRow : OpenClaim := { program := "ytbkcdfiokjhcjaa", sum := "576bc87c7c1251963f2142cfeddeefb402682e722d9ae1a3304e3c51dcd6661e", func := "tallyman/tallymanlaw03.GaussSizes", spec := "gaussSizes", apart := false }
def GaussSizesSaid : Prop := gaussSizesRow.holds Try.pinned (OpenSpec.ofChange gaussSizesSpec)

/-- ITS FALSE NEIGHBOUR: 'it returns false'. Refute it at one input. -/
def gaussSizesWrong : ChangeSpec := { name := "gaussSizes", fn := fun _ => fun
  | [d1, d2] => { results := [.lit (.bool false)], args := [d1, d2] }
  | _ => none }
def GaussSizesWrongFalsely : Prop := gaussSizesRow.holds Try.pinned (OpenSpec.ofChange gaussSizesWrong)

/-- 'tallymanlaw03.GaussTurns': WHATEVER THE INPUT: true; the input reads as it did. -/
def gaussTurnsSpec : ChangeSpec := { name := "gaussTurns", fn := fun _ => fun
  | [d1, d2, d3, d4] => { results := [.lit (.bool true)], args := [d1, d2, d3, d4] }
  | _ => none }
def gaussTurnsRow : OpenClaim := { program := "ytbkcdfiokjhcjaa", sum := "576bc87c7c1251963f2142cfeddeefb402682e722d9ae1a3304e3c51dcd6661e", func := "tallyman/tallymanlaw03.GaussTurns", spec := "gaussTurns", apart := false }
def GaussTurnsSaid : Prop := gaussTurnsRow.holds Try.pinned (OpenSpec.ofChange gaussTurnsSpec)

/-- ITS FALSE NEIGHBOUR: 'it returns false'. Refute it at one input. -/
def gaussTurnsWrong : ChangeSpec := { name := "gaussTurns", fn := fun _ => fun
  | [d1, d2, d3, d4] => { results := [.lit (.bool false)], args := [d1, d2, d3, d4] }
  | _ => none }
def GaussTurnsWrongFalsely : Prop := gaussTurnsRow.holds Try.pinned (OpenSpec.ofChange gaussTurnsWrong)

/-- 'tallymanlaw04.MotionDoes': WHATEVER THE INPUT: true; the input reads as it did. -/
def motionDoesSpec : ChangeSpec := { name := "motionDoes", fn := fun _ => fun
  | [d1, d2, d3] => { results := [.lit (.bool true)], args := [d1, d2, d3] }
  | _ => none }
def motionDoesRow : OpenClaim := { program := "ytbkcdfiokjhcjaa", sum := "576bc87c7c1251963f2142cfeddeefb402682e722d9ae1a3304e3c51dcd6661e", func := "tallyman/tallymanlaw04.MotionDoes", spec := "motionDoes", apart := false }
def MotionDoesSaid : Prop := motionDoesRow.holds Try.pinned (OpenSpec.ofChange motionDoesSpec)

/-- ITS FALSE NEIGHBOUR: 'it returns false'. Refute it at one input. -/
def motionDoesWrong : ChangeSpec := { name := "motionDoes", fn := fun _ => fun
  | [d1, d2, d3] => { results := [.lit (.bool false)], args := [d1, d2, d3] }
  | _ => none }
def MotionDoesWrongFalsely : Prop := motionDoesRow.holds Try.pinned (OpenSpec.ofChange motionDoesWrong)

/-- 'tallymanlaw04.MotionTimes': WHATEVER THE INPUT: true; the input reads as it did. -/
def motionTimesSpec : ChangeSpec := { name := "motionTimes", fn := fun _ => fun
  | [d1, d2] => { results := [.lit (.bool true)], args := [d1, d2] }
  | _ => none }
def motionTimesRow : OpenClaim := { program := "ytbkcdfiokjhcjaa", sum := "576bc87c7c1251963f2142cfeddeefb402682e722d9ae1a3304e3c51dcd6661e", func := "tallyman/tallymanlaw04.MotionTimes", spec := "motionTimes", unfollowed := true, recurses := true, apart := false }
def MotionTimesSaid : Prop := motionTimesRow.holds Try.pinned (OpenSpec.ofChange motionTimesSpec)

/-- ITS FALSE NEIGHBOUR: 'it returns false'. Refute it at one input. -/
def motionTimesWrong : ChangeSpec := { name := "motionTimes", fn := fun _ => fun
  | [d1, d2] => { results := [.lit (.bool false)], args := [d1, d2] }
  | _ => none }
def MotionTimesWrongFalsely : Prop := motionTimesRow.holds Try.pinned (OpenSpec.ofChange motionTimesWrong)

/-- 'tallymanlaw04.MotionLaws': WHATEVER THE INPUT: true; the input reads as it did. -/
def motionLawsSpec : ChangeSpec := { name := "motionLaws", fn := fun _ => fun
  | [d1, d2, d3, d4, d5] => { results := [.lit (.bool true)], args := [d1, d2, d3, d4, d5] }
  | _ => none }
def motionLawsRow : OpenClaim := { program := "ytbkcdfiokjhcjaa", sum := "576bc87c7c1251963f2142cfeddeefb402682e722d9ae1a3304e3c51dcd6661e", func := "tallyman/tallymanlaw04.MotionLaws", spec := "motionLaws", apart := false }
def MotionLawsSaid : Prop := motionLawsRow.holds Try.pinned (OpenSpec.ofChange motionLawsSpec)

/-- ITS FALSE NEIGHBOUR: 'it returns false'. Refute it at one input. -/
def motionLawsWrong : ChangeSpec := { name := "motionLaws", fn := fun _ => fun
  | [d1, d2, d3, d4, d5] => { results := [.lit (.bool false)], args := [d1, d2, d3, d4, d5] }
  | _ => none }
def MotionLawsWrongFalsely : Prop := motionLawsRow.holds Try.pinned (OpenSpec.ofChange motionLawsWrong)

/-- 'tallymanlaw04.MotionFinds': WHATEVER THE INPUT: true; the input reads as it did. -/
def motionFindsSpec : ChangeSpec := { name := "motionFinds", fn := fun _ => fun
  | [d1, d2, d3] => { results := [.lit (.bool true)], args := [d1, d2, d3] }
  | _ => none }
def motionFindsRow : OpenClaim := { program := "ytbkcdfiokjhcjaa", sum := "576bc87c7c1251963f2142cfeddeefb402682e722d9ae1a3304e3c51dcd6661e", func := "tallyman/tallymanlaw04.MotionFinds", spec := "motionFinds", unfollowed := true, recurses := true, apart := false }
def MotionFindsSaid : Prop := motionFindsRow.holds Try.pinned (OpenSpec.ofChange motionFindsSpec)

/-- ITS FALSE NEIGHBOUR: 'it returns false'. Refute it at one input. -/
def motionFindsWrong : ChangeSpec := { name := "motionFinds", fn := fun _ => fun
  | [d1, d2, d3] => { results := [.lit (.bool false)], args := [d1, d2, d3] }
  | _ => none }
def MotionFindsWrongFalsely : Prop := motionFindsRow.holds Try.pinned (OpenSpec.ofChange motionFindsWrong)

/-- 'tallymanlaw03.GaussTexts': WHATEVER THE INPUT: true; the input reads as it did. -/
def gaussTextsSpec : ChangeSpec := { name := "gaussTexts", fn := fun _ => fun
  | [d1, d2] => { results := [.lit (.bool true)], args := [d1, d2] }
  | _ => none }
def gaussTextsRow : OpenClaim := { program := "ytbkcdfiokjhcjaa", sum := "576bc87c7c1251963f2142cfeddeefb402682e722d9ae1a3304e3c51dcd6661e", func := "tallyman/tallymanlaw03.GaussTexts", spec := "gaussTexts", inPlace := ["internal/bytealg.IndexByteString", "internal/bytealg.IndexString"], recurses := true, named := ["internal/bytealg.MaxLen"], apart := false }
def GaussTextsSaid : Prop := gaussTextsRow.holds Try.pinned (OpenSpec.ofChange gaussTextsSpec)

/-- ITS FALSE NEIGHBOUR: 'it returns false'. Refute it at one input. -/
def gaussTextsWrong : ChangeSpec := { name := "gaussTexts", fn := fun _ => fun
  | [d1, d2] => { results := [.lit (.bool false)], args := [d1, d2] }
  | _ => none }
def GaussTextsWrongFalsely : Prop := gaussTextsRow.holds Try.pinned (OpenSpec.ofChange gaussTextsWrong)

/- THE SECOND FORM. 'bulk': how many values and letters a reading holds, each counted each time it is reached (what is shared counts as often as it is met; a slice's spare places count too). A statement '..UptoSaid' is the law's where the arguments, and the package variables that the reading takes, are together of bulk at most 1048576: NARROWER than '..Said'. Prove '..Said' where nothing that the law and all that it calls make is longer than what came in: it says more and counts as full. Else prove '..UptoSaid'. A law counts once. -/
mutual
def uptoBulk {H : Type} : DataW H → Nat
  | .lit (.string bytes) => bytes.length + 1
  | .lit _ => 1
  | .nil => 1
  | .ptr d => uptoBulk d + 1
  | .slice elems spare => uptoBulkAll elems + uptoBulkAll spare + 1
  | .agg parts => uptoBulkAll parts + 1
  | .iface _ d => uptoBulk d + 1
  | .map entries => uptoBulkEntries entries + 1
  | .held _ => 1
def uptoBulkAll {H : Type} : List (DataW H) → Nat
  | [] => 0
  | d :: r => uptoBulk d + uptoBulkAll r
def uptoBulkEntries {H : Type} : List (Lit × DataW H) → Nat
  | [] => 0
  | x :: r => uptoBulkEntry x + uptoBulkEntries r
def uptoBulkEntry {H : Type} : Lit × DataW H → Nat
  | (.string bytes, d) => bytes.length + uptoBulk d + 1
  | (_, d) => uptoBulk d + 1
 end
def uptoSmall : (H : Type) → List (DataW H) → Bool := fun _ ds => decide (uptoBulkAll ds ≤ 1048576)
def OpenSpec.upto (s : _root_.Go.ChangeSpec) : _root_.Go.OpenSpec := { _root_.Go.OpenSpec.ofChange s with cond := some uptoSmall }

/-- 'tallymanlaw03.GaussRing', WHERE WHAT IT READS IS OF BULK AT MOST 1048576: true; the input reads as it did. -/
def gaussRingUptoRow : OpenClaim := { program := "ytbkcdfiokjhcjaa", sum := "576bc87c7c1251963f2142cfeddeefb402682e722d9ae1a3304e3c51dcd6661e", func := "tallyman/tallymanlaw03.GaussRing", spec := "gaussRing", apart := false, narrowed := true }
def GaussRingUptoSaid : Prop := gaussRingUptoRow.holds Try.pinned (OpenSpec.upto gaussRingSpec)

/-- 'tallymanlaw03.GaussOps', WHERE WHAT IT READS IS OF BULK AT MOST 1048576: true; the input reads as it did. -/
def gaussOpsUptoRow : OpenClaim := { program := "ytbkcdfiokjhcjaa", sum := "576bc87c7c1251963f2142cfeddeefb402682e722d9ae1a3304e3c51dcd6661e", func := "tallyman/tallymanlaw03.GaussOps", spec := "gaussOps", apart := false, narrowed := true }
def GaussOpsUptoSaid : Prop := gaussOpsUptoRow.holds Try.pinned (OpenSpec.upto gaussOpsSpec)

/-- 'tallymanlaw03.GaussSizes', WHERE WHAT IT READS IS OF BULK AT MOST 1048576: true; the input reads as it did. -/
def gaussSizesUptoRow : OpenClaim := { program := "ytbkcdfiokjhcjaa", sum := "576bc87c7c1251963f2142cfeddeefb402682e722d9ae1a3304e3c51dcd6661e", func := "tallyman/tallymanlaw03.GaussSizes", spec := "gaussSizes", apart := false, narrowed := true }
def GaussSizesUptoSaid : Prop := gaussSizesUptoRow.holds Try.pinned (OpenSpec.upto gaussSizesSpec)

/-- 'tallymanlaw03.GaussTurns', WHERE WHAT IT READS IS OF BULK AT MOST 1048576: true; the input reads as it did. -/
def gaussTurnsUptoRow : OpenClaim := { program := "ytbkcdfiokjhcjaa", sum := "576bc87c7c1251963f2142cfeddeefb402682e722d9ae1a3304e3c51dcd6661e", func := "tallyman/tallymanlaw03.GaussTurns", spec := "gaussTurns", apart := false, narrowed := true }
def GaussTurnsUptoSaid : Prop := gaussTurnsUptoRow.holds Try.pinned (OpenSpec.upto gaussTurnsSpec)

/-- 'tallymanlaw04.MotionDoes', WHERE WHAT IT READS IS OF BULK AT MOST 1048576: true; the input reads as it did. -/
def motionDoesUptoRow : OpenClaim := { program := "ytbkcdfiokjhcjaa", sum := "576bc87c7c1251963f2142cfeddeefb402682e722d9ae1a3304e3c51dcd6661e", func := "tallyman/tallymanlaw04.MotionDoes", spec := "motionDoes", apart := false, narrowed := true }
def MotionDoesUptoSaid : Prop := motionDoesUptoRow.holds Try.pinned (OpenSpec.upto motionDoesSpec)

/-- 'tallymanlaw04.MotionTimes', WHERE WHAT IT READS IS OF BULK AT MOST 1048576: true; the input reads as it did. -/
def motionTimesUptoRow : OpenClaim := { program := "ytbkcdfiokjhcjaa", sum := "576bc87c7c1251963f2142cfeddeefb402682e722d9ae1a3304e3c51dcd6661e", func := "tallyman/tallymanlaw04.MotionTimes", spec := "motionTimes", unfollowed := true, recurses := true, apart := false, narrowed := true }
def MotionTimesUptoSaid : Prop := motionTimesUptoRow.holds Try.pinned (OpenSpec.upto motionTimesSpec)

/-- 'tallymanlaw04.MotionLaws', WHERE WHAT IT READS IS OF BULK AT MOST 1048576: true; the input reads as it did. -/
def motionLawsUptoRow : OpenClaim := { program := "ytbkcdfiokjhcjaa", sum := "576bc87c7c1251963f2142cfeddeefb402682e722d9ae1a3304e3c51dcd6661e", func := "tallyman/tallymanlaw04.MotionLaws", spec := "motionLaws", apart := false, narrowed := true }
def MotionLawsUptoSaid : Prop := motionLawsUptoRow.holds Try.pinned (OpenSpec.upto motionLawsSpec)

/-- 'tallymanlaw04.MotionFinds', WHERE WHAT IT READS IS OF BULK AT MOST 1048576: true; the input reads as it did. -/
def motionFindsUptoRow : OpenClaim := { program := "ytbkcdfiokjhcjaa", sum := "576bc87c7c1251963f2142cfeddeefb402682e722d9ae1a3304e3c51dcd6661e", func := "tallyman/tallymanlaw04.MotionFinds", spec := "motionFinds", unfollowed := true, recurses := true, apart := false, narrowed := true }
def MotionFindsUptoSaid : Prop := motionFindsUptoRow.holds Try.pinned (OpenSpec.upto motionFindsSpec)

/-- 'tallymanlaw03.GaussTexts', WHERE WHAT IT READS IS OF BULK AT MOST 1048576: true; the input reads as it did. -/
def gaussTextsUptoRow : OpenClaim := { program := "ytbkcdfiokjhcjaa", sum := "576bc87c7c1251963f2142cfeddeefb402682e722d9ae1a3304e3c51dcd6661e", func := "tallyman/tallymanlaw03.GaussTexts", spec := "gaussTexts", inPlace := ["internal/bytealg.IndexByteString", "internal/bytealg.IndexString"], recurses := true, named := ["internal/bytealg.MaxLen"], apart := false, narrowed := true }
def GaussTextsUptoSaid : Prop := gaussTextsUptoRow.holds Try.pinned (OpenSpec.upto gaussTextsSpec)

end Rows
end Go.Proofs.Ytbkcdfiokjhcjaa
