/-
  No cell of these rows narrows 'for every input' (looked for: loops, veiled, ifaces, maps, wideKeys, modest, calm, conditions, laid).
  DERIVED. THE GIVEN ROWS OF THIS SEAT. 11 by the template 'for every input the law returns true; each argument reads behind the call as it read before'; 0 by the template 'total and deterministic' (their statements: YtajgillnkkkgjaaTotals.lean).
  GIVEN WITH THE SEED: the statements are not yours to turn. If you find one false, say at which input.
  Laid BY PROGRAM, IN A SANDBOX (cutbox-rows.mjs): the forced cells as the released guide's own fill.sh prints them over the translation be50b42cc3647f9d… (all of the seat's roots in one cut). By AI agents, Wed Nov 11 2026. No macro, syntax, notation, axiom, sorry.
-/
import Derived.Test.YtajgillnkkkgjaaChecked
import GoSem.Claim
import GoSem.ClaimJoined
import GoSem.ClaimMapViews
import Derived.JoinedTies
import Derived.KernelRfl
namespace Go.Proofs.Ytajgillnkkkgjaa
/- THE CELL 'sum', in the pinned program and in every row, IS THE sha256 OF THE DUMP (.gsa) THAT YtajgillnkkkgjaaProg.lean LOADS. Nothing in Lean hashes anything: it is a label: what it is worth is what the hold of that sum in a sandbox is worth. -/
noncomputable def Try.pinned : Pinned := { name := "ytajgillnkkkgjaa", sum := "be50b42cc3647f9df780305dc3ecccbd6bfc19eda2db4197d1fb12368b9fd114", checked := Try.checked }
namespace Rows
def none {H : Type} : Left H := { results := [], args := [] }

/-- 'tallymanlaw27.PairGood': WHATEVER THE INPUT: true; the input reads as it did. -/
def pairGoodSpec : ChangeSpec := { name := "pairGood", fn := fun _ => fun
  | [d1, d2, d3, d4] => { results := [.lit (.bool true)], args := [d1, d2, d3, d4] }
  | _ => none }
def pairGoodRow : OpenClaim := { program := "ytajgillnkkkgjaa", sum := "be50b42cc3647f9df780305dc3ecccbd6bfc19eda2db4197d1fb12368b9fd114", func := "tallyman/tallymanlaw27.PairGood", spec := "pairGood", unfollowed := true, recurses := true, apart := false }
def PairGoodSaid : Prop := pairGoodRow.holds Try.pinned (OpenSpec.ofChange pairGoodSpec)

/-- ITS FALSE NEIGHBOUR: 'it returns false'. Refute it at one input. -/
def pairGoodWrong : ChangeSpec := { name := "pairGood", fn := fun _ => fun
  | [d1, d2, d3, d4] => { results := [.lit (.bool false)], args := [d1, d2, d3, d4] }
  | _ => none }
def PairGoodWrongFalsely : Prop := pairGoodRow.holds Try.pinned (OpenSpec.ofChange pairGoodWrong)

/-- 'tallymanlaw27.PairLeft': WHATEVER THE INPUT: true; the input reads as it did. -/
def pairLeftSpec : ChangeSpec := { name := "pairLeft", fn := fun _ => fun
  | [d1, d2, d3] => { results := [.lit (.bool true)], args := [d1, d2, d3] }
  | _ => none }
def pairLeftRow : OpenClaim := { program := "ytajgillnkkkgjaa", sum := "be50b42cc3647f9df780305dc3ecccbd6bfc19eda2db4197d1fb12368b9fd114", func := "tallyman/tallymanlaw27.PairLeft", spec := "pairLeft", unfollowed := true, recurses := true, apart := false }
def PairLeftSaid : Prop := pairLeftRow.holds Try.pinned (OpenSpec.ofChange pairLeftSpec)

/-- ITS FALSE NEIGHBOUR: 'it returns false'. Refute it at one input. -/
def pairLeftWrong : ChangeSpec := { name := "pairLeft", fn := fun _ => fun
  | [d1, d2, d3] => { results := [.lit (.bool false)], args := [d1, d2, d3] }
  | _ => none }
def PairLeftWrongFalsely : Prop := pairLeftRow.holds Try.pinned (OpenSpec.ofChange pairLeftWrong)

/-- 'tallymanlaw11.TapeDoes': WHATEVER THE INPUT: true; the input reads as it did. -/
def tapeDoesSpec : ChangeSpec := { name := "tapeDoes", fn := fun _ => fun
  | [d] => { results := [.lit (.bool true)], args := [d] }
  | _ => none }
def tapeDoesRow : OpenClaim := { program := "ytajgillnkkkgjaa", sum := "be50b42cc3647f9df780305dc3ecccbd6bfc19eda2db4197d1fb12368b9fd114", func := "tallyman/tallymanlaw11.TapeDoes", spec := "tapeDoes", apart := false }
def TapeDoesSaid : Prop := tapeDoesRow.holds Try.pinned (OpenSpec.ofChange tapeDoesSpec)

/-- ITS FALSE NEIGHBOUR: 'it returns false'. Refute it at one input. -/
def tapeDoesWrong : ChangeSpec := { name := "tapeDoes", fn := fun _ => fun
  | [d] => { results := [.lit (.bool false)], args := [d] }
  | _ => none }
def TapeDoesWrongFalsely : Prop := tapeDoesRow.holds Try.pinned (OpenSpec.ofChange tapeDoesWrong)

/-- 'tallymanlaw11.TapeSure': WHATEVER THE INPUT: true; the input reads as it did. -/
def tapeSureSpec : ChangeSpec := { name := "tapeSure", fn := fun _ => fun
  | [d1, d2] => { results := [.lit (.bool true)], args := [d1, d2] }
  | _ => none }
def tapeSureRow : OpenClaim := { program := "ytajgillnkkkgjaa", sum := "be50b42cc3647f9df780305dc3ecccbd6bfc19eda2db4197d1fb12368b9fd114", func := "tallyman/tallymanlaw11.TapeSure", spec := "tapeSure", apart := false }
def TapeSureSaid : Prop := tapeSureRow.holds Try.pinned (OpenSpec.ofChange tapeSureSpec)

/-- ITS FALSE NEIGHBOUR: 'it returns false'. Refute it at one input. -/
def tapeSureWrong : ChangeSpec := { name := "tapeSure", fn := fun _ => fun
  | [d1, d2] => { results := [.lit (.bool false)], args := [d1, d2] }
  | _ => none }
def TapeSureWrongFalsely : Prop := tapeSureRow.holds Try.pinned (OpenSpec.ofChange tapeSureWrong)

/-- 'tallymanlaw10.FrameWrites': WHATEVER THE INPUT: true; the input reads as it did. -/
def frameWritesSpec : ChangeSpec := { name := "frameWrites", fn := fun _ => fun
  | [d1, d2, d3] => { results := [.lit (.bool true)], args := [d1, d2, d3] }
  | _ => none }
def frameWritesRow : OpenClaim := { program := "ytajgillnkkkgjaa", sum := "be50b42cc3647f9df780305dc3ecccbd6bfc19eda2db4197d1fb12368b9fd114", func := "tallyman/tallymanlaw10.FrameWrites", spec := "frameWrites", apart := false }
def FrameWritesSaid : Prop := frameWritesRow.holds Try.pinned (OpenSpec.ofChange frameWritesSpec)

/-- ITS FALSE NEIGHBOUR: 'it returns false'. Refute it at one input. -/
def frameWritesWrong : ChangeSpec := { name := "frameWrites", fn := fun _ => fun
  | [d1, d2, d3] => { results := [.lit (.bool false)], args := [d1, d2, d3] }
  | _ => none }
def FrameWritesWrongFalsely : Prop := frameWritesRow.holds Try.pinned (OpenSpec.ofChange frameWritesWrong)

/-- 'tallymanlaw10.FrameReads': WHATEVER THE INPUT: true; the input reads as it did. -/
def frameReadsSpec : ChangeSpec := { name := "frameReads", fn := fun _ => fun
  | [d] => { results := [.lit (.bool true)], args := [d] }
  | _ => none }
def frameReadsRow : OpenClaim := { program := "ytajgillnkkkgjaa", sum := "be50b42cc3647f9df780305dc3ecccbd6bfc19eda2db4197d1fb12368b9fd114", func := "tallyman/tallymanlaw10.FrameReads", spec := "frameReads", apart := false }
def FrameReadsSaid : Prop := frameReadsRow.holds Try.pinned (OpenSpec.ofChange frameReadsSpec)

/-- ITS FALSE NEIGHBOUR: 'it returns false'. Refute it at one input. -/
def frameReadsWrong : ChangeSpec := { name := "frameReads", fn := fun _ => fun
  | [d] => { results := [.lit (.bool false)], args := [d] }
  | _ => none }
def FrameReadsWrongFalsely : Prop := frameReadsRow.holds Try.pinned (OpenSpec.ofChange frameReadsWrong)

/-- 'tallymanlaw10.FrameTorn': WHATEVER THE INPUT: true; the input reads as it did. -/
def frameTornSpec : ChangeSpec := { name := "frameTorn", fn := fun _ => fun
  | [d1, d2] => { results := [.lit (.bool true)], args := [d1, d2] }
  | _ => none }
def frameTornRow : OpenClaim := { program := "ytajgillnkkkgjaa", sum := "be50b42cc3647f9df780305dc3ecccbd6bfc19eda2db4197d1fb12368b9fd114", func := "tallyman/tallymanlaw10.FrameTorn", spec := "frameTorn", apart := false }
def FrameTornSaid : Prop := frameTornRow.holds Try.pinned (OpenSpec.ofChange frameTornSpec)

/-- ITS FALSE NEIGHBOUR: 'it returns false'. Refute it at one input. -/
def frameTornWrong : ChangeSpec := { name := "frameTorn", fn := fun _ => fun
  | [d1, d2] => { results := [.lit (.bool false)], args := [d1, d2] }
  | _ => none }
def FrameTornWrongFalsely : Prop := frameTornRow.holds Try.pinned (OpenSpec.ofChange frameTornWrong)

/-- 'tallymanlaw10.FrameDamage': WHATEVER THE INPUT: true; the input reads as it did. -/
def frameDamageSpec : ChangeSpec := { name := "frameDamage", fn := fun _ => fun
  | [d1, d2, d3, d4] => { results := [.lit (.bool true)], args := [d1, d2, d3, d4] }
  | _ => none }
def frameDamageRow : OpenClaim := { program := "ytajgillnkkkgjaa", sum := "be50b42cc3647f9df780305dc3ecccbd6bfc19eda2db4197d1fb12368b9fd114", func := "tallyman/tallymanlaw10.FrameDamage", spec := "frameDamage", apart := false }
def FrameDamageSaid : Prop := frameDamageRow.holds Try.pinned (OpenSpec.ofChange frameDamageSpec)

/-- ITS FALSE NEIGHBOUR: 'it returns false'. Refute it at one input. -/
def frameDamageWrong : ChangeSpec := { name := "frameDamage", fn := fun _ => fun
  | [d1, d2, d3, d4] => { results := [.lit (.bool false)], args := [d1, d2, d3, d4] }
  | _ => none }
def FrameDamageWrongFalsely : Prop := frameDamageRow.holds Try.pinned (OpenSpec.ofChange frameDamageWrong)

/-- 'tallymanlaw26.LeaseLoads': WHATEVER THE INPUT: true; the input reads as it did. -/
def leaseLoadsSpec : ChangeSpec := { name := "leaseLoads", fn := fun _ => fun
  | [d1, d2, d3, d4] => { results := [.lit (.bool true)], args := [d1, d2, d3, d4] }
  | _ => none }
def leaseLoadsRow : OpenClaim := { program := "ytajgillnkkkgjaa", sum := "be50b42cc3647f9df780305dc3ecccbd6bfc19eda2db4197d1fb12368b9fd114", func := "tallyman/tallymanlaw26.LeaseLoads", spec := "leaseLoads", inPlace := ["math/bits.Add64"], unfollowed := true, recurses := true, apart := false }
def LeaseLoadsSaid : Prop := leaseLoadsRow.holds Try.pinned (OpenSpec.ofChange leaseLoadsSpec)

/-- ITS FALSE NEIGHBOUR: 'it returns false'. Refute it at one input. -/
def leaseLoadsWrong : ChangeSpec := { name := "leaseLoads", fn := fun _ => fun
  | [d1, d2, d3, d4] => { results := [.lit (.bool false)], args := [d1, d2, d3, d4] }
  | _ => none }
def LeaseLoadsWrongFalsely : Prop := leaseLoadsRow.holds Try.pinned (OpenSpec.ofChange leaseLoadsWrong)

/-- 'tallymanlaw26.LeaseSafe': WHATEVER THE INPUT: true; the input reads as it did. -/
def leaseSafeSpec : ChangeSpec := { name := "leaseSafe", fn := fun _ => fun
  | [d1, d2] => { results := [.lit (.bool true)], args := [d1, d2] }
  | _ => none }
def leaseSafeRow : OpenClaim := { program := "ytajgillnkkkgjaa", sum := "be50b42cc3647f9df780305dc3ecccbd6bfc19eda2db4197d1fb12368b9fd114", func := "tallyman/tallymanlaw26.LeaseSafe", spec := "leaseSafe", inPlace := ["math/bits.Add64"], unfollowed := true, recurses := true, apart := false }
def LeaseSafeSaid : Prop := leaseSafeRow.holds Try.pinned (OpenSpec.ofChange leaseSafeSpec)

/-- ITS FALSE NEIGHBOUR: 'it returns false'. Refute it at one input. -/
def leaseSafeWrong : ChangeSpec := { name := "leaseSafe", fn := fun _ => fun
  | [d1, d2] => { results := [.lit (.bool false)], args := [d1, d2] }
  | _ => none }
def LeaseSafeWrongFalsely : Prop := leaseSafeRow.holds Try.pinned (OpenSpec.ofChange leaseSafeWrong)

/-- 'tallymanlaw26.LeaseDoes': WHATEVER THE INPUT: true; the input reads as it did. -/
def leaseDoesSpec : ChangeSpec := { name := "leaseDoes", fn := fun _ => fun
  | [d1, d2, d3] => { results := [.lit (.bool true)], args := [d1, d2, d3] }
  | _ => none }
def leaseDoesRow : OpenClaim := { program := "ytajgillnkkkgjaa", sum := "be50b42cc3647f9df780305dc3ecccbd6bfc19eda2db4197d1fb12368b9fd114", func := "tallyman/tallymanlaw26.LeaseDoes", spec := "leaseDoes", inPlace := ["math/bits.Add64"], unfollowed := true, recurses := true, apart := false }
def LeaseDoesSaid : Prop := leaseDoesRow.holds Try.pinned (OpenSpec.ofChange leaseDoesSpec)

/-- ITS FALSE NEIGHBOUR: 'it returns false'. Refute it at one input. -/
def leaseDoesWrong : ChangeSpec := { name := "leaseDoes", fn := fun _ => fun
  | [d1, d2, d3] => { results := [.lit (.bool false)], args := [d1, d2, d3] }
  | _ => none }
def LeaseDoesWrongFalsely : Prop := leaseDoesRow.holds Try.pinned (OpenSpec.ofChange leaseDoesWrong)

/- THE SECOND FORM. 'bulk': how many values and letters a reading holds, each counted each time it is reached (what is shared counts as often as it is met; a slice's spare places count too). A statement '..UptoSaid' is the law's where the arguments, and the package variables that the reading takes, are together of bulk at most 1048576: NARROWER than '..Said'. Prove '..Said' where nothing that the law and all that it calls make is longer than what came in: it says more and counts as full. Else prove '..UptoSaid'. A law counts once. -/
mutual
def uptoBulk {H : Type} : DataW H → Nat
  | .lit (.string bytes) => bytes.length + 1
  | .lit _ => 1
  | .nil => 1
  | .ptr d => uptoBulk d + 1
  | .slice elems spare => uptoBulkAll elems + uptoBulkAll spare + 1
  | .agg parts => uptoBulkAll parts + 1
  | .iface _ d => uptoBulk d + 1
  | .map entries => uptoBulkEntries entries + 1
  | .held _ => 1
def uptoBulkAll {H : Type} : List (DataW H) → Nat
  | [] => 0
  | d :: r => uptoBulk d + uptoBulkAll r
def uptoBulkEntries {H : Type} : List (Lit × DataW H) → Nat
  | [] => 0
  | x :: r => uptoBulkEntry x + uptoBulkEntries r
def uptoBulkEntry {H : Type} : Lit × DataW H → Nat
  | (.string bytes, d) => bytes.length + uptoBulk d + 1
  | (_, d) => uptoBulk d + 1
 end
def uptoSmall : (H : Type) → List (DataW H) → Bool := fun _ ds => decide (uptoBulkAll ds ≤ 1048576)
def OpenSpec.upto (s : _root_.Go.ChangeSpec) : _root_.Go.OpenSpec := { _root_.Go.OpenSpec.ofChange s with cond := some uptoSmall }

/-- 'tallymanlaw27.PairGood', WHERE WHAT IT READS IS OF BULK AT MOST 1048576: true; the input reads as it did. -/
def pairGoodUptoRow : OpenClaim := { program := "ytajgillnkkkgjaa", sum := "be50b42cc3647f9df780305dc3ecccbd6bfc19eda2db4197d1fb12368b9fd114", func := "tallyman/tallymanlaw27.PairGood", spec := "pairGood", unfollowed := true, recurses := true, apart := false, narrowed := true }
def PairGoodUptoSaid : Prop := pairGoodUptoRow.holds Try.pinned (OpenSpec.upto pairGoodSpec)

/-- 'tallymanlaw27.PairLeft', WHERE WHAT IT READS IS OF BULK AT MOST 1048576: true; the input reads as it did. -/
def pairLeftUptoRow : OpenClaim := { program := "ytajgillnkkkgjaa", sum := "be50b42cc3647f9df780305dc3ecccbd6bfc19eda2db4197d1fb12368b9fd114", func := "tallyman/tallymanlaw27.PairLeft", spec := "pairLeft", unfollowed := true, recurses := true, apart := false, narrowed := true }
def PairLeftUptoSaid : Prop := pairLeftUptoRow.holds Try.pinned (OpenSpec.upto pairLeftSpec)

/-- 'tallymanlaw11.TapeDoes', WHERE WHAT IT READS IS OF BULK AT MOST 1048576: true; the input reads as it did. -/
def tapeDoesUptoRow : OpenClaim := { program := "ytajgillnkkkgjaa", sum := "be50b42cc3647f9df780305dc3ecccbd6bfc19eda2db4197d1fb12368b9fd114", func := "tallyman/tallymanlaw11.TapeDoes", spec := "tapeDoes", apart := false, narrowed := true }
def TapeDoesUptoSaid : Prop := tapeDoesUptoRow.holds Try.pinned (OpenSpec.upto tapeDoesSpec)

/-- 'tallymanlaw11.TapeSure', WHERE WHAT IT READS IS OF BULK AT MOST 1048576: true; the input reads as it did. -/
def tapeSureUptoRow : OpenClaim := { program := "ytajgillnkkkgjaa", sum := "be50b42cc3647f9df780305dc3ecccbd6bfc19eda2db4197d1fb12368b9fd114", func := "tallyman/tallymanlaw11.TapeSure", spec := "tapeSure", apart := false, narrowed := true }
def TapeSureUptoSaid : Prop := tapeSureUptoRow.holds Try.pinned (OpenSpec.upto tapeSureSpec)

/-- 'tallymanlaw10.FrameWrites', WHERE WHAT IT READS IS OF BULK AT MOST 1048576: true; the input reads as it did. -/
def frameWritesUptoRow : OpenClaim := { program := "ytajgillnkkkgjaa", sum := "be50b42cc3647f9df780305dc3ecccbd6bfc19eda2db4197d1fb12368b9fd114", func := "tallyman/tallymanlaw10.FrameWrites", spec := "frameWrites", apart := false, narrowed := true }
def FrameWritesUptoSaid : Prop := frameWritesUptoRow.holds Try.pinned (OpenSpec.upto frameWritesSpec)

/-- 'tallymanlaw10.FrameReads', WHERE WHAT IT READS IS OF BULK AT MOST 1048576: true; the input reads as it did. -/
def frameReadsUptoRow : OpenClaim := { program := "ytajgillnkkkgjaa", sum := "be50b42cc3647f9df780305dc3ecccbd6bfc19eda2db4197d1fb12368b9fd114", func := "tallyman/tallymanlaw10.FrameReads", spec := "frameReads", apart := false, narrowed := true }
def FrameReadsUptoSaid : Prop := frameReadsUptoRow.holds Try.pinned (OpenSpec.upto frameReadsSpec)

/-- 'tallymanlaw10.FrameTorn', WHERE WHAT IT READS IS OF BULK AT MOST 1048576: true; the input reads as it did. -/
def frameTornUptoRow : OpenClaim := { program := "ytajgillnkkkgjaa", sum := "be50b42cc3647f9df780305dc3ecccbd6bfc19eda2db4197d1fb12368b9fd114", func := "tallyman/tallymanlaw10.FrameTorn", spec := "frameTorn", apart := false, narrowed := true }
def FrameTornUptoSaid : Prop := frameTornUptoRow.holds Try.pinned (OpenSpec.upto frameTornSpec)

/-- 'tallymanlaw10.FrameDamage', WHERE WHAT IT READS IS OF BULK AT MOST 1048576: true; the input reads as it did. -/
def frameDamageUptoRow : OpenClaim := { program := "ytajgillnkkkgjaa", sum := "be50b42cc3647f9df780305dc3ecccbd6bfc19eda2db4197d1fb12368b9fd114", func := "tallyman/tallymanlaw10.FrameDamage", spec := "frameDamage", apart := false, narrowed := true }
def FrameDamageUptoSaid : Prop := frameDamageUptoRow.holds Try.pinned (OpenSpec.upto frameDamageSpec)

/-- 'tallymanlaw26.LeaseLoads', WHERE WHAT IT READS IS OF BULK AT MOST 1048576: true; the input reads as it did. -/
def leaseLoadsUptoRow : OpenClaim := { program := "ytajgillnkkkgjaa", sum := "be50b42cc3647f9df780305dc3ecccbd6bfc19eda2db4197d1fb12368b9fd114", func := "tallyman/tallymanlaw26.LeaseLoads", spec := "leaseLoads", inPlace := ["math/bits.Add64"], unfollowed := true, recurses := true, apart := false, narrowed := true }
def LeaseLoadsUptoSaid : Prop := leaseLoadsUptoRow.holds Try.pinned (OpenSpec.upto leaseLoadsSpec)

/-- 'tallymanlaw26.LeaseSafe', WHERE WHAT IT READS IS OF BULK AT MOST 1048576: true; the input reads as it did. -/
def leaseSafeUptoRow : OpenClaim := { program := "ytajgillnkkkgjaa", sum := "be50b42cc3647f9df780305dc3ecccbd6bfc19eda2db4197d1fb12368b9fd114", func := "tallyman/tallymanlaw26.LeaseSafe", spec := "leaseSafe", inPlace := ["math/bits.Add64"], unfollowed := true, recurses := true, apart := false, narrowed := true }
def LeaseSafeUptoSaid : Prop := leaseSafeUptoRow.holds Try.pinned (OpenSpec.upto leaseSafeSpec)

/-- 'tallymanlaw26.LeaseDoes', WHERE WHAT IT READS IS OF BULK AT MOST 1048576: true; the input reads as it did. -/
def leaseDoesUptoRow : OpenClaim := { program := "ytajgillnkkkgjaa", sum := "be50b42cc3647f9df780305dc3ecccbd6bfc19eda2db4197d1fb12368b9fd114", func := "tallyman/tallymanlaw26.LeaseDoes", spec := "leaseDoes", inPlace := ["math/bits.Add64"], unfollowed := true, recurses := true, apart := false, narrowed := true }
def LeaseDoesUptoSaid : Prop := leaseDoesUptoRow.holds Try.pinned (OpenSpec.upto leaseDoesSpec)

end Rows
end Go.Proofs.Ytajgillnkkkgjaa
