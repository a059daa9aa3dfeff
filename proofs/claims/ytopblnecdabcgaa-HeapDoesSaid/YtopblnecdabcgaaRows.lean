/-
  No cell of these rows narrows 'for every input' (looked for: loops, veiled, ifaces, maps, wideKeys, modest, calm, conditions, laid).
  DERIVED. THE GIVEN ROWS OF THIS SEAT. 10 by the template 'for every input the law returns true; each argument reads behind the call as it read before'; 0 by the template 'total and deterministic' (their statements: YtopblnecdabcgaaTotals.lean).
  GIVEN WITH THE SEED: the statements are not yours to turn. If you find one false, say at which input.
  Laid BY PROGRAM, IN A SANDBOX (cutbox-rows.mjs): the forced cells as the released guide's own fill.sh prints them over the translation a7bfbdc2c9cd5083… (all of the seat's roots in one cut). By AI agents, Wed Nov 11 2026. No macro, syntax, notation, axiom, sorry.
-/
import Derived.Test.YtopblnecdabcgaaChecked
import GoSem.Claim
import GoSem.ClaimJoined
import GoSem.ClaimMapViews
import Derived.JoinedTies
import Derived.KernelRfl
namespace Go.Proofs.Ytopblnecdabcgaa
/- THE CELL 'sum', in the pinned program and in every row, IS THE sha256 OF THE DUMP (.gsa) THAT YtopblnecdabcgaaProg.lean LOADS. Nothing in Lean hashes anything: it is a label: what it is worth is what the hold of that sum in a sandbox is worth. -/
noncomputable def Try.pinned : Pinned := { name := "ytopblnecdabcgaa", sum := "a7bfbdc2c9cd50835deb1d47301904bb7fa3455a72dcb926a0c2a91e1c21e2b1", checked := Try.checked }
namespace Rows
def none {H : Type} : Left H := { results := [], args := [] }

/-- 'tallymanlaw14.AgeTells': WHATEVER THE INPUT: true; the input reads as it did. -/
def ageTellsSpec : ChangeSpec := { name := "ageTells", fn := fun _ => fun
  | [d1, d2, d3, d4] => { results := [.lit (.bool true)], args := [d1, d2, d3, d4] }
  | _ => none }
def ageTellsRow : OpenClaim := { program := "ytopblnecdabcgaa", sum := "a7bfbdc2c9cd50835deb1d47301904bb7fa3455a72dcb926a0c2a91e1c21e2b1", func := "tallyman/tallymanlaw14.AgeTells", spec := "ageTells", inPlace := ["math/bits.Add64"], unfollowed := true, recurses := true, apart := false }
def AgeTellsSaid : Prop := ageTellsRow.holds Try.pinned (OpenSpec.ofChange ageTellsSpec)

/-- ITS FALSE NEIGHBOUR: 'it returns false'. Refute it at one input. -/
def ageTellsWrong : ChangeSpec := { name := "ageTells", fn := fun _ => fun
  | [d1, d2, d3, d4] => { results := [.lit (.bool false)], args := [d1, d2, d3, d4] }
  | _ => none }
def AgeTellsWrongFalsely : Prop := ageTellsRow.holds Try.pinned (OpenSpec.ofChange ageTellsWrong)

/-- 'tallymanlaw14.AgeRises': WHATEVER THE INPUT: true; the input reads as it did. -/
def ageRisesSpec : ChangeSpec := { name := "ageRises", fn := fun _ => fun
  | [d1, d2, d3, d4] => { results := [.lit (.bool true)], args := [d1, d2, d3, d4] }
  | _ => none }
def ageRisesRow : OpenClaim := { program := "ytopblnecdabcgaa", sum := "a7bfbdc2c9cd50835deb1d47301904bb7fa3455a72dcb926a0c2a91e1c21e2b1", func := "tallyman/tallymanlaw14.AgeRises", spec := "ageRises", inPlace := ["math/bits.Add64"], unfollowed := true, recurses := true, apart := false }
def AgeRisesSaid : Prop := ageRisesRow.holds Try.pinned (OpenSpec.ofChange ageRisesSpec)

/-- ITS FALSE NEIGHBOUR: 'it returns false'. Refute it at one input. -/
def ageRisesWrong : ChangeSpec := { name := "ageRises", fn := fun _ => fun
  | [d1, d2, d3, d4] => { results := [.lit (.bool false)], args := [d1, d2, d3, d4] }
  | _ => none }
def AgeRisesWrongFalsely : Prop := ageRisesRow.holds Try.pinned (OpenSpec.ofChange ageRisesWrong)

/-- 'tallymanlaw14.AgeKeeps': WHATEVER THE INPUT: true; the input reads as it did. -/
def ageKeepsSpec : ChangeSpec := { name := "ageKeeps", fn := fun _ => fun
  | [d1, d2, d3, d4, d5] => { results := [.lit (.bool true)], args := [d1, d2, d3, d4, d5] }
  | _ => none }
def ageKeepsRow : OpenClaim := { program := "ytopblnecdabcgaa", sum := "a7bfbdc2c9cd50835deb1d47301904bb7fa3455a72dcb926a0c2a91e1c21e2b1", func := "tallyman/tallymanlaw14.AgeKeeps", spec := "ageKeeps", inPlace := ["math/bits.Add64"], unfollowed := true, recurses := true, apart := false }
def AgeKeepsSaid : Prop := ageKeepsRow.holds Try.pinned (OpenSpec.ofChange ageKeepsSpec)

/-- ITS FALSE NEIGHBOUR: 'it returns false'. Refute it at one input. -/
def ageKeepsWrong : ChangeSpec := { name := "ageKeeps", fn := fun _ => fun
  | [d1, d2, d3, d4, d5] => { results := [.lit (.bool false)], args := [d1, d2, d3, d4, d5] }
  | _ => none }
def AgeKeepsWrongFalsely : Prop := ageKeepsRow.holds Try.pinned (OpenSpec.ofChange ageKeepsWrong)

/-- 'tallymanlaw13.HeapDoes': WHATEVER THE INPUT: true; the input reads as it did. -/
def heapDoesSpec : ChangeSpec := { name := "heapDoes", fn := fun _ => fun
  | [d] => { results := [.lit (.bool true)], args := [d] }
  | _ => none }
def heapDoesRow : OpenClaim := { program := "ytopblnecdabcgaa", sum := "a7bfbdc2c9cd50835deb1d47301904bb7fa3455a72dcb926a0c2a91e1c21e2b1", func := "tallyman/tallymanlaw13.HeapDoes", spec := "heapDoes", apart := false }
def HeapDoesSaid : Prop := heapDoesRow.holds Try.pinned (OpenSpec.ofChange heapDoesSpec)

/-- ITS FALSE NEIGHBOUR: 'it returns false'. Refute it at one input. -/
def heapDoesWrong : ChangeSpec := { name := "heapDoes", fn := fun _ => fun
  | [d] => { results := [.lit (.bool false)], args := [d] }
  | _ => none }
def HeapDoesWrongFalsely : Prop := heapDoesRow.holds Try.pinned (OpenSpec.ofChange heapDoesWrong)

/-- 'tallymanlaw13.HeapPops': WHATEVER THE INPUT: true; the input reads as it did. -/
def heapPopsSpec : ChangeSpec := { name := "heapPops", fn := fun _ => fun
  | [d] => { results := [.lit (.bool true)], args := [d] }
  | _ => none }
def heapPopsRow : OpenClaim := { program := "ytopblnecdabcgaa", sum := "a7bfbdc2c9cd50835deb1d47301904bb7fa3455a72dcb926a0c2a91e1c21e2b1", func := "tallyman/tallymanlaw13.HeapPops", spec := "heapPops", apart := false }
def HeapPopsSaid : Prop := heapPopsRow.holds Try.pinned (OpenSpec.ofChange heapPopsSpec)

/-- ITS FALSE NEIGHBOUR: 'it returns false'. Refute it at one input. -/
def heapPopsWrong : ChangeSpec := { name := "heapPops", fn := fun _ => fun
  | [d] => { results := [.lit (.bool false)], args := [d] }
  | _ => none }
def HeapPopsWrongFalsely : Prop := heapPopsRow.holds Try.pinned (OpenSpec.ofChange heapPopsWrong)

/-- 'tallymanlaw37.BoundTells': WHATEVER THE INPUT: true; the input reads as it did. -/
def boundTellsSpec : ChangeSpec := { name := "boundTells", fn := fun _ => fun
  | [d1, d2] => { results := [.lit (.bool true)], args := [d1, d2] }
  | _ => none }
def boundTellsRow : OpenClaim := { program := "ytopblnecdabcgaa", sum := "a7bfbdc2c9cd50835deb1d47301904bb7fa3455a72dcb926a0c2a91e1c21e2b1", func := "tallyman/tallymanlaw37.BoundTells", spec := "boundTells", inPlace := ["math/bits.Add64"], unfollowed := true, recurses := true, apart := false }
def BoundTellsSaid : Prop := boundTellsRow.holds Try.pinned (OpenSpec.ofChange boundTellsSpec)

/-- ITS FALSE NEIGHBOUR: 'it returns false'. Refute it at one input. -/
def boundTellsWrong : ChangeSpec := { name := "boundTells", fn := fun _ => fun
  | [d1, d2] => { results := [.lit (.bool false)], args := [d1, d2] }
  | _ => none }
def BoundTellsWrongFalsely : Prop := boundTellsRow.holds Try.pinned (OpenSpec.ofChange boundTellsWrong)

/-- 'tallymanlaw37.BoundGrows': WHATEVER THE INPUT: true; the input reads as it did. -/
def boundGrowsSpec : ChangeSpec := { name := "boundGrows", fn := fun _ => fun
  | [d1, d2] => { results := [.lit (.bool true)], args := [d1, d2] }
  | _ => none }
def boundGrowsRow : OpenClaim := { program := "ytopblnecdabcgaa", sum := "a7bfbdc2c9cd50835deb1d47301904bb7fa3455a72dcb926a0c2a91e1c21e2b1", func := "tallyman/tallymanlaw37.BoundGrows", spec := "boundGrows", inPlace := ["math/bits.Add64"], unfollowed := true, recurses := true, apart := false }
def BoundGrowsSaid : Prop := boundGrowsRow.holds Try.pinned (OpenSpec.ofChange boundGrowsSpec)

/-- ITS FALSE NEIGHBOUR: 'it returns false'. Refute it at one input. -/
def boundGrowsWrong : ChangeSpec := { name := "boundGrows", fn := fun _ => fun
  | [d1, d2] => { results := [.lit (.bool false)], args := [d1, d2] }
  | _ => none }
def BoundGrowsWrongFalsely : Prop := boundGrowsRow.holds Try.pinned (OpenSpec.ofChange boundGrowsWrong)

/-- 'tallymanlaw14.AgeSorts': WHATEVER THE INPUT: true; the input reads as it did. -/
def ageSortsSpec : ChangeSpec := { name := "ageSorts", fn := fun _ => fun
  | [d1, d2, d3] => { results := [.lit (.bool true)], args := [d1, d2, d3] }
  | _ => none }
def ageSortsRow : OpenClaim := { program := "ytopblnecdabcgaa", sum := "a7bfbdc2c9cd50835deb1d47301904bb7fa3455a72dcb926a0c2a91e1c21e2b1", func := "tallyman/tallymanlaw14.AgeSorts", spec := "ageSorts", inPlace := ["math/bits.Add64"], unfollowed := true, recurses := true, apart := false }
def AgeSortsSaid : Prop := ageSortsRow.holds Try.pinned (OpenSpec.ofChange ageSortsSpec)

/-- ITS FALSE NEIGHBOUR: 'it returns false'. Refute it at one input. -/
def ageSortsWrong : ChangeSpec := { name := "ageSorts", fn := fun _ => fun
  | [d1, d2, d3] => { results := [.lit (.bool false)], args := [d1, d2, d3] }
  | _ => none }
def AgeSortsWrongFalsely : Prop := ageSortsRow.holds Try.pinned (OpenSpec.ofChange ageSortsWrong)

/-- 'tallymanlaw15.AgedqFull': WHATEVER THE INPUT: true; the input reads as it did. -/
def agedqFullSpec : ChangeSpec := { name := "agedqFull", fn := fun _ => fun
  | [d1, d2, d3] => { results := [.lit (.bool true)], args := [d1, d2, d3] }
  | _ => none }
def agedqFullRow : OpenClaim := { program := "ytopblnecdabcgaa", sum := "a7bfbdc2c9cd50835deb1d47301904bb7fa3455a72dcb926a0c2a91e1c21e2b1", func := "tallyman/tallymanlaw15.AgedqFull", spec := "agedqFull", inPlace := ["math/bits.Add64"], unfollowed := true, recurses := true, apart := false }
def AgedqFullSaid : Prop := agedqFullRow.holds Try.pinned (OpenSpec.ofChange agedqFullSpec)

/-- ITS FALSE NEIGHBOUR: 'it returns false'. Refute it at one input. -/
def agedqFullWrong : ChangeSpec := { name := "agedqFull", fn := fun _ => fun
  | [d1, d2, d3] => { results := [.lit (.bool false)], args := [d1, d2, d3] }
  | _ => none }
def AgedqFullWrongFalsely : Prop := agedqFullRow.holds Try.pinned (OpenSpec.ofChange agedqFullWrong)

/-- 'tallymanlaw40.OrderTells': WHATEVER THE INPUT: true; the input reads as it did. -/
def orderTellsSpec : ChangeSpec := { name := "orderTells", fn := fun _ => fun
  | [d1, d2, d3] => { results := [.lit (.bool true)], args := [d1, d2, d3] }
  | _ => none }
def orderTellsRow : OpenClaim := { program := "ytopblnecdabcgaa", sum := "a7bfbdc2c9cd50835deb1d47301904bb7fa3455a72dcb926a0c2a91e1c21e2b1", func := "tallyman/tallymanlaw40.OrderTells", spec := "orderTells", inPlace := ["math/bits.Add64"], unfollowed := true, recurses := true, apart := false }
def OrderTellsSaid : Prop := orderTellsRow.holds Try.pinned (OpenSpec.ofChange orderTellsSpec)

/-- ITS FALSE NEIGHBOUR: 'it returns false'. Refute it at one input. -/
def orderTellsWrong : ChangeSpec := { name := "orderTells", fn := fun _ => fun
  | [d1, d2, d3] => { results := [.lit (.bool false)], args := [d1, d2, d3] }
  | _ => none }
def OrderTellsWrongFalsely : Prop := orderTellsRow.holds Try.pinned (OpenSpec.ofChange orderTellsWrong)

/- THE SECOND FORM. 'bulk': how many values and letters a reading holds, each counted each time it is reached (what is shared counts as often as it is met; a slice's spare places count too). A statement '..UptoSaid' is the law's where the arguments, and the package variables that the reading takes, are together of bulk at most 1048576: NARROWER than '..Said'. Prove '..Said' where nothing that the law and all that it calls make is longer than what came in: it says more and counts as full. Else prove '..UptoSaid'. A law counts once. -/
mutual
def uptoBulk {H : Type} : DataW H → Nat
  | .lit (.string bytes) => bytes.length + 1
  | .lit _ => 1
  | .nil => 1
  | .ptr d => uptoBulk d + 1
  | .slice elems spare => uptoBulkAll elems + uptoBulkAll spare + 1
  | .agg parts => uptoBulkAll parts + 1
  | .iface _ d => uptoBulk d + 1
  | .map entries => uptoBulkEntries entries + 1
  | .held _ => 1
def uptoBulkAll {H : Type} : List (DataW H) → Nat
  | [] => 0
  | d :: r => uptoBulk d + uptoBulkAll r
def uptoBulkEntries {H : Type} : List (Lit × DataW H) → Nat
  | [] => 0
  | x :: r => uptoBulkEntry x + uptoBulkEntries r
def uptoBulkEntry {H : Type} : Lit × DataW H → Nat
  | (.string bytes, d) => bytes.length + uptoBulk d + 1
  | (_, d) => uptoBulk d + 1
 end
def uptoSmall : (H : Type) → List (DataW H) → Bool := fun _ ds => decide (uptoBulkAll ds ≤ 1048576)
def OpenSpec.upto (s : _root_.Go.ChangeSpec) : _root_.Go.OpenSpec := { _root_.Go.OpenSpec.ofChange s with cond := some uptoSmall }

/-- 'tallymanlaw14.AgeTells', WHERE WHAT IT READS IS OF BULK AT MOST 1048576: true; the input reads as it did. -/
def ageTellsUptoRow : OpenClaim := { program := "ytopblnecdabcgaa", sum := "a7bfbdc2c9cd50835deb1d47301904bb7fa3455a72dcb926a0c2a91e1c21e2b1", func := "tallyman/tallymanlaw14.AgeTells", spec := "ageTells", inPlace := ["math/bits.Add64"], unfollowed := true, recurses := true, apart := false, narrowed := true }
def AgeTellsUptoSaid : Prop := ageTellsUptoRow.holds Try.pinned (OpenSpec.upto ageTellsSpec)

/-- 'tallymanlaw14.AgeRises', WHERE WHAT IT READS IS OF BULK AT MOST 1048576: true; the input reads as it did. -/
def ageRisesUptoRow : OpenClaim := { program := "ytopblnecdabcgaa", sum := "a7bfbdc2c9cd50835deb1d47301904bb7fa3455a72dcb926a0c2a91e1c21e2b1", func := "tallyman/tallymanlaw14.AgeRises", spec := "ageRises", inPlace := ["math/bits.Add64"], unfollowed := true, recurses := true, apart := false, narrowed := true }
def AgeRisesUptoSaid : Prop := ageRisesUptoRow.holds Try.pinned (OpenSpec.upto ageRisesSpec)

/-- 'tallymanlaw14.AgeKeeps', WHERE WHAT IT READS IS OF BULK AT MOST 1048576: true; the input reads as it did. -/
def ageKeepsUptoRow : OpenClaim := { program := "ytopblnecdabcgaa", sum := "a7bfbdc2c9cd50835deb1d47301904bb7fa3455a72dcb926a0c2a91e1c21e2b1", func := "tallyman/tallymanlaw14.AgeKeeps", spec := "ageKeeps", inPlace := ["math/bits.Add64"], unfollowed := true, recurses := true, apart := false, narrowed := true }
def AgeKeepsUptoSaid : Prop := ageKeepsUptoRow.holds Try.pinned (OpenSpec.upto ageKeepsSpec)

/-- 'tallymanlaw13.HeapDoes', WHERE WHAT IT READS IS OF BULK AT MOST 1048576: true; the input reads as it did. -/
def heapDoesUptoRow : OpenClaim := { program := "ytopblnecdabcgaa", sum := "a7bfbdc2c9cd50835deb1d47301904bb7fa3455a72dcb926a0c2a91e1c21e2b1", func := "tallyman/tallymanlaw13.HeapDoes", spec := "heapDoes", apart := false, narrowed := true }
def HeapDoesUptoSaid : Prop := heapDoesUptoRow.holds Try.pinned (OpenSpec.upto heapDoesSpec)

/-- 'tallymanlaw13.HeapPops', WHERE WHAT IT READS IS OF BULK AT MOST 1048576: true; the input reads as it did. -/
def heapPopsUptoRow : OpenClaim := { program := "ytopblnecdabcgaa", sum := "a7bfbdc2c9cd50835deb1d47301904bb7fa3455a72dcb926a0c2a91e1c21e2b1", func := "tallyman/tallymanlaw13.HeapPops", spec := "heapPops", apart := false, narrowed := true }
def HeapPopsUptoSaid : Prop := heapPopsUptoRow.holds Try.pinned (OpenSpec.upto heapPopsSpec)

/-- 'tallymanlaw37.BoundTells', WHERE WHAT IT READS IS OF BULK AT MOST 1048576: true; the input reads as it did. -/
def boundTellsUptoRow : OpenClaim := { program := "ytopblnecdabcgaa", sum := "a7bfbdc2c9cd50835deb1d47301904bb7fa3455a72dcb926a0c2a91e1c21e2b1", func := "tallyman/tallymanlaw37.BoundTells", spec := "boundTells", inPlace := ["math/bits.Add64"], unfollowed := true, recurses := true, apart := false, narrowed := true }
def BoundTellsUptoSaid : Prop := boundTellsUptoRow.holds Try.pinned (OpenSpec.upto boundTellsSpec)

/-- 'tallymanlaw37.BoundGrows', WHERE WHAT IT READS IS OF BULK AT MOST 1048576: true; the input reads as it did. -/
def boundGrowsUptoRow : OpenClaim := { program := "ytopblnecdabcgaa", sum := "a7bfbdc2c9cd50835deb1d47301904bb7fa3455a72dcb926a0c2a91e1c21e2b1", func := "tallyman/tallymanlaw37.BoundGrows", spec := "boundGrows", inPlace := ["math/bits.Add64"], unfollowed := true, recurses := true, apart := false, narrowed := true }
def BoundGrowsUptoSaid : Prop := boundGrowsUptoRow.holds Try.pinned (OpenSpec.upto boundGrowsSpec)

/-- 'tallymanlaw14.AgeSorts', WHERE WHAT IT READS IS OF BULK AT MOST 1048576: true; the input reads as it did. -/
def ageSortsUptoRow : OpenClaim := { program := "ytopblnecdabcgaa", sum := "a7bfbdc2c9cd50835deb1d47301904bb7fa3455a72dcb926a0c2a91e1c21e2b1", func := "tallyman/tallymanlaw14.AgeSorts", spec := "ageSorts", inPlace := ["math/bits.Add64"], unfollowed := true, recurses := true, apart := false, narrowed := true }
def AgeSortsUptoSaid : Prop := ageSortsUptoRow.holds Try.pinned (OpenSpec.upto ageSortsSpec)

/-- 'tallymanlaw15.AgedqFull', WHERE WHAT IT READS IS OF BULK AT MOST 1048576: true; the input reads as it did. -/
def agedqFullUptoRow : OpenClaim := { program := "ytopblnecdabcgaa", sum := "a7bfbdc2c9cd50835deb1d47301904bb7fa3455a72dcb926a0c2a91e1c21e2b1", func := "tallyman/tallymanlaw15.AgedqFull", spec := "agedqFull", inPlace := ["math/bits.Add64"], unfollowed := true, recurses := true, apart := false, narrowed := true }
def AgedqFullUptoSaid : Prop := agedqFullUptoRow.holds Try.pinned (OpenSpec.upto agedqFullSpec)

/-- 'tallymanlaw40.OrderTells', WHERE WHAT IT READS IS OF BULK AT MOST 1048576: true; the input reads as it did. -/
def orderTellsUptoRow : OpenClaim := { program := "ytopblnecdabcgaa", sum := "a7bfbdc2c9cd50835deb1d47301904bb7fa3455a72dcb926a0c2a91e1c21e2b1", func := "tallyman/tallymanlaw40.OrderTells", spec := "orderTells", inPlace := ["math/bits.Add64"], unfollowed := true, recurses := true, apart := false, narrowed := true }
def OrderTellsUptoSaid : Prop := orderTellsUptoRow.holds Try.pinned (OpenSpec.upto orderTellsSpec)

end Rows
end Go.Proofs.Ytopblnecdabcgaa
