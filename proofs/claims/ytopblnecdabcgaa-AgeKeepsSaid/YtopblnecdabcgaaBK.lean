/- Small facts of blocks and of worlds that lie below one another. -/
import Derived.Test.YtopblnecdabcgaaP0
namespace Go.Proofs.Ytopblnecdabcgaa.P
open Go.RowKit Go.Proofs.YtopblnecdabcgaaW.PrintWords Go.Proofs.YtopblnecdabcgaaW.PrintLast Go.Proofs.YtopblnecdabcgaaW.PrintMore
set_option linter.unusedVariables false
set_option linter.unusedSimpArgs false
theorem blk_keep {w w' : World} {g : Nat} {o : Obj} (h : w.heap[g]? = some o) (hb : Below w.heap.size w w') : w'.heap[g]? = some o := (hb.block g (Array.getElem?_eq_some_iff.1 h).1).trans h
theorem alloc_size (w : World) (o : Obj) : (w.alloc o).heap.size = w.heap.size + 1 := by simp
theorem far1 {W : World} {a b : Nat} {o : Obj} (h : W.heap[b]? = some o) (hne : b ≠ a) (i : Nat) (v : Value) : (W.setCell ⟨a, i, none⟩ v).heap[b]? = some o := by
  rw [Below.heap_setCell _ _ _ b hne]; exact h
theorem far1p {W : World} {n a b : Nat} {o : Obj} (h : W.heap[b]? = some o) (hp : n < a) (hne : b ≠ a) (i : Nat) (v : Value) : (W.setCell ⟨a, i, none⟩ v).heap[b]? = some o := far1 h hne i v
theorem lt_blk {W : World} {g : Nat} {o : Obj} (h : W.heap[g]? = some o) : g < W.heap.size := (Array.getElem?_eq_some_iff.1 h).1
theorem below_dN (W : World) (n : Nat) : Below W.heap.size W (W.drewN n) := ⟨rfl, rfl, rfl, Nat.le_refl _, fun _ _ => rfl⟩
end Go.Proofs.Ytopblnecdabcgaa.P
