/-
  The reference buffer: fail, put, Cut, Bytes.
-/
import Derived.Test.YtaoflhddcbmacaaBufBytes
namespace Go.Proofs.Ytaoflhddcbmacaa
open Go Go.ChangeShapes Go.WideShapes Go.ChangeAt Go.RowKit Go.Joins
set_option linter.unusedVariables false
set_option linter.unusedSimpArgs false

theorem three_cells {w : World} {p : Nat} {a b c : Value} {t : TypeId} (h : w.heap[p]? = some (.cells #[a, b, c] t (0, 0))) :
    w.cell? ⟨p, 0, none⟩ = some a ∧ w.cell? ⟨p, 1, none⟩ = some b ∧ w.cell? ⟨p, 2, none⟩ = some c :=
  ⟨by rw [cell_of_row w p 0 _ _ _ h]; rfl, by rw [cell_of_row w p 1 _ _ _ h]; rfl, by rw [cell_of_row w p 2 _ _ _ h]; rfl⟩
theorem heap_set3 {w : World} {p : Nat} {a b c : Value} {t : TypeId} (h : w.heap[p]? = some (.cells #[a, b, c] t (0, 0))) (v : Value) :
    (w.setCell ⟨p, 2, none⟩ v).heap[p]? = some (.cells #[a, b, v] t (0, 0)) ∧ (w.setCell ⟨p, 0, none⟩ v).heap[p]? = some (.cells #[v, b, c] t (0, 0)) :=
  ⟨by have := heap_setCell_same w p 2 _ _ v h; simpa using this, by have := heap_setCell_same w p 0 _ _ v h; simpa using this⟩
end Go.Proofs.Ytaoflhddcbmacaa
