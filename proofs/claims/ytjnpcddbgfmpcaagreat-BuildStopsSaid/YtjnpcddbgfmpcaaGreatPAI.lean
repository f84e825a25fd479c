/-
  Texts of the proof, part 9 of 39.
-/
import Derived.Test.YtjnpcddbgfmpcaaGreatPAH
import Derived.Lib.SliceRun

/-
  Trees: the program's copies (slices.Clone of strings, tree.Copy). Conditions: the node lies in memory; rows of at most 4096.
-/
namespace Go.Proofs.YtjnpcddbgfmpcaaGreat
open Go Go.ChangeShapes Go.WideShapes Go.ChangeAt Go.RowKit Go.Joins Go.Deep
set_option linter.unusedVariables false
set_option linter.unusedSimpArgs false
theorem OwnS.empty (w : World) : OwnS (w.alloc (.cells #[] 9)) w.heap.size (.slice (some ⟨w.heap.size, 0, none⟩) 0 0) [] := World.ownsRow_made w #[] 0 (Nat.le_refl _) (by decide) rfl
end Go.Proofs.YtjnpcddbgfmpcaaGreat

/-
  Trees: the table of kinds (uses, part).
-/
namespace Go.Proofs.YtjnpcddbgfmpcaaGreat
open Go Go.ChangeShapes Go.WideShapes Go.ChangeAt Go.RowKit Go.Joins Go.Deep
set_option linter.unusedVariables false
set_option linter.unusedSimpArgs false
def usesF (k : Int) : Int :=
  if k = 2 ∨ k = 3 ∨ k = 8 then 1 else if k = 4 ∨ k = 9 then 2 else if k = 5 ∨ k = 6 ∨ k = 7 then 4 else if k = 17 then 8 else 0
def partF (k : Int) : Int :=
  if k = 10 ∨ k = 17 then 0 else if k = 11 ∨ k = 15 then 3 else if k = 12 ∨ k = 16 then 4 else if k = 13 then 5 else if k = 14 then 2 else -1
theorem kinds (k : Int) (h1 : 1 ≤ k) (h2 : k ≤ 17) : k = 1 ∨ k = 2 ∨ k = 3 ∨ k = 4 ∨ k = 5 ∨ k = 6 ∨ k = 7 ∨ k = 8 ∨ k = 9 ∨ k = 10 ∨ k = 11 ∨ k = 12 ∨ k = 13 ∨ k = 14 ∨ k = 15 ∨ k = 16 ∨ k = 17 := by omega
end Go.Proofs.YtjnpcddbgfmpcaaGreat

/-
  Trees: whether a child of another kind is among the children (the closure in such, slices.IndexFunc, slices.ContainsFunc).
-/
namespace Go.Proofs.YtjnpcddbgfmpcaaGreat
open Go Go.ChangeShapes Go.WideShapes Go.ChangeAt Go.RowKit Go.Joins Go.Deep
set_option linter.unusedVariables false
set_option linter.unusedSimpArgs false
def otherB (p : Int) (x : Tr) : Bool := p != 0 && x.kind != p
end Go.Proofs.YtjnpcddbgfmpcaaGreat

/-
  Trees: whether a node is as its kind requires (such). Conditions: the node lies in memory.
-/
namespace Go.Proofs.YtjnpcddbgfmpcaaGreat
open Go Go.ChangeShapes Go.WideShapes Go.ChangeAt Go.RowKit Go.Joins Go.Deep
set_option linter.unusedVariables false
set_option linter.unusedSimpArgs false
def suchB : Tr → Bool
  | .mk k n u s keys l => decide (1 ≤ k ∧ k ≤ 17) && (decide (usesF k = 1) || decide (n = 0)) && (decide (usesF k = 2) || decide (u = 0)) && (decide (usesF k = 4) || decide (s.toList = [])) && (decide (usesF k = 8) || decide (keys.length = 0)) &&
      (!decide (k = 2) || decide (n = 0) || decide (n = 1)) && (!decide (k = 17) || decide (keys.length = l.length)) && (!(decide (k = 15) || decide (k = 16)) || decide (2 ≤ l.length ∧ l.length ≤ 4)) && !(l.any (otherB (partF k)))
end Go.Proofs.YtjnpcddbgfmpcaaGreat
