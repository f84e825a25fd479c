/-
  Texts of the proof, part 29 of 39.
-/
import Derived.Test.YtjnpcddbgfmpcaaGreatPAI
import Derived.Test.YtjnpcddbgfmpcaaGreatPAJ
import Derived.Test.YtjnpcddbgfmpcaaGreatPBB

/-
  Trees: Check. Conditions: the tree lies in memory; its size is bounded.
-/
namespace Go.Proofs.YtjnpcddbgfmpcaaGreat
open Go Go.ChangeShapes Go.WideShapes Go.ChangeAt Go.RowKit Go.Joins Go.Deep Go.Shelf
set_option linter.unusedVariables false
set_option linter.unusedSimpArgs false
attribute [local go_sem] Oper.semAt_some
def checkL (c : Nat) : List (Nat × Tr) → Int
  | [] => 0
  | (b, x) :: r => if 4096 < c + 1 then 5 else if 64 ≤ b then 61 else if suchB x = false then 60 else if keyedE x ≠ 0 then keyedE x else checkL (c + 1) r
theorem kept_cells {W W' : World} {row : Option Nat} (hg : W.grownBy W' row) (hr : ∀ r, row = some r → ∃ o : Obj, W.heap[r]? = some o ∧ o.isCells = false) {k : Nat} {o : Obj} (hk : W.heap[k]? = some o) (ho : o.isCells = true) : W'.heap[k]? = some o := by
  refine (hg.block k (Array.getElem?_eq_some_iff.1 hk).1 (fun e => ?_)).trans hk
  obtain ⟨q, hq, hc⟩ := hr k e.symm
  rw [hk] at hq; cases hq; rw [ho] at hc; cases hc
theorem grew_turn {w W W' : World} {row : Option Nat} {B : Nat} (h : Grew w W) (hg : W.grownBy W' row) (hr : ∀ r, row = some r → B ≤ r) (hB : w.heap.size ≤ B) : Grew w W' :=
  Below.grown h hg h.size (fun k e => Nat.le_trans hB (hr k e))
def ChkI (w : World) (ps : List (Nat × Tr)) (W : World) : Prop :=
  W.heap[w.heap.size + 1]? = some (.cells #[.int .i64 0] 26 (0, 0)) ∧ W.heap[w.heap.size + 2]? = some (.cells #[.int .i64 ps.length] 3 (0, 0)) ∧ Grew w W ∧ ∀ rest, checkL 0 (ps ++ rest) = checkL ps.length rest
def ChkX (w : World) (ps : List (Nat × Tr)) (W : World) : Prop :=
  ∃ e : Int, W.heap[w.heap.size + 1]? = some (.cells #[.int .i64 e] 26 (0, 0)) ∧ Grew w W ∧ ∀ rest, checkL 0 (ps ++ rest) = e
theorem ChkI.own (w : World) {B : Nat} (hB : w.heap.size ≤ B) : OwnFrom B (fun (s : List (Visit (fun _ => True) w)) W => ChkI w (s.map Visit.key) W) := by
  rintro s A C row ⟨h1, h2, h3, h4⟩ hg hr
  exact ⟨kept_cells hg (fun r e => (hr r e).2) h1 rfl, kept_cells hg (fun r e => (hr r e).2) h2 rfl, grew_turn h3 hg (fun r e => (hr r e).1) hB, h4⟩
theorem ChkX.own (w : World) {B : Nat} (hB : w.heap.size ≤ B) : OwnFrom B (fun (s : List (Visit (fun _ => True) w)) W => ChkX w (s.map Visit.key) W) := by
  rintro s A C row ⟨e, h1, h3, h4⟩ hg hr
  exact ⟨e, kept_cells hg (fun r e => (hr r e).2) h1 rfl, grew_turn h3 hg (fun r e => (hr r e).1) hB, h4⟩
theorem KpC.setCell {lo hi : Nat} (W : World) (k : Nat) (h1 : lo ≤ k) (h2 : k < hi) (v : Value) : KpC lo hi W (W.setCell ⟨k, 0, none⟩ v) :=
  ⟨by simp [World.setCell], fun i o ho _ hr => (Below.heap_setCell W _ v i (by show i ≠ k; omega)).trans ho⟩
end Go.Proofs.YtjnpcddbgfmpcaaGreat
