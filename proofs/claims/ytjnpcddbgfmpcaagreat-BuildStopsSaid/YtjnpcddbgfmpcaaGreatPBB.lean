/-
  Texts of the proof, part 28 of 39.
-/
import Derived.Test.YtjnpcddbgfmpcaaGreatPAI
import Derived.RangeFuncNested
import Derived.RangeFuncBound
import Derived.RangeFuncCalls
import Derived.RangeFuncLeaves
import Derived.Shelf.Abstract
import Derived.Shelf.RegionOpen
import Derived.OwnWalkIn
import Derived.TacticsInMore
import Derived.LoopNIn
import Derived.LoopIn

/-
  Trees: the walk over a tree in preorder, as an iterator (walked, walk). Conditions: the tree lies in a world whose cells are kept; its size is bounded.
-/
namespace Go.Proofs.YtjnpcddbgfmpcaaGreat
open Go Go.ChangeShapes Go.WideShapes Go.ChangeAt Go.RowKit Go.Joins Go.Deep Go.Shelf
set_option linter.unusedVariables false
set_option linter.unusedSimpArgs false
attribute [local go_sem] Oper.semAt_some
def CellsK (w w' : World) : Prop := ∀ (k : Nat) (o : Obj), w.heap[k]? = some o → o.isCells = true → w'.heap[k]? = some o
theorem CellsK.cell {w w' : World} (h : CellsK w w') {a : Addr} {v : Value} (hc : w.cell? a = some v) : w'.cell? a = some v := by
  have : ∃ o, w.heap[a.block]? = some o ∧ o.isCells = true := by
    unfold World.cell? at hc
    cases ho : w.heap[a.block]? with
    | none => simp [ho] at hc
    | some o => exact ⟨o, rfl, by cases o <;> simp_all [Obj.isCells]⟩
  obtain ⟨o, ho, hi⟩ := this
  rw [World.cell?_of_block (w := w) ((h _ o ho hi).trans ho.symm)]
  exact hc
theorem CellsK.of_grew {w w' : World} (h : Grew w w') : CellsK w w' := fun k o ho _ => (h.block k (Array.getElem?_eq_some_iff.1 ho).1).trans ho
section
variable {w w' : World} {v : Value} {vs : List Value}
theorem TxtsAt.cells {ks : List ByteArray} (h : TxtsAt w v ks) (hg : CellsK w w') : TxtsAt w' v ks := by
  obtain ⟨a, c, h1, h2, h3, h4, h5⟩ := h
  refine ⟨a, c, h1, h2, h3, h4, fun i s hs => ?_⟩
  obtain ⟨hz, b, off, e, hc⟩ := h5 i s hs
  exact ⟨hz, b, off, e, hg.cell hc⟩
theorem Cells6.cells {b off : Nat} (h : Cells6 w b off v) (hg : CellsK w w') : Cells6 w' b off v := by
  obtain ⟨c0, c1, c2, c3, c4, c5, e, h0, h1, h2, h3, h4, h5⟩ := h
  exact ⟨c0, c1, c2, c3, c4, c5, e, hg.cell h0, hg.cell h1, hg.cell h2, hg.cell h3, hg.cell h4, hg.cell h5⟩
theorem RowsAt.cells (h : RowsAt w v vs) (hg : CellsK w w') : RowsAt w' v vs := by
  obtain ⟨a, c, h1, h2, h3, h4, h5⟩ := h
  refine ⟨a, c, h1, h2, h3, h4, fun i x hx => ?_⟩
  obtain ⟨b, off, e, hc⟩ := h5 i x hx
  exact ⟨b, off, e, hc.cells hg⟩
mutual
theorem NodeAt.cells (hg : CellsK w w') : ∀ {t : Tr} {v : Value}, NodeAt w t v → NodeAt w' t v
  | .mk k n u s keys l, v, ⟨hb, kv, lv, vs, e, h1, h2, h3⟩ => ⟨hb, kv, lv, vs, e, h1.cells hg, h2.cells hg, KidsAt.cells hg h3⟩
theorem KidsAt.cells (hg : CellsK w w') : ∀ {l : List Tr} {vs : List Value}, KidsAt w l vs → KidsAt w' l vs
  | [], _, h => h
  | t :: r, _, ⟨v, vr, e, h1, h2⟩ => ⟨v, vr, e, NodeAt.cells hg h1, KidsAt.cells hg h2⟩
end
end
structure KpC (lo hi : Nat) (w w' : World) : Prop where
  size : w.heap.size ≤ w'.heap.size
  same : ∀ (k : Nat) (o : Obj), w.heap[k]? = some o → o.isCells = true → k < lo ∨ hi ≤ k → w'.heap[k]? = some o
theorem KpC.trans {lo hi : Nat} {a b c : World} (h : KpC lo hi a b) (k : KpC lo hi b c) : KpC lo hi a c := ⟨Nat.le_trans h.size k.size, fun i o ho hc hr => k.same i o (h.same i o ho hc hr) hc hr⟩
theorem KpC.of_grew {lo hi : Nat} {a b : World} (h : Grew a b) : KpC lo hi a b := ⟨h.size, fun k o ho hc _ => CellsK.of_grew h k o ho hc⟩
theorem KpC.turn {lo hi : Nat} (W : World) (l : Nat) (o o' : Obj) (h : W.heap[l]? = some o) (ho : o.isCells = false) : KpC lo hi W (W.putObj l o') :=
  ⟨by simp, fun k q hk hc _ => by
    by_cases e : k = l
    · subst e; rw [h] at hk; cases hk; rw [ho] at hc; cases hc
    · exact (World.putObj_heap_other e).trans hk⟩
theorem CellsK.keep {lo hi : Nat} {w0 a b : World} (h : CellsK w0 a) (hlo : w0.heap.size ≤ lo) (k : KpC lo hi a b) : CellsK w0 b := fun i o ho hc => k.same i o (h i o ho hc) hc (.inl (Nat.lt_of_lt_of_le (Array.getElem?_eq_some_iff.1 ho).1 hlo))
theorem AbidesFrom.grew {β : Type} {B : Nat} {J : β → World → Prop} (h : AbidesFrom B J) {s : β} {A C : World} (hs : J s A) (hg : Grew A C) : J s C :=
  h s A C none hs ⟨hg.os, hg.tape, hg.output, hg.size, fun k hk _ => hg.block k hk⟩ (fun r e => by cases e)
def Visit (P : Tr → Prop) (w0 : World) : Type := { p : Nat × Value × Tr // NodeAt w0 p.2.2 p.2.1 ∧ p.1 ≤ 1099511627776 ∧ P p.2.2 }
def Visit.key {P : Tr → Prop} {w0 : World} (x : Visit P w0) : Nat × Tr := (x.1.1, x.1.2.2)
end Go.Proofs.YtjnpcddbgfmpcaaGreat
