/-
  Texts of the proof, part 35 of 39.
-/
import Derived.Test.YtjnpcddbgfmpcaaGreatPBD
import Derived.Test.YtjnpcddbgfmpcaaGreatPAC
import Derived.StillTailTactics
import Derived.Deep.DeepCutAuto
import Derived.Deep.CutBlock
import Derived.Test.YtjnpcddbgfmpcaaGreatPBC
import Derived.Test.YtjnpcddbgfmpcaaGreatPAL
import Derived.Test.YtjnpcddbgfmpcaaGreatPAH
import Derived.Deep.QuietTactic
import Derived.BigQuiet

/-
  Keys: sorting the maps of a tree in place (sorted). Conditions: the tree is one's own and can be sorted.
-/
namespace Go.Proofs.YtjnpcddbgfmpcaaGreat
open Go Go.ChangeShapes Go.WideShapes Go.ChangeAt Go.RowKit Go.Joins Go.Deep
set_option linter.unusedVariables false
set_option linter.unusedSimpArgs false
structure MonR (S : Nat → Prop) (P0 P1 Q0 Q1 : World → Prop) (w w' : World) : Prop where
  moved : Moved S w w'
  p1 : P1 w → P1 w'
  p0 : P0 w ∨ P1 w → P0 w' ∨ P1 w'
  q1 : Q1 w → Q1 w'
  q0 : Q0 w ∨ Q1 w → Q0 w' ∨ Q1 w'
theorem MonR.refl {S : Nat → Prop} {P0 P1 Q0 Q1 : World → Prop} (w : World) : MonR S P0 P1 Q0 Q1 w w := ⟨Moved.refl _ _, id, id, id, id⟩
theorem MonR.trans {S : Nat → Prop} {P0 P1 Q0 Q1 : World → Prop} {a b c : World} (h : MonR S P0 P1 Q0 Q1 a b) (k : MonR S P0 P1 Q0 Q1 b c) : MonR S P0 P1 Q0 Q1 a c :=
  ⟨h.moved.trans' k.moved, fun x => k.p1 (h.p1 x), fun x => k.p0 (h.p0 x), fun x => k.q1 (h.q1 x), fun x => k.q0 (h.q0 x)⟩
section
variable {α : Type} {n : Nat} {p : List (Fin n)} {f : Nat → α} {z : α}
end
theorem OwnS.at {w : World} {B g n c : Nat} {ss : List ByteArray} (h : OwnS w B (.slice (some ⟨g, 0, none⟩) n c) ss) {i : Nat} {x : ByteArray} (hx : ss[i]? = some x) : w.cell? ⟨g, i, none⟩ = some (.string x) := by
  have := World.ownsRow.cells h (g := g) rfl i (.string x) (by simp [hx])
  rw [add0, Nat.zero_add] at this
  exact this
theorem OwnS.frozen {w : World} {B g n c : Nat} {ss : List ByteArray} (h : OwnS w B (.slice (some ⟨g, 0, none⟩) n c) ss) (j : Nat) : w.frozen? ⟨g, j, none⟩ = false := by
  have hn : n = ss.length := by
    obtain ⟨a, c, e, _⟩ := rows_form h
    injection e
  subst hn
  exact rows_frozen h j
end Go.Proofs.YtjnpcddbgfmpcaaGreat

/-
  Keys: Sorted, and the small functions of the examples. Conditions: the arguments can be read.
-/
namespace Go.Proofs.YtjnpcddbgfmpcaaGreat
open Go Go.ChangeShapes Go.WideShapes Go.ChangeAt Go.RowKit Go.Joins Go.Deep
set_option linter.unusedVariables false
set_option linter.unusedSimpArgs false
def Nd (t : Tr) (v : Value) (w : World) : Prop := NodeAt w t v
theorem Nd.st (t : Tr) : ∀ v w w', Grew w w' → Nd t v w → Nd t v w' := fun _ _ _ hg h => NodeAt.grew hg h
def Ss (l : List ByteArray) (v : Value) (w : World) : Prop := TxtsAt w v l
theorem Ss.st (l : List ByteArray) : ∀ v w w', Grew w w' → Ss l v w → Ss l v w' := fun _ _ _ hg h => TxtsAt.grew h hg
def Rn (ts : List Tr) (v : Value) (w : World) : Prop := ∃ vs, RowsAt w v vs ∧ KidsAt w ts vs
theorem Rn.st (ts : List Tr) : ∀ v w w', Grew w w' → Rn ts v w → Rn ts v w' := fun _ _ _ hg ⟨vs, h, k⟩ => ⟨vs, h.grew hg, k.grew hg⟩
def Ri (l : List Int) (v : Value) (w : World) : Prop := RowI w v l
theorem RowI.grew {w w' : World} {v : Value} {l : List Int} (h : RowI w v l) (hg : Grew w w') : RowI w' v l := by
  obtain ⟨a, c, h1, h2, h3, h4, h5⟩ := h
  refine ⟨a, c, h1, h2, h3, h4, fun i x hx => ?_⟩
  obtain ⟨_, b, off, e, hc⟩ := h5 i x hx
  exact ⟨trivial, b, off, e, hg.cell hc⟩
theorem Ri.st (l : List Int) : ∀ v w w', Grew w w' → Ri l v w → Ri l v w' := fun _ _ _ hg h => RowI.grew h hg
theorem TxtsAt.form {w : World} {v : Value} {l : List ByteArray} (h : TxtsAt w v l) : ∃ a c, v = .slice a l.length c := by
  obtain ⟨a, c, e, _⟩ := h; exact ⟨a, c, e⟩
theorem RowsAt.form {w : World} {v : Value} {vs : List Value} (h : RowsAt w v vs) : ∃ a c, v = .slice a vs.length c := by
  obtain ⟨a, c, e, _⟩ := h; exact ⟨a, c, e⟩
theorem TxtsAt.nil (w : World) : TxtsAt w (.slice none 0 0) [] := ⟨none, 0, rfl, by simp, by unfold lenok; omega, fun _ => rfl, by simp⟩
theorem RowsAt.nil (w : World) : RowsAt w (.slice none 0 0) [] := ⟨none, 0, rfl, by simp, by unfold lenok; omega, fun _ => rfl, by simp⟩
theorem RowI.nil (w : World) : RowI w (.slice none 0 0) [] := ⟨none, 0, rfl, by simp, by unfold lenok; omega, fun _ => rfl, by simp⟩
theorem built_strs (w : World) (l : List ByteArray) (hz : ∀ s ∈ l, lenok s.size) (hl : l.length ≤ 4096) : Ss l (.slice (some ⟨w.heap.size, 0, none⟩) l.length l.length) (w.alloc (.cells (l.map Value.string).toArray 9)) := by
  refine ⟨some ⟨w.heap.size, 0, none⟩, l.length, rfl, Nat.le_refl _, by unfold lenok; omega, fun h => (by cases h), fun i s hs => ⟨hz s (List.mem_of_getElem? hs), w.heap.size, 0, rfl, ?_⟩⟩
  rw [cell_of_row _ _ _ _ _ _ (heap_alloc_new _ _)]
  simp [hs]
def ordK (l : List ByteArray) : List Int × Int := if l.Nodup then ((sortP (l.zip (List.range l.length))).map (fun p => (p.2 : Int)), 0) else ([], 71)
theorem order_ord {w w' : World} {l : List ByteArray} {r : Ending} (hl : l.length ≤ 65536) (h : OrderOut w l r w') : Grew w w' ∧ ∃ v, r = .returned (.tuple #[v, .int .i64 (ordK l).2]) ∧ RowI w' v (ordK l).1 := by
  obtain ⟨hg, ⟨hn, rfl⟩ | ⟨hn, v, rfl, blk, cap, p, rfl, hp, hs, hc, rfl⟩⟩ := h
  · have e : ordK l = ([], 71) := by unfold ordK; rw [if_neg hn]
    rw [e]
    exact ⟨hg, _, rfl, RowI.nil _⟩
  · have e : ordK l = ((sortP (l.zip (List.range l.length))).map (fun p => (p.2 : Int)), 0) := by unfold ordK; rw [if_pos hn]
    have h1 := perm_sortP (l := List.range l.length) (by simp) hp hs (⟨#[]⟩, 0)
    have h2 : (sortP (l.zip (List.range l.length))).map (fun p => (p.2 : Int)) = p.map fun x => ((x.1 : Nat) : Int) := by
      rw [← h1, List.map_map]
      refine List.map_congr_left fun x hx => ?_
      simp [List.getD_eq_getElem?_getD, x.2]
    rw [e, h2]
    refine ⟨hg, _, rfl, some ⟨blk, 0, none⟩, l.length, by simp [perm_len hp], by simp [perm_len hp], by unfold lenok; omega, fun h => (by cases h), fun i x hx => ?_⟩
    · rw [List.getElem?_map] at hx
      cases hq : p[i]? with
      | none => rw [hq] at hx; cases hx
      | some q =>
        rw [hq] at hx
        cases hx
        exact ⟨trivial, blk, 0, rfl, by rw [Nat.zero_add]; exact hc i q hq⟩
end Go.Proofs.YtjnpcddbgfmpcaaGreat

/-
  Trees whose memory is no struct variable that still stands at its zero. Conditions: the children's kinds are not 0.
-/
namespace Go.Proofs.YtjnpcddbgfmpcaaGreat
open Go Go.ChangeShapes Go.WideShapes Go.ChangeAt Go.RowKit Go.Joins Go.Deep
set_option linter.unusedVariables false
set_option linter.unusedSimpArgs false
end Go.Proofs.YtjnpcddbgfmpcaaGreat

/-
  Keys: the examples of the chapter hold. Conditions: none.
-/
namespace Go.Proofs.YtjnpcddbgfmpcaaGreat
open Go Go.ChangeShapes Go.WideShapes Go.ChangeAt Go.RowKit Go.Joins Go.Deep
set_option linter.unusedVariables false
set_option linter.unusedSimpArgs false
end Go.Proofs.YtjnpcddbgfmpcaaGreat

/-
  How the laws' arguments read: strings, slices of strings; few. Conditions: the argument can be read as data.
-/
namespace Go.Proofs.YtjnpcddbgfmpcaaGreat
open Go Go.ChangeShapes Go.WideShapes Go.ChangeAt Go.RowKit Go.Joins Go.Deep
open Go.ChangeMaps (open_string shut_string)
set_option linter.unusedVariables false
set_option linter.unusedSimpArgs false
end Go.Proofs.YtjnpcddbgfmpcaaGreat
