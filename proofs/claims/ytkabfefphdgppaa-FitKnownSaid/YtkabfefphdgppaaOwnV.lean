/-
  Slices of values that a call builds for itself by append: a small law over the kit's append. Conditions: fewer than 2^40 elements.
-/
import Derived.Test.YtkabfefphdgppaaHelp16
import Derived.Test.YtkabfefphdgppaaOpen16
import Derived.Laws.AppendOwnNone
namespace Go.Proofs.Ytkabfefphdgppaa
open Go Go.RowKit

/-- The call owns the slice v, from block B on; it reads as l. -/
def OwnV (B : Nat) (w : World) (v : Value) (l : List V3) : Prop := w.ownsRow B 24 3 v l.length (l.flatMap cellsOf3)

theorem Grew.grownBy {w w' : World} (h : Grew w w') : w.grownBy w' none := ⟨Below.os h, Below.tape h, Below.output h, Below.size h, fun k hk _ => Below.block h k hk⟩
theorem OwnV.nil (B : Nat) (w : World) : OwnV B w (.slice none 0 0) [] := World.ownsRow_nil _ _ _ _
theorem OwnV.grew {B : Nat} {w w' : World} {v : Value} {l : List V3} (h : OwnV B w v l) (hg : Grew w w') : OwnV B w' v l :=
  World.ownsRow.kept h hg.grownBy (by cases v.ownBlock <;> simp)
theorem OwnV.vals {B : Nat} {w : World} {v : Value} {l : List V3} (h : OwnV B w v l) : ValsAt w v l := by
  have h0 := h
  obtain ⟨_, h2⟩ := h
  rcases h2 with ⟨rfl, hn⟩ | ⟨g, cap, cur, rfl, _⟩
  · have : l = [] := List.length_eq_zero_iff.1 hn
    subst this
    exact ⟨none, 0, rfl, by simp⟩
  · refine ⟨some ⟨g, 0, none⟩, cap, rfl, fun i x hx => ⟨g, 0, rfl, ?_⟩⟩
    have hi := (List.getElem?_eq_some_iff.1 hx).1
    have hf := flat_cells l i x hx
    refine ⟨?_, ?_, ?_⟩
    · rw [World.ownsRow.cellAt h0 _ (by omega)]; simpa using hf.1
    · rw [World.ownsRow.cellAt h0 _ (by omega)]; simpa using hf.2.1
    · rw [World.ownsRow.cellAt h0 _ (by omega)]; simpa using hf.2.2
theorem OwnV.ok {B : Nat} {w : World} {v : Value} {l : List V3} (h : OwnV B w v l) : SliceOK v := by
  intro a n c e
  rcases h.2 with ⟨rfl, _⟩ | ⟨g, cap, cur, rfl, _, _, hn, _⟩
  · cases e; exact ⟨by omega, fun _ => rfl⟩
  · cases e; exact ⟨hn, fun h => by cases h⟩
theorem cellsOf3_flat (l : List V3) : (l.flatMap cellsOf3).length = l.length * 3 := by
  induction l with
  | nil => rfl
  | cons a r ih => rw [List.flatMap_cons, List.length_append, ih]; simp [cellsOf3]; omega
theorem cellsOf3_one (l : List V3) : ∀ u ∈ l.flatMap cellsOf3, u.oneCell' = true := by
  intro u hu
  obtain ⟨x, _, hx⟩ := List.mem_flatMap.1 hu
  simp [cellsOf3] at hx
  rcases hx with rfl | rfl | rfl <;> rfl
/-- every cell of the flat list has its element and its place in it -/
theorem flat_split (l : List V3) (j : Nat) (u : Value) (h : (l.flatMap cellsOf3)[j]? = some u) : ∃ x, l[j / 3]? = some x ∧ (cellsOf3 x)[j % 3]? = some u := by
  have hj : j < l.length * 3 := by rw [← cellsOf3_flat]; exact (List.getElem?_eq_some_iff.1 h).1
  have hlt : j / 3 < l.length := by omega
  refine ⟨l[j / 3], List.getElem?_eq_getElem hlt, ?_⟩
  have hf := flat_cells l (j / 3) _ (List.getElem?_eq_getElem hlt)
  rcases (by omega : j % 3 = 0 ∨ j % 3 = 1 ∨ j % 3 = 2) with e | e | e
  · rw [show j / 3 * 3 = j by omega, h] at hf; rw [e]; exact hf.1.symm ▸ rfl
  · rw [show j / 3 * 3 + 1 = j by omega, h] at hf; rw [e]; exact hf.2.1.symm ▸ rfl
  · rw [show j / 3 * 3 + 2 = j by omega, h] at hf; rw [e]; exact hf.2.2.symm ▸ rfl

theorem addr_add (b off j : Nat) : (⟨b, off, none⟩ : Addr).add j = ⟨b, off + j, none⟩ := by
  unfold Addr.add
  split
  · rename_i h; subst h; rfl
  · rfl

theorem wpList_appendV {ops : Array Oper} {rest : List Oper} {o : Oper} {a : Act} {w : World} {Q : Exit → Act → World → Prop} (hgd : o.guard = none) (s x : Operand)
    (ho : o.op = .call { callee := .builtin .append, args := #[s, x], argTypes := #[29, 29] }) (B : Nat) (v : Value) (l : List V3) (hs : a.eval s = v) (hown : OwnV B w v l)
    (sv : Value) (l2 : List V3) (hx : a.eval x = sv) (hsv : ValsAt w sv l2) (hsk : SliceOK sv) (hlen : l.length + l2.length ≤ 1099511627776) (hB : B ≤ w.heap.size)
    (h : ∀ v' w', OwnV B w' v' (l ++ l2) → Below B w w' → w.grownBy w' v.ownBlock → wpList Try.prog ops Q rest (a.put o.dst v') w') : wpList Try.prog ops Q (o :: rest) a w := by
  obtain ⟨i0, hi, hz0, hz1, hz2⟩ := info_parts Try.infoValue
  obtain ⟨sa, cap, rfl, hc⟩ := hsv
  cases sa with
  | none =>
    have h0 : l2 = [] := by
      cases l2 with
      | nil => rfl
      | cons y r => obtain ⟨b, off, e, _⟩ := hc 0 y rfl; cases e
    subst h0
    have := (hsk _ _ _ rfl).2 rfl
    subst this
    refine wpList_append_own_none hgd s x 29 ho B 24 i0 3 Try.underlying29 hi v l.length _ hs hown hx ?_
    have := h v w (by rw [List.append_nil]; exact hown) (Below.refl _ _) ⟨rfl, rfl, rfl, Nat.le_refl _, fun _ _ _ => rfl⟩
    exact this
  | some ad =>
    refine wpList_append_own w hgd s x 29 ho B 24 i0 (.agg #[.int .i64 0, .int .i64 0, .int .u64 0]) 3 24 Try.underlying29 hi hz0 hz1 hz2 rfl (by decide) v l.length _ hs hown ad l2.length cap (l2.flatMap cellsOf3) hx (cellsOf3_flat l2) ?_ (cellsOf3_one l2) (by unfold maxLen; omega) (by omega) hB ?_
    · intro j u hj
      obtain ⟨y, hy, hu⟩ := flat_split l2 j u hj
      obtain ⟨b, off, e, c0, c1, c2⟩ := hc _ _ hy
      cases e
      rcases (by omega : j % 3 = 0 ∨ j % 3 = 1 ∨ j % 3 = 2) with e | e | e
      all_goals rw [e] at hu; simp [cellsOf3] at hu; subst hu; rw [addr_add]
      · rw [show off + j = off + j / 3 * 3 by omega]; exact c0
      · rw [show off + j = off + j / 3 * 3 + 1 by omega]; exact c1
      · rw [show off + j = off + j / 3 * 3 + 2 by omega]; exact c2
    · intro v' w' h1 h2 _
      refine h v' w' ?_ ((Below.refl B w).grown h2 hB (fun k e => (World.ownsRow.lt hown k e).1)) h2
      unfold OwnV
      rw [List.length_append, List.flatMap_append]
      exact h1

/-- The start of a vector that the law picks. -/
def ahOf (r : Int) : Int := if r = 0 then 0 else if r = 1 then 1 else 3
theorem ahOf_isA (r : Int) : isA (ahOf r) := by
  unfold ahOf isA
  repeat' split
  all_goals simp
theorem ahOf_cell (w : World) (t : TypeId) (r : Int) (h0 : 0 ≤ r) (h1 : r < 3) : (w.alloc (.cells #[.int .i64 0, .int .i64 1, .int .i64 3] t)).cell? ⟨w.heap.size, r.toNat, none⟩ = some (.int .i64 (ahOf r)) := by
  obtain rfl | rfl | rfl : r = 0 ∨ r = 1 ∨ r = 2 := by omega
  all_goals go_simp
  all_goals rfl
theorem one_ok (w : World) : SliceOK (.slice (some ⟨w.heap.size, 0, none⟩) 1 1) := fun a n c e => by cases e; exact ⟨by omega, fun h => by cases h⟩

end Go.Proofs.Ytkabfefphdgppaa
