/-
  Texts of the proof, part 30 of 39.
-/
import Derived.Test.YtjnpcddbgfmpcaaGreatPAL
import Derived.Test.YtjnpcddbgfmpcaaGreatPBC

/-
  Keys: the sorted tree, plain; rows of one's own under a store; children in another order. Conditions: none.
-/
namespace Go.Proofs.YtjnpcddbgfmpcaaGreat
open Go Go.ChangeShapes Go.WideShapes Go.ChangeAt Go.RowKit Go.Joins Go.Deep
set_option linter.unusedVariables false
set_option linter.unusedSimpArgs false
/-! ### sorting by key -/
def insP {α : Type} (x : ByteArray × α) : List (ByteArray × α) → List (ByteArray × α)
  | [] => [x]
  | y :: r => if ltS x.1 y.1 = true then x :: y :: r else y :: insP x r
def sortP {α : Type} (l : List (ByteArray × α)) : List (ByteArray × α) := l.foldr insP []
section
variable {α β : Type}
theorem insP_perm (x : ByteArray × α) : ∀ l : List (ByteArray × α), (insP x l).Perm (x :: l)
  | [] => .refl _
  | y :: r => by
    unfold insP
    split
    · exact .refl _
    · exact ((insP_perm x r).cons y).trans (.swap x y r)
theorem sortP_perm : ∀ l : List (ByteArray × α), (sortP l).Perm l
  | [] => .refl _
  | x :: r => (insP_perm x (sortP r)).trans ((sortP_perm r).cons x)
theorem insP_sorted (x : ByteArray × α) : ∀ l : List (ByteArray × α), l.Pairwise (fun a b => ltS a.1 b.1 = true) → (∀ y ∈ l, y.1 ≠ x.1) → (insP x l).Pairwise (fun a b => ltS a.1 b.1 = true)
  | [], _, _ => by simp [insP]
  | y :: r, h, hne => by
    obtain ⟨h1, h2⟩ := List.pairwise_cons.1 h
    unfold insP
    split
    · rename_i hlt
      refine List.pairwise_cons.2 ⟨fun z hz => ?_, h⟩
      rcases List.mem_cons.1 hz with rfl | hz
      · exact hlt
      · exact ltS_trans hlt (h1 z hz)
    · rename_i hnl
      have hyx : ltS y.1 x.1 = true := by
        cases hq : ltS y.1 x.1
        · exact absurd (ltS_total hq (by simpa using hnl)) (hne y (by simp))
        · rfl
      refine List.pairwise_cons.2 ⟨fun z hz => ?_, insP_sorted x r h2 (fun z hz => hne z (by simp [hz]))⟩
      rcases List.mem_cons.1 ((insP_perm x r).mem_iff.1 hz) with rfl | hz
      · exact hyx
      · exact h1 z hz
theorem sortP_sorted : ∀ l : List (ByteArray × α), (l.map Prod.fst).Nodup → (sortP l).Pairwise (fun a b => ltS a.1 b.1 = true)
  | [], _ => List.Pairwise.nil
  | x :: r, h => by
    obtain ⟨h1, h2⟩ := List.nodup_cons.1 (by simpa using h : (x.1 :: r.map Prod.fst).Nodup)
    exact insP_sorted x (sortP r) (sortP_sorted r h2) (fun y hy e => h1 (List.mem_map.2 ⟨y, (sortP_perm r).mem_iff.1 hy, e⟩))
theorem eq_of_strict : ∀ (l m : List (ByteArray × α)), l.Perm m → l.Pairwise (fun a b => ltS a.1 b.1 = true) → m.Pairwise (fun a b => ltS a.1 b.1 = true) → l = m
  | [], m, hp, _, _ => by simpa using hp
  | x :: r, [], hp, _, _ => by simp at hp
  | x :: r, y :: q, hp, h1, h2 => by
    obtain ⟨a1, a2⟩ := List.pairwise_cons.1 h1
    obtain ⟨b1, b2⟩ := List.pairwise_cons.1 h2
    have hxy : x = y := by
      rcases List.mem_cons.1 (hp.mem_iff.1 (by simp : x ∈ x :: r)) with h | h
      · exact h
      · rcases List.mem_cons.1 (hp.mem_iff.2 (by simp : y ∈ y :: q)) with h' | h'
        · exact h'.symm
        · have e1 := b1 x h
          have e2 := a1 y h'
          have := ltS_trans e1 e2
          rw [ltS_irrefl] at this; cases this
    subst hxy
    rw [eq_of_strict r q (List.Perm.cons_inv hp) a2 b2]
theorem insP_map (f : α → β) (x : ByteArray × α) : ∀ l : List (ByteArray × α), (insP x l).map (fun p => (p.1, f p.2)) = insP (x.1, f x.2) (l.map fun p => (p.1, f p.2))
  | [] => rfl
  | y :: r => by
    simp only [insP, List.map_cons]
    split
    · rfl
    · simp [insP_map f x r]
theorem sortP_map (f : α → β) : ∀ l : List (ByteArray × α), (sortP l).map (fun p => (p.1, f p.2)) = sortP (l.map fun p => (p.1, f p.2))
  | [] => rfl
  | x :: r => by
    show (insP x (sortP r)).map _ = insP _ (sortP (r.map _))
    rw [insP_map, sortP_map f r]
end
theorem perm_sortP {α : Type} {keys : List ByteArray} {l : List α} (hl : keys.length = l.length) {p : List (Fin keys.length)} (hp : p.Perm (List.finRange keys.length)) (hs : ∀ (i j : Nat) x y, i < j → p[i]? = some x → p[j]? = some y → ltS keys[x] keys[y] = true) (z : ByteArray × α) :
    p.map (fun x => (keys.zip l).getD x.1 z) = sortP (keys.zip l) := by
  have hz : (keys.zip l).length = keys.length := by simp [hl]
  have hfst : ∀ x : Fin keys.length, ((keys.zip l).getD x.1 z).1 = keys[x] := fun x => by
    rw [List.getD_eq_getElem?_getD, List.getElem?_eq_getElem (by rw [hz]; exact x.2)]
    simp
  have hall : (List.finRange keys.length).map (fun x => (keys.zip l).getD x.1 z) = keys.zip l := by
    apply List.ext_getElem (by simp [hl])
    intro i h1 h2
    rw [List.getElem_map, List.getElem_finRange]
    simp only [Fin.cast_mk] at *
    rw [List.getD_eq_getElem?_getD, List.getElem?_eq_getElem (by simpa using h2)]
    rfl
  have hnd : keys.Nodup := strict_nodup hp hs
  refine eq_of_strict _ _ (((hp.map _).trans (by rw [hall])).trans (sortP_perm _).symm) ?_ (sortP_sorted _ (by rw [List.map_fst_zip (by omega)]; exact hnd))
  rw [List.pairwise_iff_getElem]
  intro i j h1 h2 hij
  rw [List.getElem_map, List.getElem_map, hfst, hfst]
  exact hs i j _ _ hij (List.getElem?_eq_getElem (by simpa using h1)) (List.getElem?_eq_getElem (by simpa using h2))
/-! ### trees that can be sorted -/
mutual
def okT : Tr → Prop | .mk k n u s keys l => (k = 17 → keys.Nodup ∧ keys.length = l.length) ∧ keys.length ≤ 4096 ∧ l.length ≤ 4096 ∧ okL l
def okL : List Tr → Prop | [] => True | t :: r => okT t ∧ okL r
end
theorem OwnS.stored {w : World} {B g cap n : Nat} {ss : List ByteArray} (h : OwnS w B (.slice (some ⟨g, 0, none⟩) n cap) ss) (i : Nat) (x : ByteArray) :
    OwnS (w.setCell ⟨g, i, none⟩ (.string x)) B (.slice (some ⟨g, 0, none⟩) n cap) (ss.set i x) := by
  have hn : n = ss.length := by
    obtain ⟨a, c, e, _⟩ := rows_form h
    injection e
  subst hn
  have q := (World.ownsRow.stored h i (.string x)).1
  unfold OwnS
  rw [List.length_set, List.map_set]
  exact q
theorem rows_frozen {w : World} {B : Nat} {e : TypeId} {size n g c : Nat} {xs : List Value} (h : w.ownsRow B e size (.slice (some ⟨g, 0, none⟩) n c) n xs) (j : Nat) : w.frozen? ⟨g, j, none⟩ = false := by
  rcases h.2 with ⟨q, _⟩ | ⟨g', cap, cur, q, _, hg, _⟩
  · cases q
  · cases q; exact frozen_of_row w g j cur e hg
/-! ### children in another order -/
section
variable {w : World} {B : Nat}
end
end Go.Proofs.YtjnpcddbgfmpcaaGreat
