/-
  VecApart: two vectors do not overlap, and the second can hold the first. Conditions: none beyond the statement's own.
-/
import Derived.Test.YtaoflhddcbmacaaVecElem
import Derived.Deep.QuietTactic
import Derived.BigQuiet
namespace Go.Proofs.Ytaoflhddcbmacaa
open Go Go.ChangeShapes Go.WideShapes Go.ChangeAt Go.RowKit Go.Joins Go.Deep
open Go.Proofs.Ytaoflhddcbmacaa.Ft (V3 vV okV ValsAt inlineB legalB packF codeF typedF allF)
set_option linter.unusedVariables false
set_option linter.unusedSimpArgs false

abbrev Z0 : Obj := rowV (0, 0, 0)
/-- One struct cell, fresh or told, is told: all else lies as it lay. -/
def Told (B0 : Nat) (z : Obj) (w w' : World) : Prop := w = w' ∨ ∃ g, B0 ≤ g ∧ (w.heap[g]? = some Z0 ∨ w.heap[g]? = some z) ∧ Moved (fun k => k = g) w w' ∧ w'.heap[g]? = some z
/-- All that the region may do. -/
structure Reach2 (S : Nat → Prop) (B0 : Nat) (w w' : World) : Prop where
  os : w'.os = w.os
  tape : w'.tape = w.tape
  output : w'.output = w.output
  size : w.heap.size ≤ w'.heap.size
  block : ∀ k, k < w.heap.size → k < B0 → ¬ S k → w'.heap[k]? = w.heap[k]?
theorem Reach2.trans {S : Nat → Prop} {B0 : Nat} {a b c : World} (h : Reach2 S B0 a b) (k : Reach2 S B0 b c) : Reach2 S B0 a c :=
  ⟨k.os.trans h.os, k.tape.trans h.tape, k.output.trans h.output, Nat.le_trans h.size k.size, fun j h1 h2 h3 => (k.block j (Nat.lt_of_lt_of_le h1 h.size) h2 h3).trans (h.block j h1 h2 h3)⟩
theorem Reach2.refl (S : Nat → Prop) (B0 : Nat) (w : World) : Reach2 S B0 w w := ⟨rfl, rfl, rfl, Nat.le_refl _, fun _ _ _ _ => rfl⟩
theorem Reach2.of_moved {S : Nat → Prop} {B0 : Nat} {w w' : World} (h : Moved S w w') : Reach2 S B0 w w' := ⟨h.os, h.tape, h.output, h.size, fun k h1 _ h3 => h.block k h1 h3⟩
theorem Reach2.of_told {S : Nat → Prop} {B0 : Nat} {z : Obj} {w w' : World} (h : Told B0 z w w') : Reach2 S B0 w w' := by
  rcases h with rfl | ⟨g, hg, _, hm, _⟩
  · exact Reach2.refl _ _ _
  · exact ⟨hm.os, hm.tape, hm.output, hm.size, fun k h1 h2 _ => hm.block k h1 (by omega)⟩
def stepT (S : Nat → Prop) (B0 : Nat) (z : Obj) (i : Nat) (w w' : World) : Prop := if i = 6 then Moved S w w' else if i = 11 then Told B0 z w w' else Grew w w'
theorem stepT_cases {S : Nat → Prop} {B0 : Nat} {z : Obj} {i : Nat} {w w' : World} (h : stepT S B0 z i w w') : (i = 6 ∧ Moved S w w') ∨ (i = 11 ∧ Told B0 z w w') ∨ Grew w w' := by
  unfold stepT at h
  split at h
  · exact .inl ⟨by assumption, h⟩
  · split at h
    · exact .inr (.inl ⟨by assumption, h⟩)
    · exact .inr (.inr h)
theorem stepT_reach {S : Nat → Prop} {B0 : Nat} {z : Obj} (i : Nat) (w w' : World) (h : stepT S B0 z i w w') : Reach2 S B0 w w' := by
  rcases stepT_cases h with ⟨_, h⟩ | ⟨_, h⟩ | h
  · exact Reach2.of_moved h
  · exact Reach2.of_told h
  · exact Reach2.of_moved (Moved.of_grew h)
theorem stepT_refl {S : Nat → Prop} {B0 : Nat} {z : Obj} (i : Nat) (w : World) : stepT S B0 z i w w := by
  unfold stepT
  split
  · exact Moved.refl _ _
  · split
    · exact .inl rfl
    · exact Grew.refl _
/-- A block of other content abides. -/
theorem stepT_heap {S : Nat → Prop} {B0 : Nat} {z : Obj} {i : Nat} {w w' : World} (h : stepT S B0 z i w w') {k : Nat} {ob : Obj} (hk : w.heap[k]? = some ob) (hS : ¬ S k) (h0 : ob ≠ Z0) (hz : ob ≠ z) : w'.heap[k]? = some ob := by
  rcases stepT_cases h with ⟨_, h⟩ | ⟨_, h⟩ | h
  · exact h.heap hk hS
  · rcases h with rfl | ⟨g, hg, hc, hm, _⟩
    · exact hk
    · refine hm.heap hk fun e => ?_
      subst e
      rw [hk] at hc
      rcases hc with hc | hc
      · exact h0 (by injection hc)
      · exact hz (by injection hc)
  · exact h.heap hk
theorem stepT_own {S : Nat → Prop} {B0 : Nat} {z : V3} {i : Nat} {w w' : World} (h : stepT S B0 (rowV z) i w w') (hS : ∀ k, S k → k < B0) {v : Value} {M : List V3} (ho : OwnVals w B0 v M) (hM : ∀ u ∈ M, u ≠ (0, 0, 0) ∧ u ≠ z) : OwnVals w' B0 v M := by
  rcases stepT_cases h with ⟨_, h⟩ | ⟨_, h⟩ | h
  · refine Moved.owns h ho fun k hk => ?_
    rcases ho.2 with ⟨rfl, _⟩ | ⟨g, cap, cur, rfl, hb, _⟩
    · cases hk
    · have : k = g := by injection hk with hk; exact hk.symm
      subst this
      intro hq
      have := hS k hq
      omega
  · rcases h with rfl | ⟨g, hg, hc, hm, hz⟩
    · exact ho
    · obtain ⟨h1, h2⟩ := ho
      rcases h2 with ⟨rfl, hn⟩ | ⟨g2, cap, cur, rfl, hb, hg2, hnc, hcm, hcs, htake⟩
      · exact ⟨h1, .inl ⟨rfl, hn⟩⟩
      · by_cases e : g2 = g
        · subst e
          have hone : ∃ u : V3, (u = (0, 0, 0) ∨ u = z) ∧ w.heap[g2]? = some (rowV u) := by
            rcases hc with hc | hc
            · exact ⟨_, .inl rfl, hc⟩
            · exact ⟨_, .inr rfl, hc⟩
          obtain ⟨u, hu, hcu⟩ := hone
          rw [hcu] at hg2
          injection hg2 with hg2
          injection hg2 with hcur _
          subst hcur
          have hcap : cap = 1 := by have : 3 = cap * 3 := hcs; omega
          subst hcap
          cases M with
          | nil =>
            refine ⟨h1, .inr ⟨g2, 1, _, rfl, hb, hz, hnc, hcm, rfl, ?_⟩⟩
            simp [valCells]
          | cons a r =>
            exfalso
            have hr : r = [] := by
              have : (a :: r).length ≤ 1 := hnc
              cases r with
              | nil => rfl
              | cons _ _ => simp at this
            subst hr
            have he : a = u := by
              obtain ⟨a0, a1, a2⟩ := a
              obtain ⟨u0, u1, u2⟩ := u
              simp [valCells, cellsV] at htake
              obtain ⟨rfl, rfl, rfl⟩ := htake
              rfl
            have := hM a (by simp)
            rcases hu with hu | hu
            · exact this.1 (he.trans hu)
            · exact this.2 (he.trans hu)
        · exact ⟨h1, .inr ⟨g2, cap, cur, rfl, hb, hm.heap hg2 e, hnc, hcm, hcs, htake⟩⟩
  · exact own_grew ho h
theorem stepT_grew {S : Nat → Prop} {B0 : Nat} {z : Obj} {i : Nat} {w w' : World} (h6 : i ≠ 6) (h11 : i ≠ 11) (h : Grew w w') : stepT S B0 z i w w' := by
  unfold stepT
  rw [if_neg h6, if_neg h11]
  exact h
theorem told_buf {B B0 : Nat} {z : V3} {w w' : World} {p : Nat} {o : Option Nat} {l : List UInt8} {most e : Int} (h : BufAt B w p o l most e) (ht : Told B0 (rowV z) w w') : BufAt B w' p o l most e := by
  rcases ht with rfl | ⟨g, hg, hc, hm, _⟩
  · exact h
  · have hn : ¬ Own2 p o g := by
      rcases hc with hc | hc
      · exact h.not_row hc
      · exact h.not_row hc
    exact h.kept hm (fun e => hn (.inl e.symm)) (fun k hk e => hn (.inr (by rw [hk, e])))
theorem stepT_buf {S : Nat → Prop} {B B0 : Nat} {z : V3} {i : Nat} {w w' : World} {p : Nat} {o : Option Nat} {l : List UInt8} {most e : Int} (hi : i ≠ 6) (ht : stepT S B0 (rowV z) i w w') (h : BufAt B w p o l most e) : BufAt B w' p o l most e := by
  rcases stepT_cases ht with ⟨h6, _⟩ | ⟨_, h1⟩ | h1
  · exact absurd h6 hi
  · exact told_buf h h1
  · exact h.grew h1
theorem stepT_live {S : Nat → Prop} {B0 : Nat} {z : V3} {i : Nat} {w0 w w' : World} {p : Nat} {most : Int} {s : St} (hi : i ≠ 6) (hB : w0.heap.size ≤ B0) (ht : stepT S B0 (rowV z) i w w') (h : Live w0 w p most s) : Live w0 w' p most s := by
  obtain ⟨o, h1, h2, h3, h4⟩ := h
  refine ⟨o, stepT_buf hi ht h1, ?_, h3, h4⟩
  rcases stepT_cases ht with ⟨h6, _⟩ | ⟨_, ht⟩ | ht
  · exact absurd h6 hi
  · rcases ht with rfl | ⟨g, hg, _, hm, _⟩
    · exact h2
    · exact Below.trans h2 (hm.below h2.size (fun k hk => by omega))
  · exact Below.trans h2 (Below.mono ht h2.size)
theorem stepT_ptr {S : Nat → Prop} {B0 : Nat} {z : Obj} {i : Nat} {w w' : World} (ht : stepT S B0 z i w w') (hS : ∀ k, S k → k < B0) {g : Nat} (hg : B0 ≤ g) (h : w.heap[g]? = some Z0 ∨ w.heap[g]? = some z) : w'.heap[g]? = some Z0 ∨ w'.heap[g]? = some z := by
  have hn : ¬ S g := fun hs => by have := hS g hs; omega
  rcases stepT_cases ht with ⟨_, ht⟩ | ⟨_, ht⟩ | ht
  · exact h.imp (fun h => ht.heap h hn) (fun h => ht.heap h hn)
  · rcases ht with rfl | ⟨g', _, _, hm, hz⟩
    · exact h
    · by_cases e : g = g'
      · subst e; exact .inr hz
      · exact h.imp (fun h => hm.heap h e) (fun h => hm.heap h e)
  · exact h.imp (fun h => ht.heap h) (fun h => ht.heap h)
theorem stepT_done {S : Nat → Prop} {B0 : Nat} {z : Obj} {i : Nat} {w w' : World} (hi : i ≠ 11) (ht : stepT S B0 z i w w') (hS : ∀ k, S k → k < B0) {g : Nat} (hg : B0 ≤ g) (h : w.heap[g]? = some z) : w'.heap[g]? = some z := by
  have hn : ¬ S g := fun hs => by have := hS g hs; omega
  rcases stepT_cases ht with ⟨_, ht⟩ | ⟨h11, _⟩ | ht
  · exact ht.heap h hn
  · exact absurd h11 hi
  · exact ht.heap h
theorem Reach2.heap {S : Nat → Prop} {B0 : Nat} {w w' : World} (h : Reach2 S B0 w w') {k : Nat} {ob : Obj} (hk : w.heap[k]? = some ob) (hB : k < B0) (hS : ¬ S k) : w'.heap[k]? = some ob :=
  (h.block k (Array.getElem?_eq_some_iff.1 hk).1 hB hS).trans hk
end Go.Proofs.Ytaoflhddcbmacaa
