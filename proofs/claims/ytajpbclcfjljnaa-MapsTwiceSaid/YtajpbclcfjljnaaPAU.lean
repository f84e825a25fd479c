/-
  Texts of the proof, part 21 of 21.
-/
import Derived.Test.YtajpbclcfjljnaaPAT
import Derived.Deep.QuietTactic
import Derived.BigQuiet
import Derived.Test.YtajpbclcfjljnaaPAQ
import Derived.Test.YtajpbclcfjljnaaPAA

/-
  VecApart: two vectors do not overlap, and the second can hold the first. Conditions: none beyond the statement's own.
-/
namespace Go.Proofs.Ytajpbclcfjljnaa
open Go Go.ChangeShapes Go.WideShapes Go.ChangeAt Go.RowKit Go.Joins Go.Deep
open Go.Proofs.Ytajpbclcfjljnaa.Ft (V3 vV okV ValsAt inlineB legalB packF codeF typedF allF)
set_option linter.unusedVariables false
set_option linter.unusedSimpArgs false
abbrev Z0 : Obj := rowV (0, 0, 0)
def Told (B0 : Nat) (z : Obj) (w w' : World) : Prop := w = w' ∨ ∃ g, B0 ≤ g ∧ (w.heap[g]? = some Z0 ∨ w.heap[g]? = some z) ∧ Moved (fun k => k = g) w w' ∧ w'.heap[g]? = some z
structure Reach2 (S : Nat → Prop) (B0 : Nat) (w w' : World) : Prop where
  os : w'.os = w.os
  tape : w'.tape = w.tape
  output : w'.output = w.output
  size : w.heap.size ≤ w'.heap.size
  block : ∀ k, k < w.heap.size → k < B0 → ¬ S k → w'.heap[k]? = w.heap[k]?
theorem Reach2.trans {S : Nat → Prop} {B0 : Nat} {a b c : World} (h : Reach2 S B0 a b) (k : Reach2 S B0 b c) : Reach2 S B0 a c :=
  ⟨k.os.trans h.os, k.tape.trans h.tape, k.output.trans h.output, Nat.le_trans h.size k.size, fun j h1 h2 h3 => (k.block j (Nat.lt_of_lt_of_le h1 h.size) h2 h3).trans (h.block j h1 h2 h3)⟩
theorem Reach2.refl (S : Nat → Prop) (B0 : Nat) (w : World) : Reach2 S B0 w w := ⟨rfl, rfl, rfl, Nat.le_refl _, fun _ _ _ _ => rfl⟩
theorem Reach2.of_moved {S : Nat → Prop} {B0 : Nat} {w w' : World} (h : Moved S w w') : Reach2 S B0 w w' := ⟨h.os, h.tape, h.output, h.size, fun k h1 _ h3 => h.block k h1 h3⟩
theorem Reach2.of_told {S : Nat → Prop} {B0 : Nat} {z : Obj} {w w' : World} (h : Told B0 z w w') : Reach2 S B0 w w' := by
  rcases h with rfl | ⟨g, hg, _, hm, _⟩
  · exact Reach2.refl _ _ _
  · exact ⟨hm.os, hm.tape, hm.output, hm.size, fun k h1 h2 _ => hm.block k h1 (by omega)⟩
def stepT (S : Nat → Prop) (B0 : Nat) (z : Obj) (i : Nat) (w w' : World) : Prop := if i = 6 then Moved S w w' else if i = 11 then Told B0 z w w' else Grew w w'
theorem stepT_cases {S : Nat → Prop} {B0 : Nat} {z : Obj} {i : Nat} {w w' : World} (h : stepT S B0 z i w w') : (i = 6 ∧ Moved S w w') ∨ (i = 11 ∧ Told B0 z w w') ∨ Grew w w' := by
  unfold stepT at h
  split at h
  · exact .inl ⟨by assumption, h⟩
  · split at h
    · exact .inr (.inl ⟨by assumption, h⟩)
    · exact .inr (.inr h)
theorem stepT_reach {S : Nat → Prop} {B0 : Nat} {z : Obj} (i : Nat) (w w' : World) (h : stepT S B0 z i w w') : Reach2 S B0 w w' := by
  rcases stepT_cases h with ⟨_, h⟩ | ⟨_, h⟩ | h
  · exact Reach2.of_moved h
  · exact Reach2.of_told h
  · exact Reach2.of_moved (Moved.of_grew h)
theorem stepT_refl {S : Nat → Prop} {B0 : Nat} {z : Obj} (i : Nat) (w : World) : stepT S B0 z i w w := by
  unfold stepT
  split
  · exact Moved.refl _ _
  · split
    · exact .inl rfl
    · exact Grew.refl _
theorem stepT_heap {S : Nat → Prop} {B0 : Nat} {z : Obj} {i : Nat} {w w' : World} (h : stepT S B0 z i w w') {k : Nat} {ob : Obj} (hk : w.heap[k]? = some ob) (hS : ¬ S k) (h0 : ob ≠ Z0) (hz : ob ≠ z) : w'.heap[k]? = some ob := by
  rcases stepT_cases h with ⟨_, h⟩ | ⟨_, h⟩ | h
  · exact h.heap hk hS
  · rcases h with rfl | ⟨g, hg, hc, hm, _⟩
    · exact hk
    · refine hm.heap hk fun e => ?_
      subst e
      rw [hk] at hc
      rcases hc with hc | hc
      · exact h0 (by injection hc)
      · exact hz (by injection hc)
  · exact h.heap hk
theorem stepT_own {S : Nat → Prop} {B0 : Nat} {z : V3} {i : Nat} {w w' : World} (h : stepT S B0 (rowV z) i w w') (hS : ∀ k, S k → k < B0) {v : Value} {M : List V3} (ho : OwnVals w B0 v M) (hM : ∀ u ∈ M, u ≠ (0, 0, 0) ∧ u ≠ z) : OwnVals w' B0 v M := by
  rcases stepT_cases h with ⟨_, h⟩ | ⟨_, h⟩ | h
  · refine Moved.owns h ho fun k hk => ?_
    rcases ho.2 with ⟨rfl, _⟩ | ⟨g, cap, cur, rfl, hb, _⟩
    · cases hk
    · have : k = g := by injection hk with hk; exact hk.symm
      subst this
      intro hq
      have := hS k hq
      omega
  · rcases h with rfl | ⟨g, hg, hc, hm, hz⟩
    · exact ho
    · obtain ⟨h1, h2⟩ := ho
      rcases h2 with ⟨rfl, hn⟩ | ⟨g2, cap, cur, rfl, hb, hg2, hnc, hcm, hcs, htake⟩
      · exact ⟨h1, .inl ⟨rfl, hn⟩⟩
      · by_cases e : g2 = g
        · subst e
          have hone : ∃ u : V3, (u = (0, 0, 0) ∨ u = z) ∧ w.heap[g2]? = some (rowV u) := by
            rcases hc with hc | hc
            · exact ⟨_, .inl rfl, hc⟩
            · exact ⟨_, .inr rfl, hc⟩
          obtain ⟨u, hu, hcu⟩ := hone
          rw [hcu] at hg2
          injection hg2 with hg2
          injection hg2 with hcur _
          subst hcur
          have hcap : cap = 1 := by have : 3 = cap * 3 := hcs; omega
          subst hcap
          cases M with
          | nil =>
            refine ⟨h1, .inr ⟨g2, 1, _, rfl, hb, hz, hnc, hcm, rfl, ?_⟩⟩
            simp [valCells]
          | cons a r =>
            exfalso
            have hr : r = [] := by
              have : (a :: r).length ≤ 1 := hnc
              cases r with
              | nil => rfl
              | cons _ _ => simp at this
            subst hr
            have he : a = u := by
              obtain ⟨a0, a1, a2⟩ := a
              obtain ⟨u0, u1, u2⟩ := u
              simp [valCells, cellsV] at htake
              obtain ⟨rfl, rfl, rfl⟩ := htake
              rfl
            have := hM a (by simp)
            rcases hu with hu | hu
            · exact this.1 (he.trans hu)
            · exact this.2 (he.trans hu)
        · exact ⟨h1, .inr ⟨g2, cap, cur, rfl, hb, hm.heap hg2 e, hnc, hcm, hcs, htake⟩⟩
  · exact own_grew ho h
theorem stepT_grew {S : Nat → Prop} {B0 : Nat} {z : Obj} {i : Nat} {w w' : World} (h6 : i ≠ 6) (h11 : i ≠ 11) (h : Grew w w') : stepT S B0 z i w w' := by
  unfold stepT
  rw [if_neg h6, if_neg h11]
  exact h
theorem told_buf {B B0 : Nat} {z : V3} {w w' : World} {p : Nat} {o : Option Nat} {l : List UInt8} {most e : Int} (h : BufAt B w p o l most e) (ht : Told B0 (rowV z) w w') : BufAt B w' p o l most e := by
  rcases ht with rfl | ⟨g, hg, hc, hm, _⟩
  · exact h
  · have hn : ¬ Own2 p o g := by
      rcases hc with hc | hc
      · exact h.not_row hc
      · exact h.not_row hc
    exact h.kept hm (fun e => hn (.inl e.symm)) (fun k hk e => hn (.inr (by rw [hk, e])))
theorem stepT_buf {S : Nat → Prop} {B B0 : Nat} {z : V3} {i : Nat} {w w' : World} {p : Nat} {o : Option Nat} {l : List UInt8} {most e : Int} (hi : i ≠ 6) (ht : stepT S B0 (rowV z) i w w') (h : BufAt B w p o l most e) : BufAt B w' p o l most e := by
  rcases stepT_cases ht with ⟨h6, _⟩ | ⟨_, h1⟩ | h1
  · exact absurd h6 hi
  · exact told_buf h h1
  · exact h.grew h1
theorem stepT_live {S : Nat → Prop} {B0 : Nat} {z : V3} {i : Nat} {w0 w w' : World} {p : Nat} {most : Int} {s : St} (hi : i ≠ 6) (hB : w0.heap.size ≤ B0) (ht : stepT S B0 (rowV z) i w w') (h : Live w0 w p most s) : Live w0 w' p most s := by
  obtain ⟨o, h1, h2, h3, h4⟩ := h
  refine ⟨o, stepT_buf hi ht h1, ?_, h3, h4⟩
  rcases stepT_cases ht with ⟨h6, _⟩ | ⟨_, ht⟩ | ht
  · exact absurd h6 hi
  · rcases ht with rfl | ⟨g, hg, _, hm, _⟩
    · exact h2
    · exact Below.trans h2 (hm.below h2.size (fun k hk => by omega))
  · exact Below.trans h2 (Below.mono ht h2.size)
theorem stepT_ptr {S : Nat → Prop} {B0 : Nat} {z : Obj} {i : Nat} {w w' : World} (ht : stepT S B0 z i w w') (hS : ∀ k, S k → k < B0) {g : Nat} (hg : B0 ≤ g) (h : w.heap[g]? = some Z0 ∨ w.heap[g]? = some z) : w'.heap[g]? = some Z0 ∨ w'.heap[g]? = some z := by
  have hn : ¬ S g := fun hs => by have := hS g hs; omega
  rcases stepT_cases ht with ⟨_, ht⟩ | ⟨_, ht⟩ | ht
  · exact h.imp (fun h => ht.heap h hn) (fun h => ht.heap h hn)
  · rcases ht with rfl | ⟨g', _, _, hm, hz⟩
    · exact h
    · by_cases e : g = g'
      · subst e; exact .inr hz
      · exact h.imp (fun h => hm.heap h e) (fun h => hm.heap h e)
  · exact h.imp (fun h => ht.heap h) (fun h => ht.heap h)
theorem stepT_done {S : Nat → Prop} {B0 : Nat} {z : Obj} {i : Nat} {w w' : World} (hi : i ≠ 11) (ht : stepT S B0 z i w w') (hS : ∀ k, S k → k < B0) {g : Nat} (hg : B0 ≤ g) (h : w.heap[g]? = some z) : w'.heap[g]? = some z := by
  have hn : ¬ S g := fun hs => by have := hS g hs; omega
  rcases stepT_cases ht with ⟨_, ht⟩ | ⟨h11, _⟩ | ht
  · exact ht.heap h hn
  · exact absurd h11 hi
  · exact ht.heap h
theorem Reach2.heap {S : Nat → Prop} {B0 : Nat} {w w' : World} (h : Reach2 S B0 w w') {k : Nat} {ob : Obj} (hk : w.heap[k]? = some ob) (hB : k < B0) (hS : ¬ S k) : w'.heap[k]? = some ob :=
  (h.block k (Array.getElem?_eq_some_iff.1 hk).1 hB hS).trans hk
end Go.Proofs.Ytajpbclcfjljnaa

/-
  Maps: the examples of the law.
-/
namespace Go.Proofs.Ytajpbclcfjljnaa
open Go Go.ChangeShapes Go.WideShapes Go.ChangeAt Go.RowKit Go.Joins
open Go.Proofs.Ytajpbclcfjljnaa.Ft (V3 vV okV ValsAt inlineB legalB packF codeF typedF allF)
set_option linter.unusedVariables false
set_option linter.unusedSimpArgs false
def stepM (S : Nat → Prop) (B0 : Nat) (z : Obj) (i : Nat) (w w' : World) : Prop := if i = 4 then Moved S w w' else if i = 9 then Told B0 z w w' else Grew w w'
theorem stepM_cases {S : Nat → Prop} {B0 : Nat} {z : Obj} {i : Nat} {w w' : World} (h : stepM S B0 z i w w') : (i = 4 ∧ Moved S w w') ∨ (i = 9 ∧ Told B0 z w w') ∨ Grew w w' := by
  unfold stepM at h
  split at h
  · exact .inl ⟨by assumption, h⟩
  · split at h
    · exact .inr (.inl ⟨by assumption, h⟩)
    · exact .inr (.inr h)
theorem stepM_reach {S : Nat → Prop} {B0 : Nat} {z : Obj} (i : Nat) (w w' : World) (h : stepM S B0 z i w w') : Reach2 S B0 w w' := by
  rcases stepM_cases h with ⟨_, h⟩ | ⟨_, h⟩ | h
  · exact Reach2.of_moved h
  · exact Reach2.of_told h
  · exact Reach2.of_moved (Moved.of_grew h)
theorem stepM_refl {S : Nat → Prop} {B0 : Nat} {z : Obj} (i : Nat) (w : World) : stepM S B0 z i w w := by
  unfold stepM
  split
  · exact Moved.refl _ _
  · split
    · exact .inl rfl
    · exact Grew.refl _
theorem stepM_heap {S : Nat → Prop} {B0 : Nat} {z : Obj} {i : Nat} {w w' : World} (h : stepM S B0 z i w w') {k : Nat} {ob : Obj} (hk : w.heap[k]? = some ob) (hS : ¬ S k) (h0 : ob ≠ Z0) (hz : ob ≠ z) : w'.heap[k]? = some ob := by
  rcases stepM_cases h with ⟨_, h⟩ | ⟨_, h⟩ | h
  · exact h.heap hk hS
  · rcases h with rfl | ⟨g, hg, hc, hm, _⟩
    · exact hk
    · refine hm.heap hk fun e => ?_
      subst e
      rw [hk] at hc
      rcases hc with hc | hc
      · exact h0 (by injection hc)
      · exact hz (by injection hc)
  · exact h.heap hk
theorem stepM_own {S : Nat → Prop} {B0 : Nat} {z : V3} {i : Nat} {w w' : World} (h : stepM S B0 (rowV z) i w w') (hS : ∀ k, S k → k < B0) {v : Value} {M : List V3} (ho : OwnVals w B0 v M) (hM : ∀ u ∈ M, u ≠ (0, 0, 0) ∧ u ≠ z) : OwnVals w' B0 v M := by
  rcases stepM_cases h with ⟨_, h⟩ | ⟨_, h⟩ | h
  · refine Moved.owns h ho fun k hk => ?_
    rcases ho.2 with ⟨rfl, _⟩ | ⟨g, cap, cur, rfl, hb, _⟩
    · cases hk
    · have : k = g := by injection hk with hk; exact hk.symm
      subst this
      intro hq
      have := hS k hq
      omega
  · rcases h with rfl | ⟨g, hg, hc, hm, hz⟩
    · exact ho
    · obtain ⟨h1, h2⟩ := ho
      rcases h2 with ⟨rfl, hn⟩ | ⟨g2, cap, cur, rfl, hb, hg2, hnc, hcm, hcs, htake⟩
      · exact ⟨h1, .inl ⟨rfl, hn⟩⟩
      · by_cases e : g2 = g
        · subst e
          have hone : ∃ u : V3, (u = (0, 0, 0) ∨ u = z) ∧ w.heap[g2]? = some (rowV u) := by
            rcases hc with hc | hc
            · exact ⟨_, .inl rfl, hc⟩
            · exact ⟨_, .inr rfl, hc⟩
          obtain ⟨u, hu, hcu⟩ := hone
          rw [hcu] at hg2
          injection hg2 with hg2
          injection hg2 with hcur _
          subst hcur
          have hcap : cap = 1 := by have : 3 = cap * 3 := hcs; omega
          subst hcap
          cases M with
          | nil =>
            refine ⟨h1, .inr ⟨g2, 1, _, rfl, hb, hz, hnc, hcm, rfl, ?_⟩⟩
            simp [valCells]
          | cons a r =>
            exfalso
            have hr : r = [] := by
              have : (a :: r).length ≤ 1 := hnc
              cases r with
              | nil => rfl
              | cons _ _ => simp at this
            subst hr
            have he : a = u := by
              obtain ⟨a0, a1, a2⟩ := a
              obtain ⟨u0, u1, u2⟩ := u
              simp [valCells, cellsV] at htake
              obtain ⟨rfl, rfl, rfl⟩ := htake
              rfl
            have := hM a (by simp)
            rcases hu with hu | hu
            · exact this.1 (he.trans hu)
            · exact this.2 (he.trans hu)
        · exact ⟨h1, .inr ⟨g2, cap, cur, rfl, hb, hm.heap hg2 e, hnc, hcm, hcs, htake⟩⟩
  · exact own_grew ho h
theorem stepM_grew {S : Nat → Prop} {B0 : Nat} {z : Obj} {i : Nat} {w w' : World} (h6 : i ≠ 4) (h11 : i ≠ 9) (h : Grew w w') : stepM S B0 z i w w' := by
  unfold stepM
  rw [if_neg h6, if_neg h11]
  exact h
theorem stepM_buf {S : Nat → Prop} {B B0 : Nat} {z : V3} {i : Nat} {w w' : World} {p : Nat} {o : Option Nat} {l : List UInt8} {most e : Int} (hi : i ≠ 4) (ht : stepM S B0 (rowV z) i w w') (h : BufAt B w p o l most e) : BufAt B w' p o l most e := by
  rcases stepM_cases ht with ⟨h6, _⟩ | ⟨_, h1⟩ | h1
  · exact absurd h6 hi
  · exact told_buf h h1
  · exact h.grew h1
theorem stepM_live {S : Nat → Prop} {B0 : Nat} {z : V3} {i : Nat} {w0 w w' : World} {p : Nat} {most : Int} {s : St} (hi : i ≠ 4) (hB : w0.heap.size ≤ B0) (ht : stepM S B0 (rowV z) i w w') (h : Live w0 w p most s) : Live w0 w' p most s := by
  obtain ⟨o, h1, h2, h3, h4⟩ := h
  refine ⟨o, stepM_buf hi ht h1, ?_, h3, h4⟩
  rcases stepM_cases ht with ⟨h6, _⟩ | ⟨_, ht⟩ | ht
  · exact absurd h6 hi
  · rcases ht with rfl | ⟨g, hg, _, hm, _⟩
    · exact h2
    · exact Below.trans h2 (hm.below h2.size (fun k hk => by omega))
  · exact Below.trans h2 (Below.mono ht h2.size)
theorem stepM_ptr {S : Nat → Prop} {B0 : Nat} {z : Obj} {i : Nat} {w w' : World} (ht : stepM S B0 z i w w') (hS : ∀ k, S k → k < B0) {g : Nat} (hg : B0 ≤ g) (h : w.heap[g]? = some Z0 ∨ w.heap[g]? = some z) : w'.heap[g]? = some Z0 ∨ w'.heap[g]? = some z := by
  have hn : ¬ S g := fun hs => by have := hS g hs; omega
  rcases stepM_cases ht with ⟨_, ht⟩ | ⟨_, ht⟩ | ht
  · exact h.imp (fun h => ht.heap h hn) (fun h => ht.heap h hn)
  · rcases ht with rfl | ⟨g', _, _, hm, hz⟩
    · exact h
    · by_cases e : g = g'
      · subst e; exact .inr hz
      · exact h.imp (fun h => hm.heap h e) (fun h => hm.heap h e)
  · exact h.imp (fun h => ht.heap h) (fun h => ht.heap h)
theorem stepM_done {S : Nat → Prop} {B0 : Nat} {z : Obj} {i : Nat} {w w' : World} (hi : i ≠ 9) (ht : stepM S B0 z i w w') (hS : ∀ k, S k → k < B0) {g : Nat} (hg : B0 ≤ g) (h : w.heap[g]? = some z) : w'.heap[g]? = some z := by
  have hn : ¬ S g := fun hs => by have := hS g hs; omega
  rcases stepM_cases ht with ⟨_, ht⟩ | ⟨h11, _⟩ | ht
  · exact ht.heap h hn
  · exact absurd h11 hi
  · exact ht.heap h
theorem reach_belowM {S : Nat → Prop} {w0 w4 w2 : World} (hG : Reach2 S w4.heap.size w4 w2) (hb : Below w0.heap.size w0 w4) (hS : ∀ k, S k → w0.heap.size ≤ k) : Below w0.heap.size w0 w2 :=
  Below.trans hb ⟨hG.os, hG.tape, hG.output, hG.size, fun k hk => hG.block k (Nat.lt_of_lt_of_le hk hb.size) (Nat.lt_of_lt_of_le hk hb.size) (fun hs => by have := hS k hs; omega)⟩
theorem told_rowM {w : World} {g : Nat} {z : V3} (h : w.heap[g]? = some Z0 ∨ w.heap[g]? = some (rowV z)) : ∃ a b c : Value, w.heap[g]? = some (.cells #[a, b, c] 30 (0, 0)) := by
  rcases h with h | h
  · exact ⟨_, _, _, h⟩
  · exact ⟨_, _, _, h⟩
theorem told_stepM {S : Nat → Prop} {B0 : Nat} {z : V3} {w : World} {g : Nat} {a b c : Value} (hg : B0 ≤ g) (hc : w.heap[g]? = some Z0 ∨ w.heap[g]? = some (rowV z)) (hrow : w.heap[g]? = some (.cells #[a, b, c] 30 (0, 0))) :
    stepM S B0 (rowV z) 9 w (((w.setCell ⟨g, 0, none⟩ (.int .i64 z.1)).setCell ⟨g, 1, none⟩ (.int .i64 z.2.1)).setCell ⟨g, 2, none⟩ (.int .u64 z.2.2)) := by
  refine .inr ⟨g, hg, hc, ?_, heap_store3 hrow _ _ _⟩
  exact Moved.setCell (S := fun k => k = g) (p := ⟨g, 2, none⟩) (Moved.setCell (S := fun k => k = g) (p := ⟨g, 1, none⟩) (Moved.setCell (S := fun k => k = g) (p := ⟨g, 0, none⟩) (Moved.refl _ w) (fun _ => rfl) _) (fun _ => rfl) _) (fun _ => rfl) _
theorem valsRow {w : World} {g c : Nat} {v : V3} (hg : w.heap[g]? = some (rowV v)) : ValsAt w (.slice (some ⟨g, 0, none⟩) 1 c) [v] := by
  refine ⟨_, c, rfl, fun i x hx => ?_⟩
  have hi : i = 0 := by have := (List.getElem?_eq_some_iff.1 hx).1; simp at this; omega
  subst hi
  simp at hx
  subst hx
  exact ⟨_, _, rfl, row_cell hg 0 _ rfl, row_cell hg 1 _ rfl, row_cell hg 2 _ rfl⟩
theorem mex1 : putF 100 (takesE 4) true false 14 0 [(4, 1, 0)] ([107, 0], 0) = (((14, 1, 3), 0), ([107, 0, 1, 3], 0)) := by kernel_rfl
theorem mex2 : putM 100 (14, 1, 3) [(1, 1, 5)] ([107, 0, 1, 3], 0) = (((9, 1, 7), 0), ([107, 0, 1, 3, 1, 1, 1, 5, 4], 0)) := by kernel_rfl
theorem mex3 : putM 100 (1, 1, 5) [] ([107, 0, 1, 3, 1, 1, 1, 5, 4], 0) = (((0, 0, 0), 60), ([107, 0, 1, 3, 1, 1, 1, 5, 4], 0)) := by kernel_rfl
theorem mex4 : putM 100 (14, 3, 3) [] ([107, 0, 1, 3, 1, 1, 1, 5, 4], 0) = (((0, 0, 0), 2), ([107, 0, 1, 3, 1, 1, 1, 5, 4], 0)) := by kernel_rfl
theorem mex5 : putM 100 (14, 1, 3) [(3, 0, 0)] ([107, 0, 1, 3, 1, 1, 1, 5, 4], 0) = (((0, 0, 0), 20), ([107, 0, 1, 3, 1, 1, 1, 5, 4], 0)) := by kernel_rfl
theorem mtyped : typedF 4 0 = (14, true) := by kernel_rfl
theorem okV1 (a b c : Int) (h0 : 0 ≤ c) (h1 : c ≤ 18446744073709551615) : ∀ v ∈ [((a, b, c) : V3)], okV v := by
  intro v hv
  simp at hv
  subst hv
  exact ⟨h0, h1⟩
theorem keysPut_any {B : Nat} {w : World} {p : Nat} {o : Option Nat} {most : Int} (s : St) (lv : Value) (l : List V3) (h : BufAt B w p o s.1 most s.2) (hB : B ≤ w.heap.size) (hl : (s.1.length : Int) ≤ most) (hm1 : most ≤ 1048576)
    (hv : ValsAt w lv l) (hlen : l.length ≤ 1048576) (hok : ∀ v ∈ l, okV v) (hap : ∀ ad n c, lv = .slice (some ad) n c → ad.block < w.heap.size ∧ ¬ Own2 p o ad.block) (hs : s.2 = 0) :
    Calls Try.prog 19 #[bptr p, lv] w fun r w' => r = .returned (putV (putF most (takesE 4) true false 14 0 l s).1) ∧ TurnB B w w' p o most (putF most (takesE 4) true false 14 0 l s).2 := by
  have HB := Lib.hid h
  have HV := Lib.hid hv
  have HA := Lib.hid hap
  obtain ⟨la, lc, rfl, hcell⟩ := hv
  clear h hap hcell
  generalize hq : putF most (takesE 4) true false 14 0 l s = q
  obtain ⟨⟨⟨q0, q1, q2⟩, qe⟩, sf⟩ := q
  have HQ := Lib.hid hq
  clear hq
  go_enter Try.func19, Try.ntmps19
  go_wp2_with fail
  have hg := (Grew.refl w).alloc (rowV (0, 0, 0))
  have hr := heap_alloc_new w (rowV (0, 0, 0))
  have hlt : w.heap.size < (w.alloc (rowV (0, 0, 0))).heap.size := by simp
  generalize (w.alloc (rowV (0, 0, 0))) = w1 at *
  have hb1 := HB.out.grew hg
  refine (put_ty0 4 14 mtyped (by decide) s _ l hb1 (Nat.le_trans hB hg.size) hl hm1 (HV.out.grew hg) hlen hok (fun ad n c e => ⟨Nat.lt_of_lt_of_le (HA.out ad n c e).1 hg.size, (HA.out ad n c e).2⟩) hs).mono ?_
  rw [HQ.out]
  rintro r w2 ⟨rfl, ht⟩
  rw [show putV (((q0, q1, q2), qe) : V3 × Int) = .tuple #[.agg #[.int .i64 q0, .int .i64 q1, .int .u64 q2], .int .i64 qe] from rfl]
  have hrow : w2.heap[w.heap.size]? = some (rowV (0, 0, 0)) := by
    obtain ⟨_, _, _, hm⟩ := ht
    exact hm.heap hr (hb1.not_row hr)
  have f0 := row_frozen hrow 0
  have f1 := row_frozen hrow 1
  have f2 := row_frozen hrow 2
  have c0 := row_cell hrow 0 _ rfl
  have c1 := row_cell hrow 1 _ rfl
  have c2 := row_cell hrow 2 _ rfl
  have HT : Hid (TurnB B w (((w2.setCell ⟨w.heap.size, 0, none⟩ (.int .i64 q0)).setCell ⟨w.heap.size, 1, none⟩ (.int .i64 q1)).setCell ⟨w.heap.size, 2, none⟩ (.int .u64 q2)) p o most sf) := by
    obtain ⟨o', b', n', m'⟩ := TurnB.after hg ht
    have hn : ¬ Own2 p o' w.heap.size := b'.not_row hrow
    have hm : Moved (fun k => k = w.heap.size) w2 (((w2.setCell ⟨w.heap.size, 0, none⟩ (.int .i64 q0)).setCell ⟨w.heap.size, 1, none⟩ (.int .i64 q1)).setCell ⟨w.heap.size, 2, none⟩ (.int .u64 q2)) :=
      Moved.setCell (S := fun k => k = w.heap.size) (p := ⟨w.heap.size, 2, none⟩) (Moved.setCell (S := fun k => k = w.heap.size) (p := ⟨w.heap.size, 1, none⟩) (Moved.setCell (S := fun k => k = w.heap.size) (p := ⟨w.heap.size, 0, none⟩) (Moved.refl _ w2) (fun _ => rfl) _) (fun _ => rfl) _) (fun _ => rfl) _
    exact ⟨o', b'.kept hm (fun e => hn (.inl e.symm)) (fun k e e2 => hn (.inr (by rw [e, e2]))), n', m'.trans hm fun j hj e => by omega⟩
  clear hrow ht hr hb1 hg hlt HB HV HA
  go_wp2
  exact bodyPost_ret (v := putV ((q0, q1, q2), qe)) (by simp [results, Try.results19, go_sem, c0, c1, c2, putV, vV]) rfl ⟨rfl, HT.out⟩
end Go.Proofs.Ytajpbclcfjljnaa

/-
  Maps: the examples of the law.
-/
namespace Go.Proofs.Ytajpbclcfjljnaa
open Go Go.ChangeShapes Go.WideShapes Go.ChangeAt Go.RowKit Go.Joins
open Go.Proofs.Ytajpbclcfjljnaa.Ft (V3 vV okV ValsAt inlineB legalB packF codeF typedF allF)
set_option linter.unusedVariables false
set_option linter.unusedSimpArgs false
set_option maxRecDepth 100000 in
set_option maxHeartbeats 8000000 in
theorem works18_any (w0 : World) : Calls Try.prog 15 #[] w0 fun r w' => r = .returned (.bool true) ∧ Grew w0 w' := by
  go_enter Try.func15, Try.ntmps15
  go_wp2_with fail
  refine (newL (w0 := w0) 100 (Below.refl _ _)).mono ?_
  rintro r w1 ⟨rfl, hl, _, _⟩
  rw [show roomOf 100 = 100 by decide] at hl
  have HL1 := Lib.hid hl
  clear hl
  go_wp2_with fail
  refine (textL1 ⟨#[107, 0]⟩ _ rfl (by decide) HL1.out).mono ?_
  rintro r w2 ⟨rfl, hl⟩
  rw [show putS 100 (bytesS [⟨#[107, 0]⟩]) ([], 0) = ([107, 0], 0) by kernel_rfl] at hl
  have HL2 := Lib.hid hl
  clear hl HL1
  go_wp2_with fail
  refine (key18_any 0 _).mono ?_
  rintro r w3 ⟨rfl, hg3⟩
  have HL3 := Lib.hid (HL2.out.grew hg3)
  clear hg3 HL2
  go_wp2_with fail
  have hga := (Grew.refl w3).alloc (rowV (4, 1, 0))
  have hra := heap_alloc_new w3 (rowV (4, 1, 0))
  obtain ⟨o1, b1, e1, q1, r1⟩ := HL3.out
  refine (keysPut_any ([107, 0], 0) _ [(4, 1, 0)] (b1.grew hga) (Nat.le_trans e1.size hga.size) q1 r1 (valsRow hra) (by decide) (okV1 _ _ _ (by decide) (by decide)) ?_ rfl).mono ?_
  · intro ad n' c' e
    cases e
    exact ⟨(Array.getElem?_eq_some_iff.1 hra).1, fun hq => absurd (b1.lt _ hq) (Nat.lt_irrefl _)⟩
  rw [mex1]
  rintro r w4a ⟨rfl, ht⟩
  have HL4 := Lib.hid (Live.turn (s' := ([107, 0, 1, 3], 0)) (b1.grew hga) (Below.trans e1 (Below.mono hga e1.size)) ht (by decide) r1)
  rw [show putV (((14, 1, 3), 0) : V3 × Int) = .tuple #[.agg #[.int .i64 14, .int .i64 1, .int .u64 3], .int .i64 0] from rfl]
  clear ht b1 e1 q1 r1 hga hra HL3
  go_wp2_with fail
  have hg4 := (Grew.refl w4a).alloc (rowV (14, 1, 3))
  have hr4 := heap_alloc_new w4a (rowV (14, 1, 3))
  have hlt4 := (Array.getElem?_eq_some_iff.1 hr4).1
  generalize (w4a.alloc (rowV (14, 1, 3))) = w4 at *
  have HR4 := Lib.hid hr4
  have HLT := Lib.hid hlt4
  obtain ⟨o, hb, hbel, h3, h4⟩ := (HL4.out.grew hg4)
  have HB := Lib.hid hb
  have HBEL := Lib.hid hbel
  have HS := Lib.hid (And.intro hb.lt hb.ge)
  have HNS : Hid (¬ Own2 w0.heap.size o w4a.heap.size) := hb.not_row HR4.out
  have HVN : Hid (rowV (1, 1, 5) ≠ Z0 ∧ rowV (1, 1, 5) ≠ rowV (9, 1, 7)) := ⟨fun e => by injection e with e; simp at e, fun e => by injection e with e; simp at e⟩
  obtain ⟨ga, hgaa⟩ : ∃ g, g = w4a.heap.size := ⟨_, rfl⟩
  clear hg4 hr4 hlt4 hb hbel h3 h4 HL4
  refine wp_region_tablesT (Reach2 (Own2 w0.heap.size o) w4.heap.size) 4 (fun w => BufAt w0.heap.size w w0.heap.size o [107, 0, 1, 3] 100 0) (stepM (Own2 w0.heap.size o) w4.heap.size (rowV (9, 1, 7))) [[], [], [], [2], [0, 1, 3], [4], [5], [5], [], [6, 8], [7]] [[(21, 1), (22, 2), (23, 3), (19, 5), (25, 6), (26, 7), (4, 8), (5, 10)], [(20, 0), (22, 2), (23, 3), (19, 5), (25, 6), (26, 7), (4, 8), (5, 10)], [(20, 0), (21, 1), (24, 4), (19, 5), (25, 6), (26, 7), (4, 8), (5, 10)], [(20, 0), (21, 1), (22, 2), (19, 5), (25, 6), (26, 7), (4, 8), (5, 10)], [(20, 0), (21, 1), (22, 2), (23, 3), (25, 6), (26, 7), (4, 8), (5, 10)], [(20, 0), (21, 1), (22, 2), (23, 3), (24, 4), (4, 8), (5, 10)], [(20, 0), (21, 1), (22, 2), (23, 3), (24, 4), (19, 5), (26, 7), (4, 8), (5, 10)], [(20, 0), (21, 1), (22, 2), (23, 3), (24, 4), (19, 5), (25, 6), (4, 8)], [(20, 0), (21, 1), (22, 2), (23, 3), (24, 4), (19, 5), (25, 6), (26, 7), (5, 10)], [(20, 0), (21, 1), (22, 2), (23, 3), (24, 4), (19, 5), (25, 6), (26, 7), (4, 8), (5, 10)], [(20, 0), (21, 1), (22, 2), (23, 3), (24, 4), (19, 5), (25, 6), (26, 7), (4, 8)]] [(20, 0), (21, 1), (22, 2), (23, 3), (24, 4), (19, 5), (25, 6), (26, 7), (4, 8), (5, 10)]
    [fun y v w => v = bptr w0.heap.size, fun y v w => v = .agg #[.int .i64 14, .int .i64 1, .int .u64 3], fun y v w => v = .agg #[.int .i64 1, .int .i64 1, .int .u64 5], fun y v w => ∃ g, v = .slice (some ⟨g, 0, none⟩) 1 1 ∧ w4.heap.size ≤ g ∧ w.heap[g]? = some (rowV (1, 1, 5)), fun y v w => v = .tuple #[.agg #[.int .i64 9, .int .i64 1, .int .u64 7], .int .i64 0] ∧ Live w0 w w0.heap.size 100 ([107, 0, 1, 3, 1, 1, 1, 5, 4], 0), fun y v w => v = .tuple #[.agg #[.int .i64 9, .int .i64 1, .int .u64 7], .int .i64 0], fun y v w => v = .agg #[.int .i64 9, .int .i64 1, .int .u64 7], fun y v w => v = .int .i64 0, fun y v w => ∃ g, v = .pointer (some ⟨g, 0, none⟩) ∧ w4.heap.size ≤ g ∧ (w.heap[g]? = some Z0 ∨ w.heap[g]? = some (rowV (9, 1, 7))), fun y v w => ∃ g, y 8 = .pointer (some ⟨g, 0, none⟩) ∧ w4.heap.size ≤ g ∧ w.heap[g]? = some (rowV (9, 1, 7)), fun y v w => v = .int .i64 0]
    (by kernel_rfl) Reach2.trans (Reach2.refl _ _) stepM_reach stepM_refl (fun i hi w w' ht h => stepM_buf hi ht h) (HB.out.grew (Grew.refl _).drew) (Reach2.of_moved (Moved.of_grew (Grew.refl _).drew)) (by kernel_rfl)
    ⟨fun _ _ _ _ _ _ _ h => h, fun _ _ _ _ _ _ _ h => h, fun _ _ _ _ _ _ _ h => h, fun i _ y v w w' ht h => h.elim fun g h => ⟨g, h.1, h.2.1, stepM_heap ht h.2.2 (fun hs => by have := HS.out.1 g hs; have := h.2.1; omega) HVN.out.1 HVN.out.2⟩, fun i hi y v w w' ht h => ⟨h.1, stepM_live hi HBEL.out.size ht h.2⟩, fun _ _ _ _ _ _ _ h => h, fun _ _ _ _ _ _ _ h => h, fun _ _ _ _ _ _ _ h => h, fun i _ y v w w' ht h => h.elim fun g h => ⟨g, h.1, h.2.1, stepM_ptr ht HS.out.1 h.2.1 h.2.2⟩, fun i hi y v w w' ht h => h.elim fun g h => ⟨g, h.1, h.2.1, stepM_done hi ht HS.out.1 h.2.1 h.2.2⟩, fun _ _ _ _ _ _ _ h => h, trivial⟩
    ⟨fun _ _ _ _ _ h => h, fun _ _ _ _ _ h => h, fun _ _ _ _ _ h => h, fun _ _ _ _ _ h => h, fun _ _ _ _ _ h => h, fun _ _ _ _ _ h => h, fun _ _ _ _ _ h => h, fun _ _ _ _ _ h => h, fun _ _ _ _ _ h => h, fun y y' v w hk h => h.elim fun g h => ⟨g, by rw [← hk 8 (by decide)]; exact h.1, h.2⟩, fun _ _ _ _ _ h => h, trivial⟩
    ⟨?_, ?_, ?_, ?_, ?_, ?_, ?_, ?_, ?_, ?_, ?_, trivial⟩ rfl ?_
  · intro y w2 hG hI hD K hK
    clear hI
    simp only [fillL, Act.put, List.setIfInBounds_toArray, List.set_cons_zero, List.set_cons_succ, List.getD_cons_zero, List.getD_cons_succ] at hK ⊢
    refine ite_yes (by rfl) ?_
    go_simp
    exact hK _ _ _ rfl (stepM_grew (by decide) (by decide) (Grew.refl _)) rfl
  · intro y w2 hG hI hD K hK
    clear hI
    simp only [fillL, Act.put, List.setIfInBounds_toArray, List.set_cons_zero, List.set_cons_succ, List.getD_cons_zero, List.getD_cons_succ] at hK ⊢
    refine ite_yes (by rfl) ?_
    have hr := hG.heap HR4.out HLT.out HNS.out
    have c0 := row_cell hr 0 _ rfl
    have c1 := row_cell hr 1 _ rfl
    have c2 := row_cell hr 2 _ rfl
    go_simp
    exact hK _ _ _ rfl (stepM_grew (by decide) (by decide) (Grew.refl _)) rfl
  · intro y w2 hG hI hD K hK
    clear hI
    simp only [fillL, Act.put, List.setIfInBounds_toArray, List.set_cons_zero, List.set_cons_succ, List.getD_cons_zero, List.getD_cons_succ] at hK ⊢
    refine ite_yes (by rfl) ?_
    go_simp
    refine (num18_any 5 1 _).mono ?_
    rintro r w3' ⟨rfl, hg⟩
    exact hK _ _ _ rfl (stepM_grew (by decide) (by decide) hg) rfl
  · intro y w2 hG hI hD K hK
    simp only [depsT, List.getD_cons_zero, List.getD_cons_succ, and_true] at hD
    have h2 := hD
    clear hD
    clear hI
    simp only [fillL, Act.put, List.setIfInBounds_toArray, List.set_cons_zero, List.set_cons_succ, List.getD_cons_zero, List.getD_cons_succ] at hK ⊢
    rw [h2] at hK ⊢
    clear h2
    refine ite_yes (by rfl) ?_
    go_simp
    exact hK _ _ _ rfl (stepM_grew (by decide) (by decide) ((Grew.refl _).alloc _)) ⟨_, rfl, hG.size, heap_alloc_new _ _⟩
  · intro y w2 hG hI hD K hK
    simp only [depsT, List.getD_cons_zero, List.getD_cons_succ, and_true] at hD
    have h0 := hD.1
    have h1 := hD.2.1
    have h3 := hD.2.2
    clear hD
    simp only [fillL, Act.put, List.setIfInBounds_toArray, List.set_cons_zero, List.set_cons_succ, List.getD_cons_zero, List.getD_cons_succ] at hK ⊢
    rw [h0, h1] at hK ⊢
    clear h0 h1
    refine ite_yes (by rfl) ?_
    refine Exists.elim h3 fun g h => ?_
    have hs := h.1
    have hgB := h.2.1
    have hgr := h.2.2
    clear h
    rw [hs] at hK ⊢
    go_simp
    refine (put_map ([107, 0, 1, 3], 0) (14, 1, 3) _ [(1, 1, 5)] (hI rfl) (Nat.le_trans HBEL.out.size hG.size) (by decide) (by decide) (valsRow hgr) (fun c e => by cases e) (by decide) (okV1 _ _ _ (by decide) (by decide)) ⟨by decide, by decide⟩ ?_ rfl).mono ?_
    · intro ad n' c' e
      cases e
      exact ⟨(Array.getElem?_eq_some_iff.1 hgr).1, fun hq => absurd (HS.out.1 _ hq) (Nat.not_lt.2 hgB)⟩
    rw [mex2]
    rintro r w3' ⟨rfl, ht⟩
    have hbb : Below w0.heap.size w0 w2 := reach_belowM hG HBEL.out HS.out.2
    have hlv := Live.turn (s := ([107, 0, 1, 3], 0)) (s' := ([107, 0, 1, 3, 1, 1, 1, 5, 4], 0)) (hI rfl) hbb ht (by decide) (by decide)
    obtain ⟨_, _, _, hm⟩ := ht
    exact hK _ _ _ rfl hm ⟨rfl, hlv⟩
  · intro y w2 hG hI hD K hK
    simp only [depsT, List.getD_cons_zero, List.getD_cons_succ, and_true] at hD
    have h4 := hD
    replace h4 := h4.1
    clear hD
    clear hI
    simp only [fillL, Act.put, List.setIfInBounds_toArray, List.set_cons_zero, List.set_cons_succ, List.getD_cons_zero, List.getD_cons_succ] at hK ⊢
    rw [h4] at hK ⊢
    clear h4
    refine ite_yes (by rfl) ?_
    go_simp
    exact hK _ _ _ rfl (stepM_grew (by decide) (by decide) (Grew.refl _)) rfl
  · intro y w2 hG hI hD K hK
    simp only [depsT, List.getD_cons_zero, List.getD_cons_succ, and_true] at hD
    have h5 := hD
    clear hD
    clear hI
    simp only [fillL, Act.put, List.setIfInBounds_toArray, List.set_cons_zero, List.set_cons_succ, List.getD_cons_zero, List.getD_cons_succ] at hK ⊢
    rw [h5] at hK ⊢
    clear h5
    refine ite_yes (by rfl) ?_
    go_simp
    exact hK _ _ _ rfl (stepM_grew (by decide) (by decide) (Grew.refl _)) rfl
  · intro y w2 hG hI hD K hK
    simp only [depsT, List.getD_cons_zero, List.getD_cons_succ, and_true] at hD
    have h5 := hD
    clear hD
    clear hI
    simp only [fillL, Act.put, List.setIfInBounds_toArray, List.set_cons_zero, List.set_cons_succ, List.getD_cons_zero, List.getD_cons_succ] at hK ⊢
    rw [h5] at hK ⊢
    clear h5
    refine ite_yes (by rfl) ?_
    go_simp
    exact hK _ _ _ rfl (stepM_grew (by decide) (by decide) (Grew.refl _)) rfl
  · intro y w2 hG hI hD K hK
    clear hI
    simp only [fillL, Act.put, List.setIfInBounds_toArray, List.set_cons_zero, List.set_cons_succ, List.getD_cons_zero, List.getD_cons_succ] at hK ⊢
    refine ite_yes (by rfl) ?_
    go_simp
    exact hK _ _ _ rfl (stepM_grew (by decide) (by decide) ((Grew.refl _).alloc _)) ⟨_, rfl, hG.size, .inl (heap_alloc_new _ _)⟩
  · intro y w2 hG hI hD K hK
    simp only [depsT, List.getD_cons_zero, List.getD_cons_succ, and_true] at hD
    have h6 := hD.1
    have h8 := hD.2
    clear hD
    clear hI
    simp only [fillL, Act.put, List.setIfInBounds_toArray, List.set_cons_zero, List.set_cons_succ, List.getD_cons_zero, List.getD_cons_succ] at hK ⊢
    rw [h6] at hK ⊢
    clear h6
    refine ite_yes (by rfl) ?_
    refine Exists.elim h8 fun g h => ?_
    have hs := h.1
    refine Exists.elim (told_rowM h.2.2) fun c0' h' => Exists.elim h' fun c1' h' => Exists.elim h' fun c2' hrow => ?_
    have f0 := row_frozen hrow 0
    have f1 := row_frozen hrow 1
    have f2 := row_frozen hrow 2
    have c0 := row_cell hrow 0 _ rfl
    have c1 := row_cell hrow 1 _ rfl
    have c2 := row_cell hrow 2 _ rfl
    rw [hs] at hK ⊢
    go_simp
    refine hK _ undef _ rfl (told_stepM h.2.1 h.2.2 hrow) ⟨g, rfl, h.2.1, heap_store3 hrow _ _ _⟩
  · intro y w2 hG hI hD K hK
    simp only [depsT, List.getD_cons_zero, List.getD_cons_succ, and_true] at hD
    have h7 := hD
    clear hD
    clear hI
    simp only [fillL, Act.put, List.setIfInBounds_toArray, List.set_cons_zero, List.set_cons_succ, List.getD_cons_zero, List.getD_cons_succ] at hK ⊢
    rw [h7] at hK ⊢
    clear h7
    refine ite_yes (by rfl) ?_
    go_simp
    exact hK _ _ _ rfl (stepM_grew (by decide) (by decide) (Grew.refl _)) rfl
  · intro y w2 hG hF
    simp only [factsT, and_true, Nat.reduceAdd] at hF
    have h0 := hF.1
    have h1 := hF.2.1
    have h2 := hF.2.2.1
    have h3 := hF.2.2.2.1
    have h4 := hF.2.2.2.2.1
    have h5 := hF.2.2.2.2.2.1
    have h6 := hF.2.2.2.2.2.2.1
    have h7 := hF.2.2.2.2.2.2.2.1
    have h8 := hF.2.2.2.2.2.2.2.2.1
    have h9 := hF.2.2.2.2.2.2.2.2.2.1
    have h10 := hF.2.2.2.2.2.2.2.2.2.2
    clear hF
    simp only [fillL, Act.put, List.setIfInBounds_toArray, List.set_cons_zero, List.set_cons_succ, List.getD_cons_zero, List.getD_cons_succ]
    have HLV := Lib.hid h4.2
    replace h4 := h4.1
    obtain ⟨g2, hg2, hgB, hgz⟩ := h9
    rw [h0, h1, h2, h4, h5, h6, h7, hg2, h10]
    have HRA := Lib.hid (hG.heap HR4.out HLT.out HNS.out)
    have HRB := Lib.hid hgz
    clear h0 h1 h2 h3 h4 h5 h6 h7 h8 h10 hg2 hgz hG
    rw [← hgaa] at HRA ⊢
    clear hgaa HR4 HLT HNS HB HBEL HS HVN
    go_wp2_with fail
    refine (bytesL HLV.out).mono ?_
    rintro r w5 ⟨vb, rfl, hvb, _, hg5⟩
    replace hvb : BytesAt w5 vb [107, 0, 1, 3, 1, 1, 1, 5, 4] := hvb
    have HVB := Lib.hid hvb
    have hra := hg5.heap HRA.out
    have hrb := hg5.heap HRB.out
    have HRA5 := Lib.hid hra
    have HRB5 := Lib.hid hrb
    have c0 := row_cell hra 0 _ rfl
    have c1 := row_cell hra 1 _ rfl
    have c2 := row_cell hra 2 _ rfl
    have d0 := row_cell hrb 0 _ rfl
    have d1 := row_cell hrb 1 _ rfl
    have d2 := row_cell hrb 2 _ rfl
    have HL5 := Lib.hid (HLV.out.grew hg5)
    clear hvb hg5 hra hrb HRA HRB HLV
    go_wp2_with fail
    refine wp_region_tables Grew [[], [], [0, 1], [2], [3], [3, 4], [3, 5], [6], [7], [7], [7, 8, 9], [7, 10], [11], [12], [12, 13], [12, 14], [15], [16], [16, 17], [16, 18], [16, 19], [20], [21], [21, 22], [21, 23]] [[(33, 1), (35, 3), (36, 4), (37, 5), (38, 6), (39, 7), (40, 8), (41, 9), (42, 10), (43, 11), (44, 12), (45, 13), (46, 14), (47, 15), (48, 16), (49, 17), (50, 18), (51, 19), (52, 20), (53, 21), (54, 22), (55, 23), (56, 24)], [(32, 0), (35, 3), (36, 4), (37, 5), (38, 6), (39, 7), (40, 8), (41, 9), (42, 10), (43, 11), (44, 12), (45, 13), (46, 14), (47, 15), (48, 16), (49, 17), (50, 18), (51, 19), (52, 20), (53, 21), (54, 22), (55, 23), (56, 24)], [(32, 0), (33, 1), (36, 4), (37, 5), (38, 6), (39, 7), (40, 8), (41, 9), (42, 10), (43, 11), (44, 12), (45, 13), (46, 14), (47, 15), (48, 16), (49, 17), (50, 18), (51, 19), (52, 20), (53, 21), (54, 22), (55, 23), (56, 24)], [(32, 0), (33, 1), (34, 2), (39, 7), (40, 8), (41, 9), (42, 10), (43, 11), (44, 12), (45, 13), (46, 14), (47, 15), (48, 16), (49, 17), (50, 18), (51, 19), (52, 20), (53, 21), (54, 22), (55, 23), (56, 24)], [(32, 0), (33, 1), (34, 2), (35, 3), (38, 6), (39, 7), (40, 8), (41, 9), (42, 10), (43, 11), (44, 12), (45, 13), (46, 14), (47, 15), (48, 16), (49, 17), (50, 18), (51, 19), (52, 20), (53, 21), (54, 22), (55, 23), (56, 24)], [(32, 0), (33, 1), (34, 2), (35, 3), (36, 4), (39, 7), (40, 8), (41, 9), (42, 10), (43, 11), (44, 12), (45, 13), (46, 14), (47, 15), (48, 16), (49, 17), (50, 18), (51, 19), (52, 20), (53, 21), (54, 22), (55, 23), (56, 24)], [(32, 0), (33, 1), (34, 2), (35, 3), (36, 4), (37, 5), (40, 8), (41, 9), (42, 10), (43, 11), (44, 12), (45, 13), (46, 14), (47, 15), (48, 16), (49, 17), (50, 18), (51, 19), (52, 20), (53, 21), (54, 22), (55, 23), (56, 24)], [(32, 0), (33, 1), (34, 2), (35, 3), (36, 4), (37, 5), (38, 6), (44, 12), (45, 13), (46, 14), (47, 15), (48, 16), (49, 17), (50, 18), (51, 19), (52, 20), (53, 21), (54, 22), (55, 23), (56, 24)], [(32, 0), (33, 1), (34, 2), (35, 3), (36, 4), (37, 5), (38, 6), (39, 7), (41, 9), (43, 11), (44, 12), (45, 13), (46, 14), (47, 15), (48, 16), (49, 17), (50, 18), (51, 19), (52, 20), (53, 21), (54, 22), (55, 23), (56, 24)], [(32, 0), (33, 1), (34, 2), (35, 3), (36, 4), (37, 5), (38, 6), (39, 7), (40, 8), (43, 11), (44, 12), (45, 13), (46, 14), (47, 15), (48, 16), (49, 17), (50, 18), (51, 19), (52, 20), (53, 21), (54, 22), (55, 23), (56, 24)], [(32, 0), (33, 1), (34, 2), (35, 3), (36, 4), (37, 5), (38, 6), (39, 7), (40, 8), (41, 9), (44, 12), (45, 13), (46, 14), (47, 15), (48, 16), (49, 17), (50, 18), (51, 19), (52, 20), (53, 21), (54, 22), (55, 23), (56, 24)], [(32, 0), (33, 1), (34, 2), (35, 3), (36, 4), (37, 5), (38, 6), (39, 7), (40, 8), (41, 9), (42, 10), (45, 13), (46, 14), (47, 15), (48, 16), (49, 17), (50, 18), (51, 19), (52, 20), (53, 21), (54, 22), (55, 23), (56, 24)], [(32, 0), (33, 1), (34, 2), (35, 3), (36, 4), (37, 5), (38, 6), (39, 7), (40, 8), (41, 9), (42, 10), (43, 11), (48, 16), (49, 17), (50, 18), (51, 19), (52, 20), (53, 21), (54, 22), (55, 23), (56, 24)], [(32, 0), (33, 1), (34, 2), (35, 3), (36, 4), (37, 5), (38, 6), (39, 7), (40, 8), (41, 9), (42, 10), (43, 11), (44, 12), (47, 15), (48, 16), (49, 17), (50, 18), (51, 19), (52, 20), (53, 21), (54, 22), (55, 23), (56, 24)], [(32, 0), (33, 1), (34, 2), (35, 3), (36, 4), (37, 5), (38, 6), (39, 7), (40, 8), (41, 9), (42, 10), (43, 11), (44, 12), (45, 13), (48, 16), (49, 17), (50, 18), (51, 19), (52, 20), (53, 21), (54, 22), (55, 23), (56, 24)], [(32, 0), (33, 1), (34, 2), (35, 3), (36, 4), (37, 5), (38, 6), (39, 7), (40, 8), (41, 9), (42, 10), (43, 11), (44, 12), (45, 13), (46, 14), (49, 17), (50, 18), (51, 19), (52, 20), (53, 21), (54, 22), (55, 23), (56, 24)], [(32, 0), (33, 1), (34, 2), (35, 3), (36, 4), (37, 5), (38, 6), (39, 7), (40, 8), (41, 9), (42, 10), (43, 11), (44, 12), (45, 13), (46, 14), (47, 15), (53, 21), (54, 22), (55, 23), (56, 24)], [(32, 0), (33, 1), (34, 2), (35, 3), (36, 4), (37, 5), (38, 6), (39, 7), (40, 8), (41, 9), (42, 10), (43, 11), (44, 12), (45, 13), (46, 14), (47, 15), (48, 16), (51, 19), (52, 20), (53, 21), (54, 22), (55, 23), (56, 24)], [(32, 0), (33, 1), (34, 2), (35, 3), (36, 4), (37, 5), (38, 6), (39, 7), (40, 8), (41, 9), (42, 10), (43, 11), (44, 12), (45, 13), (46, 14), (47, 15), (48, 16), (49, 17), (52, 20), (53, 21), (54, 22), (55, 23), (56, 24)], [(32, 0), (33, 1), (34, 2), (35, 3), (36, 4), (37, 5), (38, 6), (39, 7), (40, 8), (41, 9), (42, 10), (43, 11), (44, 12), (45, 13), (46, 14), (47, 15), (48, 16), (49, 17), (50, 18), (53, 21), (54, 22), (55, 23), (56, 24)], [(32, 0), (33, 1), (34, 2), (35, 3), (36, 4), (37, 5), (38, 6), (39, 7), (40, 8), (41, 9), (42, 10), (43, 11), (44, 12), (45, 13), (46, 14), (47, 15), (48, 16), (49, 17), (50, 18), (51, 19), (54, 22), (55, 23), (56, 24)], [(32, 0), (33, 1), (34, 2), (35, 3), (36, 4), (37, 5), (38, 6), (39, 7), (40, 8), (41, 9), (42, 10), (43, 11), (44, 12), (45, 13), (46, 14), (47, 15), (48, 16), (49, 17), (50, 18), (51, 19), (52, 20)], [(32, 0), (33, 1), (34, 2), (35, 3), (36, 4), (37, 5), (38, 6), (39, 7), (40, 8), (41, 9), (42, 10), (43, 11), (44, 12), (45, 13), (46, 14), (47, 15), (48, 16), (49, 17), (50, 18), (51, 19), (52, 20), (53, 21), (56, 24)], [(32, 0), (33, 1), (34, 2), (35, 3), (36, 4), (37, 5), (38, 6), (39, 7), (40, 8), (41, 9), (42, 10), (43, 11), (44, 12), (45, 13), (46, 14), (47, 15), (48, 16), (49, 17), (50, 18), (51, 19), (52, 20), (53, 21), (54, 22)], [(32, 0), (33, 1), (34, 2), (35, 3), (36, 4), (37, 5), (38, 6), (39, 7), (40, 8), (41, 9), (42, 10), (43, 11), (44, 12), (45, 13), (46, 14), (47, 15), (48, 16), (49, 17), (50, 18), (51, 19), (52, 20), (53, 21), (54, 22), (55, 23)]] [(32, 0), (33, 1), (34, 2), (35, 3), (36, 4), (37, 5), (38, 6), (39, 7), (40, 8), (41, 9), (42, 10), (43, 11), (44, 12), (45, 13), (46, 14), (47, 15), (48, 16), (49, 17), (50, 18), (51, 19), (52, 20), (53, 21), (54, 22), (55, 23), (56, 24)]
      [Is (.agg #[.int .i64 14, .int .i64 1, .int .u64 3]), Is (.agg #[.int .i64 14, .int .i64 1, .int .u64 3]), Is (.bool false), Is (.bool false), Is (.int .i64 0), Is (.bool false), Is (.bool false), Is (.bool false), Is (.agg #[.int .i64 9, .int .i64 1, .int .u64 7]), Is (.agg #[.int .i64 9, .int .i64 1, .int .u64 7]), Is (.bool false), Is (.bool false), Is (.bool false), Is (.int .i64 0), Is (.bool false), Is (.bool false), Is (.bool false), Is (vb), Is (.string ⟨#[107, 0, 1, 3, 1, 1, 1, 5, 4]⟩), Is (.bool false), Is (.bool false), Is (.bool false), Is (.int .i64 0), Is (.bool false), Is (.bool false)]
      (by kernel_rfl) Grew.trans Grew.refl (Grew.refl _).drew (by kernel_rfl) ⟨is_st, is_st, is_st, is_st, is_st, is_st, is_st, is_st, is_st, is_st, is_st, is_st, is_st, is_st, is_st, is_st, is_st, is_st, is_st, is_st, is_st, is_st, is_st, is_st, is_st, trivial⟩ ⟨?_, ?_, ?_, ?_, ?_, ?_, ?_, ?_, ?_, ?_, ?_, ?_, ?_, ?_, ?_, ?_, ?_, ?_, ?_, ?_, ?_, ?_, ?_, ?_, ?_, trivial⟩ rfl ?_
    · intro y w2 hG hD K hK
      have dc0 := hG.cell c0
      have dc1 := hG.cell c1
      have dc2 := hG.cell c2
      have dd0 := hG.cell d0
      have dd1 := hG.cell d1
      have dd2 := hG.cell d2
      simp only [fillL, Act.put, List.setIfInBounds_toArray, List.set_cons_zero, List.set_cons_succ, List.getD_cons_zero, List.getD_cons_succ, Is] at hK ⊢
      refine ite_yes (by rfl) ?_
      go_simp
      exact hK _ _ _ rfl (Grew.refl _) rfl
    · intro y w2 hG hD K hK
      simp only [fillL, Act.put, List.setIfInBounds_toArray, List.set_cons_zero, List.set_cons_succ, List.getD_cons_zero, List.getD_cons_succ, Is] at hK ⊢
      refine ite_yes (by rfl) ?_
      go_simp
      refine (keys18_any 3 1 _).mono ?_
      rintro r w3' ⟨rfl, hg⟩
      exact hK _ _ _ rfl hg rfl
    · intro y w2 hG hD K hK
      simp only [depsH, List.getD_cons_zero, List.getD_cons_succ, Is, and_true] at hD
      have h0 := hD.1
      have h1 := hD.2
      clear hD
      simp only [fillL, Act.put, List.setIfInBounds_toArray, List.set_cons_zero, List.set_cons_succ, List.getD_cons_zero, List.getD_cons_succ, Is] at hK ⊢
      rw [h0, h1] at hK ⊢
      clear h0 h1
      refine ite_yes (by rfl) ?_
      go_simp
      exact hK _ _ _ rfl (Grew.refl _) rfl
    · intro y w2 hG hD K hK
      simp only [depsH, List.getD_cons_zero, List.getD_cons_succ, Is, and_true] at hD
      have h2 := hD
      clear hD
      simp only [fillL, Act.put, List.setIfInBounds_toArray, List.set_cons_zero, List.set_cons_succ, List.getD_cons_zero, List.getD_cons_succ, Is] at hK ⊢
      rw [h2] at hK ⊢
      clear h2
      refine ite_yes (by rfl) ?_
      go_simp
      exact hK _ _ _ rfl (Grew.refl _) rfl
    · intro y w2 hG hD K hK
      simp only [depsH, List.getD_cons_zero, List.getD_cons_succ, Is, and_true] at hD
      have h3 := hD
      clear hD
      simp only [fillL, Act.put, List.setIfInBounds_toArray, List.set_cons_zero, List.set_cons_succ, List.getD_cons_zero, List.getD_cons_succ, Is] at hK ⊢
      rw [h3] at hK ⊢
      clear h3
      refine ite_yes (by rfl) ?_
      go_simp
      exact hK _ _ _ rfl (Grew.refl _) rfl
    · intro y w2 hG hD K hK
      simp only [depsH, List.getD_cons_zero, List.getD_cons_succ, Is, and_true] at hD
      have h3 := hD.1
      have h4 := hD.2
      clear hD
      simp only [fillL, Act.put, List.setIfInBounds_toArray, List.set_cons_zero, List.set_cons_succ, List.getD_cons_zero, List.getD_cons_succ, Is] at hK ⊢
      rw [h3, h4] at hK ⊢
      clear h3 h4
      refine ite_yes (by rfl) ?_
      go_simp
      exact hK _ _ _ rfl (Grew.refl _) rfl
    · intro y w2 hG hD K hK
      simp only [depsH, List.getD_cons_zero, List.getD_cons_succ, Is, and_true] at hD
      have h3 := hD.1
      have h5 := hD.2
      clear hD
      simp only [fillL, Act.put, List.setIfInBounds_toArray, List.set_cons_zero, List.set_cons_succ, List.getD_cons_zero, List.getD_cons_succ, Is] at hK ⊢
      rw [h3, h5] at hK ⊢
      clear h3 h5
      refine ite_yes (by rfl) ?_
      go_simp
      exact hK _ _ _ rfl (Grew.refl _) rfl
    · intro y w2 hG hD K hK
      simp only [depsH, List.getD_cons_zero, List.getD_cons_succ, Is, and_true] at hD
      have h6 := hD
      clear hD
      simp only [fillL, Act.put, List.setIfInBounds_toArray, List.set_cons_zero, List.set_cons_succ, List.getD_cons_zero, List.getD_cons_succ, Is] at hK ⊢
      rw [h6] at hK ⊢
      clear h6
      refine ite_yes (by rfl) ?_
      go_simp
      exact hK _ _ _ rfl (Grew.refl _) rfl
    · intro y w2 hG hD K hK
      simp only [depsH, List.getD_cons_zero, List.getD_cons_succ, Is, and_true] at hD
      have h7 := hD
      clear hD
      have dc0 := hG.cell c0
      have dc1 := hG.cell c1
      have dc2 := hG.cell c2
      have dd0 := hG.cell d0
      have dd1 := hG.cell d1
      have dd2 := hG.cell d2
      simp only [fillL, Act.put, List.setIfInBounds_toArray, List.set_cons_zero, List.set_cons_succ, List.getD_cons_zero, List.getD_cons_succ, Is] at hK ⊢
      rw [h7] at hK ⊢
      clear h7
      refine ite_yes (by rfl) ?_
      go_simp
      exact hK _ _ _ rfl (Grew.refl _) rfl
    · intro y w2 hG hD K hK
      simp only [depsH, List.getD_cons_zero, List.getD_cons_succ, Is, and_true] at hD
      have h7 := hD
      clear hD
      simp only [fillL, Act.put, List.setIfInBounds_toArray, List.set_cons_zero, List.set_cons_succ, List.getD_cons_zero, List.getD_cons_succ, Is] at hK ⊢
      rw [h7] at hK ⊢
      clear h7
      refine ite_yes (by rfl) ?_
      go_simp
      exact hK _ _ _ rfl (Grew.refl _) rfl
    · intro y w2 hG hD K hK
      simp only [depsH, List.getD_cons_zero, List.getD_cons_succ, Is, and_true] at hD
      have h7 := hD.1
      have h8 := hD.2.1
      have h9 := hD.2.2
      clear hD
      simp only [fillL, Act.put, List.setIfInBounds_toArray, List.set_cons_zero, List.set_cons_succ, List.getD_cons_zero, List.getD_cons_succ, Is] at hK ⊢
      rw [h7, h8, h9] at hK ⊢
      clear h7 h8 h9
      refine ite_yes (by rfl) ?_
      go_simp
      exact hK _ _ _ rfl (Grew.refl _) rfl
    · intro y w2 hG hD K hK
      simp only [depsH, List.getD_cons_zero, List.getD_cons_succ, Is, and_true] at hD
      have h7 := hD.1
      have h10 := hD.2
      clear hD
      simp only [fillL, Act.put, List.setIfInBounds_toArray, List.set_cons_zero, List.set_cons_succ, List.getD_cons_zero, List.getD_cons_succ, Is] at hK ⊢
      rw [h7, h10] at hK ⊢
      clear h7 h10
      refine ite_yes (by rfl) ?_
      go_simp
      exact hK _ _ _ rfl (Grew.refl _) rfl
    · intro y w2 hG hD K hK
      simp only [depsH, List.getD_cons_zero, List.getD_cons_succ, Is, and_true] at hD
      have h11 := hD
      clear hD
      simp only [fillL, Act.put, List.setIfInBounds_toArray, List.set_cons_zero, List.set_cons_succ, List.getD_cons_zero, List.getD_cons_succ, Is] at hK ⊢
      rw [h11] at hK ⊢
      clear h11
      refine ite_yes (by rfl) ?_
      go_simp
      exact hK _ _ _ rfl (Grew.refl _) rfl
    · intro y w2 hG hD K hK
      simp only [depsH, List.getD_cons_zero, List.getD_cons_succ, Is, and_true] at hD
      have h12 := hD
      clear hD
      simp only [fillL, Act.put, List.setIfInBounds_toArray, List.set_cons_zero, List.set_cons_succ, List.getD_cons_zero, List.getD_cons_succ, Is] at hK ⊢
      rw [h12] at hK ⊢
      clear h12
      refine ite_yes (by rfl) ?_
      go_simp
      exact hK _ _ _ rfl (Grew.refl _) rfl
    · intro y w2 hG hD K hK
      simp only [depsH, List.getD_cons_zero, List.getD_cons_succ, Is, and_true] at hD
      have h12 := hD.1
      have h13 := hD.2
      clear hD
      simp only [fillL, Act.put, List.setIfInBounds_toArray, List.set_cons_zero, List.set_cons_succ, List.getD_cons_zero, List.getD_cons_succ, Is] at hK ⊢
      rw [h12, h13] at hK ⊢
      clear h12 h13
      refine ite_yes (by rfl) ?_
      go_simp
      exact hK _ _ _ rfl (Grew.refl _) rfl
    · intro y w2 hG hD K hK
      simp only [depsH, List.getD_cons_zero, List.getD_cons_succ, Is, and_true] at hD
      have h12 := hD.1
      have h14 := hD.2
      clear hD
      simp only [fillL, Act.put, List.setIfInBounds_toArray, List.set_cons_zero, List.set_cons_succ, List.getD_cons_zero, List.getD_cons_succ, Is] at hK ⊢
      rw [h12, h14] at hK ⊢
      clear h12 h14
      refine ite_yes (by rfl) ?_
      go_simp
      exact hK _ _ _ rfl (Grew.refl _) rfl
    · intro y w2 hG hD K hK
      simp only [depsH, List.getD_cons_zero, List.getD_cons_succ, Is, and_true] at hD
      have h15 := hD
      clear hD
      simp only [fillL, Act.put, List.setIfInBounds_toArray, List.set_cons_zero, List.set_cons_succ, List.getD_cons_zero, List.getD_cons_succ, Is] at hK ⊢
      rw [h15] at hK ⊢
      clear h15
      refine ite_yes (by rfl) ?_
      go_simp
      exact hK _ _ _ rfl (Grew.refl _) rfl
    · intro y w2 hG hD K hK
      simp only [depsH, List.getD_cons_zero, List.getD_cons_succ, Is, and_true] at hD
      have h16 := hD
      clear hD
      simp only [fillL, Act.put, List.setIfInBounds_toArray, List.set_cons_zero, List.set_cons_succ, List.getD_cons_zero, List.getD_cons_succ, Is] at hK ⊢
      rw [h16] at hK ⊢
      clear h16
      refine ite_yes (by rfl) ?_
      go_simp
      exact hK _ _ _ rfl (Grew.refl _) rfl
    · intro y w2 hG hD K hK
      simp only [depsH, List.getD_cons_zero, List.getD_cons_succ, Is, and_true] at hD
      have h16 := hD.1
      have h17 := hD.2
      clear hD
      simp only [fillL, Act.put, List.setIfInBounds_toArray, List.set_cons_zero, List.set_cons_succ, List.getD_cons_zero, List.getD_cons_succ, Is] at hK ⊢
      rw [h16, h17] at hK ⊢
      clear h16 h17
      refine ite_yes (by rfl) ?_
      have hst := str_of_bytes (BytesAt.grew HVB.out hG)
      go_simp
      exact hK _ _ _ rfl (Grew.refl _) rfl
    · intro y w2 hG hD K hK
      simp only [depsH, List.getD_cons_zero, List.getD_cons_succ, Is, and_true] at hD
      have h16 := hD.1
      have h18 := hD.2
      clear hD
      simp only [fillL, Act.put, List.setIfInBounds_toArray, List.set_cons_zero, List.set_cons_succ, List.getD_cons_zero, List.getD_cons_succ, Is] at hK ⊢
      rw [h16, h18] at hK ⊢
      clear h16 h18
      refine ite_yes (by rfl) ?_
      go_simp
      exact hK _ _ _ rfl (Grew.refl _) rfl
    · intro y w2 hG hD K hK
      simp only [depsH, List.getD_cons_zero, List.getD_cons_succ, Is, and_true] at hD
      have h16 := hD.1
      have h19 := hD.2
      clear hD
      simp only [fillL, Act.put, List.setIfInBounds_toArray, List.set_cons_zero, List.set_cons_succ, List.getD_cons_zero, List.getD_cons_succ, Is] at hK ⊢
      rw [h16, h19] at hK ⊢
      clear h16 h19
      refine ite_yes (by rfl) ?_
      go_simp
      exact hK _ _ _ rfl (Grew.refl _) rfl
    · intro y w2 hG hD K hK
      simp only [depsH, List.getD_cons_zero, List.getD_cons_succ, Is, and_true] at hD
      have h20 := hD
      clear hD
      simp only [fillL, Act.put, List.setIfInBounds_toArray, List.set_cons_zero, List.set_cons_succ, List.getD_cons_zero, List.getD_cons_succ, Is] at hK ⊢
      rw [h20] at hK ⊢
      clear h20
      refine ite_yes (by rfl) ?_
      go_simp
      exact hK _ _ _ rfl (Grew.refl _) rfl
    · intro y w2 hG hD K hK
      simp only [depsH, List.getD_cons_zero, List.getD_cons_succ, Is, and_true] at hD
      have h21 := hD
      clear hD
      simp only [fillL, Act.put, List.setIfInBounds_toArray, List.set_cons_zero, List.set_cons_succ, List.getD_cons_zero, List.getD_cons_succ, Is] at hK ⊢
      rw [h21] at hK ⊢
      clear h21
      refine ite_yes (by rfl) ?_
      go_simp
      exact hK _ _ _ rfl (Grew.refl _) rfl
    · intro y w2 hG hD K hK
      simp only [depsH, List.getD_cons_zero, List.getD_cons_succ, Is, and_true] at hD
      have h21 := hD.1
      have h22 := hD.2
      clear hD
      simp only [fillL, Act.put, List.setIfInBounds_toArray, List.set_cons_zero, List.set_cons_succ, List.getD_cons_zero, List.getD_cons_succ, Is] at hK ⊢
      rw [h21, h22] at hK ⊢
      clear h21 h22
      refine ite_yes (by rfl) ?_
      go_simp
      exact hK _ _ _ rfl (Grew.refl _) rfl
    · intro y w2 hG hD K hK
      simp only [depsH, List.getD_cons_zero, List.getD_cons_succ, Is, and_true] at hD
      have h21 := hD.1
      have h23 := hD.2
      clear hD
      simp only [fillL, Act.put, List.setIfInBounds_toArray, List.set_cons_zero, List.set_cons_succ, List.getD_cons_zero, List.getD_cons_succ, Is] at hK ⊢
      rw [h21, h23] at hK ⊢
      clear h21 h23
      refine ite_yes (by rfl) ?_
      go_simp
      exact hK _ _ _ rfl (Grew.refl _) rfl
    · intro y w2 hG hF
      simp only [factsH, Is, and_true, Nat.reduceAdd] at hF
      have h0 := hF.1
      have h1 := hF.2.1
      have h2 := hF.2.2.1
      have h3 := hF.2.2.2.1
      have h4 := hF.2.2.2.2.1
      have h5 := hF.2.2.2.2.2.1
      have h6 := hF.2.2.2.2.2.2.1
      have h7 := hF.2.2.2.2.2.2.2.1
      have h8 := hF.2.2.2.2.2.2.2.2.1
      have h9 := hF.2.2.2.2.2.2.2.2.2.1
      have h10 := hF.2.2.2.2.2.2.2.2.2.2.1
      have h11 := hF.2.2.2.2.2.2.2.2.2.2.2.1
      have h12 := hF.2.2.2.2.2.2.2.2.2.2.2.2.1
      have h13 := hF.2.2.2.2.2.2.2.2.2.2.2.2.2.1
      have h14 := hF.2.2.2.2.2.2.2.2.2.2.2.2.2.2.1
      have h15 := hF.2.2.2.2.2.2.2.2.2.2.2.2.2.2.2.1
      have h16 := hF.2.2.2.2.2.2.2.2.2.2.2.2.2.2.2.2.1
      have h17 := hF.2.2.2.2.2.2.2.2.2.2.2.2.2.2.2.2.2.1
      have h18 := hF.2.2.2.2.2.2.2.2.2.2.2.2.2.2.2.2.2.2.1
      have h19 := hF.2.2.2.2.2.2.2.2.2.2.2.2.2.2.2.2.2.2.2.1
      have h20 := hF.2.2.2.2.2.2.2.2.2.2.2.2.2.2.2.2.2.2.2.2.1
      have h21 := hF.2.2.2.2.2.2.2.2.2.2.2.2.2.2.2.2.2.2.2.2.2.1
      have h22 := hF.2.2.2.2.2.2.2.2.2.2.2.2.2.2.2.2.2.2.2.2.2.2.1
      have h23 := hF.2.2.2.2.2.2.2.2.2.2.2.2.2.2.2.2.2.2.2.2.2.2.2.1
      have h24 := hF.2.2.2.2.2.2.2.2.2.2.2.2.2.2.2.2.2.2.2.2.2.2.2.2
      clear hF
      simp only [fillL, Act.put, List.setIfInBounds_toArray, List.set_cons_zero, List.set_cons_succ, List.getD_cons_zero, List.getD_cons_succ, Is]
      rw [h0, h1, h2, h3, h4, h5, h6, h7, h8, h9, h10, h11, h12, h13, h14, h15, h16, h17, h18, h19, h20, h21, h22, h23, h24]
      clear h0 h1 h2 h3 h4 h5 h6 h7 h8 h9 h10 h11 h12 h13 h14 h15 h16 h17 h18 h19 h20 h21 h22 h23 h24
      have hra := hG.heap HRA5.out
      have HRA6 := Lib.hid hra
      have k0 := row_cell hra 0 _ rfl
      have k1 := row_cell hra 1 _ rfl
      have k2 := row_cell hra 2 _ rfl
      have HL6 := Lib.hid (HL5.out.grew hG)
      clear hG hra c0 c1 c2 d0 d1 d2 HRA5 HRB5 HVB HL5
      go_wp2_with fail
      refine (num18_any 5 1 _).mono ?_
      rintro r w6 ⟨rfl, hg6⟩
      have HL7 := Lib.hid (HL6.out.grew hg6)
      have HRA7 := Lib.hid (hg6.heap HRA6.out)
      clear hg6 k0 k1 k2 HL6 HRA6
      go_wp2_with fail
      obtain ⟨o7, b7, e7, q7, r7⟩ := HL7.out
      refine (put_map ([107, 0, 1, 3, 1, 1, 1, 5, 4], 0) (1, 1, 5) (.slice none 0 0) [] b7 e7.size q7 r7 ⟨none, 0, rfl, fun i x hx => by simp at hx⟩ (fun c e => by cases e; rfl) (by decide) (by simp) ⟨by decide, by decide⟩ (fun ad n c e => by cases e) rfl).mono ?_
      rw [mex3]
      rintro r w7 ⟨rfl, ht⟩
      have HL8 := Lib.hid (Live.turn (s' := ([107, 0, 1, 3, 1, 1, 1, 5, 4], 0)) b7 e7 ht (by decide) r7)
      have HRA8 : Hid (w7.heap[ga]? = some (rowV (14, 1, 3))) := by
        obtain ⟨_, _, _, hm⟩ := ht
        exact hm.heap HRA7.out (b7.not_row HRA7.out)
      clear ht b7 e7 q7 r7 HL7 HRA7
      rw [show putV (((0, 0, 0), 60) : V3 × Int) = .tuple #[.agg #[.int .i64 0, .int .i64 0, .int .u64 0], .int .i64 60] from rfl]
      go_wp2_with fail
      refine (keys18_any 3 3 _).mono ?_
      rintro r w8 ⟨rfl, hg8⟩
      have HL9 := Lib.hid (HL8.out.grew hg8)
      have HRA9 := Lib.hid (hg8.heap HRA8.out)
      clear hg8 HL8 HRA8
      go_wp2_with fail
      obtain ⟨o7, b7, e7, q7, r7⟩ := HL9.out
      refine (put_map ([107, 0, 1, 3, 1, 1, 1, 5, 4], 0) (14, 3, 3) (.slice none 0 0) [] b7 e7.size q7 r7 ⟨none, 0, rfl, fun i x hx => by simp at hx⟩ (fun c e => by cases e; rfl) (by decide) (by simp) ⟨by decide, by decide⟩ (fun ad n c e => by cases e) rfl).mono ?_
      rw [mex4]
      rintro r w9 ⟨rfl, ht⟩
      have HLA := Lib.hid (Live.turn (s' := ([107, 0, 1, 3, 1, 1, 1, 5, 4], 0)) b7 e7 ht (by decide) r7)
      have HRAA : Hid (w9.heap[ga]? = some (rowV (14, 1, 3))) := by
        obtain ⟨_, _, _, hm⟩ := ht
        exact hm.heap HRA9.out (b7.not_row HRA9.out)
      clear ht b7 e7 q7 r7 HL9 HRA9
      rw [show putV (((0, 0, 0), 2) : V3 × Int) = .tuple #[.agg #[.int .i64 0, .int .i64 0, .int .u64 0], .int .i64 2] from rfl]
      have k0 := row_cell HRAA.out 0 _ rfl
      have k1 := row_cell HRAA.out 1 _ rfl
      have k2 := row_cell HRAA.out 2 _ rfl
      go_wp2_with fail
      have hga := (Grew.refl w9).alloc (rowV (3, 0, 0))
      have hra9 := heap_alloc_new w9 (rowV (3, 0, 0))
      obtain ⟨o7, b7, e7, q7, r7⟩ := HLA.out
      refine (put_map ([107, 0, 1, 3, 1, 1, 1, 5, 4], 0) (14, 1, 3) _ [(3, 0, 0)] (b7.grew hga) (Nat.le_trans e7.size hga.size) q7 r7 (valsRow hra9) (fun c e => by cases e) (by decide) (okV1 _ _ _ (by decide) (by decide)) ⟨by decide, by decide⟩ ?_ rfl).mono ?_
      · intro ad n' c' e
        cases e
        exact ⟨(Array.getElem?_eq_some_iff.1 hra9).1, fun hq => absurd (b7.lt _ hq) (Nat.lt_irrefl _)⟩
      rw [mex5]
      rintro r wa ⟨rfl, ht⟩
      have HLB := Lib.hid (Live.turn (s' := ([107, 0, 1, 3, 1, 1, 1, 5, 4], 0)) (b7.grew hga) (Below.trans e7 (Below.mono hga e7.size)) ht (by decide) r7)
      clear ht b7 e7 q7 r7 hga hra9 HLA HRAA k0 k1 k2
      rw [show putV (((0, 0, 0), 20) : V3 × Int) = .tuple #[.agg #[.int .i64 0, .int .i64 0, .int .u64 0], .int .i64 20] from rfl]
      go_wp2_with fail
      refine (lenL HLB.out).mono ?_
      rintro r w' ⟨rfl, e⟩
      rw [e]
      clear e w'
      have HGF := Lib.hid HLB.out.below
      go_wp2
      go_ret
      exact ⟨rfl, HGF.out⟩
end Go.Proofs.Ytajpbclcfjljnaa

/-
  Maps: a region that puts a map and tells a variable, in phases.
-/
namespace Go.Proofs.Ytajpbclcfjljnaa
open Go Go.ChangeShapes Go.WideShapes Go.ChangeAt Go.RowKit Go.Joins Go.Deep
open Go.Proofs.Ytajpbclcfjljnaa.Ft (V3 vV okV ValsAt inlineB legalB packF codeF typedF allF)
set_option linter.unusedVariables false
set_option linter.unusedSimpArgs false
def TwW (w4 : World) (S : Nat → Prop) (P1 : World → Prop) (q p : Nat) (w : World) : Prop := if p < q then Grew w4 w else Moved S w4 w ∧ P1 w
theorem TwW.grew {w4 : World} {S : Nat → Prop} {P1 : World → Prop} {q : Nat} (h1 : ∀ w w', Grew w w' → P1 w → P1 w') (p : Nat) (w w' : World) (hg : Grew w w') (h : TwW w4 S P1 q p w) : TwW w4 S P1 q p w' := by
  unfold TwW at h ⊢
  split
  · rename_i hp
    rw [if_pos hp] at h
    exact Grew.trans h hg
  · rename_i hp
    rw [if_neg hp] at h
    exact ⟨Moved.grew h.1 hg, h1 _ _ hg h.2⟩
def TwT (S : Nat → Prop) (z : V3) (ja jp q n p : Nat) (y : Nat → Value) (w w' : World) : Prop :=
  if p + 1 = n then ∃ g, y jp = .pointer (some ⟨g, 0, none⟩) ∧ Moved (fun k => k = g) w w' ∧ w'.heap[g]? = some (rowV z)
  else if p + 1 = q then Moved S w w'
  else if p + 1 < n then Moved (fun k => some k = (y ja).ownBlock) w w' ∧ ∀ k, (y ja).ownBlock = some k → w.heap[k]? ≠ some Z0
  else False
def TwP (w4 : World) (z : V3) (n p : Nat) (v : Value) (w : World) : Prop := ∃ g, v = .pointer (some ⟨g, 0, none⟩) ∧ w4.heap.size ≤ g ∧ w.heap[g]? = some (if p < n then Z0 else rowV z)
theorem TwP.st {w4 : World} {S : Nat → Prop} {z : V3} {ja jp q n : Nat} (hS : ∀ k, S k → k < w4.heap.size) :
    (∀ p v w w', (fun (_ : Nat) w w' => Grew w w') p w w' → TwP w4 z n p v w → TwP w4 z n p v w') ∧ ∀ p v w w', (∃ y : Nat → Value, y jp = v ∧ TwT S z ja jp q n p y w w') → TwP w4 z n p v w → TwP w4 z n (p + 1) v w' := by
  refine ⟨fun p v w w' hg ⟨g, e, h1, h2⟩ => ⟨g, e, h1, Grew.heap hg h2⟩, fun p v w w' ⟨y, hy, hT⟩ ⟨g, e, h1, h2⟩ => ⟨g, e, h1, ?_⟩⟩
  unfold TwT at hT
  split at hT
  · obtain ⟨g', e', hm, h⟩ := hT
    rw [hy, e] at e'
    injection e' with e'
    injection e' with e'
    injection e' with e'
    subst e'
    rw [if_neg (by omega)]
    exact h
  · split at hT
    · have h3 := Moved.heap hT h2 (fun hs => by have := hS g hs; omega)
      rw [h3]
      by_cases hp : p < n
      · rw [if_pos hp, if_pos (by omega)]
      · rw [if_neg hp, if_neg (by omega)]
    · split at hT
      · rw [if_pos (by omega)] at h2 ⊢
        exact Moved.heap hT.1 h2 (fun hs => hT.2 g hs.symm h2)
      · exact hT.elim
def Til (φ : Value → World → Prop) (p : Nat) (v : Value) (w : World) : Prop := p = 0 → φ v w
theorem Til.st {φ : Value → World → Prop} {T : Nat → (Nat → Value) → World → World → Prop} {j : Nat} (h : ∀ v w w', Grew w w' → φ v w → φ v w') :
    (∀ p v w w', (fun (_ : Nat) w w' => Grew w w') p w w' → Til φ p v w → Til φ p v w') ∧ ∀ p v w w', (∃ y : Nat → Value, y j = v ∧ T p y w w') → Til φ p v w → Til φ (p + 1) v w' :=
  ⟨fun p v w w' hg hq hp => h v w w' hg (hq hp), fun p v w w' _ _ hp => absurd hp (Nat.succ_ne_zero p)⟩
def Nxt (φ : Value → World → Prop) : Nat → Value → World → Prop
  | 0, _, _ => False
  | 1, v, w => φ v w
  | _ + 2, _, _ => True
theorem Nxt.st {φ : Value → World → Prop} {T : Nat → (Nat → Value) → World → World → Prop} {j : Nat} (h : ∀ v w w', Grew w w' → φ v w → φ v w') :
    (∀ p v w w', (fun (_ : Nat) w w' => Grew w w') p w w' → Nxt φ p v w → Nxt φ p v w') ∧ ∀ p v w w', (∃ y : Nat → Value, y j = v ∧ T p y w w') → Nxt φ p v w → Nxt φ (p + 1) v w' := by
  refine ⟨fun p v w w' hg hq => ?_, fun p v w w' _ hq => ?_⟩
  · match p, hq with
    | 1, hq => exact h v w w' hg hq
    | _ + 2, _ => trivial
  · match p, hq with
    | 1, _ => trivial
    | _ + 2, _ => trivial
theorem wp_appB {o : Oper} {a : Act} {K : Act → World → Prop} {Q : Exit → Act → World → Prop} (w : World) (s x : Operand) (ho : o.op = .call { callee := .builtin .append, args := #[s, x], argTypes := #[24, 24] }) (B : Nat)
    (v : Value) (l : List V3) (hs : a.eval s = v) (hown : OwnVals w B v l) (z : V3) (g : Nat) (hx : a.eval x = .slice (some ⟨g, 0, none⟩) 1 1) (hg : w.heap[g]? = some (rowV z)) (hlen : l.length ≤ 1048570) (hB : B ≤ w.heap.size)
    (h : ∀ v' w', OwnVals w' B v' (l ++ [z]) → w.grownBy w' v.ownBlock → K (a.put o.dst v') w') : o.wp Try.prog a w K Q := by
  obtain ⟨i0, hi, hz0, hz1, hz2⟩ := val_parts
  obtain ⟨v', w', hr, h2, h3, h4⟩ := append_next (P := Try.prog) w B 24 o.type 30 i0 (.agg #[.int .i64 0, .int .i64 0, .int .u64 0]) 3 24 Try.underlying24 hi hz0 hz1 hz2 rfl (by decide) v l.length _ hown ⟨g, 0, none⟩ 1 1 (valCells [z]) (length_valCells [z]) (vals_cells (valsRow (c := 1) hg)) (valCells_one [z]) (by unfold maxLen; omega) (by omega) hB
  refine Lib.wp_append_run w s x 24 24 ho v _ hs hx v' w' hr (h v' w' ?_ h3)
  unfold OwnVals
  rw [List.length_append, valCells_append]
  exact h2
theorem own_not0 {w : World} {B : Nat} {v : Value} {M : List V3} (ho : OwnVals w B v M) (hM : ∀ u ∈ M, u.1 ≠ 0) : M ≠ [] → ∀ k, v.ownBlock = some k → w.heap[k]? ≠ some Z0 := by
  intro hne k hk hz
  rcases ho.2 with ⟨rfl, _⟩ | ⟨g, cap, cur, rfl, hb, hg, hn, hm, hs, ht⟩
  · cases hk
  · have e : k = g := by injection hk with hk; exact hk.symm
    subst e
    rw [hz] at hg
    injection hg with hg
    injection hg with hcur _
    subst hcur
    cases M with
    | nil => exact hne rfl
    | cons u r =>
      obtain ⟨u0, u1, u2⟩ := u
      have h0 : u0 ≠ 0 := hM (u0, u1, u2) (by simp)
      have := congrArg (fun q : List Value => q[0]?) ht
      simp [valCells, cellsV, rowV] at this
      exact h0 this.symm
theorem values18_nil (la : Option Addr) (n lc : Nat) (hn : n = 0) (w : World) : Calls Try.prog 8 #[.slice la n lc, .int .i64 4] w fun r w' => r = .returned (.slice none 0 0) ∧ Grew w w' := by
  subst hn
  go_enter Try.func8, Try.ntmps8
  go_wp2_with fail
  go_loopw [5, 6] (fun v i wr => v = .slice none 0 0 ∧ i = .int .i64 0 ∧ Hid (Grew w wr)) (fun _ _ _ => 0)
  case atStart => exact ⟨rfl, rfl, Grew.refl _⟩
  case round =>
    obtain ⟨rfl, rfl, HW⟩ := hrel
    go_wp2
    go_ret
    exact ⟨rfl, HW.out⟩
theorem valM_kind (l : List (Int × Int)) : ∀ u ∈ valsM l 4, u.1 ≠ 0 := by
  intro u hu
  obtain ⟨y, _, rfl⟩ := List.mem_map.1 hu
  rcases valM_cases y 4 (by omega) with ⟨n, _, _, h⟩ | ⟨t, w, u, h, hl, hi, _, _, _⟩
  · rw [h]; exact fun e => absurd (show (1 : Int) = 0 from e) (by decide)
  · rw [h]
    intro e
    have e' : t = 0 := e
    rw [e'] at hi
    revert hi
    decide
theorem live_told {w0 w : World} {p : Nat} {most : Int} {s : St} {g : Nat} {z : V3} (h : Live w0 w p most s) (hg : w0.heap.size ≤ g) (hr : w.heap[g]? = some Z0) (a b c : Value) (hrow : (((w.setCell ⟨g, 0, none⟩ a).setCell ⟨g, 1, none⟩ b).setCell ⟨g, 2, none⟩ c).heap[g]? = some (rowV z)) :
    Live w0 (((w.setCell ⟨g, 0, none⟩ a).setCell ⟨g, 1, none⟩ b).setCell ⟨g, 2, none⟩ c) p most s ∧ Moved (fun k => k = g) w (((w.setCell ⟨g, 0, none⟩ a).setCell ⟨g, 1, none⟩ b).setCell ⟨g, 2, none⟩ c) := by
  have hm : Moved (fun k => k = g) w (((w.setCell ⟨g, 0, none⟩ a).setCell ⟨g, 1, none⟩ b).setCell ⟨g, 2, none⟩ c) :=
    Moved.setCell (S := fun k => k = g) (p := ⟨g, 2, none⟩) (Moved.setCell (S := fun k => k = g) (p := ⟨g, 1, none⟩) (Moved.setCell (S := fun k => k = g) (p := ⟨g, 0, none⟩) (Moved.refl _ w) (fun _ => rfl) _) (fun _ => rfl) _) (fun _ => rfl) _
  obtain ⟨o, h1, h2, h3, h4⟩ := h
  exact ⟨⟨o, told_buf (z := z) h1 (.inr ⟨g, hg, .inl hr, hm, hrow⟩), Below.trans h2 (hm.below h2.size (fun k hk => by omega)), h3, h4⟩, hm⟩
theorem bytes_formT {w : World} {v : Value} {X : List UInt8} (h : BytesAt w v X) (hX : 0 < X.length) : ∃ bl off c, v = .slice (some ⟨bl, off, none⟩) X.length c ∧ X.length ≤ c ∧ bl < w.heap.size := by
  obtain ⟨a, c, rfl, hc, _, hcell⟩ := h
  obtain ⟨bl, off, rfl, h0⟩ := hcell 0 X[0] (List.getElem?_eq_getElem hX)
  exact ⟨bl, off, c, rfl, hc, World.block_lt_of_cell? w _ h0⟩
theorem movedFresh {S : Nat → Prop} {w0 w w' : World} (hg : Grew w0 w) (h : Moved S w w') (hS : ∀ g, S g → w0.heap.size ≤ g) : Grew w0 w' :=
  Below.trans hg (h.below hg.size hS)
theorem valsRow2 {w : World} {g c : Nat} {a0 a1 a2 b0 b1 b2 : Int} (hg : w.heap[g]? = some (.cells #[.int .i64 a0, .int .i64 a1, .int .u64 a2, .int .i64 b0, .int .i64 b1, .int .u64 b2] 30 (0, 0))) : ValsAt w (.slice (some ⟨g, 0, none⟩) 2 c) [(a0, a1, a2), (b0, b1, b2)] := by
  refine ⟨_, c, rfl, fun i x hx => ?_⟩
  have hi : i < 2 := (List.getElem?_eq_some_iff.1 hx).1
  match i, hx with
  | 0, hx => (simp at hx; subst hx; exact ⟨_, _, rfl, row_cell hg 0 _ rfl, row_cell hg 1 _ rfl, row_cell hg 2 _ rfl⟩)
  | 1, hx => (simp at hx; subst hx; exact ⟨_, _, rfl, row_cell hg 3 _ rfl, row_cell hg 4 _ rfl, row_cell hg 5 _ rfl⟩)
theorem mexT : putF 1048576 (takesE 4) true false 14 0 [(4, 1, 0), (4, 1, 2)] ([97, 0, 98, 0], 0) = (((14, 1, 5), 0), (keysB, 0)) := by kernel_rfl
end Go.Proofs.Ytajpbclcfjljnaa
