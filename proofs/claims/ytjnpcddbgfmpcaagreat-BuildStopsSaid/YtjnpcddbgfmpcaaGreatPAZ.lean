/-
  Texts of the proof, part 26 of 39.
-/
import Derived.Test.YtjnpcddbgfmpcaaGreatPAY
import Derived.Deep.Slices
import Derived.Deep.Fields
import Derived.ChangeSame

/-
  How the laws' arguments read: a slice of pairs, a slice of ints. Conditions: the argument can be read as data.
-/
namespace Go.Proofs.YtjnpcddbgfmpcaaGreat
open Go Go.ChangeShapes Go.WideShapes Go.ChangeAt Go.RowKit Go.Joins Go.Deep
set_option linter.unusedVariables false
set_option linter.unusedSimpArgs false
def PrsAt (w : World) (v : Value) (l : List (Int × Int)) : Prop :=
  ∃ a0 cap, v = .slice a0 l.length cap ∧ l.length ≤ cap ∧ ∀ (i : Nat) (x : (Int × Int)), l[i]? = some x → ∃ b off, a0 = some ⟨b, off, none⟩ ∧ w.cell? ⟨b, off + i * 2, none⟩ = some (.int .i64 x.1) ∧ w.cell? ⟨b, off + i * 2 + 1, none⟩ = some (.int .i64 x.2)
theorem PrsAt.kept {S : Nat → Prop} {w w' : World} {v : Value} {l : List (Int × Int)} (h : PrsAt w v l) (hg : Moved S w w') (hS : ∀ k, S k → w.heap.size ≤ k) : PrsAt w' v l := by
  obtain ⟨a0, cap, h1, h2, h3⟩ := h
  refine ⟨a0, cap, h1, h2, fun i x hx => ?_⟩
  obtain ⟨b, off, e, p⟩ := h3 i x hx
  have hb : b < w.heap.size := World.block_lt_of_cell? w ⟨b, off + i * 2, none⟩ p.1
  have hn : ¬ S b := fun hs => by have := hS b hs; omega
  exact ⟨b, off, e, hg.cell p.1 hn, hg.cell p.2 hn⟩
theorem PrsAt.below {B : Nat} {w w' : World} {v : Value} {l : List (Int × Int)} (h : PrsAt w v l) (hg : Below B w w') (hB : w.heap.size ≤ B) : PrsAt w' v l :=
  h.kept (S := fun k => B ≤ k) ⟨hg.os, hg.tape, hg.output, hg.size, fun k hk hs => hg.block k (by omega)⟩ (fun k hk => by omega)
theorem PrsAt.pairs {w : World} {v : Value} {l : List (Int × Int)} (h : PrsAt w v l) : PairsAt w v l := by
  obtain ⟨a, c, h1, _, h3⟩ := h
  refine ⟨a, c, h1, fun i x hx => ?_⟩
  obtain ⟨b, off, e, c0, c1⟩ := h3 i x hx
  exact ⟨b, off, e, c0, c1⟩
section
variable {H : Type} {enc : TypeId × Value → H} {W : World} {base : Nat} {v : Value} {d : DataW H} {p : List MemPlace}
def IntsAt (w : World) (v : Value) (l : List Int) : Prop :=
  ∃ a0 cap, v = .slice a0 l.length cap ∧ ∀ i x, l[i]? = some x → (-9223372036854775808 ≤ x ∧ x ≤ 9223372036854775807) ∧ ∃ b off, a0 = some ⟨b, off, none⟩ ∧ w.cell? ⟨b, off + i, none⟩ = some (.int .i64 x)
theorem IntsAt.grew {w w' : World} {v : Value} {l : List Int} (h : IntsAt w v l) (hg : Grew w w') : IntsAt w' v l := by
  obtain ⟨a0, cap, h1, h3⟩ := h
  exact ⟨a0, cap, h1, fun i x hx => let ⟨hb, b, off, e, p⟩ := h3 i x hx; ⟨hb, b, off, e, hg.cell p⟩⟩
end
end Go.Proofs.YtjnpcddbgfmpcaaGreat

/-
  Vectors: two buffers beside each other, a slice of pairs cut short.
-/
namespace Go.Proofs.YtjnpcddbgfmpcaaGreat
open Go Go.ChangeShapes Go.WideShapes Go.ChangeAt Go.RowKit Go.Joins
open Go.Proofs.YtjnpcddbgfmpcaaGreat.Ft (V3 vV okV ValsAt inlineB legalB packF codeF typedF allF)
set_option linter.unusedVariables false
set_option linter.unusedSimpArgs false
def Apart (p : Nat) (o : Option Nat) (q : Nat) (o' : Option Nat) : Prop := ∀ k, Own2 p o k → ¬ Own2 q o' k
theorem Apart.symm {p q : Nat} {o o' : Option Nat} (h : Apart p o q o') : Apart q o' p o := fun k h1 h2 => h k h2 h1
def LiveBB (w0 w : World) (p q : Nat) (most most' : Int) (s t : St) : Prop := ∃ o o', BufAt w0.heap.size w p o s.1 most s.2 ∧ BufAt w0.heap.size w q o' t.1 most' t.2 ∧ Apart p o q o' ∧ Below w0.heap.size w0 w ∧ ((s.1.length : Int) ≤ most ∧ most ≤ 1048576) ∧ (t.1.length : Int) ≤ most' ∧ most' ≤ 1048576
section
variable {w0 w w' : World} {p q : Nat} {o o' : Option Nat} {most most' : Int} {s t s' t' : St}
theorem LiveBB.below (h : LiveBB w0 w p q most most' s t) : Below w0.heap.size w0 w := by obtain ⟨_, _, _, _, _, h, _⟩ := h; exact h
theorem LiveBB.grew (h : LiveBB w0 w p q most most' s t) (hg : Grew w w') : LiveBB w0 w' p q most most' s t := by
  obtain ⟨o, o', h1, h2, h3, h4, h5⟩ := h
  exact ⟨o, o', h1.grew hg, h2.grew hg, h3, Below.trans h4 (Below.mono hg h4.size), h5⟩
theorem LiveBB.one (h : LiveBB w0 w p q most most' s t) : Live w0 w p most s := by
  obtain ⟨o, o', h1, h2, h3, h4, h5, h6⟩ := h
  exact ⟨o, h1, h4, h5⟩
theorem LiveBB.two (h : LiveBB w0 w p q most most' s t) : Live w0 w q most' t := by
  obtain ⟨o, o', h1, h2, h3, h4, h5, h6⟩ := h
  exact ⟨o', h2, h4, h6⟩
theorem LiveBB.make {w1 : World} (h1 : Live w0 w1 p most s) (h2 : Live w1 w q most' t) : LiveBB w0 w p q most most' s t := by
  obtain ⟨o, a1, a2, a3, a4⟩ := h1
  obtain ⟨o', b1, b2, b3, b4⟩ := h2
  have hlt := a1.lt
  have hge := b1.ge
  obtain ⟨hq, v, r1, r2, r3, r4⟩ := b1
  refine ⟨o, o', a1.grew b2, ⟨Nat.le_trans a2.size hq, v, r1, own_base r2 a2.size, r3, r4⟩, fun k h1 h2 => ?_, Below.trans a2 (Below.mono b2 a2.size), ⟨a3, a4⟩, b3, b4⟩
  have := hlt k h1
  have := hge k h2
  omega
end
theorem PrsAt.cap {w : World} {v : Value} {l : List (Int × Int)} (h : PrsAt w v l) : ∀ ad n c, v = .slice ad n c → n ≤ c := by
  obtain ⟨a, c, h1, h2, _⟩ := h
  intro ad n c' e
  rw [h1] at e
  cases e
  exact h2
theorem PairsAt.cut {w : World} {a : Option Addr} {c : Nat} {l : List (Int × Int)} (h : PairsAt w (.slice a l.length c) l) (k : Nat) (hk : k ≤ l.length) (c2 : Nat) : PairsAt w (.slice a k c2) (l.take k) := by
  obtain ⟨a', c', e, hc⟩ := h
  cases e
  refine ⟨a, c2, by rw [List.length_take, Nat.min_eq_left hk], fun i x hx => ?_⟩
  rw [List.getElem?_take] at hx
  split at hx
  · exact hc i x hx
  · cases hx
end Go.Proofs.YtjnpcddbgfmpcaaGreat
