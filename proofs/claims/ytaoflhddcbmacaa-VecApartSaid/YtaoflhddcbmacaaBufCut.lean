/-
  The buffer's Cut, and the copy of its contents (Bytes).
-/
import Derived.Test.YtaoflhddcbmacaaBufPut
namespace Go.Proofs.Ytaoflhddcbmacaa
open Go Go.ChangeShapes Go.WideShapes Go.ChangeAt Go.RowKit Go.Joins
set_option linter.unusedVariables false
set_option linter.unusedSimpArgs false

theorem own_take {w : World} {B : Nat} {t : TypeId} {a : Option Addr} {c : Nat} {l : List UInt8} (h : w.ownsRow B t 1 (.slice a l.length c) l.length (Lib.byteCells l)) (k : Nat) (hk : k ≤ l.length) :
    w.ownsRow B t 1 (.slice a k c) (l.take k).length (Lib.byteCells (l.take k)) := by
  have hl : (l.take k).length = k := by rw [List.length_take]; omega
  rw [hl]
  obtain ⟨h1, h2⟩ := h
  refine ⟨by simp [Lib.byteCells]; omega, ?_⟩
  rcases h2 with ⟨he, hn⟩ | ⟨g, cap, cur, he, hb, hg, hn, hm, hs, ht⟩
  · injection he with e1 e2 e3
    subst e1 e3
    exact .inl ⟨by rw [show k = 0 by omega], by omega⟩
  · injection he with e1 e2 e3
    subst e1 e3
    refine .inr ⟨g, c, cur, rfl, hb, hg, by omega, hm, hs, ?_⟩
    have : Lib.byteCells (l.take k) = (Lib.byteCells l).take k := by simp [Lib.byteCells, List.map_take]
    rw [this, ← ht, List.take_take]
    congr 1
    omega

def cutL (l : List UInt8) (n e : Int) : List UInt8 := if e = 0 ∧ 0 ≤ n ∧ n ≤ l.length then l.take n.toNat else l
def cutE (l : List UInt8) (n e : Int) : Int := if e = 0 ∧ ¬ (0 ≤ n ∧ n ≤ l.length) then 6 else e
end Go.Proofs.Ytaoflhddcbmacaa
