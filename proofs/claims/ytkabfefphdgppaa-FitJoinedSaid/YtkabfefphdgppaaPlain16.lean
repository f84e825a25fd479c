/-
  Plain lemmas on the least width: a text value that lies at or behind its element's place fits at 8; what fits at a width fits at the next; nearer needs no more.
-/
import Derived.Test.YtkabfefphdgppaaFitAll2
namespace Go.Proofs.Ytkabfefphdgppaa
open Go Go.RowKit

theorem fitsT (n at_ i v : Int) : fitsF 5 1 n at_ i v = (decide (n ≤ at_) && belowW ((at_ + v - 1) / v * v + i * v - n) v) := by
  unfold fitsF
  rw [show inlineB 5 = false by decide]
  rfl

theorem fitsT_iff (n at_ i v : Int) : fitsF 5 1 n at_ i v = true ↔ n ≤ at_ ∧ (at_ + v - 1) / v * v + i * v - n < 2 ^ (8 * v.toNat) := by
  rw [fitsT]; simp [belowW]

theorem fitsT_far (n at_ i v : Int) (h : at_ < n) : fitsF 5 1 n at_ i v = false := by
  rw [fitsT]; simp; omega

theorem fitsT_8 (n at_ i : Int) (n0 : 0 ≤ n) (h : n ≤ at_) (a1 : at_ ≤ 1073741824) (_i0 : 0 ≤ i) (i1 : i ≤ 1073741824) : fitsF 5 1 n at_ i 8 = true := by
  rw [fitsT_iff]
  refine ⟨h, ?_⟩
  simp only [Int.reduceToNat, Nat.reduceMul, Int.reducePow]
  omega

theorem fitsT_up (n at_ i v : Int) (hv : v = 1 ∨ v = 2 ∨ v = 4) (n0 : 0 ≤ n) (a0 : 0 ≤ at_) (a1 : at_ ≤ 2097152) (i0 : 0 ≤ i) (i1 : i ≤ 5001) (h : fitsF 5 1 n at_ i v = true) : fitsF 5 1 n at_ i (2 * v) = true := by
  rw [fitsT_iff] at h ⊢
  refine ⟨h.1, ?_⟩
  have h2 := h.2
  rcases hv with rfl | rfl | rfl
  all_goals
    simp only [Int.reduceToNat, Nat.reduceMul, Int.reducePow, Int.reduceMul] at h2 ⊢
    omega

theorem oneT (n at_ i : Int) (a0 : 0 ≤ at_) (a1 : at_ ≤ 1073741824) (i0 : 0 ≤ i) (i1 : i ≤ 1073741824) : oneF 5 1 n at_ i = leastOf (fun v => fitsF 5 1 n at_ i v) := by
  unfold oneF; rw [if_pos ⟨⟨a0, a1⟩, i0, i1⟩]

theorem leastOf_none (p : Int → Bool) (a : p 1 = false) (b : p 2 = false) (c : p 4 = false) (d : p 8 = false) : leastOf p = 0 := by simp [leastOf, a, b, c, d]

/-- What the least width of a text value is. -/
theorem oneT_cases (n at_ i : Int) (n0 : 0 ≤ n) (a0 : 0 ≤ at_) (a1 : at_ ≤ 1073741824) (i0 : 0 ≤ i) (i1 : i ≤ 1073741824) :
    (at_ < n ∧ oneF 5 1 n at_ i = 0) ∨ (n ≤ at_ ∧
      ((oneF 5 1 n at_ i = 1 ∧ fitsF 5 1 n at_ i 1 = true) ∨ (oneF 5 1 n at_ i = 2 ∧ fitsF 5 1 n at_ i 1 = false ∧ fitsF 5 1 n at_ i 2 = true) ∨
       (oneF 5 1 n at_ i = 4 ∧ fitsF 5 1 n at_ i 2 = false ∧ fitsF 5 1 n at_ i 4 = true) ∨ (oneF 5 1 n at_ i = 8 ∧ fitsF 5 1 n at_ i 4 = false ∧ fitsF 5 1 n at_ i 8 = true))) := by
  rw [oneT n at_ i a0 a1 i0 i1]
  by_cases hn : n ≤ at_
  · right
    refine ⟨hn, ?_⟩
    have h8 := fitsT_8 n at_ i n0 hn a1 i0 i1
    by_cases h1 : fitsF 5 1 n at_ i 1 = true
    · exact .inl ⟨leastOf_1 (fun v => fitsF 5 1 n at_ i v) h1, h1⟩
    · rw [Bool.not_eq_true] at h1
      by_cases h2 : fitsF 5 1 n at_ i 2 = true
      · exact .inr (.inl ⟨leastOf_2 (fun v => fitsF 5 1 n at_ i v) h1 h2, h1, h2⟩)
      · rw [Bool.not_eq_true] at h2
        by_cases h4 : fitsF 5 1 n at_ i 4 = true
        · exact .inr (.inr (.inl ⟨leastOf_4 (fun v => fitsF 5 1 n at_ i v) h1 h2 h4, h2, h4⟩))
        · rw [Bool.not_eq_true] at h4
          exact .inr (.inr (.inr ⟨leastOf_8 (fun v => fitsF 5 1 n at_ i v) h1 h2 h4 h8, h4, h8⟩))
  · left
    refine ⟨by omega, ?_⟩
    have hf := fun v => fitsT_far n at_ i v (by omega)
    exact leastOf_none _ (hf 1) (hf 2) (hf 4) (hf 8)

theorem leastOf_le (p q : Int → Bool) (h1 : p 1 = true → q 1 = true) (h2 : p 2 = true → q 2 = true) (h4 : p 4 = true → q 4 = true) (hp : p 8 = true) : leastOf q ≤ leastOf p := by
  unfold leastOf
  cases e1 : p 1 <;> cases e2 : p 2 <;> cases e4 : p 4 <;> cases f1 : q 1 <;> cases f2 : q 2 <;> cases f4 : q 4 <;> cases f8 : q 8 <;> simp_all
theorem leastOf_pos (p : Int → Bool) (hp : p 8 = true) : 1 ≤ leastOf p := by
  unfold leastOf
  rw [hp]
  repeat' split
  all_goals first | omega | simp_all

theorem fitsT_near (n m at_ i k v : Int) (hv : isW v) (hnm : n ≤ m) (hm : m ≤ at_) (hki : k ≤ i) (h : fitsF 5 1 n at_ i v = true) : fitsF 5 1 m at_ k v = true := by
  rw [fitsT_iff] at h ⊢
  refine ⟨hm, ?_⟩
  have h2 := h.2
  have hkv : k * v ≤ i * v := Int.mul_le_mul_of_nonneg_right hki (by rcases hv with rfl | rfl | rfl | rfl <;> omega)
  omega

theorem one_near (n m at_ i k : Int) (n0 : 0 ≤ n) (hnm : n ≤ m) (hm : m ≤ at_) (hki : k ≤ i) (a1 : at_ ≤ 1073741824) (k0 : 0 ≤ k) (i1 : i ≤ 1073741824) : oneF 5 1 m at_ k ≤ oneF 5 1 n at_ i := by
  rw [oneT n at_ i (by omega) a1 (by omega) i1, oneT m at_ k (by omega) a1 k0 (by omega)]
  refine leastOf_le _ _ ?_ ?_ ?_ (fitsT_8 n at_ i n0 (by omega) a1 (by omega) i1)
  · exact fitsT_near n m at_ i k 1 (.inl rfl) hnm hm hki
  · exact fitsT_near n m at_ i k 2 (.inr (.inl rfl)) hnm hm hki
  · exact fitsT_near n m at_ i k 4 (.inr (.inr (.inl rfl))) hnm hm hki
theorem one_pos (n at_ i : Int) (n0 : 0 ≤ n) (h : n ≤ at_) (a1 : at_ ≤ 1073741824) (i0 : 0 ≤ i) (i1 : i ≤ 1073741824) : 1 ≤ oneF 5 1 n at_ i := by
  rw [oneT n at_ i (by omega) a1 i0 i1]
  exact leastOf_pos _ (fitsT_8 n at_ i n0 h a1 i0 i1)

end Go.Proofs.Ytkabfefphdgppaa
