/-
  Plain: what the law's call fine does to contents that are far from the capacity.
-/
import Derived.Test.YtejaklkageieoaaBufFine
namespace Go.Proofs.Ytejaklkageieoaa
open Go Go.ChangeShapes Go.WideShapes Go.ChangeAt Go.RowKit Go.Joins
set_option linter.unusedVariables false
set_option linter.unusedSimpArgs false

theorem pow4 (x : Int) : isW (2 ^ (x % 4).toNat) = true ∧ (2 : Int) ^ (x % 4).toNat ≤ 8 := by
  have h : x % 4 = 0 ∨ x % 4 = 1 ∨ x % 4 = 2 ∨ x % 4 = 3 := by omega
  rcases h with h | h | h | h <;> rw [h] <;> decide
theorem bytes40 (s : ByteArray) : (bytesS [short40 s]).length ≤ 40 := by
  rw [bytesS_length]; have := short40_size s; simp [sizeS]; omega
/-- A call far from the capacity succeeds; it cuts, or appends at most 40 bytes. -/
theorem fine_form {d : DoV} {l : List UInt8} (hd : d.ok) (hl : l.length ≤ 1000000) :
    (d.kind % 5 = 3 → ∃ k, k ≤ l.length ∧ fineS 1048576 d (l, 0) = (l.take k, 0)) ∧ (d.kind % 5 ≠ 3 → ∃ y : List UInt8, y.length ≤ 40 ∧ fineS 1048576 d (l, 0) = (l ++ y, 0)) := by
  refine ⟨fun h3 => ?_, fun h3 => ?_⟩
  · have e1 := Int.emod_nonneg d.n (show ((l.length : Int) + 1) ≠ 0 by omega)
    have e2 := Int.emod_lt_of_pos d.n (show 0 < ((l.length : Int) + 1) by omega)
    refine ⟨(d.n % ((l.length : Int) + 1)).toNat, by omega, ?_⟩
    unfold fineS
    rw [if_neg (by omega), if_neg (by omega), if_pos h3]
    show (cutL l (d.n % ((l.length : Int) + 1)) 0, cutE l (d.n % ((l.length : Int) + 1)) 0) = _
    unfold cutL cutE
    rw [if_pos ⟨rfl, e1, by omega⟩, if_neg (fun h => h.2 ⟨e1, by omega⟩)]
  · unfold fineS
    by_cases h0 : d.kind % 5 = 0
    · rw [if_pos h0]
      obtain ⟨hw, hw8⟩ := pow4 d.w
      have hp := padN_lt (l := l) hw
      refine ⟨zeros (padN l (2 ^ (d.w % 4).toNat)), by rw [length_zeros]; omega, ?_⟩
      unfold alignS
      rw [if_pos hw]
      exact put_fit _ _ _ (by rw [length_zeros]; show (l.length : Int) + (padN l (2 ^ (d.w % 4).toNat) : Int) ≤ _; omega)
    · by_cases h1 : d.kind % 5 = 1
      · rw [if_neg h0, if_pos h1]
        refine ⟨digB 8 d.u.toNat, by rw [length_digB]; omega, ?_⟩
        unfold numS
        rw [if_pos (by decide), if_pos (by unfold fitU; have := hd.2.1; simp; omega)]
        exact put_fit _ _ _ (by rw [length_digB]; simp; omega)
      · rw [if_neg h0, if_neg h1, if_neg h3]
        have := bytes40 d.s
        exact ⟨bytesS [short40 d.s], this, put_fit _ _ _ (by omega)⟩
theorem fine_bound {d : DoV} {s : St} {n : Nat} (hd : d.ok) (he : s.2 = 0) (hl : s.1.length + 48 ≤ n ∧ n ≤ 1000000) : (fineS 1048576 d s).2 = 0 ∧ (fineS 1048576 d s).1.length ≤ n := by
  obtain ⟨l, e⟩ := s
  simp only at he hl
  subst he
  obtain ⟨f1, f2⟩ := fine_form (l := l) hd (by omega)
  by_cases h3 : d.kind % 5 = 3
  · obtain ⟨k, hk, e⟩ := f1 h3
    rw [e]
    exact ⟨rfl, by simp; omega⟩
  · obtain ⟨y, hy, e⟩ := f2 h3
    rw [e]
    exact ⟨rfl, by simp; omega⟩
end Go.Proofs.Ytejaklkageieoaa
