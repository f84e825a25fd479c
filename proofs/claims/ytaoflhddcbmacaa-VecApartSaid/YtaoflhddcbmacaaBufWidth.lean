/-
  Widths: width.Code, the reference's width, le.is, le.fits.
-/
import Derived.Test.YtaoflhddcbmacaaBufRef2
namespace Go.Proofs.Ytaoflhddcbmacaa
open Go Go.ChangeShapes Go.WideShapes Go.ChangeAt Go.RowKit Go.Joins
set_option linter.unusedVariables false
set_option linter.unusedSimpArgs false

def isW (w : Int) : Bool := w == 1 || w == 2 || w == 4 || w == 8
theorem leis_any (x : Int) (w : World) :
    Calls Try.prog 58 #[.int .i64 x] w fun r w' => r = .returned (.bool (isW x)) ∧ w' = w := by
  go_enter Try.func58, Try.ntmps58
  by_cases h1 : x = 1
  · subst h1; go_wp2; go_ret; exact ⟨rfl, rfl⟩
  by_cases h2 : x = 2
  · subst h2; go_wp2; go_ret; exact ⟨rfl, rfl⟩
  by_cases h4 : x = 4
  · subst h4; go_wp2; go_ret; exact ⟨rfl, rfl⟩
  by_cases h8 : x = 8
  · subst h8; go_wp2; go_ret; exact ⟨rfl, rfl⟩
  go_wp2
  go_ret
  refine ⟨?_, rfl⟩
  simp [isW, h1, h2, h4, h8]

def codeE (x : Int) : Int := if isW x then 0 else 2
theorem code_any (x : Int) (w : World) :
    Calls Try.prog 59 #[.int .i64 x] w fun r w' => (∃ c, r = .returned (.tuple #[.int .i64 c, .int .i64 (codeE x)])) ∧ w' = w := by
  have hstep : ∀ k : Nat, (∀ j : Nat, j < k → x ≠ 2 ^ j) → x ≠ 2 ^ k → ∀ j : Nat, j < k + 1 → x ≠ 2 ^ j := by
    intro k h1 h2 j hj
    rcases (by omega : j < k ∨ j = k) with h | rfl
    · exact h1 j h
    · exact h2
  go_enter Try.func59, Try.ntmps59
  go_wp2_with fail
  go_loopw [5] (fun i wr => wr = w ∧ ∃ k : Nat, k ≤ 4 ∧ i = .int .i64 k ∧ Hid (∀ j : Nat, j < k → x ≠ 2 ^ j)) (fun i _ => 4 - (intOf i).toNat)
  case atStart => exact ⟨rfl, 0, by omega, rfl, fun j hj => by omega⟩
  case round =>
    obtain ⟨rfl, k, hk, rfl, HN⟩ := hrel
    by_cases hlt : k < 4
    · obtain rfl | rfl | rfl | rfl : k = 0 ∨ k = 1 ∨ k = 2 ∨ k = 3 := by omega
      · by_cases hx : x = 1
        · subst hx
          go_wp2
          go_ret2
          exact ⟨⟨_, rfl⟩, rfl⟩
        · go_wp2_with fail
          go_roundw
          case rel => exact ⟨trivial, 1, by omega, by go_num, hstep _ HN.out (by simpa using hx)⟩
          case measure => simp [intOf]
      · by_cases hx : x = 2
        · subst hx
          go_wp2
          go_ret2
          exact ⟨⟨_, rfl⟩, rfl⟩
        · go_wp2_with fail
          go_roundw
          case rel => exact ⟨trivial, 2, by omega, by go_num, hstep _ HN.out (by simpa using hx)⟩
          case measure => simp [intOf]
      · by_cases hx : x = 4
        · subst hx
          go_wp2
          go_ret2
          exact ⟨⟨_, rfl⟩, rfl⟩
        · go_wp2_with fail
          go_roundw
          case rel => exact ⟨trivial, 3, by omega, by go_num, hstep _ HN.out (by simpa using hx)⟩
          case measure => simp [intOf]
      · by_cases hx : x = 8
        · subst hx
          go_wp2
          go_ret2
          exact ⟨⟨_, rfl⟩, rfl⟩
        · go_wp2_with fail
          go_roundw
          case rel => exact ⟨trivial, 4, by omega, by go_num, hstep _ HN.out (by simpa using hx)⟩
          case measure => simp [intOf]
    · have e : k = 4 := by omega
      subst e
      have HX : Hid (codeE x = 2) := by
        show codeE x = 2
        have a0 := HN.out 0 (by omega)
        have a1 := HN.out 1 (by omega)
        have a2 := HN.out 2 (by omega)
        have a3 := HN.out 3 (by omega)
        simp at a0 a1 a2 a3
        simp [codeE, isW, a0, a1, a2, a3]
      go_wp2
      go_ret2
      exact ⟨⟨0, by rw [HX.out]; rfl⟩, rfl⟩

end Go.Proofs.Ytaoflhddcbmacaa
