/-
  Texts of the proof, part 7 of 9.
-/
import Derived.Test.YtlhliolknaopjaaPC
import Derived.Deep.CutBlock
import Derived.Deep.DeepCutAuto
import Derived.Test.YtlhliolknaopjaaPD

/-
  Denote: the reference's small functions. Conditions: the bytes, the tree lie in memory.
-/
namespace Go.Proofs.Ytlhliolknaopjaa
open Go Go.ChangeShapes Go.WideShapes Go.ChangeAt Go.RowKit Go.Joins Go.Deep
set_option linter.unusedVariables false
set_option linter.unusedSimpArgs false

set_option maxRecDepth 100000 in
set_option maxHeartbeats 4000000 in
theorem rwide_any (x : Int) (w : World) : Calls Try.prog 114 #[.int .i64 x] w fun r w' => r = .returned (.bool (isW x)) ∧ w' = w := by
  by_cases h1 : x = 1
  · subst h1
    have HV : Hid (isW 1 = true) := by show _ = _; decide +kernel
    go_enter Try.func114, Try.ntmps114
    go_wp2_with fail
    go_ret
    exact ⟨by rw [HV.out]; rfl, rfl⟩
  by_cases h2 : x = 2
  · subst h2
    have HV : Hid (isW 2 = true) := by show _ = _; decide +kernel
    go_enter Try.func114, Try.ntmps114
    go_wp2_with fail
    go_ret
    exact ⟨by rw [HV.out]; rfl, rfl⟩
  by_cases h4 : x = 4
  · subst h4
    have HV : Hid (isW 4 = true) := by show _ = _; decide +kernel
    go_enter Try.func114, Try.ntmps114
    go_wp2_with fail
    go_ret
    exact ⟨by rw [HV.out]; rfl, rfl⟩
  by_cases h8 : x = 8
  · subst h8
    have HV : Hid (isW 8 = true) := by show _ = _; decide +kernel
    go_enter Try.func114, Try.ntmps114
    go_wp2_with fail
    go_ret
    exact ⟨by rw [HV.out]; rfl, rfl⟩
  have HV : Hid (isW x = false) := by show _ = _; exact Bool.eq_false_iff.2 fun h => by rcases isW_cases h with h | h | h | h <;> omega
  have b1 : (x == 1) = false := by simpa using h1
  have b2 : (x == 2) = false := by simpa using h2
  have b4 : (x == 4) = false := by simpa using h4
  have b8 : (x == 8) = false := by simpa using h8
  clear h1 h2 h4 h8
  go_enter Try.func114, Try.ntmps114
  go_wp2_with fail
  go_ret
  exact ⟨by rw [HV.out]; rfl, rfl⟩
set_option maxRecDepth 100000 in
set_option maxHeartbeats 4000000 in
theorem rw27_any (x : Int) (w : World) : Calls Try.prog 26 #[.int .i64 x] w fun r w' => r = .returned (.bool (isW x)) ∧ w' = w := by
  by_cases h1 : x = 1
  · subst h1
    have HV : Hid (isW 1 = true) := by show _ = _; decide +kernel
    go_enter Try.func26, Try.ntmps26
    go_wp2_with fail
    go_ret
    exact ⟨by rw [HV.out]; rfl, rfl⟩
  by_cases h2 : x = 2
  · subst h2
    have HV : Hid (isW 2 = true) := by show _ = _; decide +kernel
    go_enter Try.func26, Try.ntmps26
    go_wp2_with fail
    go_ret
    exact ⟨by rw [HV.out]; rfl, rfl⟩
  by_cases h4 : x = 4
  · subst h4
    have HV : Hid (isW 4 = true) := by show _ = _; decide +kernel
    go_enter Try.func26, Try.ntmps26
    go_wp2_with fail
    go_ret
    exact ⟨by rw [HV.out]; rfl, rfl⟩
  by_cases h8 : x = 8
  · subst h8
    have HV : Hid (isW 8 = true) := by show _ = _; decide +kernel
    go_enter Try.func26, Try.ntmps26
    go_wp2_with fail
    go_ret
    exact ⟨by rw [HV.out]; rfl, rfl⟩
  have HV : Hid (isW x = false) := by show _ = _; exact Bool.eq_false_iff.2 fun h => by rcases isW_cases h with h | h | h | h <;> omega
  have b1 : (x == 1) = false := by simpa using h1
  have b2 : (x == 2) = false := by simpa using h2
  have b4 : (x == 4) = false := by simpa using h4
  have b8 : (x == 8) = false := by simpa using h8
  clear h1 h2 h4 h8
  go_enter Try.func26, Try.ntmps26
  go_wp2_with fail
  go_ret
  exact ⟨by rw [HV.out]; rfl, rfl⟩
theorem legal_list (x : Int) : Ft.legalB x = true → x = 0 ∨ x = 1 ∨ x = 2 ∨ x = 4 ∨ x = 5 ∨ x = 6 ∨ x = 7 ∨ x = 9 ∨ x = 10 ∨ x = 11 ∨ x = 12 ∨ x = 14 ∨ x = 16 ∨ x = 17 ∨ x = 19 ∨ x = 20 ∨ x = 22 ∨ x = 23 ∨ x = 25 ∨ x = 26 ∨ x = 36 := by
  intro h
  obtain ⟨h0, h1⟩ := Ft.legal_range h
  obtain ⟨k, rfl⟩ := Int.eq_ofNat_of_zero_le h0
  have : ∀ k : Fin 37, Ft.legalB ((k : Nat) : Int) = true → (k : Nat) = 0 ∨ (k : Nat) = 1 ∨ (k : Nat) = 2 ∨ (k : Nat) = 4 ∨ (k : Nat) = 5 ∨ (k : Nat) = 6 ∨ (k : Nat) = 7 ∨ (k : Nat) = 9 ∨ (k : Nat) = 10 ∨ (k : Nat) = 11 ∨ (k : Nat) = 12 ∨ (k : Nat) = 14 ∨ (k : Nat) = 16 ∨ (k : Nat) = 17 ∨ (k : Nat) = 19 ∨ (k : Nat) = 20 ∨ (k : Nat) = 22 ∨ (k : Nat) = 23 ∨ (k : Nat) = 25 ∨ (k : Nat) = 26 ∨ (k : Nat) = 36 := by decide +kernel
  have h2 : k = 0 ∨ k = 1 ∨ k = 2 ∨ k = 4 ∨ k = 5 ∨ k = 6 ∨ k = 7 ∨ k = 9 ∨ k = 10 ∨ k = 11 ∨ k = 12 ∨ k = 14 ∨ k = 16 ∨ k = 17 ∨ k = 19 ∨ k = 20 ∨ k = 22 ∨ k = 23 ∨ k = 25 ∨ k = 26 ∨ k = 36 := this ⟨k, by omega⟩ h
  omega
set_option maxRecDepth 100000 in
set_option maxHeartbeats 4000000 in
theorem rlegal_any (x : Int) (w : World) : Calls Try.prog 44 #[.int .i64 x] w fun r w' => r = .returned (.bool (Ft.legalB x)) ∧ w' = w := by
  by_cases h0 : x = 0
  · subst h0
    have HV : Hid (Ft.legalB 0 = true) := by show _ = _; decide +kernel
    go_enter Try.func44, Try.ntmps44
    go_wp2_with fail
    go_ret
    exact ⟨by rw [HV.out]; rfl, rfl⟩
  by_cases h1 : x = 1
  · subst h1
    have HV : Hid (Ft.legalB 1 = true) := by show _ = _; decide +kernel
    go_enter Try.func44, Try.ntmps44
    go_wp2_with fail
    go_ret
    exact ⟨by rw [HV.out]; rfl, rfl⟩
  by_cases h2 : x = 2
  · subst h2
    have HV : Hid (Ft.legalB 2 = true) := by show _ = _; decide +kernel
    go_enter Try.func44, Try.ntmps44
    go_wp2_with fail
    go_ret
    exact ⟨by rw [HV.out]; rfl, rfl⟩
  by_cases h4 : x = 4
  · subst h4
    have HV : Hid (Ft.legalB 4 = true) := by show _ = _; decide +kernel
    go_enter Try.func44, Try.ntmps44
    go_wp2_with fail
    go_ret
    exact ⟨by rw [HV.out]; rfl, rfl⟩
  by_cases h5 : x = 5
  · subst h5
    have HV : Hid (Ft.legalB 5 = true) := by show _ = _; decide +kernel
    go_enter Try.func44, Try.ntmps44
    go_wp2_with fail
    go_ret
    exact ⟨by rw [HV.out]; rfl, rfl⟩
  by_cases h6 : x = 6
  · subst h6
    have HV : Hid (Ft.legalB 6 = true) := by show _ = _; decide +kernel
    go_enter Try.func44, Try.ntmps44
    go_wp2_with fail
    go_ret
    exact ⟨by rw [HV.out]; rfl, rfl⟩
  by_cases h7 : x = 7
  · subst h7
    have HV : Hid (Ft.legalB 7 = true) := by show _ = _; decide +kernel
    go_enter Try.func44, Try.ntmps44
    go_wp2_with fail
    go_ret
    exact ⟨by rw [HV.out]; rfl, rfl⟩
  by_cases h9 : x = 9
  · subst h9
    have HV : Hid (Ft.legalB 9 = true) := by show _ = _; decide +kernel
    go_enter Try.func44, Try.ntmps44
    go_wp2_with fail
    go_ret
    exact ⟨by rw [HV.out]; rfl, rfl⟩
  by_cases h10 : x = 10
  · subst h10
    have HV : Hid (Ft.legalB 10 = true) := by show _ = _; decide +kernel
    go_enter Try.func44, Try.ntmps44
    go_wp2_with fail
    go_ret
    exact ⟨by rw [HV.out]; rfl, rfl⟩
  by_cases h11 : x = 11
  · subst h11
    have HV : Hid (Ft.legalB 11 = true) := by show _ = _; decide +kernel
    go_enter Try.func44, Try.ntmps44
    go_wp2_with fail
    go_ret
    exact ⟨by rw [HV.out]; rfl, rfl⟩
  by_cases h12 : x = 12
  · subst h12
    have HV : Hid (Ft.legalB 12 = true) := by show _ = _; decide +kernel
    go_enter Try.func44, Try.ntmps44
    go_wp2_with fail
    go_ret
    exact ⟨by rw [HV.out]; rfl, rfl⟩
  by_cases h14 : x = 14
  · subst h14
    have HV : Hid (Ft.legalB 14 = true) := by show _ = _; decide +kernel
    go_enter Try.func44, Try.ntmps44
    go_wp2_with fail
    go_ret
    exact ⟨by rw [HV.out]; rfl, rfl⟩
  by_cases h16 : x = 16
  · subst h16
    have HV : Hid (Ft.legalB 16 = true) := by show _ = _; decide +kernel
    go_enter Try.func44, Try.ntmps44
    go_wp2_with fail
    go_ret
    exact ⟨by rw [HV.out]; rfl, rfl⟩
  by_cases h17 : x = 17
  · subst h17
    have HV : Hid (Ft.legalB 17 = true) := by show _ = _; decide +kernel
    go_enter Try.func44, Try.ntmps44
    go_wp2_with fail
    go_ret
    exact ⟨by rw [HV.out]; rfl, rfl⟩
  by_cases h19 : x = 19
  · subst h19
    have HV : Hid (Ft.legalB 19 = true) := by show _ = _; decide +kernel
    go_enter Try.func44, Try.ntmps44
    go_wp2_with fail
    go_ret
    exact ⟨by rw [HV.out]; rfl, rfl⟩
  by_cases h20 : x = 20
  · subst h20
    have HV : Hid (Ft.legalB 20 = true) := by show _ = _; decide +kernel
    go_enter Try.func44, Try.ntmps44
    go_wp2_with fail
    go_ret
    exact ⟨by rw [HV.out]; rfl, rfl⟩
  by_cases h22 : x = 22
  · subst h22
    have HV : Hid (Ft.legalB 22 = true) := by show _ = _; decide +kernel
    go_enter Try.func44, Try.ntmps44
    go_wp2_with fail
    go_ret
    exact ⟨by rw [HV.out]; rfl, rfl⟩
  by_cases h23 : x = 23
  · subst h23
    have HV : Hid (Ft.legalB 23 = true) := by show _ = _; decide +kernel
    go_enter Try.func44, Try.ntmps44
    go_wp2_with fail
    go_ret
    exact ⟨by rw [HV.out]; rfl, rfl⟩
  by_cases h25 : x = 25
  · subst h25
    have HV : Hid (Ft.legalB 25 = true) := by show _ = _; decide +kernel
    go_enter Try.func44, Try.ntmps44
    go_wp2_with fail
    go_ret
    exact ⟨by rw [HV.out]; rfl, rfl⟩
  by_cases h26 : x = 26
  · subst h26
    have HV : Hid (Ft.legalB 26 = true) := by show _ = _; decide +kernel
    go_enter Try.func44, Try.ntmps44
    go_wp2_with fail
    go_ret
    exact ⟨by rw [HV.out]; rfl, rfl⟩
  by_cases h36 : x = 36
  · subst h36
    have HV : Hid (Ft.legalB 36 = true) := by show _ = _; decide +kernel
    go_enter Try.func44, Try.ntmps44
    go_wp2_with fail
    go_ret
    exact ⟨by rw [HV.out]; rfl, rfl⟩
  have HV : Hid (Ft.legalB x = false) := by show _ = _; exact Bool.eq_false_iff.2 fun h => by have := legal_list x h; omega
  have b0 : (x == 0) = false := by simpa using h0
  have b1 : (x == 1) = false := by simpa using h1
  have b2 : (x == 2) = false := by simpa using h2
  have b4 : (x == 4) = false := by simpa using h4
  have b5 : (x == 5) = false := by simpa using h5
  have b6 : (x == 6) = false := by simpa using h6
  have b7 : (x == 7) = false := by simpa using h7
  have b9 : (x == 9) = false := by simpa using h9
  have b10 : (x == 10) = false := by simpa using h10
  have b11 : (x == 11) = false := by simpa using h11
  have b12 : (x == 12) = false := by simpa using h12
  have b14 : (x == 14) = false := by simpa using h14
  have b16 : (x == 16) = false := by simpa using h16
  have b17 : (x == 17) = false := by simpa using h17
  have b19 : (x == 19) = false := by simpa using h19
  have b20 : (x == 20) = false := by simpa using h20
  have b22 : (x == 22) = false := by simpa using h22
  have b23 : (x == 23) = false := by simpa using h23
  have b25 : (x == 25) = false := by simpa using h25
  have b26 : (x == 26) = false := by simpa using h26
  have b36 : (x == 36) = false := by simpa using h36
  clear h0 h1 h2 h4 h5 h6 h7 h9 h10 h11 h12 h14 h16 h17 h19 h20 h22 h23 h25 h26 h36
  go_enter Try.func44, Try.ntmps44
  go_wp2_with fail
  go_ret
  exact ⟨by rw [HV.out]; rfl, rfl⟩
/-- The inline types. -/
def nearT0 (x : Int) : Bool := decide (x = 0) || decide (x = 1) || decide (x = 2) || decide (x = 26)
set_option maxRecDepth 100000 in
set_option maxHeartbeats 4000000 in
theorem rinline_any (x : Int) (w : World) : Calls Try.prog 51 #[.int .i64 x] w fun r w' => r = .returned (.bool (nearT0 x)) ∧ w' = w := by
  by_cases h0 : x = 0
  · subst h0
    have HV : Hid (nearT0 0 = true) := by show _ = _; decide +kernel
    go_enter Try.func51, Try.ntmps51
    go_wp2_with fail
    go_ret
    exact ⟨by rw [HV.out]; rfl, rfl⟩
  by_cases h1 : x = 1
  · subst h1
    have HV : Hid (nearT0 1 = true) := by show _ = _; decide +kernel
    go_enter Try.func51, Try.ntmps51
    go_wp2_with fail
    go_ret
    exact ⟨by rw [HV.out]; rfl, rfl⟩
  by_cases h2 : x = 2
  · subst h2
    have HV : Hid (nearT0 2 = true) := by show _ = _; decide +kernel
    go_enter Try.func51, Try.ntmps51
    go_wp2_with fail
    go_ret
    exact ⟨by rw [HV.out]; rfl, rfl⟩
  by_cases h26 : x = 26
  · subst h26
    have HV : Hid (nearT0 26 = true) := by show _ = _; decide +kernel
    go_enter Try.func51, Try.ntmps51
    go_wp2_with fail
    go_ret
    exact ⟨by rw [HV.out]; rfl, rfl⟩
  have HV : Hid (nearT0 x = false) := by show _ = _; simp [nearT0, h0, h1, h2, h26]
  have b0 : (x == 0) = false := by simpa using h0
  have b1 : (x == 1) = false := by simpa using h1
  have b2 : (x == 2) = false := by simpa using h2
  have b26 : (x == 26) = false := by simpa using h26
  clear h0 h1 h2 h26
  go_enter Try.func51, Try.ntmps51
  go_wp2_with fail
  go_ret
  exact ⟨by rw [HV.out]; rfl, rfl⟩
theorem elem_list (x : Int) : x ≠ 11 ∧ x ≠ 12 ∧ x ≠ 14 ∧ x ≠ 36 ∧ x ≠ 16 ∧ x ≠ 19 ∧ x ≠ 22 ∧ x ≠ 17 ∧ x ≠ 20 ∧ x ≠ 23 → Ft.elemF x = (0, 0, false) := by
  intro h
  by_cases hr : 0 ≤ x ∧ x ≤ 36
  · obtain ⟨k, rfl⟩ := Int.eq_ofNat_of_zero_le hr.1
    have : ∀ k : Fin 37, (k : Nat) ≠ 11 ∧ (k : Nat) ≠ 12 ∧ (k : Nat) ≠ 14 ∧ (k : Nat) ≠ 36 ∧ (k : Nat) ≠ 16 ∧ (k : Nat) ≠ 19 ∧ (k : Nat) ≠ 22 ∧ (k : Nat) ≠ 17 ∧ (k : Nat) ≠ 20 ∧ (k : Nat) ≠ 23 → Ft.elemF ((k : Nat) : Int) = (0, 0, false) := by decide +kernel
    exact this ⟨k, by omega⟩ (by simp only; omega)
  · have h0 : Ft.kindOf x = (0, 0, 0) := by
      unfold Ft.kindOf
      split
      · rfl
      · unfold Ft.kindRow
        split <;> first | rfl | omega
    unfold Ft.elemF
    rw [h0]; decide
set_option maxRecDepth 100000 in
set_option maxHeartbeats 4000000 in
theorem relem_any (x : Int) (w : World) : Calls Try.prog 87 #[.int .i64 x] w fun r w' => r = .returned (.tuple #[.int .i64 (Ft.elemF x).1, .int .i64 (Ft.elemF x).2.1, .bool (Ft.elemF x).2.2]) ∧ w' = w := by
  by_cases h11 : x = 11
  · subst h11
    have HV : Hid (Ft.elemF 11 = (1, 0, true)) := by show _ = _; decide +kernel
    rw [HV.out]
    go_enter Try.func87, Try.ntmps87
    go_wp2_with fail
    go_ret3
    exact ⟨rfl, rfl⟩
  by_cases h12 : x = 12
  · subst h12
    have HV : Hid (Ft.elemF 12 = (2, 0, true)) := by show _ = _; decide +kernel
    rw [HV.out]
    go_enter Try.func87, Try.ntmps87
    go_wp2_with fail
    go_ret3
    exact ⟨rfl, rfl⟩
  by_cases h14 : x = 14
  · subst h14
    have HV : Hid (Ft.elemF 14 = (4, 0, true)) := by show _ = _; decide +kernel
    rw [HV.out]
    go_enter Try.func87, Try.ntmps87
    go_wp2_with fail
    go_ret3
    exact ⟨rfl, rfl⟩
  by_cases h36 : x = 36
  · subst h36
    have HV : Hid (Ft.elemF 36 = (26, 0, true)) := by show _ = _; decide +kernel
    rw [HV.out]
    go_enter Try.func87, Try.ntmps87
    go_wp2_with fail
    go_ret3
    exact ⟨rfl, rfl⟩
  by_cases h16 : x = 16
  · subst h16
    have HV : Hid (Ft.elemF 16 = (1, 2, true)) := by show _ = _; decide +kernel
    rw [HV.out]
    go_enter Try.func87, Try.ntmps87
    go_wp2_with fail
    go_ret3
    exact ⟨rfl, rfl⟩
  by_cases h19 : x = 19
  · subst h19
    have HV : Hid (Ft.elemF 19 = (1, 3, true)) := by show _ = _; decide +kernel
    rw [HV.out]
    go_enter Try.func87, Try.ntmps87
    go_wp2_with fail
    go_ret3
    exact ⟨rfl, rfl⟩
  by_cases h22 : x = 22
  · subst h22
    have HV : Hid (Ft.elemF 22 = (1, 4, true)) := by show _ = _; decide +kernel
    rw [HV.out]
    go_enter Try.func87, Try.ntmps87
    go_wp2_with fail
    go_ret3
    exact ⟨rfl, rfl⟩
  by_cases h17 : x = 17
  · subst h17
    have HV : Hid (Ft.elemF 17 = (2, 2, true)) := by show _ = _; decide +kernel
    rw [HV.out]
    go_enter Try.func87, Try.ntmps87
    go_wp2_with fail
    go_ret3
    exact ⟨rfl, rfl⟩
  by_cases h20 : x = 20
  · subst h20
    have HV : Hid (Ft.elemF 20 = (2, 3, true)) := by show _ = _; decide +kernel
    rw [HV.out]
    go_enter Try.func87, Try.ntmps87
    go_wp2_with fail
    go_ret3
    exact ⟨rfl, rfl⟩
  by_cases h23 : x = 23
  · subst h23
    have HV : Hid (Ft.elemF 23 = (2, 4, true)) := by show _ = _; decide +kernel
    rw [HV.out]
    go_enter Try.func87, Try.ntmps87
    go_wp2_with fail
    go_ret3
    exact ⟨rfl, rfl⟩
  have HV : Hid (Ft.elemF x = (0, 0, false)) := elem_list x ⟨h11, h12, h14, h36, h16, h19, h22, h17, h20, h23⟩
  rw [HV.out]
  have b11 : (x == 11) = false := by simpa using h11
  have b12 : (x == 12) = false := by simpa using h12
  have b14 : (x == 14) = false := by simpa using h14
  have b36 : (x == 36) = false := by simpa using h36
  have b16 : (x == 16) = false := by simpa using h16
  have b19 : (x == 19) = false := by simpa using h19
  have b22 : (x == 22) = false := by simpa using h22
  have b17 : (x == 17) = false := by simpa using h17
  have b20 : (x == 20) = false := by simpa using h20
  have b23 : (x == 23) = false := by simpa using h23
  clear h11 h12 h14 h36 h16 h19 h22 h17 h20 h23
  go_enter Try.func87, Try.ntmps87
  go_wp2_with fail
  go_ret3
  exact ⟨rfl, rfl⟩
set_option maxRecDepth 100000 in
set_option maxHeartbeats 4000000 in
theorem rcode_any (k : Nat) (hk : k < 4) (w : World) : Calls Try.prog 45 #[.int .i64 k] w fun r w' => r = .returned (.int .i64 (2 ^ k)) ∧ w' = w := by
  obtain rfl | rfl | rfl | rfl : k = 0 ∨ k = 1 ∨ k = 2 ∨ k = 3 := by omega
  · go_enter Try.func45, Try.ntmps45
    go_wp2_with fail
    go_ret
    exact ⟨rfl, rfl⟩
  · go_enter Try.func45, Try.ntmps45
    go_wp2_with fail
    go_ret
    exact ⟨rfl, rfl⟩
  · go_enter Try.func45, Try.ntmps45
    go_wp2_with fail
    go_ret
    exact ⟨rfl, rfl⟩
  · go_enter Try.func45, Try.ntmps45
    go_wp2_with fail
    go_ret
    exact ⟨rfl, rfl⟩
set_option maxRecDepth 100000 in
set_option maxHeartbeats 4000000 in
theorem runpack_any (c : Nat) (w : World) (hc : c < 256) : Calls Try.prog 25 #[.int .u8 c] w fun r w' => r = .returned (.tuple #[.int .i64 (Ft.unpackF c).1, .int .i64 (Ft.unpackF c).2.1, .int .i64 (Ft.unpackF c).2.2]) ∧ w' = w := by
  have hw : IntKind.i64.wrap (c : Int) = c := by rw [IntKind.wrap_i64]; omega
  have hq : Int.tdiv (c : Int) 4 = ((c / 4 : Nat) : Int) := by rw [Int.tdiv_eq_ediv_of_nonneg (by omega)]; omega
  have hm : Int.tmod (c : Int) 4 = ((c % 4 : Nat) : Int) := by rw [Int.tmod_eq_emod_of_nonneg (by omega)]; omega
  have hw2 : IntKind.i64.wrap ((c / 4 : Nat) : Int) = ((c / 4 : Nat) : Int) := by rw [IntKind.wrap_i64]; omega
  have hw3 : IntKind.i64.wrap ((c % 4 : Nat) : Int) = ((c % 4 : Nat) : Int) := by rw [IntKind.wrap_i64]; omega
  have hlt : c % 4 < 4 := by omega
  unfold Ft.unpackF
  generalize c / 4 = q at *
  generalize c % 4 = m at *
  cases hl : Ft.legalB (q : Int)
  · have HL : Hid (Calls Try.prog 44 #[.int .i64 (q : Int)] w fun r w' => r = .returned (.bool false) ∧ w' = w) := by show Calls _ _ _ _ _; rw [← hl]; exact rlegal_any _ w
    simp only [Bool.false_eq_true, if_false]
    clear hl
    go_enter Try.func25, Try.ntmps25
    go_wp2_with fail
    refine HL.out.mono ?_
    rintro r w' ⟨rfl, rfl⟩
    go_wp2_with fail
    go_ret3
    exact ⟨rfl, rfl⟩
  · have HL : Hid (Calls Try.prog 44 #[.int .i64 (q : Int)] w fun r w' => r = .returned (.bool true) ∧ w' = w) := by show Calls _ _ _ _ _; rw [← hl]; exact rlegal_any _ w
    simp only [if_true]
    clear hl
    go_enter Try.func25, Try.ntmps25
    go_wp2_with fail
    refine HL.out.mono ?_
    rintro r w' ⟨rfl, rfl⟩
    go_wp2_with fail
    refine (rcode_any m hlt w').mono ?_
    rintro r w2 ⟨rfl, rfl⟩
    go_wp2_with fail
    go_ret3
    exact ⟨rfl, rfl⟩
/-- The error of a place. -/
def lookE (d : List UInt8) (at_ x : Int) : Int := if isW x = true then (if at_ < 0 ∨ at_ > d.length - x then 6 else 0) else 2
theorem look_load (d : List UInt8) (at_ x : Int) : (loadF d at_ x).2 = lookE d at_ x := by
  unfold loadF lookE
  repeat' split
  all_goals first | rfl | contradiction
set_option maxRecDepth 100000 in
set_option maxHeartbeats 4000000 in
theorem look1_any (a : Option Addr) (c : Nat) (d : List UInt8) (at_ x : Int) (hd : d.length ≤ 1048576) (w : World) : Calls Try.prog 105 #[.slice a d.length c, .int .i64 at_, .int .i64 x] w fun r w' => r = .returned (.int .i64 (lookE d at_ x)) ∧ w' = w := by
  obtain ⟨n, hn⟩ : ∃ n, d.length = n := ⟨_, rfl⟩
  unfold lookE
  rw [hn] at hd ⊢
  clear hn
  cases hx : isW x
  · have HW : Hid (Calls Try.prog 114 #[.int .i64 x] w fun r w' => r = .returned (.bool false) ∧ w' = w) := by show Calls _ _ _ _ _; rw [← hx]; exact rwide_any _ w
    clear hx
    simp only [Bool.false_eq_true, if_false]
    go_enter Try.func105, Try.ntmps105
    go_wp2_with fail
    refine HW.out.mono ?_
    rintro r w' ⟨rfl, rfl⟩
    go_wp2_with fail
    go_ret
    exact ⟨rfl, rfl⟩
  have HW : Hid (Calls Try.prog 114 #[.int .i64 x] w fun r w' => r = .returned (.bool true) ∧ w' = w) := by show Calls _ _ _ _ _; rw [← hx]; exact rwide_any _ w
  have hx8 : 1 ≤ x ∧ x ≤ 8 := by rcases isW_cases hx with rfl | rfl | rfl | rfl <;> omega
  have hwr : IntKind.i64.wrap ((n : Int) - x) = (n : Int) - x := by rw [IntKind.wrap_i64]; omega
  clear hx
  simp only [if_true]
  obtain ⟨res, hres⟩ : ∃ e : Int, (if at_ < 0 ∨ at_ > (n : Int) - x then (6 : Int) else 0) = e := ⟨_, rfl⟩
  rw [hres]
  have HRES := Lib.hid hres
  clear hres
  go_enter Try.func105, Try.ntmps105
  go_wp2_with fail
  refine HW.out.mono ?_
  rintro r w' ⟨rfl, rfl⟩
  by_cases h1 : at_ < 0
  · have HV : Hid (res = 6) := by show _ = _; rw [← HRES.out, if_pos (.inl h1)]
    go_wp2_with fail
    go_ret
    exact ⟨by rw [HV.out]; rfl, rfl⟩
  by_cases h2 : (n : Int) < x
  · have HV : Hid (res = 6) := by show _ = _; rw [← HRES.out, if_pos (.inr (by omega))]
    go_wp2_with fail
    go_ret
    exact ⟨by rw [HV.out]; rfl, rfl⟩
  by_cases h3 : (n : Int) - x < at_
  · have HV : Hid (res = 6) := by show _ = _; rw [← HRES.out, if_pos (.inr (by omega))]
    go_wp2_with fail
    go_ret
    exact ⟨by rw [HV.out]; rfl, rfl⟩
  · have HV : Hid (res = 0) := by show _ = _; rw [← HRES.out, if_neg (by omega)]
    go_wp2_with fail
    go_ret
    exact ⟨by rw [HV.out]; rfl, rfl⟩
theorem leF_bound (l : List UInt8) (k : Nat) (hk : k ≤ 8) (h : l.length ≤ k) : 0 ≤ leF l ∧ leF l < 256 ^ k := by
  refine ⟨leF_lo _, Int.lt_of_lt_of_le (leF_hi _) ?_⟩
  have h2 := Nat.pow_le_pow_right (n := 256) (by decide) h
  have : ((256 ^ l.length : Nat) : Int) ≤ ((256 ^ k : Nat) : Int) := Int.ofNat_le.2 h2
  simpa using this
theorem le_step (d : List UInt8) (a j k : Nat) (b : UInt8) (hb : d[a + j]? = some b) (hjk : j < k) (hk : k ≤ 8) :
    leF ((d.drop (a + j)).take (k - j)) = b.toNat + 256 * leF ((d.drop (a + (j + 1))).take (k - (j + 1))) ∧ 0 ≤ leF ((d.drop (a + (j + 1))).take (k - (j + 1))) ∧ leF ((d.drop (a + (j + 1))).take (k - (j + 1))) < 72057594037927936 := by
  have hlt := (List.getElem?_eq_some_iff.1 hb).1
  have he : d.drop (a + j) = b :: d.drop (a + (j + 1)) := by
    rw [List.drop_eq_getElem_cons hlt]; congr 1
    exact (List.getElem?_eq_some_iff.1 hb).2
  have h7 := leF_bound ((d.drop (a + (j + 1))).take (k - (j + 1))) 7 (by omega) (by rw [List.length_take]; omega)
  refine ⟨?_, h7.1, by have := h7.2; simpa using this⟩
  rw [he, show k - j = (k - (j + 1)) + 1 by omega, List.take_succ_cons]
  rfl
set_option maxRecDepth 100000 in
set_option maxHeartbeats 4000000 in
theorem rload_any (d : List UInt8) (dv : Value) (at_ x : Int) (w : World) (hD : DocAt w dv d) : Calls Try.prog 85 #[dv, .int .i64 at_, .int .i64 x] w fun r w' => r = .returned (.tuple #[.int .u64 (loadF d at_ x).1, .int .i64 (loadF d at_ x).2]) ∧ w' = w := by
  have HL := look_load d at_ x
  have hlen := hD.2.1
  have HD := Lib.hid hD
  obtain ⟨a, c, rfl, _⟩ := hD.form
  have HK : Hid (∀ w, Calls Try.prog 105 #[.slice a d.length c, .int .i64 at_, .int .i64 x] w fun r w' => r = .returned (.int .i64 (lookE d at_ x)) ∧ w' = w) := look1_any a c d at_ x hlen
  clear hD
  by_cases he : lookE d at_ x = 0
  rotate_left
  · have e1 : loadF d at_ x = (0, lookE d at_ x) := by
      have hp := (loadF_pos d at_ x).2.2 (by rw [HL]; exact he)
      exact Prod.ext hp HL
    rw [e1]
    have hb : (lookE d at_ x != 0) = true := by simpa using he
    clear he HL e1
    generalize lookE d at_ x = e at *
    go_enter Try.func85, Try.ntmps85
    go_wp2_with fail
    refine (HK.out w).mono ?_
    rintro r w' ⟨rfl, rfl⟩
    go_wp2_with fail
    go_ret2
    exact ⟨rfl, rfl⟩
  rw [he] at HK
  obtain ⟨hx, hr1, hr2⟩ : isW x = true ∧ 0 ≤ at_ ∧ at_ ≤ d.length - x := by
    unfold lookE at he
    split at he
    · rename_i hx
      split at he
      · exact absurd he (by decide)
      · exact ⟨hx, by omega, by omega⟩
    · exact absurd he (by decide)
  have hx8 : 1 ≤ x ∧ x ≤ 8 := by rcases isW_cases hx with rfl | rfl | rfl | rfl <;> omega
  obtain ⟨k, rfl⟩ := Int.eq_ofNat_of_zero_le (show 0 ≤ x by omega)
  obtain ⟨m, rfl⟩ := Int.eq_ofNat_of_zero_le hr1
  have e1 : loadF d (m : Int) (k : Int) = (leF ((d.drop m).take k), 0) := by
    unfold loadF
    rw [if_pos hx, if_neg (by omega)]
    rfl
  rw [e1]
  have hk1 : 1 ≤ k ∧ k ≤ 8 := by omega
  have hmk : m + k ≤ d.length := by omega
  obtain ⟨bl, off, rfl⟩ : ∃ bl off, a = some ⟨bl, off, none⟩ := by
    obtain ⟨⟨a', c', e, _, _, h⟩, _⟩ := HD.out
    cases e
    obtain ⟨bl, off, e, _⟩ := h m d[m] (List.getElem?_eq_getElem (by omega))
    exact ⟨bl, off, e⟩
  have hcell : ∀ j b, d[j]? = some b → w.cell? ⟨bl, off + j, none⟩ = some (.int .u8 b.toNat) := by
    intro j b hb
    obtain ⟨⟨a', c', e, _, _, h⟩, _⟩ := HD.out
    cases e
    obtain ⟨bl', off', e, hc⟩ := h j b hb
    cases e
    exact hc
  have HC := Lib.hid hcell
  have hwk : IntKind.i64.wrap ((k : Int) - 1) = (k : Int) - 1 := by rw [IntKind.wrap_i64]; omega
  clear e1 hr1 hr2 hx hx8 he HL HD hcell
  go_enter Try.func85, Try.ntmps85
  go_wp2_with fail
  refine (HK.out w).mono ?_
  rintro r w' ⟨rfl, rfl⟩
  go_wp2_with fail
  go_loop [9, 10] (fun n i => ∃ j : Nat, j ≤ k ∧ i = .int .i64 ((j : Int) - 1) ∧ n = .int .u64 (leF ((d.drop (m + j)).take (k - j)))) (fun n i => (intOf i + 1).toNat)
  case atStart => exact ⟨k, Nat.le_refl _, rfl, by simp [leF]⟩
  case round =>
    obtain ⟨j, hj, rfl, rfl⟩ := hrel
    cases j with
    | zero =>
      have hneg : ((0 : Nat) : Int) - 1 = -1 := by omega
      rw [hneg]
      go_wp2_with fail
      go_ret2
      exact ⟨rfl, rfl⟩
    | succ j =>
      obtain ⟨b, hb⟩ : ∃ b, d[m + j]? = some b := ⟨_, List.getElem?_eq_getElem (by omega)⟩
      have hs := le_step d m j k b hb (by omega) hk1.2
      have hc := HC.out _ _ hb
      have hbn : b.toNat < 256 := UInt8.toNat_lt _
      have hj1 : (((j + 1 : Nat) : Int)) - 1 = (j : Int) := by omega
      rw [hj1]
      obtain ⟨u, hu⟩ : ∃ u, leF ((d.drop (m + (j + 1))).take (k - (j + 1))) = u := ⟨_, rfl⟩
      rw [hu] at hs ⊢
      obtain ⟨hs1, hs2, hs3⟩ := hs
      have HS := Lib.hid hs1
      have hw1 : IntKind.u64.wrap (256 * u) = 256 * u := by rw [IntKind.wrap_u64]; omega
      have hw2 : IntKind.u64.wrap ((b.toNat : Int)) = (b.toNat : Int) := by rw [IntKind.wrap_u64]; omega
      have hw3 : IntKind.u64.wrap (256 * u + (b.toNat : Int)) = 256 * u + (b.toNat : Int) := by rw [IntKind.wrap_u64]; omega
      have hw4 : IntKind.i64.wrap ((m : Int) + (j : Int)) = (m : Int) + (j : Int) := by rw [IntKind.wrap_i64]; omega
      have hw5 : IntKind.i64.wrap ((j : Int) - 1) = (j : Int) - 1 := by rw [IntKind.wrap_i64]; omega
      have hn : ((m : Int) + (j : Int)).toNat = m + j := by omega
      have hg : 0 ≤ (m : Int) + (j : Int) ∧ (m : Int) + (j : Int) < d.length := by omega
      have hj0 : 0 ≤ (j : Int) := by omega
      have hk' : j ≤ k := by omega
      clear hs1 hb hu hj1 hj
      go_wp2_with fail
      go_round
      case rel => exact ⟨j, hk', rfl, by rw [HS.out, Int.add_comm]⟩
      case measure => simp [intOf]
set_option maxRecDepth 100000 in
set_option maxHeartbeats 4000000 in
theorem rloadInt_any (d : List UInt8) (dv : Value) (at_ x : Int) (w : World) (hD : DocAt w dv d) : Calls Try.prog 86 #[dv, .int .i64 at_, .int .i64 x] w fun r w' => r = .returned (.tuple #[.int .i64 (loadIntF d at_ x).1, .int .i64 (loadIntF d at_ x).2]) ∧ w' = w := by
  have HL := Lib.hid (rload_any d dv at_ x w hD)
  have hok := loadF_ok (l := d) (at_ := at_) (x := x)
  obtain ⟨a, c, rfl, _⟩ := hD.form
  clear hD
  unfold loadIntF
  generalize loadF d at_ x = q at *
  obtain ⟨u, e⟩ := q
  simp only at hok HL ⊢
  by_cases he : e = 0
  rotate_left
  · rw [if_neg he]
    have hb : (e != 0) = true := by simpa using he
    clear he hok
    go_enter Try.func86, Try.ntmps86
    go_wp2_with fail
    refine HL.out.mono ?_
    rintro r w' ⟨rfl, rfl⟩
    go_wp2_with fail
    go_ret2
    exact ⟨rfl, rfl⟩
  subst he
  rw [if_pos rfl]
  obtain ⟨hx, hu0, hu1⟩ := hok rfl
  rcases isW_cases hx with rfl | rfl | rfl | rfl
  · have hu2 : u < 256 := by simpa using hu1
    unfold sgnF
    simp only [Int.reduceToNat, Nat.reduceMul, Nat.reduceSub]
    by_cases hh : u < 128
    · rw [if_pos (by simpa using hh)]
      have hwu : IntKind.i64.wrap u = u := by rw [IntKind.wrap_i64]; omega
      clear hu1 hok hx
      go_enter Try.func86, Try.ntmps86
      go_wp2_with fail
      refine HL.out.mono ?_
      rintro r w' ⟨rfl, rfl⟩
      go_wp2_with fail
      go_ret2
      exact ⟨rfl, rfl⟩
    · rw [if_neg (by simpa using hh)]
      have hwu : IntKind.i64.wrap u = u := by rw [IntKind.wrap_i64]; omega
      have hws : IntKind.i64.wrap (u - 256) = u - 256 := by rw [IntKind.wrap_i64]; omega
      have hpw : ((2 : Int) ^ 8) = 256 := by decide +kernel
      rw [hpw]
      clear hu1 hok hx
      go_enter Try.func86, Try.ntmps86
      go_wp2_with fail
      refine HL.out.mono ?_
      rintro r w' ⟨rfl, rfl⟩
      go_wp2_with fail
      go_ret2
      exact ⟨rfl, rfl⟩
  · have hu2 : u < 65536 := by simpa using hu1
    unfold sgnF
    simp only [Int.reduceToNat, Nat.reduceMul, Nat.reduceSub]
    by_cases hh : u < 32768
    · rw [if_pos (by simpa using hh)]
      have hwu : IntKind.i64.wrap u = u := by rw [IntKind.wrap_i64]; omega
      clear hu1 hok hx
      go_enter Try.func86, Try.ntmps86
      go_wp2_with fail
      refine HL.out.mono ?_
      rintro r w' ⟨rfl, rfl⟩
      go_wp2_with fail
      go_ret2
      exact ⟨rfl, rfl⟩
    · rw [if_neg (by simpa using hh)]
      have hwu : IntKind.i64.wrap u = u := by rw [IntKind.wrap_i64]; omega
      have hws : IntKind.i64.wrap (u - 65536) = u - 65536 := by rw [IntKind.wrap_i64]; omega
      have hpw : ((2 : Int) ^ 16) = 65536 := by decide +kernel
      rw [hpw]
      clear hu1 hok hx
      go_enter Try.func86, Try.ntmps86
      go_wp2_with fail
      refine HL.out.mono ?_
      rintro r w' ⟨rfl, rfl⟩
      go_wp2_with fail
      go_ret2
      exact ⟨rfl, rfl⟩
  · have hu2 : u < 4294967296 := by simpa using hu1
    unfold sgnF
    simp only [Int.reduceToNat, Nat.reduceMul, Nat.reduceSub]
    by_cases hh : u < 2147483648
    · rw [if_pos (by simpa using hh)]
      have hwu : IntKind.i64.wrap u = u := by rw [IntKind.wrap_i64]; omega
      clear hu1 hok hx
      go_enter Try.func86, Try.ntmps86
      go_wp2_with fail
      refine HL.out.mono ?_
      rintro r w' ⟨rfl, rfl⟩
      go_wp2_with fail
      go_ret2
      exact ⟨rfl, rfl⟩
    · rw [if_neg (by simpa using hh)]
      have hwu : IntKind.i64.wrap u = u := by rw [IntKind.wrap_i64]; omega
      have hws : IntKind.i64.wrap (u - 4294967296) = u - 4294967296 := by rw [IntKind.wrap_i64]; omega
      have hpw : ((2 : Int) ^ 32) = 4294967296 := by decide +kernel
      rw [hpw]
      clear hu1 hok hx
      go_enter Try.func86, Try.ntmps86
      go_wp2_with fail
      refine HL.out.mono ?_
      rintro r w' ⟨rfl, rfl⟩
      go_wp2_with fail
      go_ret2
      exact ⟨rfl, rfl⟩
  · have hu2 : u < 18446744073709551616 := by simpa using hu1
    unfold sgnF
    simp only [Int.reduceToNat, Nat.reduceMul, Nat.reduceSub]
    by_cases hh : u < 9223372036854775808
    · rw [if_pos (by simpa using hh)]
      have hwu : IntKind.i64.wrap u = u := by rw [IntKind.wrap_i64]; omega
      clear hu1 hok hx
      go_enter Try.func86, Try.ntmps86
      go_wp2_with fail
      refine HL.out.mono ?_
      rintro r w' ⟨rfl, rfl⟩
      go_wp2_with fail
      go_ret2
      exact ⟨rfl, rfl⟩
    · rw [if_neg (by simpa using hh)]
      have hwu : IntKind.i64.wrap u = u - 18446744073709551616 := by rw [IntKind.wrap_i64]; omega
      have hws : IntKind.i64.wrap (u - 18446744073709551616) = u - 18446744073709551616 := by rw [IntKind.wrap_i64]; omega
      have hpw : ((2 : Int) ^ 64) = 18446744073709551616 := by decide +kernel
      rw [hpw]
      clear hu1 hok hx
      go_enter Try.func86, Try.ntmps86
      go_wp2_with fail
      refine HL.out.mono ?_
      rintro r w' ⟨rfl, rfl⟩
      go_wp2_with fail
      go_ret2
      exact ⟨rfl, rfl⟩
def numR (d : List UInt8) (at_ x : Int) : Int × Bool := (if (numF d at_ x).2 = true then (numF d at_ x).1 else 0, (numF d at_ x).2)
set_option maxRecDepth 100000 in
set_option maxHeartbeats 4000000 in
theorem r27num_any (d : List UInt8) (dv : Value) (at_ x : Int) (w : World) (hD : DocAt w dv d) : Calls Try.prog 53 #[dv, .int .i64 at_, .int .i64 x] w fun r w' => r = .returned (.tuple #[.int .i64 (numR d at_ x).1, .bool (numR d at_ x).2]) ∧ w' = w := by
  have HL := Lib.hid (rload_any d dv at_ x w hD)
  have hp := loadF_pos d at_ x
  obtain ⟨a, c, rfl, _⟩ := hD.form
  clear hD
  unfold numR numF
  generalize loadF d at_ x = q at *
  obtain ⟨u, e⟩ := q
  simp only at hp HL ⊢
  by_cases he : e = 0
  rotate_left
  · have hb : (e != 0) = true := by simpa using he
    simp only [he, decide_false, Bool.false_and, Bool.false_eq_true, if_false]
    clear he hp
    go_enter Try.func53, Try.ntmps53
    go_wp2_with fail
    refine HL.out.mono ?_
    rintro r w' ⟨rfl, rfl⟩
    go_wp2_with fail
    go_ret2
    exact ⟨rfl, rfl⟩
  subst he
  by_cases hu : u ≤ 9007199254740992
  · have hwu : IntKind.i64.wrap u = u := by rw [IntKind.wrap_i64]; omega
    have hm : min u 9007199254740992 = u := by omega
    simp only [hu, decide_true, Bool.true_and, if_true, hm]
    clear hm hp
    go_enter Try.func53, Try.ntmps53
    go_wp2_with fail
    refine HL.out.mono ?_
    rintro r w' ⟨rfl, rfl⟩
    go_wp2_with fail
    go_ret2
    exact ⟨rfl, rfl⟩
  · simp only [hu, decide_true, decide_false, Bool.and_false, Bool.false_eq_true, if_false]
    clear hp
    go_enter Try.func53, Try.ntmps53
    go_wp2_with fail
    refine HL.out.mono ?_
    rintro r w' ⟨rfl, rfl⟩
    go_wp2_with fail
    go_ret2
    exact ⟨rfl, rfl⟩
set_option maxRecDepth 100000 in
set_option maxHeartbeats 4000000 in
theorem leaf_any (t : Tr) (tv : Value) (k2 n2 u2 : Int) (s2 : ByteArray) (w : World) (hn : NodeAt w t tv) : Calls Try.prog 55 #[tv, .agg #[.int .i64 k2, .int .i64 n2, .int .u64 u2, .string s2, .slice none 0 0, .slice none 0 0]] w fun r w' => r = .returned (.bool (bareF t k2 n2 u2 s2)) ∧ Grew w w' := by
  obtain ⟨k, n, u, s, keys, l⟩ := t
  simp only [NodeAt] at hn
  obtain ⟨_, kv, lv, vs, rfl, hks, hrl, hkids⟩ := hn
  have hkl := hkids.length
  obtain ⟨a4, c4, rfl, _, hc4, _⟩ := hks
  obtain ⟨a5, c5, rfl, _, hc5, _⟩ := hrl
  rw [hkl]
  have hk1 : keys.length ≤ 9223372036854775807 := by unfold lenok at hc4; omega
  have hl1 : l.length ≤ 9223372036854775807 := by unfold lenok at hc5; omega
  clear hkids hkl hc4 hc5
  by_cases h0 : k = k2
  rotate_left
  · have HF : Hid (bareF (.mk k n u s keys l) k2 n2 u2 s2 =  false) := by show _ = _; simp [bareF, Tr.kind, Tr.fn, Tr.fu, Tr.fs, Tr.keys, Tr.kids, h0]
    rw [HF.out]
    have hB : (k == k2) = false := by simp [h0]
    clear h0
    go_enter Try.func55, Try.ntmps55
    go_wp2_with fail
    go_ret
    exact ⟨rfl, ((Grew.refl w).alloc _).alloc _⟩
  subst h0
  by_cases h1 : n = n2
  rotate_left
  · have HF : Hid (bareF (.mk k n u s keys l) k n2 u2 s2 =  false) := by show _ = _; simp [bareF, Tr.kind, Tr.fn, Tr.fu, Tr.fs, Tr.keys, Tr.kids, h1]
    rw [HF.out]
    have hB : (n == n2) = false := by simp [h1]
    clear h1
    go_enter Try.func55, Try.ntmps55
    go_wp2_with fail
    go_ret
    exact ⟨rfl, ((Grew.refl w).alloc _).alloc _⟩
  subst h1
  by_cases h2 : u = u2
  rotate_left
  · have HF : Hid (bareF (.mk k n u s keys l) k n u2 s2 =  false) := by show _ = _; simp [bareF, Tr.kind, Tr.fn, Tr.fu, Tr.fs, Tr.keys, Tr.kids, h2]
    rw [HF.out]
    have hB : (u == u2) = false := by simp [h2]
    clear h2
    go_enter Try.func55, Try.ntmps55
    go_wp2_with fail
    go_ret
    exact ⟨rfl, ((Grew.refl w).alloc _).alloc _⟩
  subst h2
  by_cases h3 : s = s2
  rotate_left
  · have HF : Hid (bareF (.mk k n u s keys l) k n u s2 =  false) := by show _ = _; simp [bareF, Tr.kind, Tr.fn, Tr.fu, Tr.fs, Tr.keys, Tr.kids, h3]
    rw [HF.out]
    have hB : (s.toList == s2.toList) = false := by rw [str_eq]; exact decide_eq_false h3
    clear h3
    go_enter Try.func55, Try.ntmps55
    go_wp2_with fail
    go_ret
    exact ⟨rfl, ((Grew.refl w).alloc _).alloc _⟩
  subst h3
  by_cases h4 : keys.length = 0
  rotate_left
  · have HF : Hid (bareF (.mk k n u s keys l) k n u s =  false) := by show _ = _; simp [bareF, Tr.kind, Tr.fn, Tr.fu, Tr.fs, Tr.keys, Tr.kids, h4]
    rw [HF.out]
    have hB : ¬ ((keys.length : Nat) : Int) = 0 := by omega
    have hB2 : (((keys.length : Nat) : Int) == 0) = false := by rw [beq_eq_false_iff_ne]; omega
    clear h4
    go_enter Try.func55, Try.ntmps55
    go_wp2_with fail
    go_ret
    exact ⟨rfl, ((Grew.refl w).alloc _).alloc _⟩
  by_cases h5 : l.length = 0
  rotate_left
  · have HF : Hid (bareF (.mk k n u s keys l) k n u s =  false) := by show _ = _; simp [bareF, Tr.kind, Tr.fn, Tr.fu, Tr.fs, Tr.keys, Tr.kids, h5]
    rw [HF.out]
    have hB : ¬ ((l.length : Nat) : Int) = 0 := by omega
    have hB2 : (((l.length : Nat) : Int) == 0) = false := by rw [beq_eq_false_iff_ne]; omega
    clear h5
    go_enter Try.func55, Try.ntmps55
    go_wp2_with fail
    go_ret
    exact ⟨rfl, ((Grew.refl w).alloc _).alloc _⟩
  have HF : Hid (bareF (.mk k n u s keys l) k n u s = true) := by show _ = _; simp [bareF, Tr.kind, Tr.fn, Tr.fu, Tr.fs, Tr.keys, Tr.kids, h4, h5]
  rw [HF.out, h4, h5]
  clear h4 h5 hk1 hl1
  go_enter Try.func55, Try.ntmps55
  go_wp2_with fail
  go_ret
  exact ⟨rfl, ((Grew.refl w).alloc _).alloc _⟩
set_option maxRecDepth 100000 in
set_option maxHeartbeats 4000000 in
theorem rzero27_any (s : ByteArray) (w : World) (hs : lenok s.size) : Calls Try.prog 88 #[.string s] w fun r w' => r = .returned (.bool (!decide (keyE s = 0))) ∧ w' = w := by
  have HC := Lib.hid (rcheck_any s w hs)
  obtain ⟨e, he⟩ : ∃ e, keyE s = e := ⟨_, rfl⟩
  rw [he] at HC ⊢
  clear he
  by_cases h0 : e = 0
  · subst h0
    go_enter Try.func88, Try.ntmps88
    go_wp2_with fail
    refine HC.out.mono ?_
    rintro r w' ⟨rfl, rfl⟩
    go_wp2_with fail
    go_ret
    exact ⟨rfl, rfl⟩
  · have hb : (e != 0) = true := by simpa using h0
    have hd : decide (e = 0) = false := decide_eq_false h0
    rw [hd]
    clear h0 hd
    go_enter Try.func88, Try.ntmps88
    go_wp2_with fail
    refine HC.out.mono ?_
    rintro r w' ⟨rfl, rfl⟩
    go_wp2_with fail
    go_ret
    exact ⟨rfl, rfl⟩
end Go.Proofs.Ytlhliolknaopjaa

/-
  Denote: the reference's key, text, kind, ahead. Conditions: the bytes lie in memory.
-/
namespace Go.Proofs.Ytlhliolknaopjaa
open Go Go.ChangeShapes Go.WideShapes Go.ChangeAt Go.RowKit Go.Joins Go.Deep
set_option linter.unusedVariables false
set_option linter.unusedSimpArgs false

set_option maxRecDepth 100000 in
theorem conv8_any (x : List UInt8) (bl off c n : Nat) (w : World) (hn : x.length = n) (h : BytesAt w (.slice (some ⟨bl, off, none⟩) n c) x) : (convert 22 9 (.slice (some ⟨bl, off, none⟩) n c)).run Try.prog w = .ok (.string ⟨x.toArray⟩) w := by
  subst hn
  obtain ⟨a, c', e, _, _, h4⟩ := h
  cases e
  have := run_convert_bytes_arg (P := Try.prog) w 22 5 Try.underlying22 Try.underlying5 bl off x.length c (x.map fun b => (b.toNat : Int)) (by simp) (fun i hi => by
    obtain ⟨b, o, e, hc⟩ := h4 i x[i] (List.getElem?_eq_getElem hi)
    cases e
    rw [hc]
    simp [List.getD_eq_getElem?_getD, hi]) 9 Try.underlying9
  rw [this]
  congr 2
  unfold strOfNums
  simp [Function.comp_def]
theorem has_ends (d : List UInt8) (k : Nat) (s : ByteArray) : hasF d (k : Int) (ends s) = (hasF d (k : Int) s && decide (k + s.size < d.length) && decide (d[k + s.size]? = some 0)) := by
  have hz : (ends s).size = s.size + 1 := by simp [ends, ByteArray.size_append]; rfl
  have hl : (ends s).data.toList = s.data.toList ++ [0] := by simp [ends]
  have hsz : s.data.toList.length = s.size := rfl
  unfold hasF
  rw [hz, hl]
  simp only [Int.toNat_natCast]
  rw [Bool.eq_iff_iff]
  simp only [Bool.and_eq_true, decide_eq_true_eq]
  by_cases h1 : k + s.size < d.length
  · have h2 : (d.drop k).take (s.size + 1) = (d.drop k).take s.size ++ [d[k + s.size]] := by
      rw [List.take_add_one]
      congr 1
      rw [List.getElem?_drop, List.getElem?_eq_getElem h1]
      rfl
    have h3 : ((d.drop k).take (s.size + 1) = s.data.toList ++ [0]) ↔ ((d.drop k).take s.size = s.data.toList ∧ d[k + s.size]? = some 0) := by
      rw [h2, List.getElem?_eq_getElem h1]
      constructor
      · intro h
        have := List.append_inj h (by rw [List.length_take, List.length_drop, hsz]; omega)
        exact ⟨this.1, by simpa using this.2⟩
      · rintro ⟨h, h'⟩
        rw [h]
        congr 2
        simpa using h'
    rw [h3]
    constructor
    · rintro ⟨⟨a, b⟩, c, e⟩; exact ⟨⟨⟨⟨a, by omega⟩, c⟩, h1⟩, e⟩
    · rintro ⟨⟨⟨⟨a, b⟩, c⟩, _⟩, e⟩; exact ⟨⟨a, by omega⟩, c, e⟩
  · constructor
    · rintro ⟨⟨a, b⟩, c⟩; omega
    · rintro ⟨⟨_, h⟩, _⟩; omega
set_option maxRecDepth 100000 in
set_option maxHeartbeats 4000000 in
theorem rkey_any (d : List UInt8) (dv : Value) (at_ : Int) (s : ByteArray) (w : World) (hD : DocAt w dv d) (hp : 0 ≤ at_ ∧ at_ ≤ 1048576) (hs : s.size ≤ 1000) : Calls Try.prog 56 #[dv, .int .i64 at_, .string s] w fun r w' => r = .returned (.bool (decide (keyE s = 0) && hasF d at_ (ends s))) ∧ w' = w := by
  have HZ := Lib.hid (rzero27_any s w (by unfold lenok; omega))
  have HD := Lib.hid hD
  have hdl := hD.2.1
  obtain ⟨a, c, rfl, hdc⟩ := hD.form
  obtain ⟨k, rfl⟩ := Int.eq_ofNat_of_zero_le hp.1
  have hk1 : k ≤ 1048576 := by omega
  rw [has_ends]
  clear hD hp
  by_cases hz : keyE s = 0
  rotate_left
  · have e1 : decide (keyE s = 0) = false := decide_eq_false hz
    rw [e1] at HZ ⊢
    clear hz e1
    go_enter Try.func56, Try.ntmps56
    go_wp2_with fail
    refine HZ.out.mono ?_
    rintro r w' ⟨rfl, rfl⟩
    go_wp2_with fail
    go_ret
    exact ⟨rfl, rfl⟩
  have e1 : decide (keyE s = 0) = true := decide_eq_true hz
  rw [e1] at HZ ⊢
  clear hz e1
  have hwr : IntKind.i64.wrap ((k : Int) + (s.size : Int)) = (k : Int) + (s.size : Int) := by rw [IntKind.wrap_i64]; omega
  by_cases hlt : k + s.size < d.length
  rotate_left
  · have e3 : decide (k + s.size < d.length) = false := decide_eq_false hlt
    rw [e3]
    have hge : (d.length : Int) ≤ (k : Int) + (s.size : Int) := by omega
    have HV : Hid ((true && (hasF d (k : Int) s && false && decide (d[k + s.size]? = some 0))) = false) := by show _ = _; simp
    rw [HV.out]
    clear e3 hlt
    go_enter Try.func56, Try.ntmps56
    go_wp2_with fail
    refine HZ.out.mono ?_
    rintro r w' ⟨rfl, rfl⟩
    go_wp2_with fail
    go_ret
    exact ⟨rfl, rfl⟩
  obtain ⟨bl, off, rfl⟩ : ∃ bl off, a = some ⟨bl, off, none⟩ := by
    obtain ⟨⟨a', c', e, _, _, h⟩, _⟩ := HD.out
    cases e
    obtain ⟨bl, off, e, _⟩ := h k d[k] (List.getElem?_eq_getElem (by omega))
    exact ⟨bl, off, e⟩
  have hcell : ∀ j b, d[j]? = some b → w.cell? ⟨bl, off + j, none⟩ = some (.int .u8 b.toNat) := by
    intro j b hb
    obtain ⟨⟨a', c', e, _, _, h⟩, _⟩ := HD.out
    cases e
    obtain ⟨bl', off', e, hc⟩ := h j b hb
    cases e
    exact hc
  obtain ⟨b, hb⟩ : ∃ b, d[k + s.size]? = some b := ⟨_, List.getElem?_eq_getElem hlt⟩
  have hcb := hcell _ b hb
  have hbn : b.toNat < 256 := UInt8.toNat_lt _
  have hcv := conv8_any ((d.drop k).take s.size) bl (off + k) (c - k) s.size w (by simp; omega) (bytes_cut HD.out.1 k s.size (c - k) (by omega) (by omega))
  have hst := str_of s ((d.drop k).take s.size)
  have hF : hasF d (k : Int) s = decide ((d.drop k).take s.size = s.data.toList) := by
    unfold hasF
    have h1 : decide (0 ≤ (k : Int)) = true := decide_eq_true (by omega)
    have h2 : decide ((s.size : Int) ≤ (d.length : Int) - k) = true := decide_eq_true (by omega)
    rw [h1, h2]; rfl
  have hE : decide (d[k + s.size]? = some 0) = ((b.toNat : Int) == 0) := by
    rw [hb]
    by_cases h : b = 0
    · subst h; rfl
    · have h2 : ¬ (b.toNat : Int) = 0 := fun e => h (UInt8.toNat_inj.1 (by simpa using e))
      have h3 : ((b.toNat : Int) == 0) = false := by simpa using h2
      rw [h3]; exact decide_eq_false fun e => h (by simpa using e)
  have e3 : decide (k + s.size < d.length) = true := decide_eq_true hlt
  rw [hF, hE, e3, ← hst]
  obtain ⟨z, hz⟩ : ∃ z, (d.drop k).take s.size = z := ⟨_, rfl⟩
  rw [hz] at hcv ⊢
  obtain ⟨q, hq⟩ : ∃ q, ((b.toNat : Int) == 0) = q := ⟨_, rfl⟩
  rw [hq]
  have hn : ((k : Int) + (s.size : Int)).toNat = k + s.size := by omega
  have hg1 : 0 ≤ (k : Int) + (s.size : Int) ∧ (k : Int) + (s.size : Int) < d.length := by omega
  have hg2 : (k : Int) + (s.size : Int) ≤ c := by omega
  have hkc : k < c := by omega
  have hk0 : (k : Int) ≤ (k : Int) + (s.size : Int) := by omega
  clear hst hF hE e3 hb hcell hz HD
  cases hc : (z == s.toList)
  · have HV : Hid ((true && (false && true && q)) = false) := by show _ = _; simp
    rw [HV.out]
    go_enter Try.func56, Try.ntmps56
    go_wp2_with fail
    refine HZ.out.mono ?_
    rintro r w' ⟨rfl, rfl⟩
    go_wp2_with fail
    go_ret
    exact ⟨rfl, rfl⟩
  · have HV : Hid ((true && (true && true && q)) = q) := by show _ = _; simp
    rw [HV.out]
    go_enter Try.func56, Try.ntmps56
    go_wp2_with fail
    refine HZ.out.mono ?_
    rintro r w' ⟨rfl, rfl⟩
    go_wp2_with fail
    go_ret
    exact ⟨rfl, rfl⟩
set_option maxRecDepth 100000 in
set_option maxHeartbeats 4000000 in
theorem r27text_any (d : List UInt8) (dv : Value) (at_ x : Int) (s : ByteArray) (en : Bool) (w : World) (hD : DocAt w dv d) (hp : 0 ≤ at_ ∧ at_ ≤ 1048576) (hs : s.size ≤ 1000) (hx : isW x = true) : Calls Try.prog 57 #[dv, .int .i64 at_, .int .i64 x, .string s, .bool en] w fun r w' => r = .returned (.bool ((numF d (at_ - x) x).2 && decide (at_ % x = 0) && decide ((numF d (at_ - x) x).1 = s.size) && hasF d at_ (if en = true then ends s else s))) ∧ w' = w := by
  have hnum := r27num_any d dv (at_ - x) x w hD
  unfold numR at hnum
  have HD := Lib.hid hD
  have hdl := hD.2.1
  obtain ⟨a, c, rfl, hdc⟩ := hD.form
  have ht : Int.tmod at_ x = at_ % x := Int.tmod_eq_emod_of_nonneg hp.1
  obtain ⟨k, rfl⟩ := Int.eq_ofNat_of_zero_le hp.1
  have hk1 : k ≤ 1048576 := by omega
  have hw1 : 1 ≤ x ∧ x ≤ 8 := by rcases isW_cases hx with rfl | rfl | rfl | rfl <;> omega
  have hxn : ∃ kx : Nat, x = (kx : Int) := ⟨x.toNat, by omega⟩
  have hwz : (x == 0) = false := by rw [beq_eq_false_iff_ne]; omega
  have hm0 : 0 ≤ (k : Int) % x ∧ (k : Int) % x < 8 := ⟨Int.emod_nonneg _ (by omega), Int.lt_of_lt_of_le (Int.emod_lt_of_pos _ (by omega)) hw1.2⟩
  have hwm : IntKind.i64.wrap ((k : Int) % x) = (k : Int) % x := by rw [IntKind.wrap_i64]; omega
  have hws : IntKind.i64.wrap ((k : Int) - x) = (k : Int) - x := by rw [IntKind.wrap_i64]; omega
  have hwr : IntKind.i64.wrap ((k : Int) + (s.size : Int)) = (k : Int) + (s.size : Int) := by rw [IntKind.wrap_i64]; omega
  have hpos : (numF d ((k : Int) - x) x).2 = true → 1 ≤ k ∧ k ≤ d.length := by
    intro h
    have hl : (loadF d ((k : Int) - x) x).2 = 0 := by unfold numF at h; simpa using (Bool.and_eq_true_iff.1 h).1
    rw [look_load] at hl
    unfold lookE at hl
    rw [if_pos hx] at hl
    split at hl
    · exact absurd hl (by decide)
    · omega
  obtain ⟨md, hmd⟩ : ∃ q, (k : Int) % x = q := ⟨_, rfl⟩
  rw [hmd] at ht hwm hm0 ⊢
  obtain ⟨q, hq⟩ : ∃ q, numF d ((k : Int) - x) x = q := ⟨_, rfl⟩
  rw [hq] at hnum hpos ⊢
  obtain ⟨nv, ni⟩ := q
  simp only at hnum hpos ⊢
  clear hq hmd hxn hD hp
  cases ni with
  | false =>
    simp only [Bool.false_eq_true, if_false] at hnum
    have HNUM := Lib.hid hnum
    simp only [Bool.false_and]
    clear hpos hnum
    go_enter Try.func57, Try.ntmps57
    go_wp2_with fail
    refine HNUM.out.mono ?_
    rintro r w' ⟨rfl, rfl⟩
    go_wp2_with fail
    go_ret
    exact ⟨rfl, rfl⟩
  | true =>
  simp only [if_true] at hnum
  have HNUM := Lib.hid hnum
  obtain ⟨hk2, hk3⟩ := hpos rfl
  clear hpos hnum
  by_cases hm : md = 0
  rotate_left
  · have hb : (md != 0) = true := by simpa using hm
    simp only [hm, decide_false, Bool.and_false, Bool.false_and]
    clear hm
    go_enter Try.func57, Try.ntmps57
    go_wp2_with fail
    refine HNUM.out.mono ?_
    rintro r w' ⟨rfl, rfl⟩
    go_wp2_with fail
    go_ret
    exact ⟨rfl, rfl⟩
  subst hm
  by_cases hn : nv = s.size
  rotate_left
  · have hb : (nv != (s.size : Int)) = true := by simpa using hn
    simp only [hn, decide_false, Bool.and_false, Bool.false_and]
    clear hn
    go_enter Try.func57, Try.ntmps57
    go_wp2_with fail
    refine HNUM.out.mono ?_
    rintro r w' ⟨rfl, rfl⟩
    go_wp2_with fail
    go_ret
    exact ⟨rfl, rfl⟩
  subst hn
  by_cases hle : k + s.size ≤ d.length
  rotate_left
  · have hF : hasF d (k : Int) s = false := by
      unfold hasF
      have h2 : decide ((s.size : Int) ≤ (d.length : Int) - k) = false := decide_eq_false (by omega)
      rw [h2]; simp
    have hF2 : hasF d (k : Int) (if en = true then ends s else s) = false := by
      cases en
      · exact hF
      · rw [if_pos rfl, has_ends, hF]; rfl
    have hgt : (d.length : Int) < (k : Int) + (s.size : Int) := by omega
    rw [hF2]
    simp only [decide_true, Bool.and_false]
    clear hF hF2 hle
    go_enter Try.func57, Try.ntmps57
    go_wp2_with fail
    refine HNUM.out.mono ?_
    rintro r w' ⟨rfl, rfl⟩
    go_wp2_with fail
    go_ret
    exact ⟨rfl, rfl⟩
  have hle2 : ¬ (d.length : Int) < (k : Int) + (s.size : Int) := by omega
  obtain ⟨bl, off, rfl⟩ : ∃ bl off, a = some ⟨bl, off, none⟩ := by
    obtain ⟨⟨a', c', e, _, _, h⟩, _⟩ := HD.out
    cases e
    obtain ⟨bl, off, e, _⟩ := h 0 d[0] (List.getElem?_eq_getElem (by omega))
    exact ⟨bl, off, e⟩
  have hcell : ∀ j b, d[j]? = some b → w.cell? ⟨bl, off + j, none⟩ = some (.int .u8 b.toNat) := by
    intro j b hb
    obtain ⟨⟨a', c', e, _, _, h⟩, _⟩ := HD.out
    cases e
    obtain ⟨bl', off', e, hc⟩ := h j b hb
    cases e
    exact hc
  have hF : hasF d (k : Int) s = ((d.drop k).take s.size == s.toList) := by
    rw [str_of]
    unfold hasF
    have h1 : decide (0 ≤ (k : Int)) = true := decide_eq_true (by omega)
    have h2 : decide ((s.size : Int) ≤ (d.length : Int) - k) = true := decide_eq_true (by omega)
    rw [h1, h2]; rfl
  have hcv : (if k < c then (convert 22 9 (.slice (some ⟨bl, off + k, none⟩) s.size (c - k))).run Try.prog w = .ok (.string ⟨((d.drop k).take s.size).toArray⟩) w else (convert 22 9 (.slice (some ⟨bl, off, none⟩) 0 0)).run Try.prog w = .ok (.string ⟨((d.drop k).take s.size).toArray⟩) w ∧ s.size = 0 ∧ k = c) := by
    by_cases hkc : k < c
    · rw [if_pos hkc]
      exact conv8_any ((d.drop k).take s.size) bl (off + k) (c - k) s.size w (by simp; omega) (bytes_cut HD.out.1 k s.size (c - k) (by omega) (by omega))
    · rw [if_neg hkc]
      have hs0 : s.size = 0 := by omega
      have hz : (d.drop k).take s.size = [] := by rw [hs0]; simp
      rw [hz]
      exact ⟨conv8_any [] bl off 0 0 w rfl ⟨some ⟨bl, off, none⟩, 0, by simp, by simp, fun h => (by cases h), fun i b h => by simp at h⟩, hs0, by omega⟩
  have HE : Hid (hasF d (k : Int) (if en = true then ends s else s) = (((d.drop k).take s.size == s.toList) && (!en || (decide (k + s.size < d.length) && decide (d[k + s.size]? = some 0))))) := by
    show _ = _
    cases en
    · rw [if_neg (by decide), hF]; simp
    · rw [if_pos rfl, has_ends, hF, Bool.and_assoc]; simp
  rw [HE.out]
  simp only [decide_true, Bool.true_and]
  have hend : k + s.size < d.length → ∃ b : UInt8, w.cell? ⟨bl, off + (k + s.size), none⟩ = some (.int .u8 b.toNat) ∧ decide (d[k + s.size]? = some 0) = ((b.toNat : Int) == 0) := by
    intro hlt
    obtain ⟨b, hb⟩ : ∃ b, d[k + s.size]? = some b := ⟨_, List.getElem?_eq_getElem hlt⟩
    refine ⟨b, hcell _ b hb, ?_⟩
    rw [hb]
    by_cases h : b = 0
    · subst h; rfl
    · have h2 : ¬ (b.toNat : Int) = 0 := fun e => h (UInt8.toNat_inj.1 (by simpa using e))
      have h3 : ((b.toNat : Int) == 0) = false := by simpa using h2
      rw [h3]; exact decide_eq_false fun e => h (by simpa using e)
  have hn : ((k : Int) + (s.size : Int)).toNat = k + s.size := by omega
  have hg2 : (k : Int) + (s.size : Int) ≤ c := by omega
  have hk0 : (k : Int) ≤ (k : Int) + (s.size : Int) := by omega
  have HEND := Lib.hid hend
  have HCV := Lib.hid hcv
  obtain ⟨z, hz⟩ : ∃ z, (d.drop k).take s.size = z := ⟨_, rfl⟩
  rw [hz] at HCV ⊢
  obtain ⟨z0, hz0⟩ : ∃ q, decide (d[k + s.size]? = some 0) = q := ⟨_, rfl⟩
  rw [hz0] at HEND ⊢
  clear hF HE hcell HD hz hz0 hend hcv
  cases hc : (z == s.toList)
  · simp only [Bool.false_and]
    have hnc : (z != s.toList) = true := by simp [bne, hc]
    by_cases hkc : k < c
    · have hcv := HCV.out
      rw [if_pos hkc] at hcv
      clear HEND
      go_enter Try.func57, Try.ntmps57
      go_wp2_with fail
      refine HNUM.out.mono ?_
      rintro r w' ⟨rfl, rfl⟩
      go_wp2_with fail
      go_ret
      exact ⟨rfl, rfl⟩
    · obtain ⟨hcv, hs0, hkk⟩ := show _ ∧ _ ∧ _ from (by have := HCV.out; rw [if_neg hkc] at this; exact this)
      subst hkk
      clear HEND hkc
      go_enter Try.func57, Try.ntmps57
      go_wp2_with fail
      refine HNUM.out.mono ?_
      rintro r w' ⟨rfl, rfl⟩
      go_wp2_with fail
      go_ret
      exact ⟨rfl, rfl⟩
  · simp only [Bool.true_and]
    have hnc : (z != s.toList) = false := by simp [bne, hc]
    cases en with
    | false =>
      simp only [Bool.not_false, Bool.true_or]
      by_cases hkc : k < c
      · have hcv := HCV.out
        rw [if_pos hkc] at hcv
        clear HEND
        go_enter Try.func57, Try.ntmps57
        go_wp2_with fail
        refine HNUM.out.mono ?_
        rintro r w' ⟨rfl, rfl⟩
        go_wp2_with fail
        go_ret
        exact ⟨rfl, rfl⟩
      · obtain ⟨hcv, hs0, hkk⟩ := show _ ∧ _ ∧ _ from (by have := HCV.out; rw [if_neg hkc] at this; exact this)
        subst hkk
        clear HEND hkc
        go_enter Try.func57, Try.ntmps57
        go_wp2_with fail
        refine HNUM.out.mono ?_
        rintro r w' ⟨rfl, rfl⟩
        go_wp2_with fail
        go_ret
        exact ⟨rfl, rfl⟩
    | true =>
      simp only [Bool.not_true, Bool.false_or]
      by_cases hlt : k + s.size < d.length
      · have hkc : k < c := by omega
        have hcv := HCV.out
        rw [if_pos hkc] at hcv
        obtain ⟨b, hcb, hqb⟩ := HEND.out hlt
        have hbn : b.toNat < 256 := UInt8.toNat_lt _
        rw [hqb, decide_eq_true hlt, Bool.true_and]
        obtain ⟨q, hq⟩ : ∃ q, ((b.toNat : Int) == 0) = q := ⟨_, rfl⟩
        rw [hq]
        have hlti : (k : Int) + (s.size : Int) < d.length := by omega
        have hg0 : 0 ≤ (k : Int) + (s.size : Int) := by omega
        clear HEND hqb
        go_enter Try.func57, Try.ntmps57
        go_wp2_with fail
        refine HNUM.out.mono ?_
        rintro r w' ⟨rfl, rfl⟩
        go_wp2_with fail
        go_ret
        exact ⟨rfl, rfl⟩
      · have hge : ¬ (k : Int) + (s.size : Int) < d.length := by omega
        rw [decide_eq_false hlt, Bool.false_and]
        by_cases hkc : k < c
        · have hcv := HCV.out
          rw [if_pos hkc] at hcv
          clear HEND
          go_enter Try.func57, Try.ntmps57
          go_wp2_with fail
          refine HNUM.out.mono ?_
          rintro r w' ⟨rfl, rfl⟩
          go_wp2_with fail
          go_ret
          exact ⟨rfl, rfl⟩
        · obtain ⟨hcv, hs0, hkk⟩ := show _ ∧ _ ∧ _ from (by have := HCV.out; rw [if_neg hkc] at this; exact this)
          subst hkk
          clear HEND hkc
          go_enter Try.func57, Try.ntmps57
          go_wp2_with fail
          refine HNUM.out.mono ?_
          rintro r w' ⟨rfl, rfl⟩
          go_wp2_with fail
          go_ret
          exact ⟨rfl, rfl⟩
theorem relem_grew (x : Int) (w : World) : Calls Try.prog 87 #[.int .i64 x] w fun r w' => r = .returned (.tuple #[.int .i64 (Ft.elemF x).1, .int .i64 (Ft.elemF x).2.1, .bool (Ft.elemF x).2.2]) ∧ Grew w w' := (relem_any x w).mono fun r w' h => ⟨h.1, by rw [h.2]; exact Grew.refl w⟩
set_option maxRecDepth 100000 in
set_option maxHeartbeats 4000000 in
theorem rahead_any (t : Int) (w : World) : Calls Try.prog 54 #[.int .i64 t] w fun r w' => r = .returned (.int .i64 (aheadF t)) ∧ Grew w w' := by
  have hel := relem_grew t w
  unfold aheadF
  generalize Ft.elemF t = el at *
  obtain ⟨e1, e2, e3⟩ := el
  simp only at hel ⊢
  obtain ⟨res, hres⟩ : ∃ b, (if t = 9 then (3 : Int) else if t = 4 ∨ t = 6 ∨ t = 7 ∨ 0 < e2 then 0 else 1) = b := ⟨_, rfl⟩
  rw [hres]
  have HEL := Lib.hid hel
  have HRES := Lib.hid hres
  clear hel hres
  by_cases h9 : t = 9
  · have HV : Hid (res = 3) := by show _ = _; rw [← HRES.out, if_pos h9]
    subst h9
    go_enter Try.func54, Try.ntmps54
    go_wp2_with fail
    refine HEL.out.mono ?_
    rintro r w1 ⟨rfl, hg⟩
    have HG := Lib.hid hg
    clear hg
    go_wp2_with fail
    go_ret
    exact ⟨by rw [HV.out]; rfl, HG.out⟩
  have b9 : (t == 9) = false := by simpa using h9
  by_cases h4 : t = 4
  · have HV : Hid (res = 0) := by show _ = _; rw [← HRES.out, if_neg h9, if_pos (by omega)]
    clear h9 b9
    subst h4
    go_enter Try.func54, Try.ntmps54
    go_wp2_with fail
    refine HEL.out.mono ?_
    rintro r w1 ⟨rfl, hg⟩
    have HG := Lib.hid hg
    clear hg
    go_wp2_with fail
    go_ret
    exact ⟨by rw [HV.out]; rfl, HG.out⟩
  have b4 : (t == 4) = false := by simpa using h4
  by_cases h6 : t = 6
  · have HV : Hid (res = 0) := by show _ = _; rw [← HRES.out, if_neg h9, if_pos (by omega)]
    clear h9 b9 h4 b4
    subst h6
    go_enter Try.func54, Try.ntmps54
    go_wp2_with fail
    refine HEL.out.mono ?_
    rintro r w1 ⟨rfl, hg⟩
    have HG := Lib.hid hg
    clear hg
    go_wp2_with fail
    go_ret
    exact ⟨by rw [HV.out]; rfl, HG.out⟩
  have b6 : (t == 6) = false := by simpa using h6
  by_cases h7 : t = 7
  · have HV : Hid (res = 0) := by show _ = _; rw [← HRES.out, if_neg h9, if_pos (by omega)]
    clear h9 b9 h4 b4 h6 b6
    subst h7
    go_enter Try.func54, Try.ntmps54
    go_wp2_with fail
    refine HEL.out.mono ?_
    rintro r w1 ⟨rfl, hg⟩
    have HG := Lib.hid hg
    clear hg
    go_wp2_with fail
    go_ret
    exact ⟨by rw [HV.out]; rfl, HG.out⟩
  have b7 : (t == 7) = false := by simpa using h7
  by_cases h0 : 0 < e2
  · have HV : Hid (res = 0) := by show _ = _; rw [← HRES.out, if_neg h9, if_pos (by omega)]
    clear h9 h4 h6 h7
    go_enter Try.func54, Try.ntmps54
    go_wp2_with fail
    refine HEL.out.mono ?_
    rintro r w1 ⟨rfl, hg⟩
    have HG := Lib.hid hg
    clear hg
    go_wp2_with fail
    go_ret
    exact ⟨by rw [HV.out]; rfl, HG.out⟩
  have HV : Hid (res = 1) := by show _ = _; rw [← HRES.out, if_neg h9, if_neg (by omega)]
  clear h9 h4 h6 h7
  go_enter Try.func54, Try.ntmps54
  go_wp2_with fail
  refine HEL.out.mono ?_
  rintro r w1 ⟨rfl, hg⟩
  have HG := Lib.hid hg
  clear hg
  go_wp2_with fail
  go_ret
  exact ⟨by rw [HV.out]; rfl, HG.out⟩
set_option maxRecDepth 100000 in
set_option maxHeartbeats 4000000 in
theorem rkind_any (x : Int) (w : World) : Calls Try.prog 89 #[.int .i64 x] w fun r w' => r = .returned (.tuple #[.int .i64 (shapeF x).1, .int .i64 (shapeF x).2]) ∧ Grew w w' := by
  have HEL := Lib.hid (relem_grew x w)
  unfold shapeF
  by_cases h10 : x = 10
  · rw [if_pos h10]
    subst h10
    clear HEL
    go_enter Try.func89, Try.ntmps89
    go_wp2_with fail
    go_ret2
    exact ⟨rfl, Grew.refl _⟩
  rw [if_neg h10]
  by_cases h11 : x = 11
  · rw [if_pos h11]
    subst h11
    clear HEL
    go_enter Try.func89, Try.ntmps89
    go_wp2_with fail
    go_ret2
    exact ⟨rfl, Grew.refl _⟩
  rw [if_neg h11]
  by_cases h12 : x = 12
  · rw [if_pos h12]
    subst h12
    clear HEL
    go_enter Try.func89, Try.ntmps89
    go_wp2_with fail
    go_ret2
    exact ⟨rfl, Grew.refl _⟩
  rw [if_neg h12]
  by_cases h14 : x = 14
  · rw [if_pos h14]
    subst h14
    clear HEL
    go_enter Try.func89, Try.ntmps89
    go_wp2_with fail
    go_ret2
    exact ⟨rfl, Grew.refl _⟩
  rw [if_neg h14]
  by_cases h36 : x = 36
  · rw [if_pos h36]
    subst h36
    clear HEL
    go_enter Try.func89, Try.ntmps89
    go_wp2_with fail
    go_ret2
    exact ⟨rfl, Grew.refl _⟩
  rw [if_neg h36]
  by_cases h9 : x = 9
  · rw [if_pos h9]
    subst h9
    clear HEL
    go_enter Try.func89, Try.ntmps89
    go_wp2_with fail
    go_ret2
    exact ⟨rfl, Grew.refl _⟩
  rw [if_neg h9]
  have b10 : (x == 10) = false := by simpa using h10
  have b11 : (x == 11) = false := by simpa using h11
  have b12 : (x == 12) = false := by simpa using h12
  have b14 : (x == 14) = false := by simpa using h14
  have b36 : (x == 36) = false := by simpa using h36
  have b9 : (x == 9) = false := by simpa using h9
  clear h10 h11 h12 h14 h36 h9
  obtain ⟨el, hel⟩ : ∃ q, Ft.elemF x = q := ⟨_, rfl⟩
  rw [hel] at HEL ⊢
  clear hel
  obtain ⟨e1, e2, e3⟩ := el
  simp only at HEL ⊢
  by_cases h1 : e1 = 1
  · rw [if_pos h1]
    subst h1
    go_enter Try.func89, Try.ntmps89
    go_wp2_with fail
    refine HEL.out.mono ?_
    rintro r w1 ⟨rfl, hg⟩
    have HG := Lib.hid hg
    clear hg
    go_wp2_with fail
    go_ret2
    exact ⟨rfl, HG.out⟩
  · rw [if_neg h1]
    have hb : (e1 == 1) = false := by simpa using h1
    clear h1
    go_enter Try.func89, Try.ntmps89
    go_wp2_with fail
    refine HEL.out.mono ?_
    rintro r w1 ⟨rfl, hg⟩
    have HG := Lib.hid hg
    clear hg
    go_wp2_with fail
    go_ret2
    exact ⟨rfl, HG.out⟩
end Go.Proofs.Ytlhliolknaopjaa

/-
  Denote: the reference's inline, indirect. Conditions: the bytes, the tree lie in memory.
-/
namespace Go.Proofs.Ytlhliolknaopjaa
open Go Go.ChangeShapes Go.WideShapes Go.ChangeAt Go.RowKit Go.Joins Go.Deep
set_option linter.unusedVariables false
set_option linter.unusedSimpArgs false

def inlF (d : List UInt8) (pos par typ : Int) (t : Tr) : Bool :=
  if (loadF d pos par).2 = 0 then (if typ = 0 then bareF t 1 0 0 EMB else if typ = 1 then bareF t 3 (loadIntF d pos par).1 0 EMB else if typ = 2 then bareF t 4 0 (loadF d pos par).1 EMB else bareF t 2 (if (loadF d pos par).1 = 0 then 0 else 1) 0 EMB) else false
def indF (d : List UInt8) (typ wid at_ : Int) (t : Tr) : Bool :=
  if (loadF d at_ wid).2 = 0 ∧ at_ % wid = 0 then (if typ = 6 then bareF t 8 (loadIntF d at_ wid).1 0 EMB else bareF t 9 0 (loadF d at_ wid).1 EMB) else false
theorem bare_kind {t : Tr} {k n u : Int} {s : ByteArray} (h : ¬ t.kind = k) : bareF t k n u s = false := by unfold bareF; rw [decide_eq_false h]; rfl
theorem inl_look {d : List UInt8} {pos par typ wid at_ : Int} {t : Tr} (h : nearT typ = true) : inlF d pos par typ t = lookF d typ pos par wid at_ t := by
  have hn : typ = 0 ∨ typ = 1 ∨ typ = 2 ∨ typ = 26 := by
    unfold nearT at h; simp only [Bool.or_eq_true, decide_eq_true_eq] at h; omega
  unfold inlF
  by_cases he : (loadF d pos par).2 = 0
  · rw [if_pos he]
    rcases hn with rfl | rfl | rfl | rfl
    · show _ = nullF d pos par t
      unfold nullF; rw [decide_eq_true he]; rfl
    · show _ = intF d pos par t
      unfold intF numberF
      rw [if_neg (by decide), if_pos rfl, if_neg (by simpa using he)]
      by_cases hk : t.kind = 3
      · rw [if_pos hk, decide_eq_true hk]; rfl
      · rw [decide_eq_false hk, bare_kind hk]; rfl
    · show _ = uintF d pos par t
      unfold uintF numberF
      rw [if_neg (by decide), if_neg (by decide), if_pos rfl, if_neg (by simpa using he)]
      by_cases hk : t.kind = 4
      · rw [if_neg (by omega), decide_eq_true hk]; rfl
      · rw [decide_eq_false hk, bare_kind hk]; rfl
    · show _ = boolF d pos par t
      unfold boolF; rw [decide_eq_true he]; rfl
  · rw [if_neg he]
    rcases hn with rfl | rfl | rfl | rfl
    · show _ = nullF d pos par t
      unfold nullF; rw [decide_eq_false he]; rfl
    · show _ = intF d pos par t
      unfold intF numberF; rw [if_pos he]; simp
    · show _ = uintF d pos par t
      unfold uintF numberF; rw [if_pos he]; simp
    · show _ = boolF d pos par t
      unfold boolF; rw [decide_eq_false he]; rfl
theorem ind_look {d : List UInt8} {pos par typ wid at_ : Int} {t : Tr} (h : typ = 6 ∨ typ = 7) : indF d typ wid at_ t = lookF d typ pos par wid at_ t := by
  have e : lookF d typ pos par wid at_ t = apartF d typ wid at_ t := by rcases h with rfl | rfl <;> rfl
  rw [e]
  unfold indF apartF numberF
  by_cases he : (loadF d at_ wid).2 = 0
  · by_cases hm : at_ % wid = 0
    · rw [if_pos ⟨he, hm⟩, if_neg (show ¬ (loadF d at_ wid).2 ≠ 0 from fun h => h he), decide_eq_true hm]
      rcases h with rfl | rfl
      · rw [if_pos (show (6 : Int) = 6 from rfl), if_pos (show (6 : Int) = 6 from rfl)]
        by_cases hk : t.kind = 8
        · rw [if_pos hk, decide_eq_true hk]; rfl
        · rw [decide_eq_false hk, bare_kind hk]; rfl
      · rw [if_neg (show ¬ (7 : Int) = 6 by decide), if_neg (show ¬ (7 : Int) = 6 by decide)]
        by_cases hk : t.kind = 9
        · rw [if_neg (by omega), decide_eq_true hk]; rfl
        · rw [decide_eq_false hk, bare_kind hk]; rfl
    · rw [if_neg (fun h => hm h.2), decide_eq_false hm]; simp
  · rw [if_neg (fun h => he h.1), if_pos he]; simp
set_option maxRecDepth 100000 in
set_option maxHeartbeats 4000000 in
theorem rinline27_any (d : List UInt8) (dv : Value) (pos par typ wid : Int) (t : Tr) (tv : Value) (w : World) (hD : DocAt w dv d) (hn : NodeAt w t tv) : Calls Try.prog 52 #[dv, .agg #[.int .i64 pos, .int .i64 par, .int .i64 typ, .int .i64 wid], tv] w fun r w' => r = .returned (.bool (inlF d pos par typ t)) ∧ Grew w w' := by
  have HD := Lib.hid hD
  have HT := Lib.hid hn
  obtain ⟨da, dc, rfl, _⟩ := hD.form
  obtain ⟨tk, tn, tu, ts, ta4, tn4, tc4, ta5, tn5, tc5, rfl⟩ := hn.node6
  obtain ⟨ek, en, eu, es⟩ := kind_of hn
  have HK : Hid (tk = t.kind ∧ tn = t.fn ∧ tu = t.fu ∧ ts = t.fs) := ⟨ek, en, eu, es⟩
  clear hD hn ek en eu es
  have HG := Lib.hid (Grew.refl w)
  obtain ⟨res, hres⟩ : ∃ b, inlF d pos par typ t = b := ⟨_, rfl⟩
  rw [hres]
  have HRES := Lib.hid hres
  clear hres
  have HLD : Hid (∀ w', DocAt w' (.slice da d.length dc) d → Calls Try.prog 85 #[.slice da d.length dc, .int .i64 pos, .int .i64 par] w' fun r w2 => r = .returned (.tuple #[.int .u64 (loadF d pos par).1, .int .i64 (loadF d pos par).2]) ∧ w2 = w') := fun w' h => rload_any d _ pos par w' h
  have HLI : Hid (∀ w', DocAt w' (.slice da d.length dc) d → Calls Try.prog 86 #[.slice da d.length dc, .int .i64 pos, .int .i64 par] w' fun r w2 => r = .returned (.tuple #[.int .i64 (loadIntF d pos par).1, .int .i64 (loadIntF d pos par).2]) ∧ w2 = w') := fun w' h => rloadInt_any d _ pos par w' h
  unfold inlF at HRES
  generalize loadF d pos par = q at *
  generalize loadIntF d pos par = qi at *
  obtain ⟨lu, le⟩ := q
  obtain ⟨li, lj⟩ := qi
  simp only at HLD HLI HRES
  go_enter Try.func52, Try.ntmps52
  go_upto_region 1 with fail
  obtain ⟨pr, hpr⟩ : ∃ N, w.heap.size = N := ⟨_, rfl⟩
  have hr1 := heap_alloc_new w (.cells #[.int .i64 pos, .int .i64 par, .int .i64 typ, .int .i64 wid] 35)
  have hga := (Grew.refl w).alloc (.cells #[.int .i64 pos, .int .i64 par, .int .i64 typ, .int .i64 wid] 35)
  have hz1 : (w.alloc (.cells #[.int .i64 pos, .int .i64 par, .int .i64 typ, .int .i64 wid] 35)).heap.size = pr + 1 := by rw [World.size_alloc, hpr]
  generalize (w.alloc (.cells #[.int .i64 pos, .int .i64 par, .int .i64 typ, .int .i64 wid] 35)) = x1 at *
  rw [hpr] at hr1
  try rw [hpr]
  have HRR := Lib.hid hr1
  clear hr1 hpr
  replace HD := Lib.hid (DocAt.grew HD.out hga)
  replace HT := Lib.hid (NodeAt.grew hga HT.out)
  replace HG := Lib.hid (HG.out.trans hga)
  clear hga
  have hr2 := heap_alloc_new x1 (.cells #[.int .i64 tk, .int .i64 tn, .int .u64 tu, .string ts, .slice ta4 tn4 tc4, .slice ta5 tn5 tc5] 27)
  have hga := (Grew.refl x1).alloc (.cells #[.int .i64 tk, .int .i64 tn, .int .u64 tu, .string ts, .slice ta4 tn4 tc4, .slice ta5 tn5 tc5] 27)
  generalize (x1.alloc (.cells #[.int .i64 tk, .int .i64 tn, .int .u64 tu, .string ts, .slice ta4 tn4 tc4, .slice ta5 tn5 tc5] 27)) = x2 at *
  rw [hz1] at hr2
  try rw [hz1]
  have HRT := Lib.hid hr2
  clear hr2 hz1
  replace HD := Lib.hid (DocAt.grew HD.out hga)
  replace HT := Lib.hid (NodeAt.grew hga HT.out)
  replace HRR := Lib.hid (hga.heap HRR.out)
  replace HG := Lib.hid (HG.out.trans hga)
  clear hga
  have c0 := row_cellT HRR.out 0 _ rfl
  have c1 := row_cellT HRR.out 1 _ rfl
  have c2 := row_cellT HRR.out 2 _ rfl
  have c3 := row_cellT HRR.out 3 _ rfl
  have e0 := row_cellT HRT.out 0 _ rfl
  have e1 := row_cellT HRT.out 1 _ rfl
  have e2 := row_cellT HRT.out 2 _ rfl
  have e3 := row_cellT HRT.out 3 _ rfl
  have e4 := row_cellT HRT.out 4 _ rfl
  have e5 := row_cellT HRT.out 5 _ rfl
  go_wp2_with fail
  refine (HLD.out _ HD.out).mono ?_
  rintro r u1 ⟨rfl, rfl⟩
  go_wp2_with fail
  refine (HLI.out _ HD.out).mono ?_
  rintro r u2 ⟨rfl, rfl⟩
  by_cases hle : le = 0
  rotate_left
  · have hb : (le != 0) = true := by simpa using hle
    have HV : Hid (res = false) := by show _ = _; rw [← HRES.out, if_neg hle]
    clear hle
    go_wp2_with fail
    go_ret
    exact ⟨by rw [HV.out]; rfl, HG.out⟩
  subst hle
  rw [if_pos rfl] at HRES
  by_cases h0 : typ = 0
  · have HV : Hid (res = bareF t 1 0 0 EMB) := by show _ = _; rw [← HRES.out, if_pos h0]
    skip
    subst h0
    go_wp2_with fail
    refine (leaf_any t _ 1 0 0 ⟨#[]⟩ _ HT.out).mono ?_
    rintro r u3 ⟨rfl, hgc⟩
    replace HD := Lib.hid (DocAt.grew HD.out hgc)
    replace HT := Lib.hid (NodeAt.grew hgc HT.out)
    replace HRR := Lib.hid (hgc.heap HRR.out)
    replace HRT := Lib.hid (hgc.heap HRT.out)
    replace HG := Lib.hid (HG.out.trans hgc)
    clear hgc
    go_wp2_with fail
    go_ret
    exact ⟨by rw [HV.out]; rfl, HG.out⟩
  have b0 : (typ == 0) = false := by simpa using h0
  by_cases h1 : typ = 1
  · have HV : Hid (res = bareF t 3 li 0 EMB) := by show _ = _; rw [← HRES.out, if_neg h0, if_pos h1]
    clear h0
    subst h1
    go_wp2_with fail
    refine (leaf_any t _ 3 li 0 ⟨#[]⟩ _ HT.out).mono ?_
    rintro r u3 ⟨rfl, hgc⟩
    replace HD := Lib.hid (DocAt.grew HD.out hgc)
    replace HT := Lib.hid (NodeAt.grew hgc HT.out)
    replace HRR := Lib.hid (hgc.heap HRR.out)
    replace HRT := Lib.hid (hgc.heap HRT.out)
    replace HG := Lib.hid (HG.out.trans hgc)
    clear hgc
    go_wp2_with fail
    go_ret
    exact ⟨by rw [HV.out]; rfl, HG.out⟩
  have b1 : (typ == 1) = false := by simpa using h1
  by_cases h2 : typ = 2
  · have HV : Hid (res = bareF t 4 0 lu EMB) := by show _ = _; rw [← HRES.out, if_neg h0, if_neg h1, if_pos h2]
    clear h0 h1
    subst h2
    go_wp2_with fail
    refine (leaf_any t _ 4 0 lu ⟨#[]⟩ _ HT.out).mono ?_
    rintro r u3 ⟨rfl, hgc⟩
    replace HD := Lib.hid (DocAt.grew HD.out hgc)
    replace HT := Lib.hid (NodeAt.grew hgc HT.out)
    replace HRR := Lib.hid (hgc.heap HRR.out)
    replace HRT := Lib.hid (hgc.heap HRT.out)
    replace HG := Lib.hid (HG.out.trans hgc)
    clear hgc
    go_wp2_with fail
    go_ret
    exact ⟨by rw [HV.out]; rfl, HG.out⟩
  have b2 : (typ == 2) = false := by simpa using h2
  rw [if_neg h0, if_neg h1, if_neg h2] at HRES
  clear h0 h1 h2
  have hh0 := HT.out.grew ((Grew.refl u2).alloc (.cells #[.int .i64 2, .int .i64 0, .int .u64 0, .string ⟨#[]⟩, .slice none 0 0, .slice none 0 0] 27))
  have hh1 := HT.out.grew ((Grew.refl u2).alloc (.cells #[.int .i64 2, .int .i64 1, .int .u64 0, .string ⟨#[]⟩, .slice none 0 0, .slice none 0 0] 27))
  have HH := Lib.hid (And.intro hh0 hh1)
  have HA0 := Lib.hid (HG.out.trans ((Grew.refl u2).alloc (.cells #[.int .i64 2, .int .i64 0, .int .u64 0, .string ⟨#[]⟩, .slice none 0 0, .slice none 0 0] 27)))
  have HA1 := Lib.hid (HG.out.trans ((Grew.refl u2).alloc (.cells #[.int .i64 2, .int .i64 1, .int .u64 0, .string ⟨#[]⟩, .slice none 0 0, .slice none 0 0] 27)))
  clear hh0 hh1
  have ee0 := fun o => ((Grew.refl u2).alloc o).cell e0
  have ee1 := fun o => ((Grew.refl u2).alloc o).cell e1
  have ee2 := fun o => ((Grew.refl u2).alloc o).cell e2
  have ee3 := fun o => ((Grew.refl u2).alloc o).cell e3
  have ee4 := fun o => ((Grew.refl u2).alloc o).cell e4
  have ee5 := fun o => ((Grew.refl u2).alloc o).cell e5
  by_cases hu : lu = 0
  · have hb : (lu != 0) = false := by simpa using hu
    have HV : Hid (res = bareF t 2 0 0 EMB) := by show _ = _; rw [← HRES.out, if_pos hu]
    clear hu
    go_wp2_with fail
    refine (leaf_any t _ 2 0 0 ⟨#[]⟩ _ HH.out.1).mono ?_
    rintro r u3 ⟨rfl, hg3⟩
    have HG3 := Lib.hid (HA0.out.trans hg3)
    clear hg3
    go_wp2_with fail
    go_ret
    exact ⟨by rw [HV.out]; rfl, HG3.out⟩
  · have hb : (lu != 0) = true := by simpa using hu
    have HV : Hid (res = bareF t 2 1 0 EMB) := by show _ = _; rw [← HRES.out, if_neg hu]
    clear hu
    go_wp2_with fail
    refine (leaf_any t _ 2 1 0 ⟨#[]⟩ _ HH.out.2).mono ?_
    rintro r u3 ⟨rfl, hg3⟩
    have HG3 := Lib.hid (HA1.out.trans hg3)
    clear hg3
    go_wp2_with fail
    go_ret
    exact ⟨by rw [HV.out]; rfl, HG3.out⟩
set_option maxRecDepth 100000 in
set_option maxHeartbeats 4000000 in
theorem rindirect_any (d : List UInt8) (dv : Value) (pos par typ wid at_ : Int) (t : Tr) (tv : Value) (w : World) (hD : DocAt w dv d) (hn : NodeAt w t tv) (hp : 0 ≤ at_ ∧ at_ ≤ 1048576) (hw : isW wid = true) : Calls Try.prog 58 #[dv, .agg #[.int .i64 pos, .int .i64 par, .int .i64 typ, .int .i64 wid], .int .i64 at_, tv] w fun r w' => r = .returned (.bool (indF d typ wid at_ t)) ∧ Grew w w' := by
  have HD := Lib.hid hD
  have HT := Lib.hid hn
  obtain ⟨da, dc, rfl, _⟩ := hD.form
  obtain ⟨tk, tn, tu, ts, ta4, tn4, tc4, ta5, tn5, tc5, rfl⟩ := hn.node6
  obtain ⟨ek, en, eu, es⟩ := kind_of hn
  have HK : Hid (tk = t.kind ∧ tn = t.fn ∧ tu = t.fu ∧ ts = t.fs) := ⟨ek, en, eu, es⟩
  clear hD hn ek en eu es
  have HG := Lib.hid (Grew.refl w)
  obtain ⟨res, hres⟩ : ∃ b, indF d typ wid at_ t = b := ⟨_, rfl⟩
  rw [hres]
  have HRES := Lib.hid hres
  clear hres
  have HLD : Hid (∀ w', DocAt w' (.slice da d.length dc) d → Calls Try.prog 85 #[.slice da d.length dc, .int .i64 at_, .int .i64 wid] w' fun r w2 => r = .returned (.tuple #[.int .u64 (loadF d at_ wid).1, .int .i64 (loadF d at_ wid).2]) ∧ w2 = w') := fun w' h => rload_any d _ at_ wid w' h
  have HLI : Hid (∀ w', DocAt w' (.slice da d.length dc) d → Calls Try.prog 86 #[.slice da d.length dc, .int .i64 at_, .int .i64 wid] w' fun r w2 => r = .returned (.tuple #[.int .i64 (loadIntF d at_ wid).1, .int .i64 (loadIntF d at_ wid).2]) ∧ w2 = w') := fun w' h => rloadInt_any d _ at_ wid w' h
  unfold indF at HRES
  generalize loadF d at_ wid = q at *
  generalize loadIntF d at_ wid = qi at *
  obtain ⟨lu, le⟩ := q
  obtain ⟨li, lj⟩ := qi
  simp only at HLD HLI HRES
  have ht : Int.tmod at_ wid = at_ % wid := Int.tmod_eq_emod_of_nonneg hp.1
  have hw1 : 1 ≤ wid ∧ wid ≤ 8 := by rcases isW_cases hw with rfl | rfl | rfl | rfl <;> omega
  have hwz : (wid == 0) = false := by rw [beq_eq_false_iff_ne]; omega
  have hm0 : 0 ≤ at_ % wid ∧ at_ % wid < 8 := ⟨Int.emod_nonneg _ (by omega), Int.lt_of_lt_of_le (Int.emod_lt_of_pos _ (by omega)) hw1.2⟩
  have hwm : IntKind.i64.wrap (at_ % wid) = at_ % wid := by rw [IntKind.wrap_i64]; omega
  obtain ⟨md, hmd⟩ : ∃ q, at_ % wid = q := ⟨_, rfl⟩
  rw [hmd] at ht hwm hm0 HRES
  clear hmd
  go_enter Try.func58, Try.ntmps58
  go_upto_region 1 with fail
  obtain ⟨pr, hpr⟩ : ∃ N, w.heap.size = N := ⟨_, rfl⟩
  have hr1 := heap_alloc_new w (.cells #[.int .i64 pos, .int .i64 par, .int .i64 typ, .int .i64 wid] 35)
  have hga := (Grew.refl w).alloc (.cells #[.int .i64 pos, .int .i64 par, .int .i64 typ, .int .i64 wid] 35)
  have hz1 : (w.alloc (.cells #[.int .i64 pos, .int .i64 par, .int .i64 typ, .int .i64 wid] 35)).heap.size = pr + 1 := by rw [World.size_alloc, hpr]
  generalize (w.alloc (.cells #[.int .i64 pos, .int .i64 par, .int .i64 typ, .int .i64 wid] 35)) = x1 at *
  rw [hpr] at hr1
  try rw [hpr]
  have HRR := Lib.hid hr1
  clear hr1 hpr
  replace HD := Lib.hid (DocAt.grew HD.out hga)
  replace HT := Lib.hid (NodeAt.grew hga HT.out)
  replace HG := Lib.hid (HG.out.trans hga)
  clear hga
  have hr2 := heap_alloc_new x1 (.cells #[.int .i64 tk, .int .i64 tn, .int .u64 tu, .string ts, .slice ta4 tn4 tc4, .slice ta5 tn5 tc5] 27)
  have hga := (Grew.refl x1).alloc (.cells #[.int .i64 tk, .int .i64 tn, .int .u64 tu, .string ts, .slice ta4 tn4 tc4, .slice ta5 tn5 tc5] 27)
  generalize (x1.alloc (.cells #[.int .i64 tk, .int .i64 tn, .int .u64 tu, .string ts, .slice ta4 tn4 tc4, .slice ta5 tn5 tc5] 27)) = x2 at *
  rw [hz1] at hr2
  try rw [hz1]
  have HRT := Lib.hid hr2
  clear hr2 hz1
  replace HD := Lib.hid (DocAt.grew HD.out hga)
  replace HT := Lib.hid (NodeAt.grew hga HT.out)
  replace HRR := Lib.hid (hga.heap HRR.out)
  replace HG := Lib.hid (HG.out.trans hga)
  clear hga
  have c0 := row_cellT HRR.out 0 _ rfl
  have c1 := row_cellT HRR.out 1 _ rfl
  have c2 := row_cellT HRR.out 2 _ rfl
  have c3 := row_cellT HRR.out 3 _ rfl
  have e0 := row_cellT HRT.out 0 _ rfl
  have e1 := row_cellT HRT.out 1 _ rfl
  have e2 := row_cellT HRT.out 2 _ rfl
  have e3 := row_cellT HRT.out 3 _ rfl
  have e4 := row_cellT HRT.out 4 _ rfl
  have e5 := row_cellT HRT.out 5 _ rfl
  go_wp2_with fail
  refine (HLD.out _ HD.out).mono ?_
  rintro r u1 ⟨rfl, rfl⟩
  go_wp2_with fail
  refine (HLI.out _ HD.out).mono ?_
  rintro r u2 ⟨rfl, rfl⟩
  by_cases hle : le = 0
  rotate_left
  · have hb : (le != 0) = true := by simpa using hle
    have HV : Hid (res = false) := by show _ = _; rw [← HRES.out, if_neg (fun h => hle h.1)]
    clear hle
    go_wp2_with fail
    go_ret
    exact ⟨by rw [HV.out]; rfl, HG.out⟩
  subst hle
  by_cases hm : md = 0
  rotate_left
  · have hb : (md != 0) = true := by simpa using hm
    have HV : Hid (res = false) := by show _ = _; rw [← HRES.out, if_neg (fun h => hm h.2)]
    clear hm
    go_wp2_with fail
    go_ret
    exact ⟨by rw [HV.out]; rfl, HG.out⟩
  subst hm
  rw [if_pos ⟨rfl, rfl⟩] at HRES
  by_cases h6 : typ = 6
  · have HV : Hid (res = bareF t 8 li 0 EMB) := by show _ = _; rw [← HRES.out, if_pos h6]
    subst h6
    go_wp2_with fail
    refine (leaf_any t _ 8 li 0 ⟨#[]⟩ _ HT.out).mono ?_
    rintro r u3 ⟨rfl, hgc⟩
    replace HD := Lib.hid (DocAt.grew HD.out hgc)
    replace HT := Lib.hid (NodeAt.grew hgc HT.out)
    replace HRR := Lib.hid (hgc.heap HRR.out)
    replace HRT := Lib.hid (hgc.heap HRT.out)
    replace HG := Lib.hid (HG.out.trans hgc)
    clear hgc
    go_wp2_with fail
    go_ret
    exact ⟨by rw [HV.out]; rfl, HG.out⟩
  · have HV : Hid (res = bareF t 9 0 lu EMB) := by show _ = _; rw [← HRES.out, if_neg h6]
    have b6 : (typ == 6) = false := by simpa using h6
    clear h6
    go_wp2_with fail
    refine (leaf_any t _ 9 0 lu ⟨#[]⟩ _ HT.out).mono ?_
    rintro r u3 ⟨rfl, hgc⟩
    replace HD := Lib.hid (DocAt.grew HD.out hgc)
    replace HT := Lib.hid (NodeAt.grew hgc HT.out)
    replace HRR := Lib.hid (hgc.heap HRR.out)
    replace HRT := Lib.hid (hgc.heap HRT.out)
    replace HG := Lib.hid (HG.out.trans hgc)
    clear hgc
    go_wp2_with fail
    go_ret
    exact ⟨by rw [HV.out]; rfl, HG.out⟩
end Go.Proofs.Ytlhliolknaopjaa

/-
  Denote: the reference's says, where vector is given. Conditions: the bytes, the tree lie in memory; the tree is small.
-/
namespace Go.Proofs.Ytlhliolknaopjaa
open Go Go.ChangeShapes Go.WideShapes Go.ChangeAt Go.RowKit Go.Joins Go.Deep
set_option linter.unusedVariables false
set_option linter.unusedSimpArgs false

/-- vector at a tree, a type, in whatever world. -/
def VecR (d : List UInt8) (typ : Int) (t : Tr) : Prop := ∀ (dv : Value) (pos par wid at_ : Int) (tv : Value) (w : World), DocAt w dv d → NodeAt w t tv → 0 ≤ at_ ∧ at_ ≤ 1048576 → isW wid = true →
    Calls Try.prog 59 #[dv, .agg #[.int .i64 pos, .int .i64 par, .int .i64 typ, .int .i64 wid], .int .i64 at_, tv] w fun r w' => r = .returned (.bool (listF d typ wid at_ t)) ∧ Grew w w'
set_option maxRecDepth 100000 in
set_option maxHeartbeats 4000000 in
theorem rsays_any (d : List UInt8) (typ : Int) (t : Tr) (hl : nearT typ = false → farT typ = false → VecR d typ t) (hs : t.fs.size ≤ 1000) (dv : Value) (pos par wid lim : Int) (tv : Value) (w : World) (hD : DocAt w dv d) (hn : NodeAt w t tv) (hp : i64ok pos) : Calls Try.prog 34 #[dv, .agg #[.int .i64 pos, .int .i64 par, .int .i64 typ, .int .i64 wid], .int .i64 lim, tv] w fun r w' => r = .returned (.bool (saysF d typ pos par wid lim t)) ∧ Grew w w' := by
  have HD := Lib.hid hD
  have HT := Lib.hid hn
  obtain ⟨da, dc, rfl, _⟩ := hD.form
  obtain ⟨tk, tn, tu, ts, ta4, tn4, tc4, ta5, tn5, tc5, rfl⟩ := hn.node6
  obtain ⟨ek, en, eu, es⟩ := kind_of hn
  have HK : Hid (tk = t.kind ∧ tn = t.fn ∧ tu = t.fu ∧ ts = t.fs) := ⟨ek, en, eu, es⟩
  have HTS : Hid (ts.size ≤ 1000) := by rw [HK.out.2.2.2]; exact hs
  have HDL : Hid (d.length ≤ 1048576) := hD.2.1
  have HVEC := Lib.hid hl
  clear hD hn ek en eu es hs hl
  have HG := Lib.hid (Grew.refl w)
  obtain ⟨res, hres⟩ : ∃ b, saysF d typ pos par wid lim t = b := ⟨_, rfl⟩
  rw [hres]
  have HRES := Lib.hid hres
  clear hres
  rw [says_eq] at HRES
  obtain ⟨lg, hlg⟩ : ∃ b, Ft.legalB typ = b := ⟨_, rfl⟩
  obtain ⟨bp, hbp⟩ : ∃ b, isW par = b := ⟨_, rfl⟩
  obtain ⟨bw, hbw⟩ : ∃ b, isW wid = b := ⟨_, rfl⟩
  have HL1 : Hid (∀ w, Calls Try.prog 44 #[.int .i64 typ] w fun r w' => r = .returned (.bool lg) ∧ w' = w) := fun w => by rw [← hlg]; exact rlegal_any typ w
  have HL2 : Hid (∀ w, Calls Try.prog 26 #[.int .i64 par] w fun r w' => r = .returned (.bool bp) ∧ w' = w) := fun w => by rw [← hbp]; exact rw27_any par w
  have HL3 : Hid (∀ w, Calls Try.prog 26 #[.int .i64 wid] w fun r w' => r = .returned (.bool bw) ∧ w' = w) := fun w => by rw [← hbw]; exact rw27_any wid w
  rw [hlg, hbp, hbw] at HRES
  have HLG := Lib.hid hlg
  have HWP := Lib.hid hbp
  have HWW := Lib.hid hbw
  clear hlg hbp hbw
  go_enter Try.func34, Try.ntmps34
  go_upto_region 1 with fail
  obtain ⟨pr, hpr⟩ : ∃ N, w.heap.size = N := ⟨_, rfl⟩
  have hr1 := heap_alloc_new w (.cells #[.int .i64 pos, .int .i64 par, .int .i64 typ, .int .i64 wid] 35)
  have hga := (Grew.refl w).alloc (.cells #[.int .i64 pos, .int .i64 par, .int .i64 typ, .int .i64 wid] 35)
  have hz1 : (w.alloc (.cells #[.int .i64 pos, .int .i64 par, .int .i64 typ, .int .i64 wid] 35)).heap.size = pr + 1 := by rw [World.size_alloc, hpr]
  generalize (w.alloc (.cells #[.int .i64 pos, .int .i64 par, .int .i64 typ, .int .i64 wid] 35)) = x1 at *
  rw [hpr] at hr1
  try rw [hpr]
  have HRR := Lib.hid hr1
  clear hr1 hpr
  replace HD := Lib.hid (DocAt.grew HD.out hga)
  replace HT := Lib.hid (NodeAt.grew hga HT.out)
  replace HG := Lib.hid (HG.out.trans hga)
  clear hga
  have hr2 := heap_alloc_new x1 (.cells #[.int .i64 tk, .int .i64 tn, .int .u64 tu, .string ts, .slice ta4 tn4 tc4, .slice ta5 tn5 tc5] 27)
  have hga := (Grew.refl x1).alloc (.cells #[.int .i64 tk, .int .i64 tn, .int .u64 tu, .string ts, .slice ta4 tn4 tc4, .slice ta5 tn5 tc5] 27)
  generalize (x1.alloc (.cells #[.int .i64 tk, .int .i64 tn, .int .u64 tu, .string ts, .slice ta4 tn4 tc4, .slice ta5 tn5 tc5] 27)) = x2 at *
  rw [hz1] at hr2
  try rw [hz1]
  have HRT := Lib.hid hr2
  clear hr2 hz1
  replace HD := Lib.hid (DocAt.grew HD.out hga)
  replace HT := Lib.hid (NodeAt.grew hga HT.out)
  replace HRR := Lib.hid (hga.heap HRR.out)
  replace HG := Lib.hid (HG.out.trans hga)
  clear hga
  have c0 := row_cellT HRR.out 0 _ rfl
  have c1 := row_cellT HRR.out 1 _ rfl
  have c2 := row_cellT HRR.out 2 _ rfl
  have c3 := row_cellT HRR.out 3 _ rfl
  have e0 := row_cellT HRT.out 0 _ rfl
  have e1 := row_cellT HRT.out 1 _ rfl
  have e2 := row_cellT HRT.out 2 _ rfl
  have e3 := row_cellT HRT.out 3 _ rfl
  have e4 := row_cellT HRT.out 4 _ rfl
  have e5 := row_cellT HRT.out 5 _ rfl
  go_wp2_with fail
  refine (HL1.out _).mono ?_
  rintro r u1 ⟨rfl, rfl⟩
  cases lg
  · have HV : Hid (res = false) := by show _ = _; rw [← HRES.out, if_pos (by simp)]
    go_wp2_with fail
    go_ret
    exact ⟨by rw [HV.out]; rfl, HG.out⟩
  go_wp2_with fail
  refine (HL2.out _).mono ?_
  rintro r u2 ⟨rfl, rfl⟩
  cases bp
  · have HV : Hid (res = false) := by show _ = _; rw [← HRES.out, if_pos (by simp)]
    go_wp2_with fail
    go_ret
    exact ⟨by rw [HV.out]; rfl, HG.out⟩
  go_wp2_with fail
  refine (HL3.out _).mono ?_
  rintro r u3 ⟨rfl, rfl⟩
  cases bw
  · have HV : Hid (res = false) := by show _ = _; rw [← HRES.out, if_pos (by simp)]
    go_wp2_with fail
    go_ret
    exact ⟨by rw [HV.out]; rfl, HG.out⟩
  rw [if_neg (by decide)] at HRES
  clear HL1 HL2 HL3
  go_wp2_with fail
  obtain ⟨nr, hnr⟩ : ∃ b, nearT typ = b := ⟨_, rfl⟩
  have HI : Hid (∀ w, Calls Try.prog 51 #[.int .i64 typ] w fun r w' => r = .returned (.bool nr) ∧ w' = w) := fun w => by rw [← hnr]; exact rinline_any typ w
  rw [inline_near, hnr] at HRES
  have HNR := Lib.hid hnr
  clear hnr
  refine (HI.out _).mono ?_
  rintro r u4 ⟨rfl, rfl⟩
  cases nr
  rotate_left
  · have HV : Hid (res = inlF d pos par typ t) := by show _ = _; rw [← HRES.out, if_pos rfl, inl_look HNR.out]
    go_wp2_with fail
    refine (rinline27_any d _ pos par typ wid t _ _ HD.out HT.out).mono ?_
    rintro r u5 ⟨rfl, hgc⟩
    replace HD := Lib.hid (DocAt.grew HD.out hgc)
    replace HT := Lib.hid (NodeAt.grew hgc HT.out)
    replace HRR := Lib.hid (hgc.heap HRR.out)
    replace HRT := Lib.hid (hgc.heap HRT.out)
    replace HG := Lib.hid (HG.out.trans hgc)
    clear hgc
    clear c0 c1 c2 c3
    clear e0 e1 e2 e3 e4 e5
    go_wp2_with fail
    go_ret
    exact ⟨by rw [HV.out]; rfl, HG.out⟩
  rw [if_neg (by decide)] at HRES
  go_wp2_with fail
  have hnum := r27num_any d (.slice da d.length dc) pos par
  unfold numR at hnum
  have HNB := Lib.hid (num_bound d pos par HDL.out)
  have hwrg : IntKind.i64.wrap (aheadF typ * wid) = aheadF typ * wid ∧ 0 ≤ aheadF typ * wid ∧ aheadF typ * wid ≤ 24 := by
    have h1 := ahead_range typ
    have h2 : 0 ≤ aheadF typ * wid ∧ aheadF typ * wid ≤ 24 := by
      rcases isW_cases HWW.out with h | h | h | h <;> (rw [h]; omega)
    exact ⟨by rw [IntKind.wrap_i64]; omega, h2⟩
  have HWR := Lib.hid hwrg
  clear hwrg
  unfold farB at HRES
  have HN9 : Hid ((numF d pos par).2 = true → (numF d pos par).1 ≤ 9007199254740992) := fun _ => by unfold numF; simp only; omega
  obtain ⟨q, hq⟩ : ∃ q, numF d pos par = q := ⟨_, rfl⟩
  rw [hq] at HRES hnum HNB HN9
  clear hq
  obtain ⟨nv, ni⟩ := q
  simp only at HRES hnum HNB HN9
  have HNU := Lib.hid hnum
  clear hnum
  refine (HNU.out _ HD.out).mono ?_
  rintro r u5 ⟨rfl, rfl⟩
  cases ni
  · have HV : Hid (res = false) := by show _ = _; rw [← HRES.out]; rfl
    have hwp : IntKind.i64.wrap (pos - 0) = pos := by rw [Int.sub_zero, IntKind.wrap_i64]; unfold i64ok at hp; omega
    simp only [Bool.false_eq_true, if_false]
    go_upto_region 7 with fail
    go_quiet (fail)
    have HGF := Lib.hid (HG.out.trans ((Grew.refl u5).drewN nq))
    go_wp2_with fail
    go_ret
    exact ⟨by rw [HV.out]; rfl, HGF.out⟩
  simp only [if_true]
  obtain ⟨hb1, hb2, hb3⟩ := HNB.out rfl
  obtain ⟨hb1, hb2, hb3⟩ := HNB.out rfl
  by_cases hle : nv ≤ pos
  rotate_left
  · have HV : Hid (res = false) := by show _ = _; rw [← HRES.out, decide_eq_false hle]; rfl
    have hws : IntKind.i64.wrap (pos - nv) = pos - nv := by rw [IntKind.wrap_i64]; have := HN9.out rfl; omega
    have hgt : pos - nv < 0 := by omega
    clear hle
    go_upto_region 7 with fail
    go_quiet (fail)
    have HGF := Lib.hid (HG.out.trans ((Grew.refl u5).drewN nq))
    go_wp2_with fail
    go_ret
    exact ⟨by rw [HV.out]; rfl, HGF.out⟩
  have hws : IntKind.i64.wrap (pos - nv) = pos - nv := by rw [IntKind.wrap_i64]; omega
  have hwa := HWR.out.1
  have hwb : IntKind.i64.wrap (pos - nv - aheadF typ * wid) = pos - nv - aheadF typ * wid := by have := HWR.out.2; rw [IntKind.wrap_i64]; omega
  have HAT : Hid (0 ≤ pos - nv ∧ pos - nv ≤ 1048576) := ⟨by omega, by omega⟩
  have HLE := Lib.hid hle
  have hat0 : 0 ≤ pos - nv := by omega
  obtain ⟨bl, hbl⟩ : ∃ b, decide (lim ≤ pos - nv - aheadF typ * wid) = b := ⟨_, rfl⟩
  have HBL := Lib.hid hbl
  clear hbl
  have HRB : Hid (res = if bl = true then false else if farT typ = true then lookF d typ pos par wid (pos - nv) t else listF d typ wid (pos - nv) t) := by
    show _ = _
    rw [← HRES.out, decide_eq_true hle, ← HBL.out]
    by_cases hlt : pos - nv - aheadF typ * wid < lim
    · rw [decide_eq_true hlt, decide_eq_false (by omega)]; rfl
    · rw [decide_eq_false hlt, decide_eq_true (by omega)]; rfl
  clear hb1 hb2 hb3 hle
  go_upto_region 7 with fail
  refine wp_region_tables Grew [[], [0], [0, 1], [0, 1, 2], [0, 1, 2, 3], [0, 1, 2, 3, 4], [0, 1, 2, 3, 4, 5], [0, 1, 2, 3, 4, 5, 6], [0, 1, 2, 3, 4, 5, 6], [0, 1, 2, 3, 4, 5, 6, 8], [0, 1, 2, 3, 4, 5, 6, 8, 9], [0, 1, 2, 3, 4, 5, 6], [0, 1, 2, 3, 4, 5, 6, 11], [0, 1, 2, 3, 4, 5, 6, 8, 9, 10, 11, 12], [0, 1, 2, 3, 4, 5, 6, 7, 8, 9, 10, 11, 12, 13], [0, 1, 2, 3, 4, 5, 6], [0, 1, 2, 3, 4, 5, 6, 7, 8, 9, 10, 11, 12, 13, 14, 15], [0, 1, 2, 3, 4, 5, 6, 7, 8, 9, 10, 11, 12, 13, 14, 15, 16]] [[], [(48, 0)], [(48, 0), (49, 1)], [(48, 0), (49, 1), (50, 2)], [(48, 0), (49, 1), (50, 2), (51, 3)], [(48, 0), (49, 1), (50, 2), (51, 3), (52, 4)], [(48, 0), (49, 1), (50, 2), (51, 3), (52, 4), (53, 5)], [(48, 0), (49, 1), (50, 2), (51, 3), (52, 4), (53, 5), (54, 6), (56, 8), (57, 9), (58, 10), (59, 11), (60, 12), (61, 13), (63, 15)], [(48, 0), (49, 1), (50, 2), (51, 3), (52, 4), (53, 5), (54, 6), (55, 7), (59, 11), (60, 12), (63, 15)], [(48, 0), (49, 1), (50, 2), (51, 3), (52, 4), (53, 5), (54, 6), (55, 7), (56, 8), (59, 11), (60, 12), (63, 15)], [(48, 0), (49, 1), (50, 2), (51, 3), (52, 4), (53, 5), (54, 6), (55, 7), (56, 8), (57, 9), (59, 11), (60, 12), (63, 15)], [(48, 0), (49, 1), (50, 2), (51, 3), (52, 4), (53, 5), (54, 6), (55, 7), (56, 8), (57, 9), (58, 10), (63, 15)], [(48, 0), (49, 1), (50, 2), (51, 3), (52, 4), (53, 5), (54, 6), (55, 7), (56, 8), (57, 9), (58, 10), (59, 11), (63, 15)], [(48, 0), (49, 1), (50, 2), (51, 3), (52, 4), (53, 5), (54, 6), (55, 7), (56, 8), (57, 9), (58, 10), (59, 11), (60, 12), (63, 15)], [(48, 0), (49, 1), (50, 2), (51, 3), (52, 4), (53, 5), (54, 6), (55, 7), (56, 8), (57, 9), (58, 10), (59, 11), (60, 12), (61, 13), (63, 15)], [(48, 0), (49, 1), (50, 2), (51, 3), (52, 4), (53, 5), (54, 6), (55, 7), (56, 8), (57, 9), (58, 10), (59, 11), (60, 12), (61, 13), (62, 14)], [(48, 0), (49, 1), (50, 2), (51, 3), (52, 4), (53, 5), (54, 6), (55, 7), (56, 8), (57, 9), (58, 10), (59, 11), (60, 12), (61, 13), (62, 14), (63, 15)], [(48, 0), (49, 1), (50, 2), (51, 3), (52, 4), (53, 5), (54, 6), (55, 7), (56, 8), (57, 9), (58, 10), (59, 11), (60, 12), (61, 13), (62, 14), (63, 15), (64, 16)]] [(48, 0), (49, 1), (50, 2), (51, 3), (52, 4), (53, 5), (54, 6), (55, 7), (56, 8), (57, 9), (58, 10), (59, 11), (60, 12), (61, 13), (62, 14), (63, 15), (64, 16), (65, 17)]
    [Is (.bool true), Is (.bool false), Is (.bool false), Is (.int .i64 (pos - nv)), Is (.bool false), Is (.bool false), Is (.bool false), Is (.int .i64 (pos - nv)), Is (.pointer (some ⟨pr, 2, none⟩)), Is (.int .i64 typ), Is (.int .i64 (aheadF typ)), Is (.pointer (some ⟨pr, 3, none⟩)), Is (.int .i64 wid), Is (.int .i64 (aheadF typ * wid)), Is (.int .i64 (pos - nv - aheadF typ * wid)), Is (.int .i64 lim), Is (.bool bl), Is (.bool bl)]
    (by kernel_rfl) Grew.trans Grew.refl (Grew.refl _).drew (by kernel_rfl) ⟨is_st, is_st, is_st, is_st, is_st, is_st, is_st, is_st, is_st, is_st, is_st, is_st, is_st, is_st, is_st, is_st, is_st, is_st, trivial⟩ ?_ rfl ?_
  rotate_left
  · intro y w2 hG hF
    simp only [factsH, Is, and_true, Nat.reduceAdd] at hF
    have hlast := hF.2.2.2.2.2.2.2.2.2.2.2.2.2.2.2.2.2
    clear hF
    simp only [fillL, Act.put, List.setIfInBounds_toArray, List.set_cons_zero, List.set_cons_succ, List.getD_cons_zero, List.getD_cons_succ, hlast]
    have hgc := hG
    clear hG hlast
    clear c0 c1 c2 c3
    clear e0 e1 e2 e3 e4 e5
    replace HD := Lib.hid (DocAt.grew HD.out hgc)
    replace HT := Lib.hid (NodeAt.grew hgc HT.out)
    replace HRR := Lib.hid (hgc.heap HRR.out)
    replace HRT := Lib.hid (hgc.heap HRT.out)
    replace HG := Lib.hid (HG.out.trans hgc)
    clear hgc
    have c0 := row_cellT HRR.out 0 _ rfl
    have c1 := row_cellT HRR.out 1 _ rfl
    have c2 := row_cellT HRR.out 2 _ rfl
    have c3 := row_cellT HRR.out 3 _ rfl
    have e0 := row_cellT HRT.out 0 _ rfl
    have e1 := row_cellT HRT.out 1 _ rfl
    have e2 := row_cellT HRT.out 2 _ rfl
    have e3 := row_cellT HRT.out 3 _ rfl
    have e4 := row_cellT HRT.out 4 _ rfl
    have e5 := row_cellT HRT.out 5 _ rfl
    cases bl
    rotate_left
    · have HV : Hid (res = false) := by show _ = _; rw [HRB.out]; rfl
      go_wp2_with fail
      go_ret
      exact ⟨by rw [HV.out]; rfl, HG.out⟩
    have HV0 : Hid (res = if farT typ = true then lookF d typ pos par wid (pos - nv) t else listF d typ wid (pos - nv) t) := by show _ = _; rw [HRB.out]; rfl
    by_cases h4 : typ = 4
    · subst h4
      have HV1 : Hid (res = (bareF t 5 0 0 ts && decide (keyE ts = 0) && hasF d (pos - nv) (ends ts))) := by show _ = _; rw [HV0.out, if_pos (by decide), HK.out.2.2.2]; show keyF d (pos - nv) t = _; unfold keyF; rw [Bool.and_assoc]
      obtain ⟨b1, hb1⟩ : ∃ b, bareF t 5 0 0 ts = b := ⟨_, rfl⟩
      have hh := leaf_any t _ 5 0 0 ts _ HT.out
      rw [hb1] at hh HV1
      clear hb1
      go_wp2_with fail
      refine hh.mono ?_
      clear hh
      rintro r u6 ⟨rfl, hgc⟩
      clear c0 c1 c2 c3
      clear e0 e1 e2 e3 e4 e5
      replace HD := Lib.hid (DocAt.grew HD.out hgc)
      replace HT := Lib.hid (NodeAt.grew hgc HT.out)
      replace HRR := Lib.hid (hgc.heap HRR.out)
      replace HRT := Lib.hid (hgc.heap HRT.out)
      replace HG := Lib.hid (HG.out.trans hgc)
      clear hgc
      have c0 := row_cellT HRR.out 0 _ rfl
      have c1 := row_cellT HRR.out 1 _ rfl
      have c2 := row_cellT HRR.out 2 _ rfl
      have c3 := row_cellT HRR.out 3 _ rfl
      have e0 := row_cellT HRT.out 0 _ rfl
      have e1 := row_cellT HRT.out 1 _ rfl
      have e2 := row_cellT HRT.out 2 _ rfl
      have e3 := row_cellT HRT.out 3 _ rfl
      have e4 := row_cellT HRT.out 4 _ rfl
      have e5 := row_cellT HRT.out 5 _ rfl
      cases b1
      · have HV : Hid (res = false) := by show _ = _; rw [HV1.out]; rfl
        go_wp2_with fail
        go_ret
        exact ⟨by rw [HV.out]; rfl, HG.out⟩
      have HV : Hid (res = (decide (keyE ts = 0) && hasF d (pos - nv) (ends ts))) := by show _ = _; rw [HV1.out]; rfl
      go_wp2_with fail
      refine (rkey_any d _ (pos - nv) ts _ HD.out HAT.out HTS.out).mono ?_
      rintro r u7 ⟨rfl, rfl⟩
      go_wp2_with fail
      go_ret
      exact ⟨by rw [HV.out]; rfl, HG.out⟩
    have b4 : (typ == 4) = false := by simpa using h4
    by_cases h5 : typ = 5
    · clear h4 b4
      subst h5
      have HV1 : Hid (res = (bareF t 6 0 0 ts && (numF d (pos - nv - wid) wid).2 && decide ((pos - nv) % wid = 0) && decide ((numF d (pos - nv - wid) wid).1 = ts.size) && hasF d (pos - nv) (if true = true then ends ts else ts))) := by show _ = _; rw [HV0.out, if_pos (by decide), HK.out.2.2.2]; show textF d 5 wid (pos - nv) t = _; unfold textF; simp [Bool.and_assoc]
      obtain ⟨b1, hb1⟩ : ∃ b, bareF t 6 0 0 ts = b := ⟨_, rfl⟩
      have hh := leaf_any t _ 6 0 0 ts _ HT.out
      rw [hb1] at hh HV1
      clear hb1
      go_wp2_with fail
      refine hh.mono ?_
      clear hh
      rintro r u6 ⟨rfl, hgc⟩
      clear c0 c1 c2 c3
      clear e0 e1 e2 e3 e4 e5
      replace HD := Lib.hid (DocAt.grew HD.out hgc)
      replace HT := Lib.hid (NodeAt.grew hgc HT.out)
      replace HRR := Lib.hid (hgc.heap HRR.out)
      replace HRT := Lib.hid (hgc.heap HRT.out)
      replace HG := Lib.hid (HG.out.trans hgc)
      clear hgc
      have c0 := row_cellT HRR.out 0 _ rfl
      have c1 := row_cellT HRR.out 1 _ rfl
      have c2 := row_cellT HRR.out 2 _ rfl
      have c3 := row_cellT HRR.out 3 _ rfl
      have e0 := row_cellT HRT.out 0 _ rfl
      have e1 := row_cellT HRT.out 1 _ rfl
      have e2 := row_cellT HRT.out 2 _ rfl
      have e3 := row_cellT HRT.out 3 _ rfl
      have e4 := row_cellT HRT.out 4 _ rfl
      have e5 := row_cellT HRT.out 5 _ rfl
      cases b1
      · have HV : Hid (res = false) := by show _ = _; rw [HV1.out]; rfl
        go_wp2_with fail
        go_ret
        exact ⟨by rw [HV.out]; rfl, HG.out⟩
      have HV : Hid (res = ((numF d (pos - nv - wid) wid).2 && decide ((pos - nv) % wid = 0) && decide ((numF d (pos - nv - wid) wid).1 = ts.size) && hasF d (pos - nv) (if true = true then ends ts else ts))) := by show _ = _; rw [HV1.out]; rfl
      go_wp2_with fail
      refine (r27text_any d _ (pos - nv) wid ts true _ HD.out HAT.out HTS.out HWW.out).mono ?_
      rintro r u7 ⟨rfl, rfl⟩
      go_wp2_with fail
      go_ret
      exact ⟨by rw [HV.out]; rfl, HG.out⟩
    have b5 : (typ == 5) = false := by simpa using h5
    by_cases h25 : typ = 25
    · clear h4 b4 h5 b5
      subst h25
      have HV1 : Hid (res = (bareF t 7 0 0 ts && (numF d (pos - nv - wid) wid).2 && decide ((pos - nv) % wid = 0) && decide ((numF d (pos - nv - wid) wid).1 = ts.size) && hasF d (pos - nv) (if false = true then ends ts else ts))) := by show _ = _; rw [HV0.out, if_pos (by decide), HK.out.2.2.2]; show textF d 25 wid (pos - nv) t = _; unfold textF; simp [Bool.and_assoc]
      obtain ⟨b1, hb1⟩ : ∃ b, bareF t 7 0 0 ts = b := ⟨_, rfl⟩
      have hh := leaf_any t _ 7 0 0 ts _ HT.out
      rw [hb1] at hh HV1
      clear hb1
      go_wp2_with fail
      refine hh.mono ?_
      clear hh
      rintro r u6 ⟨rfl, hgc⟩
      clear c0 c1 c2 c3
      clear e0 e1 e2 e3 e4 e5
      replace HD := Lib.hid (DocAt.grew HD.out hgc)
      replace HT := Lib.hid (NodeAt.grew hgc HT.out)
      replace HRR := Lib.hid (hgc.heap HRR.out)
      replace HRT := Lib.hid (hgc.heap HRT.out)
      replace HG := Lib.hid (HG.out.trans hgc)
      clear hgc
      have c0 := row_cellT HRR.out 0 _ rfl
      have c1 := row_cellT HRR.out 1 _ rfl
      have c2 := row_cellT HRR.out 2 _ rfl
      have c3 := row_cellT HRR.out 3 _ rfl
      have e0 := row_cellT HRT.out 0 _ rfl
      have e1 := row_cellT HRT.out 1 _ rfl
      have e2 := row_cellT HRT.out 2 _ rfl
      have e3 := row_cellT HRT.out 3 _ rfl
      have e4 := row_cellT HRT.out 4 _ rfl
      have e5 := row_cellT HRT.out 5 _ rfl
      cases b1
      · have HV : Hid (res = false) := by show _ = _; rw [HV1.out]; rfl
        go_wp2_with fail
        go_ret
        exact ⟨by rw [HV.out]; rfl, HG.out⟩
      have HV : Hid (res = ((numF d (pos - nv - wid) wid).2 && decide ((pos - nv) % wid = 0) && decide ((numF d (pos - nv - wid) wid).1 = ts.size) && hasF d (pos - nv) (if false = true then ends ts else ts))) := by show _ = _; rw [HV1.out]; rfl
      go_wp2_with fail
      refine (r27text_any d _ (pos - nv) wid ts false _ HD.out HAT.out HTS.out HWW.out).mono ?_
      rintro r u7 ⟨rfl, rfl⟩
      go_wp2_with fail
      go_ret
      exact ⟨by rw [HV.out]; rfl, HG.out⟩
    have b25 : (typ == 25) = false := by simpa using h25
    by_cases h6 : typ = 6
    · clear h4 b4 h5 b5 h25 b25
      subst h6
      have HV : Hid (res = indF d 6 wid (pos - nv) t) := by show _ = _; rw [HV0.out, if_pos (by decide), ind_look (pos := pos) (par := par) (by omega)]
      go_wp2_with fail
      refine (rindirect_any d _ pos par 6 wid (pos - nv) t _ _ HD.out HT.out HAT.out HWW.out).mono ?_
      rintro r u6 ⟨rfl, hgc⟩
      replace HD := Lib.hid (DocAt.grew HD.out hgc)
      replace HT := Lib.hid (NodeAt.grew hgc HT.out)
      replace HRR := Lib.hid (hgc.heap HRR.out)
      replace HRT := Lib.hid (hgc.heap HRT.out)
      replace HG := Lib.hid (HG.out.trans hgc)
      clear hgc
      clear c0 c1 c2 c3
      clear e0 e1 e2 e3 e4 e5
      go_wp2_with fail
      go_ret
      exact ⟨by rw [HV.out]; rfl, HG.out⟩
    have b6 : (typ == 6) = false := by simpa using h6
    by_cases h7 : typ = 7
    · clear h4 b4 h5 b5 h25 b25 h6 b6
      subst h7
      have HV : Hid (res = indF d 7 wid (pos - nv) t) := by show _ = _; rw [HV0.out, if_pos (by decide), ind_look (pos := pos) (par := par) (by omega)]
      go_wp2_with fail
      refine (rindirect_any d _ pos par 7 wid (pos - nv) t _ _ HD.out HT.out HAT.out HWW.out).mono ?_
      rintro r u6 ⟨rfl, hgc⟩
      replace HD := Lib.hid (DocAt.grew HD.out hgc)
      replace HT := Lib.hid (NodeAt.grew hgc HT.out)
      replace HRR := Lib.hid (hgc.heap HRR.out)
      replace HRT := Lib.hid (hgc.heap HRT.out)
      replace HG := Lib.hid (HG.out.trans hgc)
      clear hgc
      clear c0 c1 c2 c3
      clear e0 e1 e2 e3 e4 e5
      go_wp2_with fail
      go_ret
      exact ⟨by rw [HV.out]; rfl, HG.out⟩
    have b7 : (typ == 7) = false := by simpa using h7
    have hfar : farT typ = false := by unfold farT; rw [decide_eq_false h4, decide_eq_false h5, decide_eq_false h25, decide_eq_false h6, decide_eq_false h7]; rfl
    have HV : Hid (res = listF d typ wid (pos - nv) t) := by show _ = _; rw [HV0.out, hfar]; rfl
    have HFAR := Lib.hid hfar
    clear h4 h5 h25 h6 h7 hfar
    go_wp2_with fail
    refine (HVEC.out HNR.out HFAR.out _ pos par wid (pos - nv) _ _ HD.out HT.out HAT.out HWW.out).mono ?_
    rintro r u6 ⟨rfl, hgc⟩
    replace HD := Lib.hid (DocAt.grew HD.out hgc)
    replace HT := Lib.hid (NodeAt.grew hgc HT.out)
    replace HRR := Lib.hid (hgc.heap HRR.out)
    replace HRT := Lib.hid (hgc.heap HRT.out)
    replace HG := Lib.hid (HG.out.trans hgc)
    clear hgc
    clear c0 c1 c2 c3
    clear e0 e1 e2 e3 e4 e5
    go_wp2_with fail
    go_ret
    exact ⟨by rw [HV.out]; rfl, HG.out⟩
  refine ⟨?_, ?_⟩
  · intro y w2 hG hD K hK
    generalize hA : fillL y _ _ = A at hK ⊢
    simp only [fillL, Act.put, List.setIfInBounds_toArray, List.set_cons_zero, List.set_cons_succ, List.getD_cons_zero, List.getD_cons_succ, Is] at hA
    subst hA
    refine ite_yes (by rfl) ?_
    go_simp
    exact hK _ _ _ rfl (Grew.refl _) rfl
  refine ⟨?_, ?_⟩
  · intro y w2 hG hD K hK
    simp only [depsH, List.getD_cons_zero, List.getD_cons_succ, Is, and_true] at hD
    have h0 := hD
    clear hD
    generalize hA : fillL y _ _ = A at hK ⊢
    simp only [fillL, Act.put, List.setIfInBounds_toArray, List.set_cons_zero, List.set_cons_succ, List.getD_cons_zero, List.getD_cons_succ, Is] at hA
    subst hA
    simp only [h0] at hK ⊢
    clear h0
    refine ite_yes (by rfl) ?_
    go_simp
    exact hK _ _ _ rfl (Grew.refl _) rfl
  refine ⟨?_, ?_⟩
  · intro y w2 hG hD K hK
    simp only [depsH, List.getD_cons_zero, List.getD_cons_succ, Is, and_true] at hD
    have h0 := hD.1
    have h1 := hD.2
    clear hD
    generalize hA : fillL y _ _ = A at hK ⊢
    simp only [fillL, Act.put, List.setIfInBounds_toArray, List.set_cons_zero, List.set_cons_succ, List.getD_cons_zero, List.getD_cons_succ, Is] at hA
    subst hA
    simp only [h0, h1] at hK ⊢
    clear h0 h1
    refine ite_yes (by rfl) ?_
    go_simp
    exact hK _ _ _ rfl (Grew.refl _) rfl
  refine ⟨?_, ?_⟩
  · intro y w2 hG hD K hK
    simp only [depsH, List.getD_cons_zero, List.getD_cons_succ, Is, and_true] at hD
    have h0 := hD.1
    have h1 := hD.2.1
    have h2 := hD.2.2
    clear hD
    generalize hA : fillL y _ _ = A at hK ⊢
    simp only [fillL, Act.put, List.setIfInBounds_toArray, List.set_cons_zero, List.set_cons_succ, List.getD_cons_zero, List.getD_cons_succ, Is] at hA
    subst hA
    simp only [h0, h1, h2] at hK ⊢
    clear h0 h1 h2
    refine ite_yes (by rfl) ?_
    go_simp
    exact hK _ _ _ rfl (Grew.refl _) rfl
  refine ⟨?_, ?_⟩
  · intro y w2 hG hD K hK
    simp only [depsH, List.getD_cons_zero, List.getD_cons_succ, Is, and_true] at hD
    have h0 := hD.1
    have h1 := hD.2.1
    have h2 := hD.2.2.1
    have h3 := hD.2.2.2
    clear hD
    generalize hA : fillL y _ _ = A at hK ⊢
    simp only [fillL, Act.put, List.setIfInBounds_toArray, List.set_cons_zero, List.set_cons_succ, List.getD_cons_zero, List.getD_cons_succ, Is] at hA
    subst hA
    simp only [h0, h1, h2, h3] at hK ⊢
    clear h0 h1 h2 h3
    refine ite_yes (by rfl) ?_
    go_simp
    exact hK _ _ _ rfl (Grew.refl _) (by first | rfl | exact congrArg Value.bool (decide_eq_false (by omega)))
  refine ⟨?_, ?_⟩
  · intro y w2 hG hD K hK
    simp only [depsH, List.getD_cons_zero, List.getD_cons_succ, Is, and_true] at hD
    have h0 := hD.1
    have h1 := hD.2.1
    have h2 := hD.2.2.1
    have h3 := hD.2.2.2.1
    have h4 := hD.2.2.2.2
    clear hD
    generalize hA : fillL y _ _ = A at hK ⊢
    simp only [fillL, Act.put, List.setIfInBounds_toArray, List.set_cons_zero, List.set_cons_succ, List.getD_cons_zero, List.getD_cons_succ, Is] at hA
    subst hA
    simp only [h0, h1, h2, h3, h4] at hK ⊢
    clear h0 h1 h2 h3 h4
    refine ite_yes (by rfl) ?_
    go_simp
    exact hK _ _ _ rfl (Grew.refl _) rfl
  refine ⟨?_, ?_⟩
  · intro y w2 hG hD K hK
    simp only [depsH, List.getD_cons_zero, List.getD_cons_succ, Is, and_true] at hD
    have h0 := hD.1
    have h1 := hD.2.1
    have h2 := hD.2.2.1
    have h3 := hD.2.2.2.1
    have h4 := hD.2.2.2.2.1
    have h5 := hD.2.2.2.2.2
    clear hD
    generalize hA : fillL y _ _ = A at hK ⊢
    simp only [fillL, Act.put, List.setIfInBounds_toArray, List.set_cons_zero, List.set_cons_succ, List.getD_cons_zero, List.getD_cons_succ, Is] at hA
    subst hA
    simp only [h0, h1, h2, h3, h4, h5] at hK ⊢
    clear h0 h1 h2 h3 h4 h5
    refine ite_yes (by rfl) ?_
    go_simp
    exact hK _ _ _ rfl (Grew.refl _) rfl
  refine ⟨?_, ?_⟩
  · intro y w2 hG hD K hK
    simp only [depsH, List.getD_cons_zero, List.getD_cons_succ, Is, and_true] at hD
    have h0 := hD.1
    have h1 := hD.2.1
    have h2 := hD.2.2.1
    have h3 := hD.2.2.2.1
    have h4 := hD.2.2.2.2.1
    have h5 := hD.2.2.2.2.2.1
    have h6 := hD.2.2.2.2.2.2
    clear hD
    generalize hA : fillL y _ _ = A at hK ⊢
    simp only [fillL, Act.put, List.setIfInBounds_toArray, List.set_cons_zero, List.set_cons_succ, List.getD_cons_zero, List.getD_cons_succ, Is] at hA
    subst hA
    simp only [h0, h1, h2, h3, h4, h5, h6] at hK ⊢
    clear h0 h1 h2 h3 h4 h5 h6
    refine ite_yes (by rfl) ?_
    go_simp
    exact hK _ _ _ rfl (Grew.refl _) rfl
  refine ⟨?_, ?_⟩
  · intro y w2 hG hD K hK
    simp only [depsH, List.getD_cons_zero, List.getD_cons_succ, Is, and_true] at hD
    have h0 := hD.1
    have h1 := hD.2.1
    have h2 := hD.2.2.1
    have h3 := hD.2.2.2.1
    have h4 := hD.2.2.2.2.1
    have h5 := hD.2.2.2.2.2.1
    have h6 := hD.2.2.2.2.2.2
    clear hD
    generalize hA : fillL y _ _ = A at hK ⊢
    simp only [fillL, Act.put, List.setIfInBounds_toArray, List.set_cons_zero, List.set_cons_succ, List.getD_cons_zero, List.getD_cons_succ, Is] at hA
    subst hA
    simp only [h0, h1, h2, h3, h4, h5, h6] at hK ⊢
    clear h0 h1 h2 h3 h4 h5 h6
    refine ite_yes (by rfl) ?_
    go_simp
    exact hK _ _ _ rfl (Grew.refl _) rfl
  refine ⟨?_, ?_⟩
  · intro y w2 hG hD K hK
    simp only [depsH, List.getD_cons_zero, List.getD_cons_succ, Is, and_true] at hD
    have h0 := hD.1
    have h1 := hD.2.1
    have h2 := hD.2.2.1
    have h3 := hD.2.2.2.1
    have h4 := hD.2.2.2.2.1
    have h5 := hD.2.2.2.2.2.1
    have h6 := hD.2.2.2.2.2.2.1
    have h8 := hD.2.2.2.2.2.2.2
    clear hD
    have dc0 := hG.cell c0
    have dc1 := hG.cell c1
    have dc2 := hG.cell c2
    have dc3 := hG.cell c3
    generalize hA : fillL y _ _ = A at hK ⊢
    simp only [fillL, Act.put, List.setIfInBounds_toArray, List.set_cons_zero, List.set_cons_succ, List.getD_cons_zero, List.getD_cons_succ, Is] at hA
    subst hA
    simp only [h0, h1, h2, h3, h4, h5, h6, h8] at hK ⊢
    clear h0 h1 h2 h3 h4 h5 h6 h8
    refine ite_yes (by rfl) ?_
    go_simp
    exact hK _ _ _ rfl (Grew.refl _) rfl
  refine ⟨?_, ?_⟩
  · intro y w2 hG hD K hK
    simp only [depsH, List.getD_cons_zero, List.getD_cons_succ, Is, and_true] at hD
    have h0 := hD.1
    have h1 := hD.2.1
    have h2 := hD.2.2.1
    have h3 := hD.2.2.2.1
    have h4 := hD.2.2.2.2.1
    have h5 := hD.2.2.2.2.2.1
    have h6 := hD.2.2.2.2.2.2.1
    have h8 := hD.2.2.2.2.2.2.2.1
    have h9 := hD.2.2.2.2.2.2.2.2
    clear hD
    generalize hA : fillL y _ _ = A at hK ⊢
    simp only [fillL, Act.put, List.setIfInBounds_toArray, List.set_cons_zero, List.set_cons_succ, List.getD_cons_zero, List.getD_cons_succ, Is] at hA
    subst hA
    simp only [h0, h1, h2, h3, h4, h5, h6, h8, h9] at hK ⊢
    clear h0 h1 h2 h3 h4 h5 h6 h8 h9
    refine ite_yes (by rfl) ?_
    go_simp
    refine (rahead_any typ w2).mono ?_
    rintro r w3 ⟨rfl, hg3⟩
    exact hK _ _ _ rfl hg3 rfl
  refine ⟨?_, ?_⟩
  · intro y w2 hG hD K hK
    simp only [depsH, List.getD_cons_zero, List.getD_cons_succ, Is, and_true] at hD
    have h0 := hD.1
    have h1 := hD.2.1
    have h2 := hD.2.2.1
    have h3 := hD.2.2.2.1
    have h4 := hD.2.2.2.2.1
    have h5 := hD.2.2.2.2.2.1
    have h6 := hD.2.2.2.2.2.2
    clear hD
    generalize hA : fillL y _ _ = A at hK ⊢
    simp only [fillL, Act.put, List.setIfInBounds_toArray, List.set_cons_zero, List.set_cons_succ, List.getD_cons_zero, List.getD_cons_succ, Is] at hA
    subst hA
    simp only [h0, h1, h2, h3, h4, h5, h6] at hK ⊢
    clear h0 h1 h2 h3 h4 h5 h6
    refine ite_yes (by rfl) ?_
    go_simp
    exact hK _ _ _ rfl (Grew.refl _) rfl
  refine ⟨?_, ?_⟩
  · intro y w2 hG hD K hK
    simp only [depsH, List.getD_cons_zero, List.getD_cons_succ, Is, and_true] at hD
    have h0 := hD.1
    have h1 := hD.2.1
    have h2 := hD.2.2.1
    have h3 := hD.2.2.2.1
    have h4 := hD.2.2.2.2.1
    have h5 := hD.2.2.2.2.2.1
    have h6 := hD.2.2.2.2.2.2.1
    have h11 := hD.2.2.2.2.2.2.2
    clear hD
    have dc0 := hG.cell c0
    have dc1 := hG.cell c1
    have dc2 := hG.cell c2
    have dc3 := hG.cell c3
    generalize hA : fillL y _ _ = A at hK ⊢
    simp only [fillL, Act.put, List.setIfInBounds_toArray, List.set_cons_zero, List.set_cons_succ, List.getD_cons_zero, List.getD_cons_succ, Is] at hA
    subst hA
    simp only [h0, h1, h2, h3, h4, h5, h6, h11] at hK ⊢
    clear h0 h1 h2 h3 h4 h5 h6 h11
    refine ite_yes (by rfl) ?_
    go_simp
    exact hK _ _ _ rfl (Grew.refl _) rfl
  refine ⟨?_, ?_⟩
  · intro y w2 hG hD K hK
    simp only [depsH, List.getD_cons_zero, List.getD_cons_succ, Is, and_true] at hD
    have h0 := hD.1
    have h1 := hD.2.1
    have h2 := hD.2.2.1
    have h3 := hD.2.2.2.1
    have h4 := hD.2.2.2.2.1
    have h5 := hD.2.2.2.2.2.1
    have h6 := hD.2.2.2.2.2.2.1
    have h8 := hD.2.2.2.2.2.2.2.1
    have h9 := hD.2.2.2.2.2.2.2.2.1
    have h10 := hD.2.2.2.2.2.2.2.2.2.1
    have h11 := hD.2.2.2.2.2.2.2.2.2.2.1
    have h12 := hD.2.2.2.2.2.2.2.2.2.2.2
    clear hD
    generalize hA : fillL y _ _ = A at hK ⊢
    simp only [fillL, Act.put, List.setIfInBounds_toArray, List.set_cons_zero, List.set_cons_succ, List.getD_cons_zero, List.getD_cons_succ, Is] at hA
    subst hA
    simp only [h0, h1, h2, h3, h4, h5, h6, h8, h9, h10, h11, h12] at hK ⊢
    clear h0 h1 h2 h3 h4 h5 h6 h8 h9 h10 h11 h12
    refine ite_yes (by rfl) ?_
    go_simp
    exact hK _ _ _ rfl (Grew.refl _) rfl
  refine ⟨?_, ?_⟩
  · intro y w2 hG hD K hK
    simp only [depsH, List.getD_cons_zero, List.getD_cons_succ, Is, and_true] at hD
    have h0 := hD.1
    have h1 := hD.2.1
    have h2 := hD.2.2.1
    have h3 := hD.2.2.2.1
    have h4 := hD.2.2.2.2.1
    have h5 := hD.2.2.2.2.2.1
    have h6 := hD.2.2.2.2.2.2.1
    have h7 := hD.2.2.2.2.2.2.2.1
    have h8 := hD.2.2.2.2.2.2.2.2.1
    have h9 := hD.2.2.2.2.2.2.2.2.2.1
    have h10 := hD.2.2.2.2.2.2.2.2.2.2.1
    have h11 := hD.2.2.2.2.2.2.2.2.2.2.2.1
    have h12 := hD.2.2.2.2.2.2.2.2.2.2.2.2.1
    have h13 := hD.2.2.2.2.2.2.2.2.2.2.2.2.2
    clear hD
    generalize hA : fillL y _ _ = A at hK ⊢
    simp only [fillL, Act.put, List.setIfInBounds_toArray, List.set_cons_zero, List.set_cons_succ, List.getD_cons_zero, List.getD_cons_succ, Is] at hA
    subst hA
    simp only [h0, h1, h2, h3, h4, h5, h6, h7, h8, h9, h10, h11, h12, h13] at hK ⊢
    clear h0 h1 h2 h3 h4 h5 h6 h7 h8 h9 h10 h11 h12 h13
    refine ite_yes (by rfl) ?_
    go_simp
    exact hK _ _ _ rfl (Grew.refl _) rfl
  refine ⟨?_, ?_⟩
  · intro y w2 hG hD K hK
    simp only [depsH, List.getD_cons_zero, List.getD_cons_succ, Is, and_true] at hD
    have h0 := hD.1
    have h1 := hD.2.1
    have h2 := hD.2.2.1
    have h3 := hD.2.2.2.1
    have h4 := hD.2.2.2.2.1
    have h5 := hD.2.2.2.2.2.1
    have h6 := hD.2.2.2.2.2.2
    clear hD
    generalize hA : fillL y _ _ = A at hK ⊢
    simp only [fillL, Act.put, List.setIfInBounds_toArray, List.set_cons_zero, List.set_cons_succ, List.getD_cons_zero, List.getD_cons_succ, Is] at hA
    subst hA
    simp only [h0, h1, h2, h3, h4, h5, h6] at hK ⊢
    clear h0 h1 h2 h3 h4 h5 h6
    refine ite_yes (by rfl) ?_
    go_simp
    exact hK _ _ _ rfl (Grew.refl _) rfl
  refine ⟨?_, ?_⟩
  · intro y w2 hG hD K hK
    simp only [depsH, List.getD_cons_zero, List.getD_cons_succ, Is, and_true] at hD
    have h0 := hD.1
    have h1 := hD.2.1
    have h2 := hD.2.2.1
    have h3 := hD.2.2.2.1
    have h4 := hD.2.2.2.2.1
    have h5 := hD.2.2.2.2.2.1
    have h6 := hD.2.2.2.2.2.2.1
    have h7 := hD.2.2.2.2.2.2.2.1
    have h8 := hD.2.2.2.2.2.2.2.2.1
    have h9 := hD.2.2.2.2.2.2.2.2.2.1
    have h10 := hD.2.2.2.2.2.2.2.2.2.2.1
    have h11 := hD.2.2.2.2.2.2.2.2.2.2.2.1
    have h12 := hD.2.2.2.2.2.2.2.2.2.2.2.2.1
    have h13 := hD.2.2.2.2.2.2.2.2.2.2.2.2.2.1
    have h14 := hD.2.2.2.2.2.2.2.2.2.2.2.2.2.2.1
    have h15 := hD.2.2.2.2.2.2.2.2.2.2.2.2.2.2.2
    clear hD
    generalize hA : fillL y _ _ = A at hK ⊢
    simp only [fillL, Act.put, List.setIfInBounds_toArray, List.set_cons_zero, List.set_cons_succ, List.getD_cons_zero, List.getD_cons_succ, Is] at hA
    subst hA
    simp only [h0, h1, h2, h3, h4, h5, h6, h7, h8, h9, h10, h11, h12, h13, h14, h15] at hK ⊢
    clear h0 h1 h2 h3 h4 h5 h6 h7 h8 h9 h10 h11 h12 h13 h14 h15
    refine ite_yes (by rfl) ?_
    go_simp
    exact hK _ _ _ rfl (Grew.refl _) (by first | rfl | exact congrArg Value.bool HBL.out)
  refine ⟨?_, ?_⟩
  · intro y w2 hG hD K hK
    simp only [depsH, List.getD_cons_zero, List.getD_cons_succ, Is, and_true] at hD
    have h0 := hD.1
    have h1 := hD.2.1
    have h2 := hD.2.2.1
    have h3 := hD.2.2.2.1
    have h4 := hD.2.2.2.2.1
    have h5 := hD.2.2.2.2.2.1
    have h6 := hD.2.2.2.2.2.2.1
    have h7 := hD.2.2.2.2.2.2.2.1
    have h8 := hD.2.2.2.2.2.2.2.2.1
    have h9 := hD.2.2.2.2.2.2.2.2.2.1
    have h10 := hD.2.2.2.2.2.2.2.2.2.2.1
    have h11 := hD.2.2.2.2.2.2.2.2.2.2.2.1
    have h12 := hD.2.2.2.2.2.2.2.2.2.2.2.2.1
    have h13 := hD.2.2.2.2.2.2.2.2.2.2.2.2.2.1
    have h14 := hD.2.2.2.2.2.2.2.2.2.2.2.2.2.2.1
    have h15 := hD.2.2.2.2.2.2.2.2.2.2.2.2.2.2.2.1
    have h16 := hD.2.2.2.2.2.2.2.2.2.2.2.2.2.2.2.2
    clear hD
    generalize hA : fillL y _ _ = A at hK ⊢
    simp only [fillL, Act.put, List.setIfInBounds_toArray, List.set_cons_zero, List.set_cons_succ, List.getD_cons_zero, List.getD_cons_succ, Is] at hA
    subst hA
    simp only [h0, h1, h2, h3, h4, h5, h6, h7, h8, h9, h10, h11, h12, h13, h14, h15, h16] at hK ⊢
    clear h0 h1 h2 h3 h4 h5 h6 h7 h8 h9 h10 h11 h12 h13 h14 h15 h16
    refine ite_yes (by rfl) ?_
    go_simp
    exact hK _ _ _ rfl (Grew.refl _) rfl
  trivial
end Go.Proofs.Ytlhliolknaopjaa

/-
  Denote: the reference's vector and keys, what they answer. Conditions: none.
-/
namespace Go.Proofs.Ytlhliolknaopjaa
open Go Go.ChangeShapes Go.WideShapes Go.ChangeAt Go.RowKit Go.Joins Go.Deep
set_option linter.unusedVariables false
set_option linter.unusedSimpArgs false

def RSays (d : List UInt8) (typ : Int) (t : Tr) : Prop := ∀ (dv : Value) (pos par wid lim : Int) (tv : Value) (w : World), DocAt w dv d → NodeAt w t tv → i64ok pos →
    Calls Try.prog 34 #[dv, .agg #[.int .i64 pos, .int .i64 par, .int .i64 typ, .int .i64 wid], .int .i64 lim, tv] w fun r w' => r = .returned (.bool (saysF d typ pos par wid lim t)) ∧ Grew w w'
def RKeys (d : List UInt8) (l : List ByteArray) : Prop := ∀ (dv : Value) (first x : Int) (kv : Value) (w : World), DocAt w dv d → StrsAt w kv l → 0 ≤ first ∧ first ≤ 1048576 → isW x = true →
    Calls Try.prog 90 #[dv, .int .i64 first, .int .i64 x, kv] w fun r w' => r = .returned (.bool (keysF d first x l)) ∧ Grew w w'
theorem toList_nil (s : ByteArray) : s.toList = [] ↔ s = EMB := by
  rw [ByteArray.toList_eq]
  constructor
  · intro h
    obtain ⟨⟨l⟩⟩ := s
    simp at h
    subst h; rfl
  · rintro rfl; rfl
end Go.Proofs.Ytlhliolknaopjaa

/-
  Denote: the reference's vector at a map, where says and keys are given. Conditions: the bytes, the tree lie in memory; the tree is small.
-/
namespace Go.Proofs.Ytlhliolknaopjaa
open Go Go.ChangeShapes Go.WideShapes Go.ChangeAt Go.RowKit Go.Joins Go.Deep
set_option linter.unusedVariables false
set_option linter.unusedSimpArgs false

set_option maxRecDepth 100000 in
set_option maxHeartbeats 4000000 in
theorem vec_walkA (d : List UInt8) (typ k n u : Int) (s : ByteArray) (keys : List ByteArray) (l : List Tr) (hl : l.length ≤ 4096) (hkl4 : keys.length ≤ 4096) (hkids : ∀ x ∈ l, ∀ typ', ((shapeF typ).1 = 10 ∨ (shapeF typ).1 = 17 ∨ typ' = (Ft.elemF typ).1) → RSays d typ' x) (hkeys : (shapeF typ).1 = 17 → RKeys d keys) (hcase : (shapeF typ).1 = 17) : VecR d typ (.mk k n u s keys l) := by
  intro dv pos par wid at_ tv w hD hn ha hw
  simp only [NodeAt] at hn
  obtain ⟨hb, kv, lv, vs, rfl, hks, hrl, hkd⟩ := hn
  have hkl := hkd.length
  have HD := Lib.hid hD
  have HKS := Lib.hid hks
  have HB := Lib.hid hb
  have hdl := hD.2.1
  obtain ⟨da, dc, rfl, hdc⟩ := hD.form
  obtain ⟨a4, c4, rfl, hk1, hk2, hk3⟩ := hks
  have HRL := Lib.hid hrl
  obtain ⟨a5, c5, rfl, hl1, hl2, hl3, hl4⟩ := hrl
  rw [hkl] at HRL hl1 ⊢
  have HKD := Lib.hid hkd
  have HHK := Lib.hid hkids
  have HKY := Lib.hid hkeys
  have HW := Lib.hid hw
  have hlc : (l.length : Int) ≤ c5 := by omega
  clear hD hb hk1 hk2 hk3 hl2 hl3 hl4 hkd hkl hkids hkeys hl1
  have hw1 : 1 ≤ wid ∧ wid ≤ 8 := by rcases isW_cases hw with rfl | rfl | rfl | rfl <;> omega
  have hnw : 0 ≤ (l.length : Int) * wid ∧ (l.length : Int) * wid ≤ 32768 := by
    refine ⟨Int.mul_nonneg (by omega) (by omega), ?_⟩
    have h1 := Int.mul_le_mul (show (l.length : Int) ≤ 4096 by omega) hw1.2 (by omega) (by omega)
    omega
  have HSR := Lib.hid (shape_range typ)
  obtain ⟨q, hq⟩ : ∃ q, shapeF typ = q := ⟨_, rfl⟩
  rw [hq] at HSR
  have hshp := rkind_any typ
  rw [hq] at hshp
  have HSP := Lib.hid hshp
  clear hshp
  obtain ⟨kd, many⟩ := q
  simp only at HSR HSP
  obtain ⟨res, hres⟩ : ∃ b, listF d typ wid at_ (.mk k n u s keys l) = b := ⟨_, rfl⟩
  rw [hres]
  have HRES := Lib.hid hres
  clear hres
  rw [list_form hq] at HRES
  have HQ := Lib.hid hq
  have h17 : kd = 17 := by rw [hq] at hcase; exact hcase
  clear hcase
  clear hq
  have HG := Lib.hid (Grew.refl w)
  have hws : IntKind.i64.wrap ((l.length : Int) * wid) = (l.length : Int) * wid := by rw [IntKind.wrap_i64]; omega
  have hwe : IntKind.i64.wrap (at_ + (l.length : Int) * wid) = at_ + (l.length : Int) * wid := by rw [IntKind.wrap_i64]; omega
  have hwt : IntKind.i64.wrap (at_ + (l.length : Int) * wid + l.length) = at_ + (l.length : Int) * wid + l.length := by rw [IntKind.wrap_i64]; omega
  have hwf : IntKind.i64.wrap (at_ - wid) = at_ - wid := by rw [IntKind.wrap_i64]; omega
  have hw3 : IntKind.i64.wrap (3 * wid) = 3 * wid := by rw [IntKind.wrap_i64]; omega
  have hwm3 : IntKind.i64.wrap (at_ - 3 * wid) = at_ - 3 * wid := by rw [IntKind.wrap_i64]; omega
  have ht : Int.tmod at_ wid = at_ % wid := Int.tmod_eq_emod_of_nonneg ha.1
  have hwz : (wid == 0) = false := by rw [beq_eq_false_iff_ne]; omega
  have hm0 : 0 ≤ at_ % wid ∧ at_ % wid < 8 := ⟨Int.emod_nonneg _ (by omega), Int.lt_of_lt_of_le (Int.emod_lt_of_pos _ (by omega)) hw1.2⟩
  have hwm : IntKind.i64.wrap (at_ % wid) = at_ % wid := by rw [IntKind.wrap_i64]; omega
  obtain ⟨md, hmd⟩ : ∃ q, at_ % wid = q := ⟨_, rfl⟩
  rw [hmd] at ht hwm hm0 HRES
  clear hmd
  obtain ⟨K0, hK0⟩ : ∃ b, kidsF d typ wid at_ l.length 0 l = b := ⟨_, rfl⟩
  rw [hK0] at HRES
  have HK0 := Lib.hid hK0
  clear hK0
  go_enter Try.func59, Try.ntmps59
  go_upto_region 1 with fail
  obtain ⟨pr, hpr⟩ : ∃ N, w.heap.size = N := ⟨_, rfl⟩
  have HPR := Lib.hid hpr
  have hr1 := heap_alloc_new w (.cells #[.int .i64 pos, .int .i64 par, .int .i64 typ, .int .i64 wid] 35)
  have hga := (Grew.refl w).alloc (.cells #[.int .i64 pos, .int .i64 par, .int .i64 typ, .int .i64 wid] 35)
  have hz1 : (w.alloc (.cells #[.int .i64 pos, .int .i64 par, .int .i64 typ, .int .i64 wid] 35)).heap.size = pr + 1 := by rw [World.size_alloc, hpr]
  generalize (w.alloc (.cells #[.int .i64 pos, .int .i64 par, .int .i64 typ, .int .i64 wid] 35)) = x1 at *
  rw [hpr] at hr1 ⊢
  have hr2 := heap_alloc_new x1 (.cells #[.int .i64 k, .int .i64 n, .int .u64 u, .string s, .slice a4 keys.length c4, .slice a5 l.length c5] 27)
  have hgb := (Grew.refl x1).alloc (.cells #[.int .i64 k, .int .i64 n, .int .u64 u, .string s, .slice a4 keys.length c4, .slice a5 l.length c5] 27)
  generalize (x1.alloc (.cells #[.int .i64 k, .int .i64 n, .int .u64 u, .string s, .slice a4 keys.length c4, .slice a5 l.length c5] 27)) = x2 at *
  rw [hz1] at hr2
  try rw [hz1]
  have HRR := Lib.hid (hgb.heap hr1)
  have HRT := Lib.hid hr2
  replace HG := Lib.hid (hga.trans hgb)
  clear hr1 hr2 hz1 hpr hga hgb
  have c0 := row_cellT HRR.out 0 _ rfl
  have c1 := row_cellT HRR.out 1 _ rfl
  have c2 := row_cellT HRR.out 2 _ rfl
  have c3 := row_cellT HRR.out 3 _ rfl
  have e0 := row_cellT HRT.out 0 _ rfl
  have e1 := row_cellT HRT.out 1 _ rfl
  have e2 := row_cellT HRT.out 2 _ rfl
  have e3 := row_cellT HRT.out 3 _ rfl
  have e4 := row_cellT HRT.out 4 _ rfl
  have e5 := row_cellT HRT.out 5 _ rfl
  go_wp2_with fail
  refine (HSP.out x2).mono ?_
  rintro r u1 ⟨rfl, hgc⟩
  clear c0 c1 c2 c3
  clear e0 e1 e2 e3 e4 e5
  replace HRR := Lib.hid (hgc.heap HRR.out)
  replace HRT := Lib.hid (hgc.heap HRT.out)
  replace HG := Lib.hid (HG.out.trans hgc)
  clear hgc
  have c0 := row_cellT HRR.out 0 _ rfl
  have c1 := row_cellT HRR.out 1 _ rfl
  have c2 := row_cellT HRR.out 2 _ rfl
  have c3 := row_cellT HRR.out 3 _ rfl
  have e0 := row_cellT HRT.out 0 _ rfl
  have e1 := row_cellT HRT.out 1 _ rfl
  have e2 := row_cellT HRT.out 2 _ rfl
  have e3 := row_cellT HRT.out 3 _ rfl
  have e4 := row_cellT HRT.out 4 _ rfl
  have e5 := row_cellT HRT.out 5 _ rfl
  obtain rfl : many = 0 := HSR.out.2.2 (.inl h17)
  subst h17
  have HRS : Hid (res = (decide (k = 17) && decide (n = 0) && decide (u = 0) && decide (s = EMB) && decide (md = 0) && decide (at_ + (l.length : Int) * wid + (l.length : Int) ≤ d.length) && ((numF d (at_ - wid) wid).2 && decide ((numF d (at_ - wid) wid).1 = l.length)) && (decide (0 ≤ at_ - 3 * wid) && decide (keys.length = l.length) && keysF d (at_ - 3 * wid) wid keys) && K0)) := by show _ = _; rw [← HRES.out]; simp [bareF, Tr.kind, Tr.fn, Tr.fu, Tr.fs, Tr.keys, Tr.kids, Bool.and_assoc, -List.length_eq_zero_iff, show taggedB 17 = true by decide] <;> (try rfl)
  by_cases hck : k = 17
  rotate_left
  · have hbx : (k != 17) = true := by simpa using hck
    have HV : Hid (res = false) := by show _ = _; rw [HRS.out]; simp [hck]
    go_wp2_with fail
    go_ret
    exact ⟨by rw [HV.out]; rfl, HG.out⟩
  have hbk0 : (k != 17) = false := by simpa using hck
  by_cases hcn : n = 0
  rotate_left
  · have hbx : (n != 0) = true := by simpa using hcn
    have HV : Hid (res = false) := by show _ = _; rw [HRS.out]; simp [hcn]
    go_wp2_with fail
    go_ret
    exact ⟨by rw [HV.out]; rfl, HG.out⟩
  have hbn0 : (n != 0) = false := by simpa using hcn
  by_cases hcu : u = 0
  rotate_left
  · have hbx : (u != 0) = true := by simpa using hcu
    have HV : Hid (res = false) := by show _ = _; rw [HRS.out]; simp [hcu]
    go_wp2_with fail
    go_ret
    exact ⟨by rw [HV.out]; rfl, HG.out⟩
  have hbu0 : (u != 0) = false := by simpa using hcu
  by_cases hcs : s = EMB
  rotate_left
  · have hbx : ¬ s.toList = [] := fun h => hcs ((toList_nil s).1 h)
    have HV : Hid (res = false) := by show _ = _; rw [HRS.out]; simp [hcs]
    go_wp2_with fail
    go_ret
    exact ⟨by rw [HV.out]; rfl, HG.out⟩
  have hbs0 : s.toList = [] := (toList_nil s).2 hcs
  have HCS := Lib.hid hcs
  clear hcs
  by_cases hmd0 : md = 0
  rotate_left
  · have hbx : (md != 0) = true := by simpa using hmd0
    have HV : Hid (res = false) := by show _ = _; rw [HRS.out]; simp [hmd0]
    go_wp2_with fail
    go_ret
    exact ⟨by rw [HV.out]; rfl, HG.out⟩
  subst hmd0
  have HRS1 : Hid (res = (decide (at_ + (l.length : Int) * wid + (l.length : Int) ≤ d.length) && ((numF d (at_ - wid) wid).2 && decide ((numF d (at_ - wid) wid).1 = l.length)) && (decide (0 ≤ at_ - 3 * wid) && decide (keys.length = l.length) && keysF d (at_ - 3 * wid) wid keys) && K0)) := by show _ = _; rw [HRS.out]; simp [hck, hcn, hcu, HCS.out]
  clear hck hcn hcu
  replace HRS := HRS1
  obtain ⟨nn, hnn⟩ : ∃ q, numF d (at_ - wid) wid = q := ⟨_, rfl⟩
  have hnum := r27num_any d (.slice da d.length dc) (at_ - wid) wid
  unfold numR at hnum
  rw [hnn] at HRS hnum
  have HNU := Lib.hid hnum
  clear hnn hnum
  obtain ⟨nv, ni⟩ := nn
  simp only at HRS HNU
  go_wp2_with fail
  refine (HNU.out u1 (HD.out.grew HG.out)).mono ?_
  rintro r u2 ⟨rfl, rfl⟩
  cases ni
  · simp only [Bool.false_eq_true, if_false]
    have HV : Hid (res = false) := by show _ = _; rw [HRS.out]; simp
    go_wp2_with fail
    go_ret
    exact ⟨by rw [HV.out]; rfl, HG.out⟩
  simp only [if_true]
  by_cases hnv : nv = (l.length : Int)
  rotate_left
  · have hbx : (nv != (l.length : Int)) = true := by simpa using hnv
    have HV : Hid (res = false) := by show _ = _; rw [HRS.out]; simp [hnv]
    go_wp2_with fail
    go_ret
    exact ⟨by rw [HV.out]; rfl, HG.out⟩
  have hbx : (nv != (l.length : Int)) = false := by simpa using hnv
  by_cases hf0 : 0 ≤ at_ - 3 * wid
  rotate_left
  · have hlt0 : at_ - 3 * wid < 0 := by omega
    have HV : Hid (res = false) := by show _ = _; rw [HRS.out]; simp [show ¬ 3 * wid ≤ at_ by omega]
    go_wp2_with fail
    go_ret
    exact ⟨by rw [HV.out]; rfl, HG.out⟩
  by_cases hkn : keys.length = l.length
  rotate_left
  · have hbk : ((keys.length : Int) != (l.length : Int)) = true := by simp; omega
    have HV : Hid (res = false) := by show _ = _; rw [HRS.out]; simp [hkn]
    go_wp2_with fail
    go_ret
    exact ⟨by rw [HV.out]; rfl, HG.out⟩
  have hbk : ((keys.length : Int) != (l.length : Int)) = false := by simp; omega
  obtain ⟨kB, hkB⟩ : ∃ b, keysF d (at_ - 3 * wid) wid keys = b := ⟨_, rfl⟩
  have HKB := Lib.hid hkB
  have HRS3 : Hid (res = (kB && (decide (at_ + (l.length : Int) * wid + (l.length : Int) ≤ d.length) && K0))) := by show _ = _; rw [HRS.out, hkB]; simp [hnv, hkn, show 3 * wid ≤ at_ by omega]; cases kB <;> simp
  clear hkB
  have HKC := Lib.hid (HKY.out (by rw [HQ.out]) (.slice da d.length dc) (at_ - 3 * wid) wid (.slice a4 keys.length c4) u2 (HD.out.grew HG.out) (HKS.out.grew HG.out) ⟨hf0, by omega⟩ HW.out)
  rw [HKB.out] at HKC
  clear hnv hkn
  go_wp2_with fail
  refine HKC.out.mono ?_
  rintro r u6 ⟨rfl, hgc⟩
  clear c0 c1 c2 c3
  clear e0 e1 e2 e3 e4 e5
  replace HRR := Lib.hid (hgc.heap HRR.out)
  replace HRT := Lib.hid (hgc.heap HRT.out)
  replace HG := Lib.hid (HG.out.trans hgc)
  clear hgc
  have c0 := row_cellT HRR.out 0 _ rfl
  have c1 := row_cellT HRR.out 1 _ rfl
  have c2 := row_cellT HRR.out 2 _ rfl
  have c3 := row_cellT HRR.out 3 _ rfl
  have e0 := row_cellT HRT.out 0 _ rfl
  have e1 := row_cellT HRT.out 1 _ rfl
  have e2 := row_cellT HRT.out 2 _ rfl
  have e3 := row_cellT HRT.out 3 _ rfl
  have e4 := row_cellT HRT.out 4 _ rfl
  have e5 := row_cellT HRT.out 5 _ rfl
  cases kB
  · have HV : Hid (res = false) := by show _ = _; rw [HRS3.out]; simp
    go_wp2_with fail
    go_ret
    exact ⟨by rw [HV.out]; rfl, HG.out⟩
  by_cases hend : at_ + (l.length : Int) * wid + (l.length : Int) ≤ d.length
  rotate_left
  · have hgt : (d.length : Int) < at_ + (l.length : Int) * wid + (l.length : Int) := by omega
    have HV : Hid (res = false) := by show _ = _; rw [HRS3.out]; simp [hend]
    go_wp2_with fail
    go_ret
    exact ⟨by rw [HV.out]; rfl, HG.out⟩
  have HRS2 : Hid (res = K0) := by show _ = _; rw [HRS3.out]; simp [hend]
  have hngt : ¬ (d.length : Int) < at_ + (l.length : Int) * wid + (l.length : Int) := by omega
  have hel := relem_any typ
  obtain ⟨el, hel2⟩ : ∃ e, Ft.elemF typ = e := ⟨_, rfl⟩
  rw [hel2] at hel
  have HEL := Lib.hid hel
  have HEQ := Lib.hid hel2
  clear hel hel2
  obtain ⟨el1, el2, el3⟩ := el
  simp only at HEL
  have HFI : Hid (firstF typ wid at_ = at_ - 3 * wid) := by show _ = _; unfold firstF; rw [HQ.out]; rfl
  have HEO : Hid (∀ i : Nat, elemOf d typ wid at_ l.length i = Ft.unpackF ((d[(at_ + (l.length : Int) * wid + i).toNat]?).getD 0).toNat) := fun i => by unfold elemOf; rw [HQ.out]; rfl
  have HEND : Hid (at_ + (l.length : Int) * wid + (l.length : Int) ≤ d.length) := hend
  have HRR0 := HRR
  have HRT0 := HRT
  go_upto_region 23 with fail
  clear c0 c1 c2 c3
  clear e0 e1 e2 e3 e4 e5
  go_wp2_with fail
  go_loopw [17] (fun i wr => ∃ kk : Nat, kk ≤ l.length ∧ i = .int .i64 kk ∧ Hid (Grew u6 wr ∧ K0 = kidsF d typ wid at_ l.length kk (l.drop kk))) (fun i _ => l.length - (intOf i).toNat)
  case atStart => exact ⟨0, Nat.zero_le _, rfl, by show _ ∧ _; exact ⟨Grew.refl _, by rw [List.drop_zero]; exact HK0.out.symm⟩⟩
  case round =>
    obtain ⟨kk, hkk, rfl, HL⟩ := hrel
    have HGW := Lib.hid (HG.out.trans HL.out.1)
    have HRRW := Lib.hid (HL.out.1.heap HRR0.out)
    have HRTW := Lib.hid (HL.out.1.heap HRT0.out)
    by_cases hlt : kk < l.length
    rotate_left
    · have ek : kk = l.length := by omega
      have HV : Hid (res = true) := by show _ = _; rw [HRS2.out, HL.out.2, ek, List.drop_length]; rfl
      subst ek
      clear hlt
      go_wp2_with fail
      go_ret
      exact ⟨by rw [HV.out]; rfl, HGW.out⟩
    obtain ⟨x, hx⟩ : ∃ x, l[kk]? = some x := ⟨_, List.getElem?_eq_getElem hlt⟩
    obtain ⟨xv, hxv, hnx⟩ := HKD.out.get hx
    have hxm : x ∈ l := List.mem_of_getElem? hx
    have HDR : Hid (l.drop kk = x :: l.drop (kk + 1)) := by show _ = _; rw [List.drop_eq_getElem_cons hlt]; congr 1; rw [List.getElem?_eq_getElem hlt] at hx; injection hx
    obtain ⟨b, off, rfl, hc6⟩ : ∃ b off, a5 = some ⟨b, off, none⟩ ∧ Cells6 wr b (off + kk * 6) xv := by
      obtain ⟨a, c, e, _, _, _, h⟩ := HRL.out
      injection e with e1 e2 e3
      subst e1
      obtain ⟨b, off, e, h6⟩ := h kk xv hxv
      exact ⟨b, off, e, h6.grew HGW.out⟩
    obtain ⟨xk, xn, xu, xs, xa4, xn4, xc4, xa5, xn5, xc5, rfl⟩ := hnx.node6
    have HC6 := Lib.hid hc6
    have HNX := Lib.hid (hnx.grew HGW.out)
    have hlti : (kk : Int) < l.length := by omega
    have hkw : 0 ≤ (kk : Int) * wid ∧ (kk : Int) * wid ≤ 32768 := by
      refine ⟨Int.mul_nonneg (by omega) (by omega), ?_⟩
      have h1 := Int.mul_le_mul (show (kk : Int) ≤ 4096 by omega) hw1.2 (by omega) (by omega)
      omega
    have hwk : IntKind.i64.wrap ((kk : Int) * wid) = (kk : Int) * wid := by rw [IntKind.wrap_i64]; omega
    have hwk2 : IntKind.i64.wrap (at_ + (kk : Int) * wid) = at_ + (kk : Int) * wid := by rw [IntKind.wrap_i64]; omega
    have HSX := Lib.hid (HHK.out x hxm)
    clear hc6 hx hxv hnx hxm
    have c2 := row_cellT HRRW.out 2 _ rfl
    go_wp2_with fail
    refine (HEL.out wr).mono ?_
    rintro r wq ⟨rfl, e⟩
    rw [e]
    clear e wq c2
    have hix : (at_ + (l.length : Int) * wid + (kk : Int)).toNat < d.length := by have := HEND.out; omega
    have hwx : IntKind.i64.wrap (at_ + (l.length : Int) * wid + (kk : Int)) = at_ + (l.length : Int) * wid + (kk : Int) := by rw [IntKind.wrap_i64]; omega
    have hend2 : at_ + (l.length : Int) * wid + (kk : Int) < d.length := by have := HEND.out; omega
    have hpos2 : 0 ≤ at_ + (l.length : Int) * wid + (kk : Int) := by omega
    obtain ⟨by_, hby⟩ : ∃ b, d[(at_ + (l.length : Int) * wid + (kk : Int)).toNat]? = some b := ⟨_, List.getElem?_eq_getElem hix⟩
    obtain ⟨bl, bo, rfl, hcb⟩ : ∃ bl bo, da = some ⟨bl, bo, none⟩ ∧ w.cell? ⟨bl, bo + (at_ + (l.length : Int) * wid + (kk : Int)).toNat, none⟩ = some (.int .u8 by_.toNat) := by
      obtain ⟨⟨a, c, e, _, _, h⟩, _⟩ := HD.out
      cases e
      obtain ⟨bl, bo, e, hc⟩ := h _ by_ hby
      exact ⟨bl, bo, e, hc⟩
    have hun := fun w => runpack_any by_.toNat w (by exact UInt8.toNat_lt _)
    obtain ⟨un, hun2⟩ : ∃ q, Ft.unpackF by_.toNat = q := ⟨_, rfl⟩
    rw [hun2] at hun
    have HUN := Lib.hid hun
    have HEK : Hid (elemOf d typ wid at_ l.length kk = un) := by show _ = _; rw [HEO.out, hby]; exact hun2
    clear hun hun2 hby
    obtain ⟨own, wide, ue⟩ := un
    simp only at HUN
    have hcb2 := (HGW.out.alloc (.cells #[.int .i64 (at_ + (kk : Int) * wid), .int .i64 wid, .int .i64 el1, .int .i64 wid] 35)).cell hcb
    go_wp2_with fail
    refine (HUN.out _).mono ?_
    rintro r wz ⟨rfl, rfl⟩
    clear hcb2
    by_cases hue : ue = 0
    rotate_left
    · have hbu : (ue != 0) = true := by simpa using hue
      have HV : Hid (res = false) := by show _ = _; rw [HRS2.out, HL.out.2, HDR.out, kidsF, HEK.out, decide_eq_false hue]; rfl
      have HGF := Lib.hid (HGW.out.alloc (.cells #[.int .i64 (at_ + (kk : Int) * wid), .int .i64 wid, .int .i64 el1, .int .i64 wid] 35))
      clear hue
      go_wp2_with fail
      go_ret
      exact ⟨by rw [HV.out]; rfl, HGF.out⟩
    subst hue
    go_upto_region 33 with fail
    have hry := heap_alloc_new wr (.cells #[.int .i64 (at_ + (kk : Int) * wid), .int .i64 wid, .int .i64 own, .int .i64 wide] 35)
    have hgy := (Grew.refl wr).alloc (.cells #[.int .i64 (at_ + (kk : Int) * wid), .int .i64 wid, .int .i64 own, .int .i64 wide] 35)
    generalize (wr.alloc (.cells #[.int .i64 (at_ + (kk : Int) * wid), .int .i64 wid, .int .i64 own, .int .i64 wide] 35)) = y1 at *
    obtain ⟨px, hpx⟩ : ∃ N, wr.heap.size = N := ⟨_, rfl⟩
    rw [hpx] at hry ⊢
    have HRY := Lib.hid hry
    have HGY := Lib.hid hgy
    clear hry hgy hpx
    have e5 := HGY.out.cell (row_cellT HRTW.out 5 _ rfl)
    obtain ⟨f0, f1, f2, f3, f4, f5⟩ := (HC6.out.grew HGY.out).get
    have g0 := row_cellT HRY.out 0 _ rfl
    have g1 := row_cellT HRY.out 1 _ rfl
    have g2 := row_cellT HRY.out 2 _ rfl
    have g3 := row_cellT HRY.out 3 _ rfl
    have hsay := fun w2 (h : Grew y1 w2) => HSX.out own (.inr (.inl (by rw [HQ.out]))) (.slice (some ⟨bl, bo, none⟩) d.length dc) (at_ + (kk : Int) * wid) wid wide (at_ - 3 * wid) _ w2 (HD.out.grew (HGW.out.trans (HGY.out.trans h))) (HNX.out.grew (HGY.out.trans h)) (by unfold i64ok; omega)
    obtain ⟨sB, hsB⟩ : ∃ b, saysF d own (at_ + (kk : Int) * wid) wid wide (at_ - 3 * wid) x = b := ⟨_, rfl⟩
    rw [hsB] at hsay
    have HKX : Hid (K0 = (sB && kidsF d typ wid at_ l.length (kk + 1) (l.drop (kk + 1)))) := by show _ = _; rw [HL.out.2, HDR.out, kidsF, HEK.out]; simp only; rw [HFI.out, hsB]; rfl
    have HSAY := Lib.hid hsay
    clear hsay hsB
    refine wp_region_tables Grew [[], [], [], [], [3], [], [3, 4, 5], [3, 4, 5, 6], [0, 1, 2, 3, 4, 5, 6, 7], [0, 1, 2, 3, 4, 5, 6, 7, 8]] [[(190, 1), (191, 2), (192, 3), (193, 4), (194, 5), (195, 6), (196, 7)], [(189, 0), (191, 2), (192, 3), (193, 4), (194, 5), (195, 6), (196, 7)], [(189, 0), (190, 1), (192, 3), (193, 4), (194, 5), (195, 6), (196, 7)], [(189, 0), (190, 1), (191, 2), (194, 5)], [(189, 0), (190, 1), (191, 2), (192, 3), (194, 5)], [(189, 0), (190, 1), (191, 2), (192, 3), (193, 4)], [(189, 0), (190, 1), (191, 2), (192, 3), (193, 4), (194, 5)], [(189, 0), (190, 1), (191, 2), (192, 3), (193, 4), (194, 5), (195, 6)], [(189, 0), (190, 1), (191, 2), (192, 3), (193, 4), (194, 5), (195, 6), (196, 7)], [(189, 0), (190, 1), (191, 2), (192, 3), (193, 4), (194, 5), (195, 6), (196, 7), (197, 8)]] [(189, 0), (190, 1), (191, 2), (192, 3), (193, 4), (194, 5), (195, 6), (196, 7), (197, 8), (198, 9)]
      [Is (.slice (some ⟨bl, bo, none⟩) d.length dc), Is (.agg #[.int .i64 (at_ + (kk : Int) * wid), .int .i64 wid, .int .i64 own, .int .i64 wide]), Is (.int .i64 (at_ - 3 * wid)), Is (.pointer (some ⟨pr + 1, 5, none⟩)), Is (.slice (some ⟨b, off, none⟩) l.length c5), Is (.int .i64 (kk : Int)), Is (.pointer (some ⟨b, off + kk * 6, none⟩)), Is (.agg #[.int .i64 xk, .int .i64 xn, .int .u64 xu, .string xs, .slice xa4 xn4 xc4, .slice xa5 xn5 xc5]), Is (.bool sB), Is (.bool (!sB))]
      (by kernel_rfl) Grew.trans Grew.refl (Grew.refl _).drew (by kernel_rfl) ⟨is_st, is_st, is_st, is_st, is_st, is_st, is_st, is_st, is_st, is_st, trivial⟩ ?_ rfl ?_
    rotate_left
    · intro y w2 hG hF
      simp only [factsH, Is, and_true, Nat.reduceAdd] at hF
      have hlast := hF.2.2.2.2.2.2.2.2.2
      clear hF
      simp only [fillL, Act.put, List.setIfInBounds_toArray, List.set_cons_zero, List.set_cons_succ, List.getD_cons_zero, List.getD_cons_succ, hlast]
      have HG6 := Lib.hid (HGY.out.trans hG)
      clear hG hlast f0 f1 f2 f3 f4 f5 g0 g1 g2 g3 e5
      cases sB
      · have HV : Hid (res = false) := by show _ = _; rw [HRS2.out, HKX.out]; rfl
        have HGF := Lib.hid (HGW.out.trans HG6.out)
        go_wp2_with fail
        go_ret
        exact ⟨by rw [HV.out]; rfl, HGF.out⟩
      · go_wp2_with fail
        go_roundw
        case rel => exact ⟨kk + 1, by omega, by go_num, by
          show _ ∧ _
          exact ⟨HL.out.1.trans HG6.out, by rw [HKX.out]; rfl⟩⟩
        case measure => simp [intOf]; omega
    refine ⟨?_, ?_⟩
    · intro y w2 hG hD K hK
      simp only [fillL, Act.put, List.setIfInBounds_toArray, List.set_cons_zero, List.set_cons_succ, List.getD_cons_zero, List.getD_cons_succ, Is] at hK ⊢
      refine ite_yes (by rfl) ?_
      go_simp
      exact hK _ _ _ rfl (Grew.refl _) rfl
    refine ⟨?_, ?_⟩
    · intro y w2 hG hD K hK
      have dg0 := hG.cell g0
      have dg1 := hG.cell g1
      have dg2 := hG.cell g2
      have dg3 := hG.cell g3
      simp only [fillL, Act.put, List.setIfInBounds_toArray, List.set_cons_zero, List.set_cons_succ, List.getD_cons_zero, List.getD_cons_succ, Is] at hK ⊢
      refine ite_yes (by rfl) ?_
      go_simp
      exact hK _ _ _ rfl (Grew.refl _) rfl
    refine ⟨?_, ?_⟩
    · intro y w2 hG hD K hK
      simp only [fillL, Act.put, List.setIfInBounds_toArray, List.set_cons_zero, List.set_cons_succ, List.getD_cons_zero, List.getD_cons_succ, Is] at hK ⊢
      refine ite_yes (by rfl) ?_
      go_simp
      exact hK _ _ _ rfl (Grew.refl _) rfl
    refine ⟨?_, ?_⟩
    · intro y w2 hG hD K hK
      simp only [fillL, Act.put, List.setIfInBounds_toArray, List.set_cons_zero, List.set_cons_succ, List.getD_cons_zero, List.getD_cons_succ, Is] at hK ⊢
      refine ite_yes (by rfl) ?_
      go_simp
      exact hK _ _ _ rfl (Grew.refl _) rfl
    refine ⟨?_, ?_⟩
    · intro y w2 hG hD K hK
      simp only [depsH, List.getD_cons_zero, List.getD_cons_succ, Is, and_true] at hD
      have h3 := hD
      clear hD
      have de5 := hG.cell e5
      simp only [fillL, Act.put, List.setIfInBounds_toArray, List.set_cons_zero, List.set_cons_succ, List.getD_cons_zero, List.getD_cons_succ, Is] at hK ⊢
      simp only [h3] at hK ⊢
      clear h3
      refine ite_yes (by rfl) ?_
      go_simp
      exact hK _ _ _ rfl (Grew.refl _) rfl
    refine ⟨?_, ?_⟩
    · intro y w2 hG hD K hK
      simp only [fillL, Act.put, List.setIfInBounds_toArray, List.set_cons_zero, List.set_cons_succ, List.getD_cons_zero, List.getD_cons_succ, Is] at hK ⊢
      refine ite_yes (by rfl) ?_
      go_simp
      exact hK _ _ _ rfl (Grew.refl _) rfl
    refine ⟨?_, ?_⟩
    · intro y w2 hG hD K hK
      simp only [depsH, List.getD_cons_zero, List.getD_cons_succ, Is, and_true] at hD
      have h3 := hD.1
      have h4 := hD.2.1
      have h5 := hD.2.2
      clear hD
      simp only [fillL, Act.put, List.setIfInBounds_toArray, List.set_cons_zero, List.set_cons_succ, List.getD_cons_zero, List.getD_cons_succ, Is] at hK ⊢
      simp only [h3, h4, h5] at hK ⊢
      clear h3 h4 h5
      refine ite_yes (by rfl) ?_
      go_simp
      exact hK _ _ _ rfl (Grew.refl _) rfl
    refine ⟨?_, ?_⟩
    · intro y w2 hG hD K hK
      simp only [depsH, List.getD_cons_zero, List.getD_cons_succ, Is, and_true] at hD
      have h3 := hD.1
      have h4 := hD.2.1
      have h5 := hD.2.2.1
      have h6 := hD.2.2.2
      clear hD
      have df0 := hG.cell f0
      have df1 := hG.cell f1
      have df2 := hG.cell f2
      have df3 := hG.cell f3
      have df4 := hG.cell f4
      have df5 := hG.cell f5
      simp only [fillL, Act.put, List.setIfInBounds_toArray, List.set_cons_zero, List.set_cons_succ, List.getD_cons_zero, List.getD_cons_succ, Is] at hK ⊢
      simp only [h3, h4, h5, h6] at hK ⊢
      clear h3 h4 h5 h6
      refine ite_yes (by rfl) ?_
      go_simp
      exact hK _ _ _ rfl (Grew.refl _) rfl
    refine ⟨?_, ?_⟩
    · intro y w2 hG hD K hK
      simp only [depsH, List.getD_cons_zero, List.getD_cons_succ, Is, and_true] at hD
      have h0 := hD.1
      have h1 := hD.2.1
      have h2 := hD.2.2.1
      have h3 := hD.2.2.2.1
      have h4 := hD.2.2.2.2.1
      have h5 := hD.2.2.2.2.2.1
      have h6 := hD.2.2.2.2.2.2.1
      have h7 := hD.2.2.2.2.2.2.2
      clear hD
      simp only [fillL, Act.put, List.setIfInBounds_toArray, List.set_cons_zero, List.set_cons_succ, List.getD_cons_zero, List.getD_cons_succ, Is] at hK ⊢
      simp only [h0, h1, h2, h3, h4, h5, h6, h7] at hK ⊢
      clear h0 h1 h2 h3 h4 h5 h6 h7
      refine ite_yes (by rfl) ?_
      go_simp
      refine (HSAY.out w2 hG).mono ?_
      rintro r w3 ⟨rfl, hg3⟩
      exact hK _ _ _ rfl hg3 rfl
    refine ⟨?_, ?_⟩
    · intro y w2 hG hD K hK
      simp only [depsH, List.getD_cons_zero, List.getD_cons_succ, Is, and_true] at hD
      have h0 := hD.1
      have h1 := hD.2.1
      have h2 := hD.2.2.1
      have h3 := hD.2.2.2.1
      have h4 := hD.2.2.2.2.1
      have h5 := hD.2.2.2.2.2.1
      have h6 := hD.2.2.2.2.2.2.1
      have h7 := hD.2.2.2.2.2.2.2.1
      have h8 := hD.2.2.2.2.2.2.2.2
      clear hD
      simp only [fillL, Act.put, List.setIfInBounds_toArray, List.set_cons_zero, List.set_cons_succ, List.getD_cons_zero, List.getD_cons_succ, Is] at hK ⊢
      simp only [h0, h1, h2, h3, h4, h5, h6, h7, h8] at hK ⊢
      clear h0 h1 h2 h3 h4 h5 h6 h7 h8
      refine ite_yes (by rfl) ?_
      go_simp
      exact hK _ _ _ rfl (Grew.refl _) rfl
    trivial
end Go.Proofs.Ytlhliolknaopjaa
