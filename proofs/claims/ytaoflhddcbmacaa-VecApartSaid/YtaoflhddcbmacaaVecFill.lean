/-
  Vectors: the law's filled buffer.
-/
import Derived.Test.YtaoflhddcbmacaaBufDo
import Derived.Test.YtaoflhddcbmacaaVecHelp
namespace Go.Proofs.Ytaoflhddcbmacaa
open Go Go.ChangeShapes Go.WideShapes Go.ChangeAt Go.RowKit Go.Joins
set_option linter.unusedVariables false
set_option linter.unusedSimpArgs false

theorem bytes_zero (n : Nat) : bytesS [⟨(zeros n).toArray⟩] = zeros n := by
  simp [bytesS]
theorem size_zero (n : Nat) : sizeS [⟨(zeros n).toArray⟩] = n := by
  have h := bytesS_length [⟨(zeros n).toArray⟩]
  rw [← h, bytes_zero]
  exact length_zeros n
set_option maxRecDepth 100000 in
theorem filled_any (most : Int) (n : Nat) (w : World) (hn : n ≤ 1073741824) : Calls Try.prog 11 #[.int .i64 most, .int .i64 n] w fun r w' => r = .returned (bptr w.heap.size) ∧ Live w w' w.heap.size (roomOf most) (putS (roomOf most) (zeros n) ([], 0)) := by
  go_enter Try.func11, Try.ntmps11
  go_wp2_with fail
  refine (new_any most _).mono ?_
  rintro r w1 ⟨rfl, hb, hg, hlt⟩
  have HL := Lib.hid (Live.new (w0 := w) (Below.refl _ _) hb hg (by unfold roomOf; omega) (by unfold roomOf; omega))
  clear hb hg
  go_wp2_with fail
  obtain ⟨w2, hr, hv, hg⟩ := make_zeros w1 n (by omega)
  have hs := str_of_bytes hv
  have HL2 := Lib.hid (HL.out.grew hg)
  rw [hr]
  clear hr hv hg HL
  go_wp2_with fail
  refine (textL1 _ _ rfl (by rw [size_zero]; exact hn) HL2.out).mono ?_
  rintro r w3 ⟨rfl, hl⟩
  rw [bytes_zero] at hl
  have HL3 := Lib.hid hl
  clear hl HL2 hs
  go_wp2
  go_ret
  exact ⟨rfl, HL3.out⟩
end Go.Proofs.Ytaoflhddcbmacaa
