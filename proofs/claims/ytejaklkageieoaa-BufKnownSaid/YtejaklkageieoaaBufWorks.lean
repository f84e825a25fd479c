/-
  The chapter's examples of the buffer: works returns true.
-/
import Derived.Test.YtejaklkageieoaaBufPair
namespace Go.Proofs.Ytejaklkageieoaa
open Go Go.ChangeShapes Go.WideShapes Go.ChangeAt Go.RowKit Go.Joins
set_option linter.unusedVariables false
set_option linter.unusedSimpArgs false

set_option maxRecDepth 100000 in
set_option maxHeartbeats 4000000 in
theorem works_any (w : World) : Calls Try.prog 19 #[] w fun r w' => r = .returned (.bool true) ∧ Below w.heap.size w w' := by
  go_enter Try.func19, Try.ntmps19
  go_wp2_with fail
  refine (newL (w0 := w) 10 (Below.refl _ _)).mono ?_
  rw [show roomOf 10 = 10 by kernel_rfl]
  rintro r u0 ⟨rfl, h, hg, hlt⟩
  have H0 := Lib.hid h
  clear h hg hlt
  go_wp2_with fail
  refine (textL2 ⟨#[97]⟩ ⟨#[98]⟩ _ (by simp) (by decide) H0.out).mono ?_
  rintro r u1 ⟨rfl, h⟩
  rw [show putS 10 (bytesS [⟨#[97]⟩, ⟨#[98]⟩]) (([], 0) : St) = (([97, 98], 0) : St) by kernel_rfl] at h
  have H1 := Lib.hid h
  clear h
  go_wp2_with fail
  refine (alignL 4 H1.out).mono ?_
  rintro r u2 ⟨rfl, h⟩
  rw [show alignS 10 4 (([97, 98], 0) : St) = (([97, 98, 0, 0], 0) : St) by kernel_rfl] at h
  have H2 := Lib.hid h
  clear h
  go_wp2_with fail
  refine (numL 2 300 (by decide) (by decide) H2.out).mono ?_
  rintro r u3 ⟨rfl, h⟩
  rw [show numS 10 2 300 (([97, 98, 0, 0], 0) : St) = (([97, 98, 0, 0, 44, 1], 0) : St) by kernel_rfl] at h
  have H3 := Lib.hid h
  clear h
  go_wp2_with fail
  refine (has_yes H3.out 0 ⟨#[97, 98, 0, 0, 44, 1]⟩ (by rfl) (by kernel_rfl)).mono ?_
  rintro r u4 ⟨rfl, h⟩
  have H4 := Lib.hid h
  clear h
  go_wp2_with fail
  refine (cutL' 3 H4.out).mono ?_
  rintro r u5 ⟨rfl, h⟩
  rw [show cutS 3 (([97, 98, 0, 0, 44, 1], 0) : St) = (([97, 98, 0], 0) : St) by kernel_rfl] at h
  have H5 := Lib.hid h
  clear h
  go_wp2_with fail
  refine (lenL H5.out).mono ?_
  rw [show ((([97, 98, 0], 0) : St).1.length : Int) = 3 by kernel_rfl]
  rintro r w' ⟨rfl, rfl⟩
  go_wp2_with fail
  refine (textL1 ⟨#[120, 121, 122]⟩ _ (by simp) (by decide) H5.out).mono ?_
  rintro r u6 ⟨rfl, h⟩
  rw [show putS 10 (bytesS [⟨#[120, 121, 122]⟩]) (([97, 98, 0], 0) : St) = (([97, 98, 0, 120, 121, 122], 0) : St) by kernel_rfl] at h
  have H6 := Lib.hid h
  clear h
  go_wp2_with fail
  refine (has_yes H6.out 0 ⟨#[97, 98, 0, 120, 121, 122]⟩ (by rfl) (by kernel_rfl)).mono ?_
  rintro r u7 ⟨rfl, h⟩
  have H7 := Lib.hid h
  clear h
  go_wp2_with fail
  refine (numL 1 256 (by decide) (by decide) H7.out).mono ?_
  rintro r u8 ⟨rfl, h⟩
  rw [show numS 10 1 256 (([97, 98, 0, 120, 121, 122], 0) : St) = (([97, 98, 0, 120, 121, 122], 10) : St) by kernel_rfl] at h
  have H8 := Lib.hid h
  clear h
  go_wp2_with fail
  refine (textL1 ⟨#[97]⟩ _ (by simp) (by decide) H8.out).mono ?_
  rintro r u9 ⟨rfl, h⟩
  rw [show putS 10 (bytesS [⟨#[97]⟩]) (([97, 98, 0, 120, 121, 122], 10) : St) = (([97, 98, 0, 120, 121, 122], 10) : St) by kernel_rfl] at h
  have H9 := Lib.hid h
  clear h
  go_wp2_with fail
  refine (has_yes H9.out 10 ⟨#[]⟩ (by rfl) (by kernel_rfl)).mono ?_
  rintro r u10 ⟨rfl, h⟩
  have H10 := Lib.hid h
  clear h
  go_wp2_with fail
  refine (lenL H10.out).mono ?_
  rw [show ((([97, 98, 0, 120, 121, 122], 10) : St).1.length : Int) = 6 by kernel_rfl]
  rintro r w' ⟨rfl, rfl⟩
  go_wp2_with fail
  refine (newL (w0 := w) 3 (H10.out.below)).mono ?_
  rw [show roomOf 3 = 3 by kernel_rfl]
  rintro r u11 ⟨rfl, h, hg, hlt⟩
  have H11 := Lib.hid h
  clear h hg hlt
  go_wp2_with fail
  refine (alignL 8 H11.out).mono ?_
  rintro r u12 ⟨rfl, h⟩
  rw [show alignS 3 8 (([], 0) : St) = (([], 0) : St) by kernel_rfl] at h
  have H12 := Lib.hid h
  clear h
  go_wp2_with fail
  refine (textL1 ⟨#[97, 98, 99]⟩ _ (by simp) (by decide) H12.out).mono ?_
  rintro r u13 ⟨rfl, h⟩
  rw [show putS 3 (bytesS [⟨#[97, 98, 99]⟩]) (([], 0) : St) = (([97, 98, 99], 0) : St) by kernel_rfl] at h
  have H13 := Lib.hid h
  clear h
  go_wp2_with fail
  refine (textL1 ⟨#[100]⟩ _ (by simp) (by decide) H13.out).mono ?_
  rintro r u14 ⟨rfl, h⟩
  rw [show putS 3 (bytesS [⟨#[100]⟩]) (([97, 98, 99], 0) : St) = (([97, 98, 99], 5) : St) by kernel_rfl] at h
  have H14 := Lib.hid h
  clear h
  go_wp2_with fail
  refine (has_yes H14.out 5 ⟨#[]⟩ (by rfl) (by kernel_rfl)).mono ?_
  rintro r u15 ⟨rfl, h⟩
  have H15 := Lib.hid h
  clear h
  go_wp2_with fail
  refine (lenL H15.out).mono ?_
  rw [show ((([97, 98, 99], 5) : St).1.length : Int) = 3 by kernel_rfl]
  rintro r w' ⟨rfl, rfl⟩
  go_wp2_with fail
  refine (newL (w0 := w) 9 H15.out.below).mono ?_
  rw [show roomOf 9 = 9 by kernel_rfl]
  rintro r x0 ⟨rfl, h, hg, hlt⟩
  have H := Lib.hid h
  clear h hg hlt
  go_wp2_with fail
  refine (new2 9 H.out).mono ?_
  rw [show roomOf 9 = 9 by kernel_rfl]
  rintro r x1 ⟨rfl, h⟩
  have H1 := Lib.hid h
  clear h
  go_wp2_with fail
  refine (alignBB1 3 H1.out).mono ?_
  rintro r x2 ⟨rfl, h⟩
  rw [show alignS 9 3 (([], 0) : St) = (([], 2) : St) by kernel_rfl] at h
  have H2 := Lib.hid h
  clear h
  go_wp2_with fail
  refine (cutBB2 1 H2.out).mono ?_
  rintro r x3 ⟨rfl, h⟩
  rw [show cutS 1 (([], 0) : St) = (([], 6) : St) by kernel_rfl] at h
  have H3 := Lib.hid h
  clear h
  go_wp2_with fail
  refine (hasBB1 H3.out 2 ⟨#[]⟩ (by rfl) (by kernel_rfl)).mono ?_
  rintro r x4 ⟨rfl, h⟩
  have H4 := Lib.hid h
  clear h
  go_wp2_with fail
  refine (hasBB2 H4.out 6 ⟨#[]⟩ (by rfl) (by kernel_rfl)).mono ?_
  rintro r x5 ⟨rfl, h⟩
  have H5 := Lib.hid h
  clear h
  go_wp2
  go_ret
  exact ⟨rfl, H5.out.below⟩

end Go.Proofs.Ytejaklkageieoaa
