/-
  Walks of fit.fits and of the reference's Fits (with below and Inline): both return the plain function fitsF, for every value, offsets and indices up to about 2^31, and the widths 1, 2, 4, 8. The world only grows.
-/
import Derived.Test.YtkabfefphdgppaaTag
import Derived.Test.YtkabfefphdgppaaWidth
import Derived.BigQuiet
import Derived.Lib.Hide
import Derived.Deep.QuietTactic
namespace Go.Proofs.Ytkabfefphdgppaa
set_option linter.unusedSimpArgs false
set_option linter.unusedVariables false
open Go Go.RowKit

/-- w is a width. -/
def isW (w : Int) : Prop := w = 1 ∨ w = 2 ∨ w = 4 ∨ w = 8

def belowW (x w : Int) : Bool := decide (x < 2 ^ (8 * w.toNat))
def fitsF (ty wd n at_ index w : Int) : Bool :=
  if inlineB ty then decide (wd ≤ w) else decide (n ≤ at_) && belowW ((at_ + w - 1) / w * w + index * w - n) w

theorem widthOf_le (x : Int) (w : Int) (hw : isW w) (h0 : 0 ≤ x) (h1 : x < 2 ^ 64) : decide (widthOf x.toNat ≤ w) = belowW x w := by
  obtain ⟨n, rfl⟩ := Int.eq_ofNat_of_zero_le h0
  unfold belowW
  rw [decide_eq_decide]
  unfold widthOf
  rw [Int.toNat_natCast]
  rcases hw with rfl | rfl | rfl | rfl <;> simp <;> repeat' split <;> omega

abbrev valueV (ty wd n : Int) : Value := .agg #[.int .i64 ty, .int .i64 wd, .int .u64 n]

set_option maxHeartbeats 400000 in
theorem refInline_any (t : Int) (w : World) :
    Calls Try.prog 33 #[.int .i64 t] w fun e w' => e = .returned (.bool (inlineB t)) ∧ w = w' := by
  have hi : inlineB t = (t == 0 || t == 1 || t == 2 || t == 26) := by
    unfold inlineB kindOf
    rw [Bool.eq_iff_iff]
    simp
    by_cases h : t < 0
    · rw [if_pos h]; simp; omega
    · rw [if_neg h]
      obtain ⟨n, rfl⟩ := Int.eq_ofNat_of_zero_le (by omega : 0 ≤ t)
      rw [Int.toNat_natCast]
      unfold kindRow
      split
      all_goals first | (simp; done) | (simp; omega) | (simp_all; omega)
  rw [hi]
  clear hi
  go_enter Try.func33, Try.ntmps33
  by_cases h0 : t = 0
  · subst h0
    go_wp2
    go_ret
    exact ⟨rfl, rfl⟩
  · by_cases h1 : t = 1
    · subst h1
      go_wp2
      go_ret
      exact ⟨rfl, rfl⟩
    · by_cases h2 : t = 2
      · subst h2
        go_wp2
        go_ret
        exact ⟨rfl, rfl⟩
      · go_wp2
        go_ret
        refine ⟨ret_bool ?_, rfl⟩
        simp [h0, h1, h2]

set_option maxHeartbeats 400000 in
theorem refBelow_any (x v : Int) (w : World) (hv : isW v) (h0 : 0 ≤ x) (h1 : x < 2 ^ 64) :
    Calls Try.prog 34 #[.int .u64 x, .int .i64 v] w fun e w' => e = .returned (.bool (belowW x v)) ∧ w = w' := by
  unfold belowW
  go_enter Try.func34, Try.ntmps34
  rcases hv with rfl | rfl | rfl | rfl
  all_goals
    go_wp2
    go_ret
    refine ⟨ret_bool ?_, rfl⟩
    first
      | (show (true : Bool) = _
         exact (decide_eq_true h1).symm)
      | (rw [Bool.eq_iff_iff, beq_iff_eq, decide_eq_true_iff]
         simp only [Int.reduceToNat, Nat.reduceMul, Int.reducePow]
         omega)

set_option maxHeartbeats 400000 in
theorem fits_any (ty wd n at_ index v : Int) (w : World) (hv : isW v) (n0 : 0 ≤ n) (n1 : n ≤ 18446744073709551615) (a0 : 0 ≤ at_) (a1 : at_ ≤ 1073741824) (i0 : 0 ≤ index) (i1 : index ≤ 2147483648) :
    Calls Try.prog 26 #[valueV ty wd n, .int .i64 at_, .int .i64 index, .int .i64 v] w fun e w' => e = .returned (.bool (fitsF ty wd n at_ index v)) ∧ Grew w w' := by
  have hv0 : 1 ≤ v ∧ v ≤ 8 := by rcases hv with rfl | rfl | rfl | rfl <;> omega
  obtain ⟨v0, v1⟩ := hv0
  by_cases hi : inlineB ty = true
  · have hf : fitsF ty wd n at_ index v = decide (wd ≤ v) := by unfold fitsF; rw [if_pos hi]
    have HF := Lib.hid hf
    clear hf
    go_enter Try.func26, Try.ntmps26
    go_wp2_with fail
    refine (inline_any _ _).mono ?_
    rintro e w1 ⟨rfl, hg⟩
    obtain ⟨hc, hr, hs⟩ := hg.rules
    simp only [World.size_alloc] at hc hr hs
    go_wp2
    go_ret
    exact ⟨by rw [HF.out]; rfl, (Grew.refl w).alloc _ |>.trans hg⟩
  · have hi' : inlineB ty = false := by simpa using hi
    clear hi
    by_cases hn : n ≤ at_
    · have hp : at_ ≤ (at_ + v - 1) / v * v := by
        rcases hv with rfl | rfl | rfl | rfl <;> omega
      have hp2 : (at_ + v - 1) / v * v ≤ at_ + 7 := by
        rcases hv with rfl | rfl | rfl | rfl <;> omega
      have hm0 : 0 ≤ index * v := Int.mul_nonneg i0 (by omega)
      have hm : index * v ≤ 2147483648 * 8 := Int.mul_le_mul i1 v1 (by omega) (by omega)
      have hf : fitsF ty wd n at_ index v = decide (widthOf ((at_ + v - 1) / v * v + index * v - n).toNat ≤ v) := by
        unfold fitsF; rw [hi', widthOf_le _ _ hv (by omega) (by omega)]; simp [hn]
      have HF := Lib.hid hf
      clear hf
      go_enter Try.func26, Try.ntmps26
      go_wp2_with fail
      refine (inline_any _ _).mono ?_
      rintro e w1 ⟨rfl, hg⟩
      obtain ⟨hc, hr, hs⟩ := hg.rules
      simp only [World.size_alloc] at hc hr hs
      go_wp2_with fail
      refine (widthOf_any _ _ (by omega) (by omega)).mono ?_
      rintro e w2 ⟨rfl, rfl⟩
      go_wp2
      go_ret
      exact ⟨by rw [HF.out]; rfl, (Grew.refl w).alloc _ |>.trans hg⟩
    · have hf : fitsF ty wd n at_ index v = false := by unfold fitsF; rw [hi']; simp [hn]
      have HF := Lib.hid hf
      clear hf
      go_enter Try.func26, Try.ntmps26
      go_wp2_with fail
      refine (inline_any _ _).mono ?_
      rintro e w1 ⟨rfl, hg⟩
      obtain ⟨hc, hr, hs⟩ := hg.rules
      simp only [World.size_alloc] at hc hr hs
      go_wp2
      go_ret
      exact ⟨by rw [HF.out]; rfl, (Grew.refl w).alloc _ |>.trans hg⟩

set_option maxHeartbeats 400000 in
theorem refFits_any (ty wd n at_ index v : Int) (w : World) (hv : isW v) (n0 : 0 ≤ n) (n1 : n ≤ 18446744073709551615) (a0 : 0 ≤ at_) (a1 : at_ ≤ 1073741824) (i0 : 0 ≤ index) (i1 : index ≤ 2147483648) :
    Calls Try.prog 27 #[valueV ty wd n, .int .i64 at_, .int .i64 index, .int .i64 v] w fun e w' => e = .returned (.bool (fitsF ty wd n at_ index v)) ∧ Grew w w' := by
  have hv0 : 1 ≤ v ∧ v ≤ 8 := by rcases hv with rfl | rfl | rfl | rfl <;> omega
  obtain ⟨v0, v1⟩ := hv0
  have hp : at_ ≤ (at_ + v - 1) / v * v := by
    rcases hv with rfl | rfl | rfl | rfl <;> omega
  have hp2 : (at_ + v - 1) / v * v ≤ at_ + 7 := by
    rcases hv with rfl | rfl | rfl | rfl <;> omega
  have hm0 : 0 ≤ index * v := Int.mul_nonneg i0 (by omega)
  have hm : index * v ≤ 2147483648 * 8 := Int.mul_le_mul i1 v1 (by omega) (by omega)
  by_cases hi : inlineB ty = true
  · have hf : fitsF ty wd n at_ index v = decide (wd ≤ v) := by unfold fitsF; rw [if_pos hi]
    have HF := Lib.hid hf
    clear hf
    go_enter Try.func27, Try.ntmps27
    go_wp2_with fail
    refine (refInline_any _ _).mono ?_
    rintro e w1 ⟨rfl, rfl⟩
    go_wp2
    go_ret
    exact ⟨by rw [HF.out]; rfl, (Grew.refl w).alloc _⟩
  · have hi' : inlineB ty = false := by simpa using hi
    clear hi
    by_cases hn : n ≤ at_
    · have hf : fitsF ty wd n at_ index v = belowW ((at_ + v - 1) / v * v + index * v - n) v := by
        unfold fitsF; rw [hi']; simp [hn]
      have HF := Lib.hid hf
      clear hf
      go_enter Try.func27, Try.ntmps27
      go_wp2_with fail
      refine (refInline_any _ _).mono ?_
      rintro e w1 ⟨rfl, rfl⟩
      go_wp2_with fail
      refine (refBelow_any _ _ _ hv (by omega) (by omega)).mono ?_
      rintro e w2 ⟨rfl, rfl⟩
      go_wp2
      go_ret
      exact ⟨by rw [HF.out]; rfl, (Grew.refl w).alloc _⟩
    · have hf : fitsF ty wd n at_ index v = false := by unfold fitsF; rw [hi']; simp [hn]
      have HF := Lib.hid hf
      clear hf
      go_enter Try.func27, Try.ntmps27
      go_wp2_with fail
      refine (refInline_any _ _).mono ?_
      rintro e w1 ⟨rfl, rfl⟩
      go_wp2
      go_ret
      exact ⟨by rw [HF.out]; rfl, (Grew.refl w).alloc _⟩

end Go.Proofs.Ytkabfefphdgppaa
