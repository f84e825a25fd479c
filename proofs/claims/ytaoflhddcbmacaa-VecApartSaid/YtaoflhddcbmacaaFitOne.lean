/-
  Walks of fit.One, fit.All and of the reference's One, all, All: each pair returns the same plain function. Conditions: a uint64 offset in each value; for All a slice of values that reads as a list. The world only grows.
-/
import Derived.Test.YtaoflhddcbmacaaLeast
namespace Go.Proofs.Ytaoflhddcbmacaa.Ft
open Go Go.RowKit

set_option maxHeartbeats 400000 in
theorem within_any (n : Int) (w : World) :
    Calls Try.prog 45 #[.int .i64 n] w fun e w' => e = .returned (.bool (decide (0 ≤ n) && decide (n ≤ 1073741824))) ∧ w = w' := by
  go_enter Try.func45, Try.ntmps45
  go_wp2
  all_goals
    go_ret
    refine ⟨ret_bool ?_, rfl⟩
    first | (simp_all; done) | (simp_all; omega)

def oneF (ty wd n at_ index : Int) : Int :=
  if (0 ≤ at_ ∧ at_ ≤ 1073741824) ∧ 0 ≤ index ∧ index ≤ 1073741824 then leastOf (fun v => fitsF ty wd n at_ index v) else 0

theorem leastOf_1 (p : Int → Bool) (a : p 1 = true) : leastOf p = 1 := by simp [leastOf, a]
theorem leastOf_2 (p : Int → Bool) (a : p 1 = false) (b : p 2 = true) : leastOf p = 2 := by simp [leastOf, a, b]
theorem leastOf_4 (p : Int → Bool) (a : p 1 = false) (b : p 2 = false) (c : p 4 = true) : leastOf p = 4 := by simp [leastOf, a, b, c]
theorem leastOf_8 (p : Int → Bool) (a : p 1 = false) (b : p 2 = false) (c : p 4 = false) (d : p 8 = true) : leastOf p = 8 := by simp [leastOf, a, b, c, d]

/-! ### the reference's One -/
end Go.Proofs.Ytaoflhddcbmacaa.Ft
