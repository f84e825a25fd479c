/-
  Vectors: the law's helpers.
-/
import Derived.Test.YtaoflhddcbmacaaVecLe3
namespace Go.Proofs.Ytaoflhddcbmacaa
open Go Go.ChangeShapes Go.WideShapes Go.ChangeAt Go.RowKit Go.Joins
set_option linter.unusedVariables false
set_option linter.unusedSimpArgs false

theorem bringL_any (i n : Int) (w : World) (hn : 0 < n) (hn2 : n ≤ 1099511627776) : Calls Try.prog 8 #[.int .i64 i, .int .i64 n] w fun r w' => r = .returned (.int .i64 (i % n)) ∧ w' = w := by
  obtain ⟨b1, b2, b3, b4⟩ := bring_eq i n hn
  have B1 := Lib.hid b1
  have B2 := Lib.hid b2
  clear b1 b2
  go_enter Try.func8, Try.ntmps8
  go_wp2
  · go_ret
    refine ⟨ret_int ?_, rfl⟩
    exact B1.out (by assumption)
  · go_ret
    exact ⟨ret_int (B2.out (by assumption)), rfl⟩
theorem num17_any (n x : Int) (w : World) : Calls Try.prog 31 #[.int .i64 n, .int .i64 x] w fun r w' => r = .returned (.agg #[.int .i64 1, .int .i64 x, .int .u64 (IntKind.u64.wrap n)]) ∧ Grew w w' := by
  go_enter Try.func31, Try.ntmps31
  go_wp2
  exact bodyPost_ret (v := .agg #[.int .i64 1, .int .i64 x, .int .u64 (IntKind.u64.wrap n)]) (by simp [results, Try.results31, go_sem]) rfl ⟨rfl, (Grew.refl w).alloc _⟩
theorem uns17_any (n x : Int) (w : World) : Calls Try.prog 33 #[.int .u64 n, .int .i64 x] w fun r w' => r = .returned (.agg #[.int .i64 2, .int .i64 x, .int .u64 n]) ∧ Grew w w' := by
  go_enter Try.func33, Try.ntmps33
  go_wp2
  exact bodyPost_ret (v := .agg #[.int .i64 2, .int .i64 x, .int .u64 n]) (by simp [results, Try.results33, go_sem]) rfl ⟨rfl, (Grew.refl w).alloc _⟩
theorem text17_any (n : Int) (w : World) : Calls Try.prog 32 #[.int .u64 n] w fun r w' => r = .returned (.agg #[.int .i64 5, .int .i64 1, .int .u64 n]) ∧ Grew w w' := by
  go_enter Try.func32, Try.ntmps32
  go_wp2
  exact bodyPost_ret (v := .agg #[.int .i64 5, .int .i64 1, .int .u64 n]) (by simp [results, Try.results32, go_sem]) rfl ⟨rfl, (Grew.refl w).alloc _⟩
end Go.Proofs.Ytaoflhddcbmacaa
