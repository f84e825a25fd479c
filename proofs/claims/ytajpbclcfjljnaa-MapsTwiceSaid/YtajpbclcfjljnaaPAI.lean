/-
  Texts of the proof, part 9 of 21.
-/
import Derived.Test.YtajpbclcfjljnaaPAB
import Derived.Test.YtajpbclcfjljnaaProg

/-
  Walks of package tag: kinds, of, Inline. Each returns what the plain table says, for every number. The world only grows.
-/
namespace Go.Proofs.Ytajpbclcfjljnaa.Ft
set_option linter.unusedSimpArgs false
set_option linter.unusedVariables false
open Go Go.RowKit
def zeros (n : Nat) : Array Value := Array.replicate n (.int .i64 0)
def kindRow (t : Nat) : Nat × Nat × Nat :=
  match t with
  | 0 | 1 | 2 | 26 => (1, 0, 0)
  | 4 | 5 | 6 | 7 | 9 | 10 | 25 => (2, 0, 0)
  | 11 => (3, 1, 0) | 12 => (3, 2, 0) | 14 => (3, 4, 0) | 36 => (3, 26, 0)
  | 16 => (3, 1, 2) | 19 => (3, 1, 3) | 22 => (3, 1, 4)
  | 17 => (3, 2, 2) | 20 => (3, 2, 3) | 23 => (3, 2, 4)
  | _ => (0, 0, 0)
def cells3 (p : Nat × Nat × Nat) : Array Value := #[.int .i64 p.1, .int .i64 p.2.1, .int .i64 p.2.2]
def kindsArr : Array Value := ((List.range 37).flatMap fun t => (cells3 (kindRow t)).toList).toArray
def kindOf (t : Int) : Nat × Nat × Nat := if t < 0 then (0, 0, 0) else kindRow t.toNat
theorem zeroKinds (w : World) : (zeroValue 99).run Try.prog w = .ok (.agg (zeros 111)) w := by kernel_rfl
theorem sizeKinds : (Try.prog.info? 99).map (·.size) = some kindsArr.size := by kernel_rfl
theorem aggKind (w : World) : (isAgg 78).run Try.prog w = .ok true w := by kernel_rfl
theorem kindsArr_extract : ∀ (t : Nat), t < 37 → kindsArr.extract (t * 3) (t * 3 + 3) = cells3 (kindRow t)
  | 0, _ => rfl
  | 1, _ => rfl
  | 2, _ => rfl
  | 3, _ => rfl
  | 4, _ => rfl
  | 5, _ => rfl
  | 6, _ => rfl
  | 7, _ => rfl
  | 8, _ => rfl
  | 9, _ => rfl
  | 10, _ => rfl
  | 11, _ => rfl
  | 12, _ => rfl
  | 13, _ => rfl
  | 14, _ => rfl
  | 15, _ => rfl
  | 16, _ => rfl
  | 17, _ => rfl
  | 18, _ => rfl
  | 19, _ => rfl
  | 20, _ => rfl
  | 21, _ => rfl
  | 22, _ => rfl
  | 23, _ => rfl
  | 24, _ => rfl
  | 25, _ => rfl
  | 26, _ => rfl
  | 27, _ => rfl
  | 28, _ => rfl
  | 29, _ => rfl
  | 30, _ => rfl
  | 31, _ => rfl
  | 32, _ => rfl
  | 33, _ => rfl
  | 34, _ => rfl
  | 35, _ => rfl
  | 36, _ => rfl
  | n + 37, h => absurd h (by omega)
set_option maxRecDepth 100000 in
set_option maxHeartbeats 400000 in
theorem kinds_any (w : World) :
    Calls Try.prog 62 #[] w fun e w' => e = .returned (.agg kindsArr) ∧ Grew w w' := by
  have hz := zeroKinds
  go_enter Try.func62, Try.ntmps62
  go_wp2_with (first | (with_reducible refine wpList_build_eq rfl 99 _ rfl kindsArr (by kernel_rfl) ?_) | (with_reducible refine wpList_store_row rfl 99 _ _ rfl w.heap.size kindsArr rfl (by kernel_rfl) 99 (zeros 111) (heap_alloc_new _ _) sizeKinds (by kernel_rfl) (by kernel_rfl) ?_))
  rw [setRow_alloc]
  exact bodyPost_ret (results_cell_row (cs := kindsArr) rfl _ _ w.heap.size 99 (0, 0) _ (by rfl) (heap_alloc_new _ _) Try.underlying99 rfl sizeKinds) rfl ⟨rfl, (Grew.refl w).alloc _⟩
set_option maxHeartbeats 400000 in
theorem of_any (t : Int) (w : World) :
    Calls Try.prog 37 #[.int .i64 t] w fun e w' => e = .returned (.agg (cells3 (kindOf t))) ∧ Grew w w' := by
  by_cases h0 : t < 0
  · go_enter Try.func37, Try.ntmps37
    go_wp2
    exact bodyPost_ret (v := .agg (cells3 (kindOf t))) (by simp [results, Try.results37, go_sem, cells3, kindOf, h0]) rfl ⟨rfl, (Grew.refl w).alloc _⟩
  · by_cases h1 : 37 ≤ t
    · have hk : kindOf t = (0, 0, 0) := by
        unfold kindOf
        rw [if_neg h0]
        obtain ⟨n, rfl⟩ := Int.eq_ofNat_of_zero_le (by omega : 0 ≤ t)
        obtain ⟨m, rfl⟩ : ∃ m, n = m + 37 := ⟨n - 37, by omega⟩
        rfl
      go_enter Try.func37, Try.ntmps37
      go_wp2
      exact bodyPost_ret (v := .agg (cells3 (kindOf t))) (by simp [results, Try.results37, go_sem, cells3, hk]) rfl ⟨by rw [hk], (Grew.refl w).alloc _⟩
    · have hk : kindOf t = kindRow t.toNat := by unfold kindOf; rw [if_neg h0]
      have hx := fun w' => run_index_agg (P := Try.prog) 99 78 37 3 kindsArr .i64 t w' Try.underlying99 (aggKind w') (by kernel_rfl) (by omega) (by omega)
      rw [kindsArr_extract t.toNat (by omega), ← hk] at hx
      generalize kindOf t = k at *
      clear hk
      go_enter Try.func37, Try.ntmps37
      unfold cells3 at hx
      go_wp2_with fail
      refine (kinds_any _).mono ?_
      rintro e w1 ⟨rfl, hg⟩
      obtain ⟨hc, hf, hs⟩ := hg.rules
      simp only [World.size_alloc] at hc hf hs
      go_wp2
      exact bodyPost_ret (v := .agg (cells3 k)) (by simp [results, Try.results37, go_sem, cells3, hc, hf]) rfl ⟨rfl, (((((Grew.refl w).alloc _).trans hg).setCell (by simp) _).setCell (by simp) _).setCell (by simp) _⟩
@[local go_sem] theorem field_is (a b c : Value) (w : World) : (Instr.field 78 (.agg #[a, b, c]) 0).run Try.prog w = .ok a w := by kernel_rfl
def inlineB (t : Int) : Bool := decide ((kindOf t).1 = 1)
set_option maxHeartbeats 400000 in
theorem inline_any (t : Int) (w : World) :
    Calls Try.prog 16 #[.int .i64 t] w fun e w' => e = .returned (.bool (inlineB t)) ∧ Grew w w' := by
  go_enter Try.func16, Try.ntmps16
  go_wp2_with fail
  refine (of_any _ _).mono ?_
  rintro e w1 ⟨rfl, hg⟩
  have hi : (((kindOf t).1 : Int) == 1) = inlineB t := by unfold inlineB; rw [Bool.eq_iff_iff]; simp; omega
  unfold cells3
  go_wp2
  go_ret
  exact ⟨by rw [← hi]; rfl, hg⟩
end Go.Proofs.Ytajpbclcfjljnaa.Ft
