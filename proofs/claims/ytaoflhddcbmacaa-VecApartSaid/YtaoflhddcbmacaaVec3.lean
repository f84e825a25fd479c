/-
  Package vec: shaped (typed), Put.
-/
import Derived.Test.YtaoflhddcbmacaaVec2
import Derived.Laws.EntriesVeiled
namespace Go.Proofs.Ytaoflhddcbmacaa
open Go Go.ChangeShapes Go.WideShapes Go.ChangeAt Go.RowKit Go.Joins
open Go.Proofs.Ytaoflhddcbmacaa.Ft (V3 vV okV ValsAt inlineB legalB packF codeF typedF)
set_option linter.unusedVariables false
set_option linter.unusedSimpArgs false

/-- The form of a typed vector: the closure holds the place of elem. -/
def shapeT (elem many : Int) (n : Nat) : Value := if (typedF elem many).2 = true then .tuple #[.agg #[.int .i64 (typedF elem many).1, .bool (many == 0), fnv 43 #[.pointer (some ⟨n, 0, none⟩)], fnv 44 #[]], .int .i64 0] else .tuple #[.agg #[.int .i64 0, .bool false, .nilFunc, .nilFunc], .int .i64 20]
theorem shaped_ty (elem many : Int) (h : ¬ (elem = -1 ∧ many = 0)) (w : World) : Calls Try.prog 23 #[.int .i64 elem, .int .i64 many] w fun r w' => r = .returned (shapeT elem many w.heap.size) ∧ Grew w w' ∧ w'.cell? ⟨w.heap.size, 0, none⟩ = some (.int .i64 elem) ∧ w.heap.size < w'.heap.size := by
  unfold shapeT
  have HTY := fun w' => Ft.typed_any elem many w'
  generalize typedF elem many = tq at *
  obtain ⟨tt, tb⟩ := tq
  simp only at HTY
  have HY := Lib.hid HTY
  clear HTY
  by_cases he : elem = -1
  · have hm : ¬ many = 0 := fun x => h ⟨he, x⟩
    clear h
    subst he
    cases tb
    · go_enter Try.func23, Try.ntmps23
      go_wp2_with fail
      refine (HY.out _).mono ?_
      rintro r w1 ⟨rfl, hg⟩
      have c0 : w1.cell? ⟨w.heap.size, 0, none⟩ = some (.int .i64 (-1)) := hg.cell (by go_simp)
      have HG : Hid (Grew w w1) := (((Grew.refl w).alloc _).alloc _).trans hg
      have HSZ := hg.size
      have hb : w1.heap[w.heap.size + 1]? = some (.cells #[.int .i64 0, .bool false, .nilFunc, .nilFunc] 59) := hg.heap (by rw [show w.heap.size + 1 = (w.alloc (.cells #[.int .i64 (-1)] 3)).heap.size by simp]; exact heap_alloc_new _ _)
      have f4 := row_frozen hb 0
      have f5 := row_frozen hb 1
      have f6 := row_frozen hb 2
      have f7 := row_frozen hb 3
      clear hb
      have c4 : w1.cell? ⟨w.heap.size + 1, 0, none⟩ = some (.int .i64 0) := hg.cell (by go_simp)
      have c5 : w1.cell? ⟨w.heap.size + 1, 1, none⟩ = some (.bool false) := hg.cell (by go_simp)
      have c6 : w1.cell? ⟨w.heap.size + 1, 2, none⟩ = some .nilFunc := hg.cell (by go_simp)
      have c7 : w1.cell? ⟨w.heap.size + 1, 3, none⟩ = some .nilFunc := hg.cell (by go_simp)
      go_wp2
      refine bodyPost_ret (v := .tuple #[.agg #[.int .i64 0, .bool false, .nilFunc, .nilFunc], .int .i64 20]) ?_ rfl ⟨by simp, ?_, ?_, ?_⟩
      · simp [results, Try.results23, go_sem, fnv, c4, c5, c6, c7, hm]
      · exact (((HG.out.setCell (by simp) _).setCell (by simp) _).setCell (by simp) _).setCell (by simp) _
      · go_simp
      · simp at HSZ ⊢; omega
    · go_enter Try.func23, Try.ntmps23
      go_wp2_with fail
      refine (HY.out _).mono ?_
      rintro r w1 ⟨rfl, hg⟩
      have c0 : w1.cell? ⟨w.heap.size, 0, none⟩ = some (.int .i64 (-1)) := hg.cell (by go_simp)
      have HG : Hid (Grew w w1) := (((Grew.refl w).alloc _).alloc _).trans hg
      have HSZ := hg.size
      have hb : w1.heap[w.heap.size + 1]? = some (.cells #[.int .i64 0, .bool false, .nilFunc, .nilFunc] 59) := hg.heap (by rw [show w.heap.size + 1 = (w.alloc (.cells #[.int .i64 (-1)] 3)).heap.size by simp]; exact heap_alloc_new _ _)
      have f4 := row_frozen hb 0
      have f5 := row_frozen hb 1
      have f6 := row_frozen hb 2
      have f7 := row_frozen hb 3
      clear hb
      have c4 : w1.cell? ⟨w.heap.size + 1, 0, none⟩ = some (.int .i64 0) := hg.cell (by go_simp)
      have c5 : w1.cell? ⟨w.heap.size + 1, 1, none⟩ = some (.bool false) := hg.cell (by go_simp)
      have c6 : w1.cell? ⟨w.heap.size + 1, 2, none⟩ = some .nilFunc := hg.cell (by go_simp)
      have c7 : w1.cell? ⟨w.heap.size + 1, 3, none⟩ = some .nilFunc := hg.cell (by go_simp)
      go_wp2
      refine bodyPost_ret (v := .tuple #[.agg #[.int .i64 tt, .bool (many == 0), fnv 43 #[.pointer (some ⟨w.heap.size, 0, none⟩)], fnv 44 #[]], .int .i64 0]) ?_ rfl ⟨by simp [fnv, hm], ?_, ?_, ?_⟩
      · simp [results, Try.results23, go_sem, fnv, c4, c5, c6, c7, hm]
      · exact (((HG.out.setCell (by simp) _).setCell (by simp) _).setCell (by simp) _).setCell (by simp) _
      · go_simp
      · simp at HSZ ⊢; omega
  · clear h
    cases tb
    · go_enter Try.func23, Try.ntmps23
      go_wp2_with fail
      refine (HY.out _).mono ?_
      rintro r w1 ⟨rfl, hg⟩
      have c0 : w1.cell? ⟨w.heap.size, 0, none⟩ = some (.int .i64 elem) := hg.cell (by go_simp)
      have HG : Hid (Grew w w1) := (((Grew.refl w).alloc _).alloc _).trans hg
      have HSZ := hg.size
      have hb : w1.heap[w.heap.size + 1]? = some (.cells #[.int .i64 0, .bool false, .nilFunc, .nilFunc] 59) := hg.heap (by rw [show w.heap.size + 1 = (w.alloc (.cells #[.int .i64 elem] 3)).heap.size by simp]; exact heap_alloc_new _ _)
      have f4 := row_frozen hb 0
      have f5 := row_frozen hb 1
      have f6 := row_frozen hb 2
      have f7 := row_frozen hb 3
      clear hb
      have c4 : w1.cell? ⟨w.heap.size + 1, 0, none⟩ = some (.int .i64 0) := hg.cell (by go_simp)
      have c5 : w1.cell? ⟨w.heap.size + 1, 1, none⟩ = some (.bool false) := hg.cell (by go_simp)
      have c6 : w1.cell? ⟨w.heap.size + 1, 2, none⟩ = some .nilFunc := hg.cell (by go_simp)
      have c7 : w1.cell? ⟨w.heap.size + 1, 3, none⟩ = some .nilFunc := hg.cell (by go_simp)
      go_wp2
      refine bodyPost_ret (v := .tuple #[.agg #[.int .i64 0, .bool false, .nilFunc, .nilFunc], .int .i64 20]) ?_ rfl ⟨by simp, ?_, ?_, ?_⟩
      · simp [results, Try.results23, go_sem, fnv, c4, c5, c6, c7]
      · exact (((HG.out.setCell (by simp) _).setCell (by simp) _).setCell (by simp) _).setCell (by simp) _
      · go_simp
      · simp at HSZ ⊢; omega
    · go_enter Try.func23, Try.ntmps23
      go_wp2_with fail
      refine (HY.out _).mono ?_
      rintro r w1 ⟨rfl, hg⟩
      have c0 : w1.cell? ⟨w.heap.size, 0, none⟩ = some (.int .i64 elem) := hg.cell (by go_simp)
      have HG : Hid (Grew w w1) := (((Grew.refl w).alloc _).alloc _).trans hg
      have HSZ := hg.size
      have hb : w1.heap[w.heap.size + 1]? = some (.cells #[.int .i64 0, .bool false, .nilFunc, .nilFunc] 59) := hg.heap (by rw [show w.heap.size + 1 = (w.alloc (.cells #[.int .i64 elem] 3)).heap.size by simp]; exact heap_alloc_new _ _)
      have f4 := row_frozen hb 0
      have f5 := row_frozen hb 1
      have f6 := row_frozen hb 2
      have f7 := row_frozen hb 3
      clear hb
      have c4 : w1.cell? ⟨w.heap.size + 1, 0, none⟩ = some (.int .i64 0) := hg.cell (by go_simp)
      have c5 : w1.cell? ⟨w.heap.size + 1, 1, none⟩ = some (.bool false) := hg.cell (by go_simp)
      have c6 : w1.cell? ⟨w.heap.size + 1, 2, none⟩ = some .nilFunc := hg.cell (by go_simp)
      have c7 : w1.cell? ⟨w.heap.size + 1, 3, none⟩ = some .nilFunc := hg.cell (by go_simp)
      go_wp2
      refine bodyPost_ret (v := .tuple #[.agg #[.int .i64 tt, .bool (many == 0), fnv 43 #[.pointer (some ⟨w.heap.size, 0, none⟩)], fnv 44 #[]], .int .i64 0]) ?_ rfl ⟨by simp [fnv], ?_, ?_, ?_⟩
      · simp [results, Try.results23, go_sem, fnv, c4, c5, c6, c7]
      · exact (((HG.out.setCell (by simp) _).setCell (by simp) _).setCell (by simp) _).setCell (by simp) _
      · go_simp
      · simp at HSZ ⊢; omega
theorem noTags_any (a b c : Value) (w : World) : Calls Try.prog 44 #[a, b, c] w fun r w' => r = .returned (.tuple #[]) ∧ Grew w w' := by
  go_enter Try.func44, Try.ntmps44
  go_wp2
  first | go_end0 | refine bodyPost_ret (results_none rfl _ _ _) rfl ?_
  exact ⟨rfl, Grew.refl _⟩
end Go.Proofs.Ytaoflhddcbmacaa
