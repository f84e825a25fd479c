/-
  The copy of a byte slice (slices.Clone) and the buffer's Bytes.
-/
import Derived.Test.YtaoflhddcbmacaaBufCut
import Derived.Lib.BufferMore
namespace Go.Proofs.Ytaoflhddcbmacaa
open Go Go.ChangeShapes Go.WideShapes Go.ChangeAt Go.RowKit Go.Joins
set_option linter.unusedVariables false
set_option linter.unusedSimpArgs false

/-- A fresh row of bytes: of blocks from B on, which is w's size. -/
theorem clone_any (w : World) (v : Value) (x : List UInt8) (h : BytesAt w v x) (hl : x.length ≤ 1099511627776) :
    Calls Try.prog 35 #[v] w fun r w' => ∃ v', r = .returned v' ∧ w'.ownsRow w.heap.size 5 1 v' x.length (Lib.byteCells x) ∧ Grew w w' := by
  have HX := Lib.hid h
  obtain ⟨a, c, rfl, hc, hnil, _⟩ := h
  cases a with
  | none =>
    have h0 := hnil rfl
    subst h0
    have h1 : x = [] := List.length_eq_zero_iff.1 (by omega)
    subst h1
    have hq := fun W => Lib.run_eql_slice_nil_nil (P := Try.prog) W 0 0 Try.underlying39
    show Calls Try.prog 35 #[.slice none 0 0] w _
    go_enter Try.func35, Try.ntmps35
    go_wp2
    go_ret
    exact ⟨_, rfl, World.ownsRow_nil _ _ _ _, Grew.refl _⟩
  | some ad =>
    have hq := fun W => Lib.run_eql_slice_some_nil (P := Try.prog) W ad x.length c Try.underlying39
    have hown : Hid ((w.alloc (.cells #[] 5)).ownsRow w.heap.size 5 1 (.slice (some ⟨w.heap.size, 0, none⟩) 0 0) ([] : List UInt8).length (Lib.byteCells [])) :=
      World.ownsRow_made w #[] 0 (Nat.le_refl _) (by decide) rfl
    have HX2 := Lib.hid (HX.out.grew ((Grew.refl w).alloc (.cells #[] 5)))
    go_enter Try.func35, Try.ntmps35
    go_wp2_with (at_builtin; refine wpList_appendB rfl _ _ rfl w.heap.size (.slice (some ⟨w.heap.size, 0, none⟩) 0 0) [] rfl hown.out _ x rfl HX2.out (by simp; omega) (by simp) ?_; intro v' w3 hown2 hgr hqq; obtain ⟨va2, vc2, rfl, _, _⟩ := row_form hown2; have HO := Lib.hid (And.intro hown2 hgr); clear hown2 hgr hqq)
    go_ret
    refine ⟨_, rfl, by simpa using HO.out.1, ?_⟩
    have h1 : Below w.heap.size w (w.alloc (.cells #[] 5)) := (Grew.refl w).alloc _
    exact h1.grown HO.out.2 (by simp) (fun k hk => by cases hk; exact Nat.le_refl _)

theorem bytes_any {B : Nat} {w : World} {p : Nat} {o : Option Nat} {l : List UInt8} {most e : Int} (h : BufAt B w p o l most e) (hl : l.length ≤ 1099511627776) :
    Calls Try.prog 14 #[bptr p] w fun r w' => ∃ v', r = .returned (.tuple #[v', .int .i64 e]) ∧ w'.ownsRow w.heap.size 5 1 v' (if e = 0 then l else []).length (Lib.byteCells (if e = 0 then l else [])) ∧ Grew w w' := by
  have HB := Lib.hid h
  obtain ⟨hBp, v, h1, h2, h3, h4⟩ := h
  obtain ⟨c0, c1, c2, c3⟩ := four_cells h1
  obtain ⟨va, vc, rfl, hcap, hnil⟩ := row_form h2
  have HX := Lib.hid (BytesAt.of_own h2)
  clear h1 h2 h3 h4
  go_enter Try.func14, Try.ntmps14
  go_wp2_with fail
  refine (err_any HB.out).mono ?_
  rintro r w' ⟨rfl, rfl⟩
  by_cases he : e = 0
  · subst he
    go_wp2_with fail
    refine (clone_any _ _ l HX.out hl).mono ?_
    rintro r w3 ⟨v', rfl, ho, hg⟩
    have HO := Lib.hid (And.intro ho hg)
    clear ho hg
    go_wp2
    go_ret2
    exact ⟨_, rfl, HO.out⟩
  · go_wp2
    go_ret2
    exact ⟨_, rfl, World.ownsRow_nil _ _ _ _, Grew.refl _⟩

end Go.Proofs.Ytaoflhddcbmacaa
