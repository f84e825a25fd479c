/-
  Small helpers: EqBytes, SpoilBytes, Short, Bring, New, the reference's New.
-/
import Derived.Test.YtaoflhddcbmacaaBufStep
import Derived.Outline
import Derived.Laws.IdiomStrings
import Derived.WalkSpells
import Derived.Laws.Closers25b
namespace Go.Proofs.Ytaoflhddcbmacaa
open Go Go.ChangeShapes Go.WideShapes Go.ChangeAt Go.RowKit Go.Joins
set_option linter.unusedVariables false
set_option linter.unusedSimpArgs false

theorem str_of_bytes {w : World} {v : Value} {x : List UInt8} (h : BytesAt w v x) : (convert 39 9 v).run Try.prog w = .ok (.string ⟨x.toArray⟩) w := by
  obtain ⟨a, c, rfl, hc, hnil, hcell⟩ := h
  cases a with
  | none =>
    have h0 := hnil rfl
    subst h0
    have : x = [] := List.length_eq_zero_iff.1 (by omega)
    subst this
    exact run_convert_bytes_nil w 39 5 Try.underlying39 Try.underlying5 0 0 9 Try.underlying9
  | some ad =>
    refine run_convert_bytes_back w 39 9 5 ad c x Try.underlying39 Try.underlying5 Try.underlying9 fun j hj => ?_
    obtain ⟨b, off, e, hcc⟩ := hcell j x[j] (List.getElem?_eq_getElem hj)
    cases e
    have : (⟨b, off, none⟩ : Addr).add j = ⟨b, off + j, none⟩ := by
      unfold Addr.add
      split
      · rename_i h; subst h; rfl
      · rfl
    rw [this]; exact hcc
theorem eqBytes_any {w : World} (v u : Value) (x y : List UInt8) (hv : BytesAt w v x) (hu : BytesAt w u y) :
    Calls Try.prog 16 #[v, u] w fun r w' => r = .returned (.bool (decide (x = y))) ∧ w' = w := by
  have h1 := str_of_bytes hv
  have h2 := str_of_bytes hu
  obtain ⟨a, c, rfl, hc, hnil, _⟩ := hv
  obtain ⟨a2, c2, rfl, hc2, hnil2, _⟩ := hu
  clear hc hc2 hnil hnil2
  go_enter Try.func16, Try.ntmps16
  go_wp2
  go_ret
  refine ⟨ret_bool ?_, rfl⟩
  show (_ == _) = _
  rw [Bool.eq_iff_iff]
  simp
theorem bring_eq (i n : Int) (h : 0 < n) : (i.tmod n < 0 → i.tmod n + n = i % n) ∧ (¬ i.tmod n < 0 → i.tmod n = i % n) ∧ -n < i.tmod n ∧ i.tmod n < n := by
  have h1 := Int.emod_nonneg i (show n ≠ 0 by omega)
  have h2 := Int.emod_lt_of_pos i h
  rw [Int.tmod_eq_emod]
  by_cases hc : 0 ≤ i ∨ n ∣ i
  · rw [if_pos hc]
    refine ⟨fun h => ?_, fun _ => ?_, ?_, ?_⟩ <;> simp only [Int.ofNat_zero, Int.sub_zero] at * <;> omega
  · rw [if_neg hc]
    have h3 : (n.natAbs : Int) = n := by omega
    have h4 : i % n ≠ 0 := fun h => hc (.inr (Int.dvd_of_emod_eq_zero h))
    rw [h3]
    refine ⟨fun h => ?_, fun _ => ?_, ?_, ?_⟩ <;> omega
theorem bring_any (i n : Int) (w : World) (hn : 0 < n) (hn2 : n ≤ 1048577) : Calls Try.prog 8 #[.int .i64 i, .int .i64 n] w fun r w' => r = .returned (.int .i64 (i % n)) ∧ w' = w := by
  obtain ⟨b1, b2, b3, b4⟩ := bring_eq i n hn
  have B1 := Lib.hid b1
  have B2 := Lib.hid b2
  clear b1 b2
  go_enter Try.func8, Try.ntmps8
  go_wp2
  · go_ret
    refine ⟨ret_int ?_, rfl⟩
    exact B1.out (by assumption)
  · go_ret
    exact ⟨ret_int (B2.out (by assumption)), rfl⟩
def roomOf (most : Int) : Int := min (max most 0) 1048576
theorem new_any (most : Int) (w : World) : Calls Try.prog 28 #[.int .i64 most] w fun r w' => r = .returned (bptr w.heap.size) ∧ BufAt w.heap.size w' w.heap.size none [] (roomOf most) 0 ∧ Grew w w' ∧ w.heap.size < w'.heap.size := by
  have H : Hid (∀ m : Int, m = roomOf most → BufAt w.heap.size (w.alloc (.cells #[.bool true, .slice none 0 0, .int .i64 m, .int .i64 0] 76)) w.heap.size none [] (roomOf most) 0 ∧ Grew w (w.alloc (.cells #[.bool true, .slice none 0 0, .int .i64 m, .int .i64 0] 76)) ∧ w.heap.size < (w.alloc (.cells #[.bool true, .slice none 0 0, .int .i64 m, .int .i64 0] 76)).heap.size) := by
    rintro m rfl
    exact ⟨⟨Nat.le_refl _, _, heap_alloc_new _ _, World.ownsRow_nil _ _ _ _, rfl, by simp⟩, (Grew.refl w).alloc _, by simp⟩
  have HR : Hid ((most < 0 → 0 = roomOf most) ∧ (0 ≤ most → most ≤ 1048576 → most = roomOf most) ∧ (1048576 ≤ most → 1048576 = roomOf most)) := by
    unfold roomOf; exact ⟨by omega, by omega, by omega⟩
  generalize roomOf most = rm at *
  go_enter Try.func28, Try.ntmps28
  go_wp2
  all_goals
    go_ret
    refine ⟨rfl, H.out _ ?_⟩
    first | exact HR.out.1 (by omega) | exact HR.out.2.1 (by omega) (by omega) | exact HR.out.2.2 (by omega)
end Go.Proofs.Ytaoflhddcbmacaa
