/-
  Walks of fit.One, fit.All and of the reference's One, all, All: each pair returns the same plain function. Conditions: a uint64 offset in each value; for All a slice of values that reads as a list. The world only grows.
-/
import Derived.Test.YtkabfefphdgppaaLeast
namespace Go.Proofs.Ytkabfefphdgppaa
open Go Go.RowKit

set_option maxHeartbeats 400000 in
theorem within_any (n : Int) (w : World) :
    Calls Try.prog 23 #[.int .i64 n] w fun e w' => e = .returned (.bool (decide (0 ≤ n) && decide (n ≤ 1073741824))) ∧ w = w' := by
  go_enter Try.func23, Try.ntmps23
  go_wp2
  all_goals
    go_ret
    refine ⟨ret_bool ?_, rfl⟩
    first | (simp_all; done) | (simp_all; omega)

def oneF (ty wd n at_ index : Int) : Int :=
  if (0 ≤ at_ ∧ at_ ≤ 1073741824) ∧ 0 ≤ index ∧ index ≤ 1073741824 then leastOf (fun v => fitsF ty wd n at_ index v) else 0

set_option maxHeartbeats 400000 in
theorem one1_any (ty wd n at_ index v : Int) (a b c : Nat) (w : World) (hv : isW v) (n0 : 0 ≤ n) (n1 : n ≤ 18446744073709551615) (a0 : 0 ≤ at_) (a1 : at_ ≤ 1073741824) (i0 : 0 ≤ index) (i1 : index ≤ 2147483648)
    (h1 : w.cell? ⟨a, 0, none⟩ = some (.int .i64 ty)) (h2 : w.cell? ⟨a, 1, none⟩ = some (.int .i64 wd)) (h3 : w.cell? ⟨a, 2, none⟩ = some (.int .u64 n)) (h4 : w.cell? ⟨b, 0, none⟩ = some (.int .i64 at_)) (h5 : w.cell? ⟨c, 0, none⟩ = some (.int .i64 index)) :
    Calls Try.prog 25 #[.int .i64 v, .pointer (some ⟨a, 0, none⟩), .pointer (some ⟨b, 0, none⟩), .pointer (some ⟨c, 0, none⟩)] w fun e w' => e = .returned (.bool (fitsF ty wd n at_ index v)) ∧ Grew w w' := by
  go_enter Try.func25, Try.ntmps25
  go_wp2_with fail
  refine (fits_any _ _ _ _ _ _ _ hv n0 n1 a0 a1 i0 i1).mono ?_
  rintro e w1 ⟨rfl, hg⟩
  go_wp2
  go_ret
  exact ⟨rfl, hg⟩

set_option maxHeartbeats 400000 in
theorem one_any (ty wd n at_ index : Int) (w : World) (n0 : 0 ≤ n) (n1 : n ≤ 18446744073709551615) :
    Calls Try.prog 11 #[valueV ty wd n, .int .i64 at_, .int .i64 index] w fun e w' => e = .returned (.int .i64 (oneF ty wd n at_ index)) ∧ Grew w w' := by
  have hmf : ∀ (fn : Fn) (first cap : Array Value) (w : World), (Instr.makeFunc fn first cap).run Try.prog w = .ok (.func fn first cap) w := fun _ _ _ _ => rfl
  by_cases ha : 0 ≤ at_ ∧ at_ ≤ 1073741824
  · by_cases hi : 0 ≤ index ∧ index ≤ 1073741824
    · have hf : oneF ty wd n at_ index = leastOf (fun v => fitsF ty wd n at_ index v) := by unfold oneF; rw [if_pos ⟨ha, hi⟩]
      have HF := Lib.hid hf
      clear hf
      go_enter Try.func11, Try.ntmps11
      go_wp2_with fail
      refine (within_any _ _).mono ?_
      rw [show (decide (0 ≤ at_) && decide (at_ ≤ 1073741824)) = true by simp [ha]]
      rintro e w1 ⟨rfl, rfl⟩
      go_wp2_with fail
      refine (within_any _ _).mono ?_
      rw [show (decide (0 ≤ index) && decide (index ≤ 1073741824)) = true by simp [hi]]
      rintro e w1 ⟨rfl, rfl⟩
      go_wp2_with fail
      refine (leastFit_any _ _ (fun v => fitsF ty wd n at_ index v) _ (enters_of Try.func25 (by kernel_rfl) rfl) ?_).mono ?_
      · intro v hv W hW
        exact one1_any ty wd n at_ index v w.heap.size (w.heap.size + 1) (w.heap.size + 1 + 1) W hv n0 n1 ha.1 ha.2 hi.1 (by omega) (hW.cell (by go_simp)) (hW.cell (by go_simp)) (hW.cell (by go_simp)) (hW.cell (by go_simp)) (hW.cell (by go_simp))
      rintro e w1 ⟨rfl, hg⟩
      go_wp2
      go_ret
      exact ⟨by rw [HF.out]; rfl, ((((Grew.refl w).alloc _).alloc _).alloc _).trans hg⟩
    · have hf : oneF ty wd n at_ index = 0 := by unfold oneF; rw [if_neg (fun h => hi h.2)]
      have HF := Lib.hid hf
      have hb : (decide (0 ≤ index) && decide (index ≤ 1073741824)) = false := by simp; omega
      clear hf
      go_enter Try.func11, Try.ntmps11
      go_wp2_with fail
      refine (within_any _ _).mono ?_
      rw [show (decide (0 ≤ at_) && decide (at_ ≤ 1073741824)) = true by simp [ha]]
      rintro e w1 ⟨rfl, rfl⟩
      go_wp2_with fail
      refine (within_any _ _).mono ?_
      rw [hb]
      rintro e w1 ⟨rfl, rfl⟩
      go_wp2
      go_ret
      exact ⟨by rw [HF.out]; rfl, (((Grew.refl w).alloc _).alloc _).alloc _⟩
  · have hf : oneF ty wd n at_ index = 0 := by unfold oneF; rw [if_neg (fun h => ha h.1)]
    have HF := Lib.hid hf
    have hb : (decide (0 ≤ at_) && decide (at_ ≤ 1073741824)) = false := by simp; omega
    clear hf
    go_enter Try.func11, Try.ntmps11
    go_wp2_with fail
    refine (within_any _ _).mono ?_
    rw [hb]
    rintro e w1 ⟨rfl, rfl⟩
    go_wp2
    go_ret
    exact ⟨by rw [HF.out]; rfl, (((Grew.refl w).alloc _).alloc _).alloc _⟩

theorem leastOf_1 (p : Int → Bool) (a : p 1 = true) : leastOf p = 1 := by simp [leastOf, a]
theorem leastOf_2 (p : Int → Bool) (a : p 1 = false) (b : p 2 = true) : leastOf p = 2 := by simp [leastOf, a, b]
theorem leastOf_4 (p : Int → Bool) (a : p 1 = false) (b : p 2 = false) (c : p 4 = true) : leastOf p = 4 := by simp [leastOf, a, b, c]
theorem leastOf_8 (p : Int → Bool) (a : p 1 = false) (b : p 2 = false) (c : p 4 = false) (d : p 8 = true) : leastOf p = 8 := by simp [leastOf, a, b, c, d]

/-! ### the reference's One -/
set_option maxHeartbeats 1000000 in
theorem refOne_any (ty wd n at_ index : Int) (w : World) (n0 : 0 ≤ n) (n1 : n ≤ 18446744073709551615) :
    Calls Try.prog 12 #[valueV ty wd n, .int .i64 at_, .int .i64 index] w fun e w' => e = .returned (.int .i64 (oneF ty wd n at_ index)) ∧ Grew w w' := by
  by_cases h : (0 ≤ at_ ∧ at_ ≤ 1073741824) ∧ 0 ≤ index ∧ index ≤ 1073741824
  · have hf : oneF ty wd n at_ index = leastOf (fun v => fitsF ty wd n at_ index v) := by unfold oneF; rw [if_pos h]
    have HF := Lib.hid hf
    clear hf
    obtain ⟨⟨a0, a1⟩, i0, i1⟩ := h
    go_enter Try.func12, Try.ntmps12
    go_wp2_with fail
    go_loopw [7] (fun v wr => Grew (w.alloc (.cells #[.int .i64 ty, .int .i64 wd, .int .u64 n] 24)) wr ∧
      ((v = .int .i64 1) ∨ (v = .int .i64 2 ∧ fitsF ty wd n at_ index 1 = false) ∨ (v = .int .i64 4 ∧ fitsF ty wd n at_ index 1 = false ∧ fitsF ty wd n at_ index 2 = false) ∨
       (v = .int .i64 8 ∧ fitsF ty wd n at_ index 1 = false ∧ fitsF ty wd n at_ index 2 = false ∧ fitsF ty wd n at_ index 4 = false) ∨ (v = .int .i64 16 ∧ leastOf (fun v => fitsF ty wd n at_ index v) = 0))) (fun v _ => 16 - (intOf v).toNat)
    case atStart => exact ⟨Grew.refl _, .inl rfl⟩
    case round =>
      obtain ⟨hg, hrel⟩ := hrel
      obtain ⟨hc, hr, hs⟩ := hg.rules
      simp only [World.size_alloc] at hc hr hs
      rcases hrel with rfl | ⟨rfl, f1⟩ | ⟨rfl, f1, f2⟩ | ⟨rfl, f1, f2, f4⟩ | ⟨rfl, fz⟩
      · by_cases hb : fitsF ty wd n at_ index 1 = true
        · have HB := Lib.hid hb
          go_wp2_with fail
          refine (refFits_any _ _ _ _ _ _ _ (.inl rfl) n0 n1 a0 a1 i0 (by omega)).mono ?_
          rintro e w1 ⟨rfl, hg1⟩
          go_wp2
          go_ret
          exact ⟨by rw [HF.out, leastOf_1 (fun v => fitsF ty wd n at_ index v) hb]; rfl, (((Grew.refl w).alloc _).trans hg).trans hg1⟩
        · have hb' : fitsF ty wd n at_ index 1 = false := by simpa using hb
          clear hb
          go_wp2_with fail
          refine (refFits_any _ _ _ _ _ _ _ (.inl rfl) n0 n1 a0 a1 i0 (by omega)).mono ?_
          rintro e w1 ⟨rfl, hg1⟩
          go_wp2
          go_roundw
          case rel => exact ⟨hg.trans hg1, .inr (.inl ⟨rfl, hb'⟩)⟩
          case measure => simp [intOf]
      · by_cases hb : fitsF ty wd n at_ index 2 = true
        · have HB := Lib.hid hb
          go_wp2_with fail
          refine (refFits_any _ _ _ _ _ _ _ (.inr (.inl rfl)) n0 n1 a0 a1 i0 (by omega)).mono ?_
          rintro e w1 ⟨rfl, hg1⟩
          go_wp2
          go_ret
          exact ⟨by rw [HF.out, leastOf_2 (fun v => fitsF ty wd n at_ index v) f1 hb]; rfl, (((Grew.refl w).alloc _).trans hg).trans hg1⟩
        · have hb' : fitsF ty wd n at_ index 2 = false := by simpa using hb
          clear hb
          go_wp2_with fail
          refine (refFits_any _ _ _ _ _ _ _ (.inr (.inl rfl)) n0 n1 a0 a1 i0 (by omega)).mono ?_
          rintro e w1 ⟨rfl, hg1⟩
          go_wp2
          go_roundw
          case rel => exact ⟨hg.trans hg1, .inr (.inr (.inl ⟨rfl, f1, hb'⟩))⟩
          case measure => simp [intOf]
      · by_cases hb : fitsF ty wd n at_ index 4 = true
        · have HB := Lib.hid hb
          go_wp2_with fail
          refine (refFits_any _ _ _ _ _ _ _ (.inr (.inr (.inl rfl))) n0 n1 a0 a1 i0 (by omega)).mono ?_
          rintro e w1 ⟨rfl, hg1⟩
          go_wp2
          go_ret
          exact ⟨by rw [HF.out, leastOf_4 (fun v => fitsF ty wd n at_ index v) f1 f2 hb]; rfl, (((Grew.refl w).alloc _).trans hg).trans hg1⟩
        · have hb' : fitsF ty wd n at_ index 4 = false := by simpa using hb
          clear hb
          go_wp2_with fail
          refine (refFits_any _ _ _ _ _ _ _ (.inr (.inr (.inl rfl))) n0 n1 a0 a1 i0 (by omega)).mono ?_
          rintro e w1 ⟨rfl, hg1⟩
          go_wp2
          go_roundw
          case rel => exact ⟨hg.trans hg1, .inr (.inr (.inr (.inl ⟨rfl, f1, f2, hb'⟩)))⟩
          case measure => simp [intOf]
      · by_cases hb : fitsF ty wd n at_ index 8 = true
        · have HB := Lib.hid hb
          go_wp2_with fail
          refine (refFits_any _ _ _ _ _ _ _ (.inr (.inr (.inr rfl))) n0 n1 a0 a1 i0 (by omega)).mono ?_
          rintro e w1 ⟨rfl, hg1⟩
          go_wp2
          go_ret
          exact ⟨by rw [HF.out, leastOf_8 (fun v => fitsF ty wd n at_ index v) f1 f2 f4 hb]; rfl, (((Grew.refl w).alloc _).trans hg).trans hg1⟩
        · have hb' : fitsF ty wd n at_ index 8 = false := by simpa using hb
          clear hb
          go_wp2_with fail
          refine (refFits_any _ _ _ _ _ _ _ (.inr (.inr (.inr rfl))) n0 n1 a0 a1 i0 (by omega)).mono ?_
          rintro e w1 ⟨rfl, hg1⟩
          go_wp2
          go_roundw
          case rel => exact ⟨hg.trans hg1, .inr (.inr (.inr (.inr (⟨rfl, by simp [leastOf, f1, f2, f4, hb']⟩))))⟩
          case measure => simp [intOf]
      · have FZ := Lib.hid fz
        clear fz
        go_wp2
        go_ret
        exact ⟨by rw [HF.out, FZ.out]; rfl, ((Grew.refl w).alloc _).trans hg⟩
  · have hf : oneF ty wd n at_ index = 0 := by unfold oneF; rw [if_neg h]
    have HF := Lib.hid hf
    clear hf
    by_cases a0 : at_ < 0
    · go_enter Try.func12, Try.ntmps12
      go_wp2
      go_ret
      exact ⟨by rw [HF.out]; rfl, (Grew.refl w).alloc _⟩
    · by_cases a1 : 1073741824 < at_
      · go_enter Try.func12, Try.ntmps12
        go_wp2
        go_ret
        exact ⟨by rw [HF.out]; rfl, (Grew.refl w).alloc _⟩
      · by_cases i0 : index < 0
        · go_enter Try.func12, Try.ntmps12
          go_wp2
          go_ret
          exact ⟨by rw [HF.out]; rfl, (Grew.refl w).alloc _⟩
        · have i1 : 1073741824 < index := by omega
          clear h
          go_enter Try.func12, Try.ntmps12
          go_wp2
          go_ret
          exact ⟨by rw [HF.out]; rfl, (Grew.refl w).alloc _⟩

end Go.Proofs.Ytkabfefphdgppaa
