/-
  Walks of fit.All and of the reference's All: both return the plain function allF. Conditions: the values are a list in memory; each offset is a uint64. The world only grows.
-/
import Derived.Test.YtaoflhddcbmacaaFitAll
namespace Go.Proofs.Ytaoflhddcbmacaa.Ft
open Go Go.RowKit

instance (a : Int) : Decidable (isA a) := by unfold isA; exact inferInstance
def allF (l : List V3) (k : V3) (at_ ahead : Int) : Int :=
  if (0 ≤ at_ ∧ at_ ≤ 1073741824) ∧ isA ahead ∧ l.length ≤ 1048576 then leastOf (fun v => allAt l k at_ ahead v) else 0

set_option maxRecDepth 100000 in
set_option maxHeartbeats 2000000 in
theorem all_any (l : List V3) (k : V3) (at_ ahead : Int) (sv : Value) (w : World) (hlen : l.length ≤ 9223372036854775807) (hok : ∀ x ∈ l, okV x) (hokk : okV k) (hs : ValsAt w sv l) :
    Calls Try.prog 24 #[.int .i64 at_, .int .i64 ahead, vV k, sv] w fun e w' => e = .returned (.int .i64 (allF l k at_ ahead)) ∧ Grew w w' := by
  have hmf : ∀ (fn : Fn) (first cap : Array Value) (w : World), (Instr.makeFunc fn first cap).run Try.prog w = .ok (.func fn first cap) w := fun _ _ _ _ => rfl
  have HS := Lib.hid hs
  obtain ⟨sa, cap, rfl, _⟩ := hs
  obtain ⟨ky, kw, kn⟩ := k
  by_cases ha : 0 ≤ at_ ∧ at_ ≤ 1073741824
  · have hw : (decide (0 ≤ at_) && decide (at_ ≤ 1073741824)) = true := by simp [ha]
    have HW := Lib.hid hw
    clear hw
    by_cases hi : isA ahead
    · by_cases hl : l.length ≤ 1048576
      · have hf : allF l (ky, kw, kn) at_ ahead = leastOf (fun v => allAt l (ky, kw, kn) at_ ahead v) := by unfold allF; rw [if_pos ⟨ha, hi, hl⟩]
        have HF := Lib.hid hf
        have HI := Lib.hid hi
        clear hf
        rcases hi with rfl | rfl | rfl
        · go_enter Try.func24, Try.ntmps24
          go_wp2_with fail
          refine (within_any _ _).mono ?_
          rw [HW.out]
          rintro e w1 ⟨rfl, rfl⟩
          go_wp2_with fail
          refine (leastFit_any _ _ (fun v => allAt l (ky, kw, kn) at_ 0 v) _ (enters_of Try.func47 (by kernel_rfl) rfl) ?_).mono ?_
          · intro v hv W hW
            exact all1_any l (ky, kw, kn) at_ 0 v (.slice sa l.length cap) (w.heap.size + 1) (w.heap.size + 1 + 1 + 1) (w.heap.size + 1 + 1) w.heap.size W hv HI.out hl ha.1 ha.2 hok hokk ((HS.out.grew (((((Grew.refl w).alloc _).alloc _).alloc _).alloc _)).grew hW) (hW.cell (by go_simp)) (hW.cell (by go_simp)) (hW.cell (by go_simp)) (hW.cell (by go_simp)) (hW.cell (by go_simp)) (hW.cell (by go_simp))
          rintro e w1 ⟨rfl, hg⟩
          go_wp2
          go_ret
          exact ⟨by rw [HF.out]; rfl, (((((Grew.refl w).alloc _).alloc _).alloc _).alloc _).trans hg⟩
        · go_enter Try.func24, Try.ntmps24
          go_wp2_with fail
          refine (within_any _ _).mono ?_
          rw [HW.out]
          rintro e w1 ⟨rfl, rfl⟩
          go_wp2_with fail
          refine (leastFit_any _ _ (fun v => allAt l (ky, kw, kn) at_ 1 v) _ (enters_of Try.func47 (by kernel_rfl) rfl) ?_).mono ?_
          · intro v hv W hW
            exact all1_any l (ky, kw, kn) at_ 1 v (.slice sa l.length cap) (w.heap.size + 1) (w.heap.size + 1 + 1 + 1) (w.heap.size + 1 + 1) w.heap.size W hv HI.out hl ha.1 ha.2 hok hokk ((HS.out.grew (((((Grew.refl w).alloc _).alloc _).alloc _).alloc _)).grew hW) (hW.cell (by go_simp)) (hW.cell (by go_simp)) (hW.cell (by go_simp)) (hW.cell (by go_simp)) (hW.cell (by go_simp)) (hW.cell (by go_simp))
          rintro e w1 ⟨rfl, hg⟩
          go_wp2
          go_ret
          exact ⟨by rw [HF.out]; rfl, (((((Grew.refl w).alloc _).alloc _).alloc _).alloc _).trans hg⟩
        · go_enter Try.func24, Try.ntmps24
          go_wp2_with fail
          refine (within_any _ _).mono ?_
          rw [HW.out]
          rintro e w1 ⟨rfl, rfl⟩
          go_wp2_with fail
          refine (leastFit_any _ _ (fun v => allAt l (ky, kw, kn) at_ 3 v) _ (enters_of Try.func47 (by kernel_rfl) rfl) ?_).mono ?_
          · intro v hv W hW
            exact all1_any l (ky, kw, kn) at_ 3 v (.slice sa l.length cap) (w.heap.size + 1) (w.heap.size + 1 + 1 + 1) (w.heap.size + 1 + 1) w.heap.size W hv HI.out hl ha.1 ha.2 hok hokk ((HS.out.grew (((((Grew.refl w).alloc _).alloc _).alloc _).alloc _)).grew hW) (hW.cell (by go_simp)) (hW.cell (by go_simp)) (hW.cell (by go_simp)) (hW.cell (by go_simp)) (hW.cell (by go_simp)) (hW.cell (by go_simp))
          rintro e w1 ⟨rfl, hg⟩
          go_wp2
          go_ret
          exact ⟨by rw [HF.out]; rfl, (((((Grew.refl w).alloc _).alloc _).alloc _).alloc _).trans hg⟩
      · have hf : allF l (ky, kw, kn) at_ ahead = 0 := by unfold allF; rw [if_neg (fun h => hl h.2.2)]
        have HF := Lib.hid hf
        clear hf
        rcases hi with rfl | rfl | rfl
        all_goals
          go_enter Try.func24, Try.ntmps24
          go_wp2_with fail
          refine (within_any _ _).mono ?_
          rw [HW.out]
          rintro e w1 ⟨rfl, rfl⟩
          go_wp2
          go_ret
          exact ⟨by rw [HF.out]; rfl, (((((Grew.refl w).alloc _).alloc _).alloc _).alloc _)⟩
    · have hf : allF l (ky, kw, kn) at_ ahead = 0 := by unfold allF; rw [if_neg (fun h => hi h.2.1)]
      have HF := Lib.hid hf
      have n0 : (ahead != 0) = true := by rw [bne_iff_ne]; intro h; exact hi (.inl h)
      have n1 : (ahead != 1) = true := by rw [bne_iff_ne]; intro h; exact hi (.inr (.inl h))
      have n3 : (ahead != 3) = true := by rw [bne_iff_ne]; intro h; exact hi (.inr (.inr h))
      clear hf hi
      go_enter Try.func24, Try.ntmps24
      go_wp2_with fail
      refine (within_any _ _).mono ?_
      rw [HW.out]
      rintro e w1 ⟨rfl, rfl⟩
      go_wp2
      go_ret
      exact ⟨by rw [HF.out]; rfl, (((((Grew.refl w).alloc _).alloc _).alloc _).alloc _)⟩
  · have hf : allF l (ky, kw, kn) at_ ahead = 0 := by unfold allF; rw [if_neg (fun h => ha h.1)]
    have HF := Lib.hid hf
    have hb : (decide (0 ≤ at_) && decide (at_ ≤ 1073741824)) = false := by simp; omega
    clear hf
    go_enter Try.func24, Try.ntmps24
    go_wp2_with fail
    refine (within_any _ _).mono ?_
    rw [hb]
    rintro e w1 ⟨rfl, rfl⟩
    go_wp2
    go_ret
    exact ⟨by rw [HF.out]; rfl, (((((Grew.refl w).alloc _).alloc _).alloc _).alloc _)⟩

end Go.Proofs.Ytaoflhddcbmacaa.Ft
