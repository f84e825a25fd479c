/-
  Package le: within, Load.
-/
import Derived.Test.YtaoflhddcbmacaaVecLe
import Derived.Test.YtaoflhddcbmacaaVec2
import Derived.Laws.EntriesVeiled
namespace Go.Proofs.Ytaoflhddcbmacaa
open Go Go.ChangeShapes Go.WideShapes Go.ChangeAt Go.RowKit Go.Joins
set_option linter.unusedVariables false
set_option linter.unusedSimpArgs false

theorem row_cell1 {w : World} {p : Nat} {cs : Array Value} {t : TypeId} (h : w.heap[p]? = some (.cells cs t (0, 0))) (k : Nat) (v : Value) (hv : cs[k]? = some v) : w.cell? ⟨p, k, none⟩ = some v := by
  simp [World.cell?, h, hv]
def loadF (l : List UInt8) (at_ x : Int) : Int × Int := if isW x = true then (if at_ < 0 ∨ at_ > l.length - x then (0, 6) else (leF ((l.drop at_.toNat).take x.toNat), 0)) else (0, 2)
theorem bytes_cut {w : World} {bl off : Nat} {c : Nat} {l : List UInt8} (hb : BytesAt w (.slice (some ⟨bl, off, none⟩) l.length c) l) (k x c2 : Nat) (h : k + x ≤ l.length) (hc : x ≤ c2) : BytesAt w (.slice (some ⟨bl, off + k, none⟩) x c2) ((l.drop k).take x) := by
  obtain ⟨a, c', e, _, _, h4⟩ := hb
  cases e
  refine ⟨some ⟨bl, off + k, none⟩, c2, by simp; omega, by simp; omega, fun h => (by cases h), fun i b hi => ?_⟩
  rw [List.getElem?_take] at hi
  split at hi
  · rw [List.getElem?_drop] at hi
    obtain ⟨bl', off', e, hcell⟩ := h4 (k + i) b hi
    cases e
    exact ⟨bl, off + k, rfl, by rw [Nat.add_assoc]; exact hcell⟩
  · cases hi
set_option maxRecDepth 100000 in
set_option maxHeartbeats 1000000 in
theorem within_any {w : World} (sv : Value) (l : List UInt8) (hb : BytesAt w sv l) (hlen : l.length ≤ 1073741824) (at_ x : Int) (ha : -4611686018427387904 ≤ at_ ∧ at_ ≤ 4611686018427387904) (pa : Nat) (hp : w.heap[pa]? = some (.cells #[.int .u64 0] 26)) (hap : ∀ ad n c, sv = .slice (some ad) n c → ad.block ≠ pa) :
    Calls Try.prog 38 #[sv, .int .i64 at_, .int .i64 x, fnv 39 #[.pointer (some ⟨pa, 0, none⟩)]] w fun r w' => r = .returned (.int .i64 (loadF l at_ x).2) ∧ w'.heap[pa]? = some (.cells #[.int .u64 (loadF l at_ x).1] 26) ∧ Moved (fun b => b = pa) w w' := by
  have HB0 := Lib.hid hb
  have HA := Lib.hid hap
  have HP := Lib.hid hp
  obtain ⟨a, c, rfl, hcell⟩ := hb
  have hc := hcell.1
  have HC := Lib.hid hcell.2.2
  clear hap hcell hp
  unfold loadF
  by_cases hx : isW x = true
  · rw [if_pos hx]
    have HX := Lib.hid hx
    by_cases hr : at_ < 0 ∨ at_ > l.length - x
    · rw [if_pos hr]
      have hx1 : 1 ≤ x ∧ x ≤ 8 := by rcases isW_cases hx with rfl | rfl | rfl | rfl <;> omega
      go_enter Try.func38, Try.ntmps38
      go_wp2_with fail
      refine (leis_any x _).mono ?_
      rw [HX.out]
      rintro r w1 ⟨rfl, rfl⟩
      by_cases h0 : at_ < 0
      · go_wp2
        go_ret
        exact ⟨rfl, HP.out, Moved.refl _ _⟩
      · have h1 : (l.length : Int) - x < at_ := by omega
        go_wp2
        go_ret
        exact ⟨rfl, HP.out, Moved.refl _ _⟩
    · rw [if_neg hr]
      have hx1 : 1 ≤ x ∧ x ≤ 8 := by rcases isW_cases hx with rfl | rfl | rfl | rfl <;> omega
      obtain ⟨k, rfl⟩ := Int.eq_ofNat_of_zero_le (show 0 ≤ at_ by omega)
      obtain ⟨y, rfl⟩ := Int.eq_ofNat_of_zero_le (show 0 ≤ x by omega)
      have hky : k + y ≤ l.length := by omega
      obtain ⟨bl, off, rfl, _⟩ := HC.out 0 l[0] (List.getElem?_eq_getElem (by omega))
      go_enter Try.func38, Try.ntmps38
      go_wp2_with fail
      refine (leis_any y _).mono ?_
      rw [HX.out]
      rintro r w1 ⟨rfl, rfl⟩
      go_wp2_with fail
      refine (load1_any _ ((l.drop k).take y) (bytes_cut HB0.out k y (c - k) hky (by omega)) (by simp; omega) pa HP.out (fun ad n c' e => by cases e; exact HA.out ⟨bl, off, none⟩ _ _ rfl)).mono ?_
      rintro r w2 ⟨rfl, hrow, hm⟩
      have HR := Lib.hid hrow
      have HM := Lib.hid hm
      clear hrow hm
      go_wp2
      go_ret
      exact ⟨rfl, by simpa using HR.out, HM.out⟩
  · rw [if_neg hx]
    have HX := Lib.hid (show isW x = false by simpa using hx)
    clear hx
    go_enter Try.func38, Try.ntmps38
    go_wp2_with fail
    refine (leis_any x _).mono ?_
    rw [HX.out]
    rintro r w1 ⟨rfl, rfl⟩
    go_wp2
    go_ret
    exact ⟨rfl, HP.out, Moved.refl _ _⟩
set_option maxRecDepth 100000 in
set_option maxHeartbeats 1000000 in
theorem load_any {w : World} (sv : Value) (l : List UInt8) (hb : BytesAt w sv l) (hlen : l.length ≤ 1073741824) (at_ x : Int) (ha : -4611686018427387904 ≤ at_ ∧ at_ ≤ 4611686018427387904) (hap : ∀ ad n c, sv = .slice (some ad) n c → ad.block < w.heap.size) :
    Calls Try.prog 19 #[sv, .int .i64 at_, .int .i64 x] w fun r w' => r = .returned (.tuple #[.int .u64 (loadF l at_ x).1, .int .i64 (loadF l at_ x).2]) ∧ Grew w w' := by
  have HB0 := Lib.hid hb
  have HA := Lib.hid hap
  have hmf : ∀ (fn : Fn) (first cap : Array Value) (w : World), (Instr.makeFunc fn first cap).run Try.prog w = .ok (.func fn first cap) w := fun _ _ _ _ => rfl
  obtain ⟨a, c, rfl, hcell⟩ := hb
  clear hap hcell
  go_enter Try.func19, Try.ntmps19
  go_wp2_with fail
  refine (within_any _ l (HB0.out.grew ((Grew.refl w).alloc _)) hlen at_ x ha w.heap.size (heap_alloc_new _ _) (fun ad n c' e => by have := HA.out ad n c' e; omega)).mono ?_
  rintro r w2 ⟨rfl, hrow, hm⟩
  have g0 : w2.cell? ⟨w.heap.size, 0, none⟩ = some (.int .u64 (loadF l at_ x).1) := row_cell1 hrow 0 _ rfl
  have f0 := row_frozen hrow 0
  have HM := Lib.hid hm
  clear hrow hm
  obtain ⟨q, hq⟩ : ∃ q, q = loadF l at_ x := ⟨_, rfl⟩
  rw [← hq] at g0 ⊢
  have hm2 : Moved (fun b => b = w.heap.size) w w2 := ((Moved.refl _ w).alloc _).trans HM.out (fun _ _ h => h)
  have HG : Hid (Grew w w2) := hm2.below (Nat.le_refl _) (fun k e => by omega)
  clear hm2
  go_wp2
  refine bodyPost_ret (v := .tuple #[.int .u64 q.1, .int .i64 q.2]) ?_ rfl ⟨by rw [hq], ?_⟩
  · simp [results, Try.results19, go_sem, g0, hq]
  · exact HG.out.setCell (Nat.le_refl _) _
end Go.Proofs.Ytaoflhddcbmacaa
