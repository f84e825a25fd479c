/-
  Walks of helpers: Bring (the remainder, not negative), and of accordionlaw16 bytes, fits, value. Conditions: positive moduli up to 2^62; offsets up to 2^21, indices up to 5001. The world only grows.
-/
import Derived.Test.YtkabfefphdgppaaWorks16
namespace Go.Proofs.Ytkabfefphdgppaa
set_option linter.unusedSimpArgs false
set_option linter.unusedVariables false
open Go Go.RowKit

set_option maxHeartbeats 400000 in
theorem bring_any (i n : Int) (w : World) (h0 : -9223372036854775808 ≤ i) (h1 : i ≤ 9223372036854775807) (n0 : 1 ≤ n) (n1 : n ≤ 4611686018427387904) :
    Calls Try.prog 17 #[.int .i64 i, .int .i64 n] w fun e w' => e = .returned (.int .i64 (i % n)) ∧ w = w' := by
  have hnz : (n == 0) = false := beq_eq_false_iff_ne.2 (by omega)
  by_cases hi : 0 ≤ i
  · have hm0 : 0 ≤ i % n := Int.emod_nonneg _ (by omega)
    go_enter Try.func17, Try.ntmps17
    go_wp2
    go_ret
    exact ⟨rfl, rfl⟩
  · have hb : -n < i.tmod n ∧ i.tmod n ≤ 0 := by
      have e : i.tmod n = -((-i).tmod n) := by rw [Int.neg_tmod, Int.neg_neg]
      have hp : (-i).tmod n = (-i) % n := Int.tmod_eq_emod_of_nonneg (by omega)
      have a := Int.emod_nonneg (-i) (by omega : n ≠ 0)
      have b := Int.emod_lt_of_pos (-i) (by omega : 0 < n)
      omega
    have hw : IntKind.i64.wrap (i.tmod n) = i.tmod n := IntWalk.i64_in _ (by omega)
    by_cases ht : i.tmod n < 0
    · have he : i.tmod n + n = i % n := by
        have h1 := Int.tmod_eq_emod (a := i) (b := n)
        have hnd : ¬ (0 ≤ i ∨ n ∣ i) := by
          rintro (h | h)
          · exact hi h
          · have := Int.tmod_eq_zero_of_dvd h; omega
        rw [if_neg hnd] at h1
        have : (n.natAbs : Int) = n := by omega
        omega
      have HE := Lib.hid he
      clear he
      go_enter Try.func17, Try.ntmps17
      go_wp2
      go_ret
      exact ⟨by rw [← HE.out]; rfl, rfl⟩
    · have he : i.tmod n = i % n := by
        have h0 : i.tmod n = 0 := by omega
        have hd : n ∣ i := Int.dvd_of_tmod_eq_zero h0
        rw [h0, Int.emod_eq_zero_of_dvd hd]
      have HE := Lib.hid he
      clear he
      go_enter Try.func17, Try.ntmps17
      go_wp2
      go_ret
      exact ⟨by rw [← HE.out]; rfl, rfl⟩

set_option maxHeartbeats 1000000 in
theorem bytes16_any (n : Int) (w : World) (n0 : 0 ≤ n) (n1 : n ≤ 18446744073709551615) :
    Calls Try.prog 20 #[.int .u64 n] w fun e w' => e = .returned (.int .i64 (widthOf n.toNat)) ∧ w = w' := by
  obtain ⟨m, rfl⟩ := Int.eq_ofNat_of_zero_le n0
  rw [Int.toNat_natCast]
  have HW := Lib.hid (show widthOf m = if m < 256 then 1 else if m < 65536 then 2 else if m < 4294967296 then 4 else 8 from rfl)
  go_enter Try.func20, Try.ntmps20
  go_wp2
  go_loop [3] (fun v => (v = .int .i64 1) ∨ (v = .int .i64 2 ∧ 256 ≤ m) ∨ (v = .int .i64 4 ∧ 65536 ≤ m) ∨ (v = .int .i64 8 ∧ 4294967296 ≤ m)) (fun v => 16 - (intOf v).toNat)
  case atStart => exact .inl rfl
  case round =>
    rcases hrel with rfl | ⟨rfl, h⟩ | ⟨rfl, h⟩ | ⟨rfl, h⟩
    all_goals go_wp2
    all_goals first
      | (go_round
         case rel => simp; omega
         case measure => simp [intOf])
      | (go_ret
         refine ⟨ret_int ?_, rfl⟩
         rw [HW.out]
         repeat' split
         all_goals first | rfl | omega)

theorem text_up (a v : Int) (hv : isW v) (a0 : 0 ≤ a) : (a + v - 1) / v * v = a + (v - a % v) % v := by
  rcases hv with rfl | rfl | rfl | rfl <;> omega

theorem fitsF_text (n at_ i v : Int) : fitsF 5 1 n at_ i v = (decide (n ≤ at_) && belowW ((at_ + v - 1) / v * v + i * v - n) v) := by
  unfold fitsF
  rw [show inlineB 5 = false by decide]
  rfl

set_option maxHeartbeats 1000000 in
theorem lawFits_any (n at_ index v : Int) (w : World) (hv : isW v) (n0 : 0 ≤ n) (n1 : n ≤ 2097152) (a0 : 0 ≤ at_) (a1 : at_ ≤ 2097152) (i0 : 0 ≤ index) (i1 : index ≤ 5001) :
    Calls Try.prog 19 #[.int .i64 n, .int .i64 at_, .int .i64 index, .int .i64 v] w fun e w' => e = .returned (.bool (fitsF 5 1 n at_ index v)) ∧ w = w' := by
  have hf := fitsF_text n at_ index v
  rw [text_up at_ v hv a0] at hf
  by_cases hn : n ≤ at_
  · have hb : 0 ≤ at_ + (v - at_ % v) % v + index * v - n ∧ at_ + (v - at_ % v) % v + index * v - n < 2 ^ 64 := by
      rcases hv with rfl | rfl | rfl | rfl <;> omega
    rw [← widthOf_le _ _ hv hb.1 hb.2] at hf
    simp only [hn, decide_true, Bool.true_and] at hf
    have HF := Lib.hid hf
    clear hf hb
    rcases hv with rfl | rfl | rfl | rfl
    all_goals
      go_enter Try.func19, Try.ntmps19
      go_wp2_with fail
      refine (bytes16_any _ _ (by omega) (by omega)).mono ?_
      rintro e w2 ⟨rfl, rfl⟩
      go_wp2
      go_ret
      refine ⟨ret_bool ?_, rfl⟩
      rw [HF.out]
      refine decide_eq_decide.2 ?_
      rw [show ∀ x y : Int, x = y → widthOf x.toNat = widthOf y.toNat from fun x y h => by rw [h]]
      omega
  · simp only [hn, decide_false, Bool.false_and] at hf
    have HF := Lib.hid hf
    clear hf
    have hv0 : 1 ≤ v ∧ v ≤ 8 := by rcases hv with rfl | rfl | rfl | rfl <;> omega
    have hz : (v == 0) = false := beq_eq_false_iff_ne.2 (by omega)
    rcases hv with rfl | rfl | rfl | rfl
    all_goals
      go_enter Try.func19, Try.ntmps19
      go_wp2
      go_ret
      exact ⟨by rw [HF.out]; rfl, rfl⟩

/-- The value that 'value' makes. -/
def valOf (a at_ : Int) : V3 := if a % 7 < 4 then (1, 2 ^ (a % 7).toNat, 0) else (5, 1, a % max at_ 1)

set_option maxHeartbeats 1000000 in
theorem value_any (a at_ : Int) (w : World) (h0 : -9223372036854775808 ≤ a) (h1 : a ≤ 9223372036854775807) (a0 : 0 ≤ at_) (a1 : at_ ≤ 2097152) :
    Calls Try.prog 21 #[.int .i64 a, .int .i64 at_] w fun e w' => e = .returned (vV (valOf a at_)) ∧ Grew w w' := by
  by_cases hk : a % 7 < 4
  · have hv : valOf a at_ = (1, 2 ^ (a % 7).toNat, 0) := by unfold valOf; rw [if_pos hk]
    obtain ⟨k, hkk⟩ : ∃ k, a % 7 = k := ⟨_, rfl⟩
    have k0 : 0 ≤ k := by omega
    rw [hkk] at hv hk
    have HV := Lib.hid hv
    have HK := Lib.hid hkk
    clear hv hkk
    obtain rfl | rfl | rfl | rfl : k = 0 ∨ k = 1 ∨ k = 2 ∨ k = 3 := by omega
    all_goals
      go_enter Try.func21, Try.ntmps21
      go_wp2_with fail
      refine (bring_any _ _ _ h0 h1 (by omega) (by omega)).mono ?_
      rw [HK.out]
      rintro e w2 ⟨rfl, rfl⟩
      go_wp2_with fail
      refine (num_any _ _).mono ?_
      rintro e w3 ⟨rfl, hg⟩
      obtain ⟨hc, hr, hs⟩ := hg.rules
      simp only [World.size_alloc] at hc hr hs
      go_wp2
      refine bodyPost_ret (v := vV (valOf a at_)) ?_ rfl ⟨rfl, ?_⟩
      · rw [HV.out]
        simp [results, Try.results21, go_sem, hc]
      · exact (((((Grew.refl w).alloc _).trans hg).setCell (by simp) _).setCell (by simp) _).setCell (by simp) _
  · have hv : valOf a at_ = (5, 1, a % max at_ 1) := by unfold valOf; rw [if_neg hk]
    have HV := Lib.hid hv
    clear hv
    have m1 : a % 7 < 7 := by omega
    have hr0 : 0 ≤ a % max at_ 1 := Int.emod_nonneg _ (by omega)
    have hr1 : a % max at_ 1 < max at_ 1 := Int.emod_lt_of_pos _ (by omega)
    have hr2 : a % max at_ 1 < 2097153 := by omega
    clear hr1
    go_enter Try.func21, Try.ntmps21
    go_wp2_with fail
    refine (bring_any _ _ _ h0 h1 (by omega) (by omega)).mono ?_
    rintro e w2 ⟨rfl, rfl⟩
    go_wp2_with fail
    refine (bring_any _ _ _ h0 h1 (by omega) (by omega)).mono ?_
    rintro e w2 ⟨rfl, rfl⟩
    go_wp2_with fail
    refine (text_any _ _).mono ?_
    rintro e w3 ⟨rfl, hg⟩
    obtain ⟨hc, hr, hs⟩ := hg.rules
    simp only [World.size_alloc] at hc hr hs
    go_wp2
    refine bodyPost_ret (v := vV (valOf a at_)) ?_ rfl ⟨rfl, ?_⟩
    · rw [HV.out]
      simp [results, Try.results21, go_sem, hc]
    · exact (((((Grew.refl w).alloc _).trans hg).setCell (by simp) _).setCell (by simp) _).setCell (by simp) _

end Go.Proofs.Ytkabfefphdgppaa
