/-
  Vectors: the law's values are near; half of the least width does not fit.
-/
import Derived.Test.YtaoflhddcbmacaaVecPlain
namespace Go.Proofs.Ytaoflhddcbmacaa
open Go Go.ChangeShapes Go.WideShapes Go.ChangeAt Go.RowKit Go.Joins
open Go.Proofs.Ytaoflhddcbmacaa.Ft (V3 vV okV ValsAt inlineB legalB packF codeF typedF allF allAt headF fitsL fitsV fitsF belowW leastOf isA)
set_option linter.unusedVariables false
set_option linter.unusedSimpArgs false

theorem widF_cases (n : Int) : (widF n = 1 ∧ n < 128) ∨ (widF n = 2 ∧ n < 32768) ∨ (widF n = 4 ∧ n < 2147483648) ∨ widF n = 8 := by
  unfold widF; repeat' split
  all_goals omega
theorem widF_le (n : Int) : widF n ≤ 8 := by rcases widF_cases n with h | h | h | h <;> omega
theorem inl_1 : inlineB 1 = true := by decide
theorem inl_2 : inlineB 2 = true := by decide
theorem inl_26 : inlineB 26 = true := by decide
theorem legal_of_inline (t wd n : Int) (h : inlineB t = true) (hl : legalB t = true) : legalE (t, wd, n) = 0 := by
  unfold legalE; rw [if_pos hl, if_pos h]
theorem far_facts (k : Int) (h0 : 0 ≤ k) (h1 : k < 5) : legalB (kindF k) = true ∧ inlineB (kindF k) = false := by
  rcases (show k = 0 ∨ k = 1 ∨ k = 2 ∨ k = 3 ∨ k = 4 by omega) with rfl | rfl | rfl | rfl | rfl <;> decide
theorem shl_isW (k : Int) (h0 : 0 ≤ k) (h1 : k < 4) : isW (shlF k) = true := by
  rcases (show k = 0 ∨ k = 1 ∨ k = 2 ∨ k = 3 by omega) with rfl | rfl | rfl | rfl <;> decide
theorem wrapU_range (n : Int) : 0 ≤ IntKind.u64.wrap n ∧ IntKind.u64.wrap n ≤ 18446744073709551615 := by
  rw [IntKind.wrap_u64]; omega
/-- A value of the law: a small number, or an offset below a. -/
theorem valN_cases (k n a : Int) (h0 : 0 ≤ n) (h1 : n < 1099511627776) (ha : 1 ≤ a) :
    (valN k n a = (1, widF n, n)) ∨ (valN k n a = (1, widF n, IntKind.u64.wrap (-n))) ∨ (valN k n a = (2, widF n, n)) ∨ (valN k n a = (26, 1, n % 2)) ∨
    (∃ t w u : Int, valN k n a = (t, w, u) ∧ legalB t = true ∧ inlineB t = false ∧ isW w = true ∧ 0 ≤ u ∧ u < a) := by
  unfold valN
  split
  · exact .inl rfl
  split
  · exact .inr (.inl rfl)
  split
  · exact .inr (.inr (.inl rfl))
  split
  · exact .inr (.inr (.inr (.inl rfl)))
  · refine .inr (.inr (.inr (.inr ⟨kindF (n % 5), shlF (n / 5 % 4), n % max a 1, rfl, ?_, ?_, ?_, ?_, ?_⟩)))
    · exact (far_facts _ (by omega) (by omega)).1
    · exact (far_facts _ (by omega) (by omega)).2
    · exact shl_isW _ (by omega) (by omega)
    · exact Int.emod_nonneg _ (by omega)
    · have := Int.emod_lt_of_pos n (show 0 < max a 1 by omega)
      omega
theorem near_val (x : Int × Int) (a : Int) (ha : 1 ≤ a) (ha2 : a ≤ 1048576) : Near a (valF x a) := by
  unfold valF
  have h0 : 0 ≤ x.2 % 1099511627776 := by omega
  have h1 : x.2 % 1099511627776 < 1099511627776 := by omega
  generalize x.2 % 1099511627776 = n at *
  have hw := widF_le n
  rcases valN_cases (x.1 % 6) n a h0 h1 ha with h | h | h | h | ⟨t, w, u, h, hl, hi, hww, hu0, hu1⟩
  · rw [h]
    exact ⟨legal_of_inline _ _ _ inl_1 (by decide), ⟨by show 0 ≤ n; omega, by show n ≤ _; omega⟩, fun _ => hw, fun h => absurd inl_1 (by rw [show inlineB 1 = false from h]; decide)⟩
  · rw [h]
    exact ⟨legal_of_inline _ _ _ inl_1 (by decide), wrapU_range _, fun _ => hw, fun h => absurd inl_1 (by rw [show inlineB 1 = false from h]; decide)⟩
  · rw [h]
    exact ⟨legal_of_inline _ _ _ inl_2 (by decide), ⟨by show 0 ≤ n; omega, by show n ≤ _; omega⟩, fun _ => hw, fun h => absurd inl_2 (by rw [show inlineB 2 = false from h]; decide)⟩
  · rw [h]
    refine ⟨legal_of_inline _ _ _ inl_26 (by decide), ⟨?_, ?_⟩, fun _ => by show (1 : Int) ≤ 8; decide, fun h => absurd inl_26 (by rw [show inlineB 26 = false from h]; decide)⟩
    · show 0 ≤ n % 2; omega
    · show n % 2 ≤ _; omega
  · rw [h]
    refine ⟨?_, ⟨hu0, by show u ≤ _; omega⟩, fun h => ?_, fun _ => by show u ≤ a; omega⟩
    · unfold legalE
      rw [if_pos hl]
      simp only [hi, hww, Bool.false_eq_true, if_false, if_true]
    · rw [show inlineB t = true from h] at hi; cases hi
theorem near_vals (l : List (Int × Int)) (a : Int) (ha : 1 ≤ a) (ha2 : a ≤ 1048576) : ∀ v ∈ valsF l a, Near a v := by
  intro v hv
  obtain ⟨x, _, rfl⟩ := List.mem_map.1 hv
  exact near_val x a ha ha2
theorem legal_vals {a : Int} {l : List V3} (h : ∀ v ∈ l, Near a v) : ∀ v ∈ l, legalE v = 0 := fun v hv => (h v hv).1
theorem okV_vals {a : Int} {l : List V3} (h : ∀ v ∈ l, Near a v) : ∀ v ∈ l, okV v := fun v hv => (h v hv).2.1
theorem roomOf_big : roomOf 1048576 = 1048576 := by unfold roomOf; omega
theorem filled_big (n : Nat) (h : n ≤ 1048576) : putS 1048576 (zeros n) ([], 0) = (zeros n, 0) := by
  rw [put_fit _ _ _ (by rw [length_zeros]; simp; omega), List.nil_append]
theorem lenOf_le {x : Int} (hx : isW x = true) (len tagged : Bool) (b : List UInt8) (l : List V3) : lenOf x len tagged b l ≤ b.length + 15 + 9 * l.length := by
  have hw := isW_pos hx
  have hp := (padN_lt (l := b) hx).1
  have hm : x * (l.length : Int) ≤ 8 * l.length := Int.mul_le_mul_of_nonneg_right hw.2 (by omega)
  unfold lenOf
  cases len <;> cases tagged <;> simp only [if_true, Bool.false_eq_true, if_false] <;> omega
theorem fitsL_false : ∀ (l : List V3) (at_ i h : Int), fitsL l at_ i h = false → ∃ (k : Nat) (v : V3), l[k]? = some v ∧ fitsV v at_ (i + k) h = false
  | [], _, _, _, h => by cases h
  | v :: r, at_, i, w, h => by
    have e : (fitsV v at_ i w && fitsL r at_ (i + 1) w) = false := h
    rw [Bool.and_eq_false_iff] at e
    rcases e with e | e
    · exact ⟨0, v, rfl, by simpa using e⟩
    · obtain ⟨k, u, h1, h2⟩ := fitsL_false r at_ (i + 1) w e
      exact ⟨k + 1, u, h1, by rw [show i + ((k + 1 : Nat) : Int) = i + 1 + k by omega]; exact h2⟩
/-- An element at place i that does not fit at the width h. -/
def tightAt (h bg : Int) (i : Nat) (v : V3) : Prop := (inlineB v.1 = true ∧ h < v.2.1) ∨ (inlineB v.1 = false ∧ 2 ^ (8 * h.toNat) ≤ bg + (i + 1) * h - v.2.2)
theorem half_tight {n : Int} {l : List V3} {x h : Int} (hn : 0 ≤ n) (hn2 : n ≤ 1048576) (hl : l.length ≤ 1048576) (hN : ∀ v ∈ l, Near n v) (hx : allF l (0, 0, 0) n 1 = x) (hh : x = 2 * h) (h1 : 1 ≤ h) :
    (2 : Int) ^ (8 * h.toNat) ≤ l.length ∨ ∃ (i : Nat) (v : V3), l[i]? = some v ∧ tightAt h ((n + h - 1) / h * h) i v := by
  obtain ⟨e, x0, hw, hall⟩ := allF_near (n := n) (ahead := 1) (.inr rfl) hn hn2 hl hN
  have hf : allAt l (0, 0, 0) n 1 h = false := by
    rw [hx] at e
    rw [hx] at hw
    have hc := isW_cases hw
    cases hp1 : allAt l (0, 0, 0) n 1 1 with
    | true => have : leastOf (fun v => allAt l (0, 0, 0) n 1 v) = 1 := by unfold leastOf; simp [hp1]
              omega
    | false =>
      cases hp2 : allAt l (0, 0, 0) n 1 2 with
      | true => have : leastOf (fun v => allAt l (0, 0, 0) n 1 v) = 2 := by unfold leastOf; simp [hp1, hp2]
                have : h = 1 := by omega
                rw [this]; exact hp1
      | false =>
        cases hp4 : allAt l (0, 0, 0) n 1 4 with
        | true => have : leastOf (fun v => allAt l (0, 0, 0) n 1 v) = 4 := by unfold leastOf; simp [hp1, hp2, hp4]
                  have : h = 2 := by omega
                  rw [this]; exact hp2
        | false =>
          rcases (show h = 1 ∨ h = 2 ∨ h = 4 by omega) with rfl | rfl | rfl
          · exact hp1
          · exact hp2
          · exact hp4
  unfold allAt at hf
  rw [Bool.and_eq_false_iff] at hf
  rcases hf with hf | hf
  · left
    unfold headF belowW at hf
    simp at hf
    exact hf
  · right
    obtain ⟨k, v, hk, hv⟩ := fitsL_false _ _ _ _ hf
    refine ⟨k, v, hk, ?_⟩
    have hNv := hN v (List.mem_of_getElem? hk)
    unfold fitsV fitsF at hv
    unfold tightAt
    cases hi : inlineB v.1 with
    | true =>
      rw [hi] at hv
      simp at hv
      exact .inl ⟨rfl, hv⟩
    | false =>
      rw [hi] at hv
      have := hNv.2.2.2 hi
      simp only [Bool.false_eq_true, if_false, belowW, Bool.and_eq_false_iff, decide_eq_false_iff_not] at hv
      refine .inr ⟨rfl, ?_⟩
      rcases hv with hv | hv
      · omega
      · rw [show ((k : Int) + 1) * h = (1 + k) * h by rw [Int.add_comm]]
        omega
end Go.Proofs.Ytaoflhddcbmacaa
